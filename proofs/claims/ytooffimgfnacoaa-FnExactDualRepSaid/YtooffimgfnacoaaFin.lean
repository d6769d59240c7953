import Derived.Test.YtooffimgfnacoaaOpn
import Derived.OpenShut
/- Facts on the words at the head of the program; there are no conditions. -/
namespace Go.Proofs.Ytooffimgfnacoaa
open Go.Lg Go.Proofs Go.RowKit Go.ChangeShapes Go.WideShapes Go.ChangeAt
set_option maxRecDepth 100000
theorem band {a b : Bool} (h : a = true) (h' : b = true) : (a && b) = true := by rw [h, h']; rfl
def headCodes : List Nat := [104, 97, 114, 110, 101, 115, 115, 32, 98, 54, 55, 49, 56, 97, 57, 53, 51, 101, 56, 54, 50, 98, 48, 49, 56, 102, 51, 53, 51, 49, 53, 55, 99, 100, 99, 100, 56, 56, 99, 49, 55, 57, 55, 48, 99, 53, 98, 57, 50, 55, 101, 52, 50, 49, 100, 99, 56, 102, 56, 53, 49, 52, 48, 51, 54, 55, 57, 52, 53, 56, 101, 97, 32, 99, 117, 116, 32, 97, 116, 32, 108, 111, 111, 112, 46, 101, 120, 97, 109, 112, 108, 101, 47, 103, 48, 51, 52, 48, 52, 47, 108, 97, 119, 115, 46, 70, 110, 69, 120, 97, 99, 116, 83, 112, 97, 110, 79, 102, 32, 108, 111, 111, 112, 46, 101, 120, 97, 109, 112, 108, 101, 47, 103, 48, 51, 52, 48, 52, 47, 108, 97, 119, 115, 46, 70, 110, 69, 120, 97, 99, 116, 73, 115, 83, 112, 97, 99, 101, 32, 108, 111, 111, 112, 46, 101, 120, 97, 109, 112, 108, 101, 47, 103, 48, 51, 52, 48, 52, 47, 108, 97, 119, 115, 46, 70, 110, 69, 120, 97, 99, 116, 90, 101, 114, 111, 77, 111, 114, 112, 104, 105, 115, 109, 32, 108, 111, 111, 112, 46, 101, 120, 97, 109, 112, 108, 101, 47, 103, 48, 51, 52, 48, 52, 47, 108, 97, 119, 115, 46, 70, 110, 69, 120, 97, 99, 116, 90, 101, 114, 111, 83, 117, 98, 32, 108, 111, 111, 112, 46, 101, 120, 97, 109, 112, 108, 101, 47, 103, 48, 51, 52, 48, 52, 47, 108, 97, 119, 115, 46, 70, 110, 69, 120, 97, 99, 116, 73, 110, 83, 112, 97, 99, 101, 32, 108, 111, 111, 112, 46, 101, 120, 97, 109, 112, 108, 101, 47, 103, 48, 51, 52, 48, 52, 47, 108, 97, 119, 115, 46, 70, 110, 69, 120, 97, 99, 116, 73, 115, 87, 105, 116, 104, 105, 110, 32, 108, 111, 111, 112, 46, 101, 120, 97, 109, 112, 108, 101, 47, 103, 48, 51, 52, 48, 52, 47, 108, 97, 119, 115, 46, 70, 110, 69, 120, 97, 99, 116, 73, 115, 77, 111, 114, 112, 104, 105, 115, 109, 32, 108, 111, 111, 112, 46, 101, 120, 97, 109, 112, 108, 101, 47, 103, 48, 51, 52, 48, 52, 47, 108, 97, 119, 115, 46, 70, 110, 69, 120, 97, 99, 116, 68, 117, 97, 108, 82, 101, 112, 32, 108, 111, 111, 112, 46, 101, 120, 97, 109, 112, 108, 101, 47, 103, 48, 51, 52, 48, 52, 47, 108, 97, 119, 115, 46, 70, 110, 69, 120, 97, 99, 116, 65, 100, 100, 83, 112, 97, 99, 101, 115, 32, 108, 111, 111, 112, 46, 101, 120, 97, 109, 112, 108, 101, 47, 103, 48, 51, 52, 48, 52, 47, 108, 97, 119, 115, 46, 70, 110, 69, 120, 97, 99, 116, 77, 97, 112, 65, 108, 111, 110, 103, 32, 108, 111, 111, 112, 46, 101, 120, 97, 109, 112, 108, 101, 47, 103, 48, 51, 52, 48, 52, 47, 108, 97, 119, 115, 46, 70, 110, 69, 120, 97, 99, 116, 82, 97, 110, 107, 115, 79, 102, 32, 108, 111, 111, 112, 46, 101, 120, 97, 109, 112, 108, 101, 47, 103, 48, 51, 52, 48, 52, 47, 108, 97, 119, 115, 46, 70, 110, 69, 120, 97, 99, 116, 82, 101, 115, 116, 114, 105, 99, 116, 82, 101, 112, 32, 108, 111, 111, 112, 46, 101, 120, 97, 109, 112, 108, 101, 47, 103, 48, 51, 52, 48, 52, 47, 108, 97, 119, 115, 46, 70, 110, 69, 120, 97, 99, 116, 65, 114, 101, 67, 104, 97, 110, 103, 101, 115, 32, 108, 111, 111, 112, 46, 101, 120, 97, 109, 112, 108, 101, 47, 103, 48, 51, 52, 48, 52, 47, 108, 97, 119, 115, 46, 70, 110, 69, 120, 97, 99, 116, 87, 104, 111, 108, 101, 83, 117, 98, 32, 108, 111, 111, 112, 46, 101, 120, 97, 109, 112, 108, 101, 47, 103, 48, 51, 52, 48, 52, 47, 108, 97, 119, 115, 46, 70, 110, 69, 120, 97, 99, 116, 67, 111, 109, 112, 111, 115, 101, 77, 111, 114, 112, 104, 105, 115, 109, 115, 32, 108, 111, 111, 112, 46, 101, 120, 97, 109, 112, 108, 101, 47, 103, 48, 51, 52, 48, 52, 47, 108, 97, 119, 115, 46, 70, 110, 69, 120, 97, 99, 116, 68, 105, 114, 101, 99, 116, 83, 117, 109]
theorem headIs0 : Try.pinned.checked.prog.initOrder = "harness b6718a953e862b018f353157cdcd88c17970c5b927e421dc8f851403679458ea cut at loop.example/g03404/laws.FnExactSpanOf loop.example/g03404/laws.FnExactIsSpace loop.example/g03404/laws.FnExactZeroMorphism loop.example/g03404/laws.FnExactZeroSub loop.example/g03404/laws.FnExactInSpace loop.example/g03404/laws.FnExactIsWithin loop.example/g03404/laws.FnExactIsMorphism loop.example/g03404/laws.FnExactDualRep loop.example/g03404/laws.FnExactAddSpaces loop.example/g03404/laws.FnExactMapAlong loop.example/g03404/laws.FnExactRanksOf loop.example/g03404/laws.FnExactRestrictRep loop.example/g03404/laws.FnExactAreChanges loop.example/g03404/laws.FnExactWholeSub loop.example/g03404/laws.FnExactComposeMorphisms loop.example/g03404/laws.FnExactDirectSum" := by kernel_rfl
theorem headIs1 : "harness b6718a953e862b018f353157cdcd88c17970c5b927e421dc8f851403679458ea cut at loop.example/g03404/laws.FnExactSpanOf loop.example/g03404/laws.FnExactIsSpace loop.example/g03404/laws.FnExactZeroMorphism loop.example/g03404/laws.FnExactZeroSub loop.example/g03404/laws.FnExactInSpace loop.example/g03404/laws.FnExactIsWithin loop.example/g03404/laws.FnExactIsMorphism loop.example/g03404/laws.FnExactDualRep loop.example/g03404/laws.FnExactAddSpaces loop.example/g03404/laws.FnExactMapAlong loop.example/g03404/laws.FnExactRanksOf loop.example/g03404/laws.FnExactRestrictRep loop.example/g03404/laws.FnExactAreChanges loop.example/g03404/laws.FnExactWholeSub loop.example/g03404/laws.FnExactComposeMorphisms loop.example/g03404/laws.FnExactDirectSum" = String.ofList (headCodes.map Char.ofNat) := by kernel_rfl
theorem headIs : Try.pinned.checked.prog.initOrder = String.ofList (headCodes.map Char.ofNat) := headIs0.trans headIs1
theorem headWords : ∃ rest, behindMainWord (wordsSigns Try.pinned.checked.prog.initOrder.toList) = "cut".toList :: "at".toList :: rest := by
  rw [headIs, String.toList_ofList]
  exact ⟨(behindMainWord (wordsSigns (headCodes.map Char.ofNat))).tail.tail, by kernel_rfl⟩
theorem gen_enter (P : Program) {rest : List (List Char)} (h : behindMainWord (wordsSigns P.initOrder.toList) = "cut".toList :: "at".toList :: rest) (h1 : P.laysLater = false) (h2 : P.bearsReflect = false) (h3 : P.doorFits [] = true) : P.mayEnter = true := by
  unfold Program.mayEnter
  rw [h]
  have e : stripLifts liftWords ("cut".toList :: "at".toList :: rest) = ([], "cut".toList :: "at".toList :: rest) := by rfl
  simp only [e, h1, h2, h3]
  simp
theorem gen_lifts (P : Program) {rest : List (List Char)} (h : behindMainWord (wordsSigns P.initOrder.toList) = "cut".toList :: "at".toList :: rest) : P.headLifts = [] := by
  unfold Program.headLifts
  rw [h]
  rfl
theorem gen_lifted (P : Program) {rest : List (List Char)} (h : behindMainWord (wordsSigns P.initOrder.toList) = "cut".toList :: "at".toList :: rest) : P.liftsFinal = false := by
  have := gen_lifts P h
  unfold Program.liftsFinal
  rw [h, this]
  rfl
theorem gen_make (P : Program) {rest : List (List Char)} (h : behindMainWord (wordsSigns P.initOrder.toList) = "cut".toList :: "at".toList :: rest) : P.make = some .cut := by
  unfold Program.make
  rw [h]
  rfl
theorem fin_lays : Try.pinned.checked.prog.laysLater = false := by kernel_rfl
theorem fin_bears : Try.pinned.checked.prog.bearsReflect = false := by kernel_rfl
theorem fin_door : Try.pinned.checked.prog.doorFits [] = true := by kernel_rfl
theorem fin_enter : Try.pinned.checked.prog.mayEnter = true := Exists.elim headWords (fun _ h => gen_enter Try.pinned.checked.prog h fin_lays fin_bears fin_door)
theorem fin_lifted {b : Bool} (hb : b = false) : (b == Try.pinned.checked.prog.liftsFinal) = true := Exists.elim headWords (fun _ h => by
  have := gen_lifted Try.pinned.checked.prog h
  generalize Try.pinned.checked.prog.liftsFinal = x at this
  rw [hb, this]; rfl)
theorem fin_make {m : Make} (hm : m = .cut) : (Try.pinned.checked.prog.make == some m) = true := Exists.elim headWords (fun _ h => by
  have := gen_make Try.pinned.checked.prog h
  generalize Try.pinned.checked.prog.make = x at this
  rw [hm, this]; rfl)
end Go.Proofs.Ytooffimgfnacoaa
