import Derived.OpenShut
import Derived.Test.YtnmhdmkfhacdbaaOpnqE
/- Facts on the words at the head of the program; there are no conditions. -/
namespace Go.Proofs.Ytnmhdmkfhacdbaa
open Go.Lg Go.Proofs Go.RowKit Go.ChangeShapes Go.WideShapes Go.ChangeAt
set_option maxRecDepth 100000
theorem band {a b : Bool} (h : a = true) (h' : b = true) : (a && b) = true := by rw [h, h']; rfl
def headCodes : List Nat := [104, 97, 114, 110, 101, 115, 115, 32, 50, 102, 56, 52, 56, 50, 101, 97, 49, 54, 49, 57, 48, 50, 101, 101, 97, 50, 101, 98, 56, 101, 99, 99, 97, 50, 54, 102, 52, 53, 54, 53, 56, 55, 50, 52, 55, 102, 57, 50, 51, 97, 102, 101, 97, 98, 48, 54, 53, 98, 102, 101, 51, 48, 102, 101, 97, 49, 49, 48, 52, 54, 100, 50, 32, 99, 117, 116, 32, 97, 116, 32, 108, 111, 111, 112, 46, 101, 120, 97, 109, 112, 108, 101, 47, 103, 48, 51, 52, 48, 52, 47, 108, 97, 119, 115, 46, 70, 110, 69, 120, 97, 99, 116, 82, 101, 115, 116, 114, 105, 99, 116, 82, 101, 112, 32, 108, 111, 111, 112, 46, 101, 120, 97, 109, 112, 108, 101, 47, 103, 48, 51, 52, 48, 52, 47, 108, 97, 119, 115, 46, 70, 110, 69, 120, 97, 99, 116, 68, 105, 114, 101, 99, 116, 83, 117, 109, 32, 108, 111, 111, 112, 46, 101, 120, 97, 109, 112, 108, 101, 47, 103, 48, 51, 52, 48, 52, 47, 108, 97, 119, 115, 46, 70, 110, 69, 120, 97, 99, 116, 67, 111, 109, 112, 111, 115, 101, 77, 111, 114, 112, 104, 105, 115, 109, 115, 32, 108, 111, 111, 112, 46, 101, 120, 97, 109, 112, 108, 101, 47, 103, 48, 51, 52, 48, 52, 47, 108, 97, 119, 115, 46, 70, 110, 69, 120, 97, 99, 116, 73, 115, 73, 110, 106, 101, 99, 116, 105, 118, 101, 32, 108, 111, 111, 112, 46, 101, 120, 97, 109, 112, 108, 101, 47, 103, 48, 51, 52, 48, 52, 47, 108, 97, 119, 115, 46, 70, 110, 69, 120, 97, 99, 116, 73, 115, 83, 117, 114, 106, 101, 99, 116, 105, 118, 101, 32, 108, 111, 111, 112, 46, 101, 120, 97, 109, 112, 108, 101, 47, 103, 48, 51, 52, 48, 52, 47, 108, 97, 119, 115, 46, 70, 110, 69, 120, 97, 99, 116, 73, 115, 73, 115, 111, 109, 111, 114, 112, 104, 105, 115, 109, 32, 108, 111, 111, 112, 46, 101, 120, 97, 109, 112, 108, 101, 47, 103, 48, 51, 52, 48, 52, 47, 108, 97, 119, 115, 46, 70, 110, 69, 120, 97, 99, 116, 82, 97, 110, 107, 86, 101, 99, 116, 111, 114, 32, 108, 111, 111, 112, 46, 101, 120, 97, 109, 112, 108, 101, 47, 103, 48, 51, 52, 48, 52, 47, 108, 97, 119, 115, 46, 70, 110, 69, 120, 97, 99, 116, 73, 109, 97, 103, 101, 79, 102, 83, 112, 97, 99, 101, 32, 108, 111, 111, 112, 46, 101, 120, 97, 109, 112, 108, 101, 47, 103, 48, 51, 52, 48, 52, 47, 108, 97, 119, 115, 46, 70, 110, 69, 120, 97, 99, 116, 77, 101, 101, 116, 83, 112, 97, 99, 101, 115, 32, 108, 111, 111, 112, 46, 101, 120, 97, 109, 112, 108, 101, 47, 103, 48, 51, 52, 48, 52, 47, 108, 97, 119, 115, 46, 70, 110, 69, 120, 97, 99, 116, 73, 115, 83, 117, 98, 32, 108, 111, 111, 112, 46, 101, 120, 97, 109, 112, 108, 101, 47, 103, 48, 51, 52, 48, 52, 47, 108, 97, 119, 115, 46, 70, 110, 69, 120, 97, 99, 116, 71, 101, 110, 101, 114, 97, 116, 101, 100, 83, 117, 98]
theorem headIs0 : Try.pinned.checked.prog.initOrder = "harness 2f8482ea161902eea2eb8ecca26f456587247f923afeab065bfe30fea11046d2 cut at loop.example/g03404/laws.FnExactRestrictRep loop.example/g03404/laws.FnExactDirectSum loop.example/g03404/laws.FnExactComposeMorphisms loop.example/g03404/laws.FnExactIsInjective loop.example/g03404/laws.FnExactIsSurjective loop.example/g03404/laws.FnExactIsIsomorphism loop.example/g03404/laws.FnExactRankVector loop.example/g03404/laws.FnExactImageOfSpace loop.example/g03404/laws.FnExactMeetSpaces loop.example/g03404/laws.FnExactIsSub loop.example/g03404/laws.FnExactGeneratedSub" := by kernel_rfl
theorem headIs1 : "harness 2f8482ea161902eea2eb8ecca26f456587247f923afeab065bfe30fea11046d2 cut at loop.example/g03404/laws.FnExactRestrictRep loop.example/g03404/laws.FnExactDirectSum loop.example/g03404/laws.FnExactComposeMorphisms loop.example/g03404/laws.FnExactIsInjective loop.example/g03404/laws.FnExactIsSurjective loop.example/g03404/laws.FnExactIsIsomorphism loop.example/g03404/laws.FnExactRankVector loop.example/g03404/laws.FnExactImageOfSpace loop.example/g03404/laws.FnExactMeetSpaces loop.example/g03404/laws.FnExactIsSub loop.example/g03404/laws.FnExactGeneratedSub" = String.ofList (headCodes.map Char.ofNat) := by kernel_rfl
theorem headIs : Try.pinned.checked.prog.initOrder = String.ofList (headCodes.map Char.ofNat) := headIs0.trans headIs1
theorem headWords : ∃ rest, behindMainWord (wordsSigns Try.pinned.checked.prog.initOrder.toList) = "cut".toList :: "at".toList :: rest := by
  rw [headIs, String.toList_ofList]
  exact ⟨(behindMainWord (wordsSigns (headCodes.map Char.ofNat))).tail.tail, by kernel_rfl⟩
theorem gen_enter (P : Program) {rest : List (List Char)} (h : behindMainWord (wordsSigns P.initOrder.toList) = "cut".toList :: "at".toList :: rest) (h1 : P.laysLater = false) (h2 : P.bearsReflect = false) (h3 : P.doorFits [] = true) : P.mayEnter = true := by
  unfold Program.mayEnter
  rw [h]
  have e : stripLifts liftWords ("cut".toList :: "at".toList :: rest) = ([], "cut".toList :: "at".toList :: rest) := by rfl
  simp only [e, h1, h2, h3]
  simp
theorem gen_lifts (P : Program) {rest : List (List Char)} (h : behindMainWord (wordsSigns P.initOrder.toList) = "cut".toList :: "at".toList :: rest) : P.headLifts = [] := by
  unfold Program.headLifts
  rw [h]
  rfl
theorem gen_lifted (P : Program) {rest : List (List Char)} (h : behindMainWord (wordsSigns P.initOrder.toList) = "cut".toList :: "at".toList :: rest) : P.liftsFinal = false := by
  have := gen_lifts P h
  unfold Program.liftsFinal
  rw [h, this]
  rfl
theorem gen_make (P : Program) {rest : List (List Char)} (h : behindMainWord (wordsSigns P.initOrder.toList) = "cut".toList :: "at".toList :: rest) : P.make = some .cut := by
  unfold Program.make
  rw [h]
  rfl
theorem fin_lays : Try.pinned.checked.prog.laysLater = false := by kernel_rfl
theorem fin_bears : Try.pinned.checked.prog.bearsReflect = false := by kernel_rfl
theorem fin_door : Try.pinned.checked.prog.doorFits [] = true := by kernel_rfl
theorem fin_enter : Try.pinned.checked.prog.mayEnter = true := Exists.elim headWords (fun _ h => gen_enter Try.pinned.checked.prog h fin_lays fin_bears fin_door)
theorem fin_lifted {b : Bool} (hb : b = false) : (b == Try.pinned.checked.prog.liftsFinal) = true := Exists.elim headWords (fun _ h => by
  have := gen_lifted Try.pinned.checked.prog h
  generalize Try.pinned.checked.prog.liftsFinal = x at this
  rw [hb, this]; rfl)
theorem fin_make {m : Make} (hm : m = .cut) : (Try.pinned.checked.prog.make == some m) = true := Exists.elim headWords (fun _ h => by
  have := gen_make Try.pinned.checked.prog h
  generalize Try.pinned.checked.prog.make = x at this
  rw [hm, this]; rfl)
end Go.Proofs.Ytnmhdmkfhacdbaa
