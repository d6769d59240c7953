import Derived.OpenShut
import Derived.Test.YtfhgpkdhhclpbaaOpnqpo
/- Facts on the words at the head of the program; there are no conditions. -/
namespace Go.Proofs.Ytfhgpkdhhclpbaa
open Go.Lg Go.Proofs Go.RowKit Go.ChangeShapes Go.WideShapes Go.ChangeAt
set_option maxRecDepth 100000
theorem band {a b : Bool} (h : a = true) (h' : b = true) : (a && b) = true := by rw [h, h']; rfl
def headCodes : List Nat := [104, 97, 114, 110, 101, 115, 115, 32, 52, 56, 53, 99, 55, 101, 49, 57, 102, 102, 55, 98, 51, 48, 54, 99, 57, 48, 53, 50, 98, 51, 50, 51, 50, 54, 51, 52, 98, 55, 57, 48, 98, 98, 54, 101, 51, 97, 55, 49, 57, 49, 53, 98, 51, 51, 49, 56, 97, 99, 53, 97, 56, 99, 57, 48, 101, 49, 98, 57, 48, 99, 101, 56, 32, 99, 117, 116, 32, 97, 116, 32, 108, 111, 111, 112, 46, 101, 120, 97, 109, 112, 108, 101, 47, 103, 48, 51, 52, 48, 52, 47, 108, 97, 119, 115, 46, 70, 110, 69, 120, 97, 99, 116, 73, 110, 118, 101, 114, 115, 101, 77, 111, 114, 112, 104, 105, 115, 109, 32, 108, 111, 111, 112, 46, 101, 120, 97, 109, 112, 108, 101, 47, 103, 48, 51, 52, 48, 52, 47, 108, 97, 119, 115, 46, 70, 110, 69, 120, 97, 99, 116, 67, 104, 97, 110, 103, 101, 66, 97, 115, 105, 115, 32, 108, 111, 111, 112, 46, 101, 120, 97, 109, 112, 108, 101, 47, 103, 48, 51, 52, 48, 52, 47, 108, 97, 119, 115, 46, 70, 110, 69, 120, 97, 99, 116, 72, 111, 109, 68, 105, 109, 32, 108, 111, 111, 112, 46, 101, 120, 97, 109, 112, 108, 101, 47, 103, 48, 51, 52, 48, 52, 47, 108, 97, 119, 115, 46, 70, 110, 69, 120, 97, 99, 116, 67, 111, 117, 110, 116, 77, 111, 114, 112, 104, 105, 115, 109, 115, 32, 108, 111, 111, 112, 46, 101, 120, 97, 109, 112, 108, 101, 47, 103, 48, 51, 52, 48, 52, 47, 108, 97, 119, 115, 46, 70, 110, 69, 120, 97, 99, 116, 70, 105, 110, 100, 77, 111, 114, 112, 104, 105, 115, 109, 32, 108, 111, 111, 112, 46, 101, 120, 97, 109, 112, 108, 101, 47, 103, 48, 51, 52, 48, 52, 47, 108, 97, 119, 115, 46, 70, 110, 69, 120, 97, 99, 116, 77, 111, 114, 112, 104, 105, 115, 109, 78, 117, 109, 98, 101, 114, 32, 108, 111, 111, 112, 46, 101, 120, 97, 109, 112, 108, 101, 47, 103, 48, 51, 52, 48, 52, 47, 108, 97, 119, 115, 46, 70, 110, 69, 120, 97, 99, 116, 67, 111, 111, 114, 100, 105, 110, 97, 116, 101, 115, 79, 102, 32, 108, 111, 111, 112, 46, 101, 120, 97, 109, 112, 108, 101, 47, 103, 48, 51, 52, 48, 52, 47, 108, 97, 119, 115, 46, 70, 110, 69, 120, 97, 99, 116, 72, 111, 109, 66, 97, 115, 105, 115, 32, 108, 111, 111, 112, 46, 101, 120, 97, 109, 112, 108, 101, 47, 103, 48, 51, 52, 48, 52, 47, 108, 97, 119, 115, 46, 70, 110, 69, 120, 97, 99, 116, 67, 111, 109, 98, 105, 110, 101, 77, 111, 114, 112, 104, 105, 115, 109, 115, 32, 108, 111, 111, 112, 46, 101, 120, 97, 109, 112, 108, 101, 47, 103, 48, 51, 52, 48, 52, 47, 108, 97, 119, 115, 46, 70, 110, 69, 120, 97, 99, 116, 83, 117, 109, 79, 102, 32, 108, 111, 111, 112, 46, 101, 120, 97, 109, 112, 108, 101, 47, 103, 48, 51, 52, 48, 52, 47, 108, 97, 119, 115, 46, 70, 110, 69, 120, 97, 99, 116, 80, 111, 119, 101, 114, 79, 102, 82, 101, 112]
theorem headIs0 : Try.pinned.checked.prog.initOrder = "harness 485c7e19ff7b306c9052b3232634b790bb6e3a71915b3318ac5a8c90e1b90ce8 cut at loop.example/g03404/laws.FnExactInverseMorphism loop.example/g03404/laws.FnExactChangeBasis loop.example/g03404/laws.FnExactHomDim loop.example/g03404/laws.FnExactCountMorphisms loop.example/g03404/laws.FnExactFindMorphism loop.example/g03404/laws.FnExactMorphismNumber loop.example/g03404/laws.FnExactCoordinatesOf loop.example/g03404/laws.FnExactHomBasis loop.example/g03404/laws.FnExactCombineMorphisms loop.example/g03404/laws.FnExactSumOf loop.example/g03404/laws.FnExactPowerOfRep" := by kernel_rfl
theorem headIs1 : "harness 485c7e19ff7b306c9052b3232634b790bb6e3a71915b3318ac5a8c90e1b90ce8 cut at loop.example/g03404/laws.FnExactInverseMorphism loop.example/g03404/laws.FnExactChangeBasis loop.example/g03404/laws.FnExactHomDim loop.example/g03404/laws.FnExactCountMorphisms loop.example/g03404/laws.FnExactFindMorphism loop.example/g03404/laws.FnExactMorphismNumber loop.example/g03404/laws.FnExactCoordinatesOf loop.example/g03404/laws.FnExactHomBasis loop.example/g03404/laws.FnExactCombineMorphisms loop.example/g03404/laws.FnExactSumOf loop.example/g03404/laws.FnExactPowerOfRep" = String.ofList (headCodes.map Char.ofNat) := by kernel_rfl
theorem headIs : Try.pinned.checked.prog.initOrder = String.ofList (headCodes.map Char.ofNat) := headIs0.trans headIs1
theorem headWords : ∃ rest, behindMainWord (wordsSigns Try.pinned.checked.prog.initOrder.toList) = "cut".toList :: "at".toList :: rest := by
  rw [headIs, String.toList_ofList]
  exact ⟨(behindMainWord (wordsSigns (headCodes.map Char.ofNat))).tail.tail, by kernel_rfl⟩
theorem gen_enter (P : Program) {rest : List (List Char)} (h : behindMainWord (wordsSigns P.initOrder.toList) = "cut".toList :: "at".toList :: rest) (h1 : P.laysLater = false) (h2 : P.bearsReflect = false) (h3 : P.doorFits [] = true) : P.mayEnter = true := by
  unfold Program.mayEnter
  rw [h]
  have e : stripLifts liftWords ("cut".toList :: "at".toList :: rest) = ([], "cut".toList :: "at".toList :: rest) := by rfl
  simp only [e, h1, h2, h3]
  simp
theorem gen_lifts (P : Program) {rest : List (List Char)} (h : behindMainWord (wordsSigns P.initOrder.toList) = "cut".toList :: "at".toList :: rest) : P.headLifts = [] := by
  unfold Program.headLifts
  rw [h]
  rfl
theorem gen_lifted (P : Program) {rest : List (List Char)} (h : behindMainWord (wordsSigns P.initOrder.toList) = "cut".toList :: "at".toList :: rest) : P.liftsFinal = false := by
  have := gen_lifts P h
  unfold Program.liftsFinal
  rw [h, this]
  rfl
theorem gen_make (P : Program) {rest : List (List Char)} (h : behindMainWord (wordsSigns P.initOrder.toList) = "cut".toList :: "at".toList :: rest) : P.make = some .cut := by
  unfold Program.make
  rw [h]
  rfl
theorem fin_lays : Try.pinned.checked.prog.laysLater = false := by kernel_rfl
theorem fin_bears : Try.pinned.checked.prog.bearsReflect = false := by kernel_rfl
theorem fin_door : Try.pinned.checked.prog.doorFits [] = true := by kernel_rfl
theorem fin_enter : Try.pinned.checked.prog.mayEnter = true := Exists.elim headWords (fun _ h => gen_enter Try.pinned.checked.prog h fin_lays fin_bears fin_door)
theorem fin_lifted {b : Bool} (hb : b = false) : (b == Try.pinned.checked.prog.liftsFinal) = true := Exists.elim headWords (fun _ h => by
  have := gen_lifted Try.pinned.checked.prog h
  generalize Try.pinned.checked.prog.liftsFinal = x at this
  rw [hb, this]; rfl)
theorem fin_make {m : Make} (hm : m = .cut) : (Try.pinned.checked.prog.make == some m) = true := Exists.elim headWords (fun _ h => by
  have := gen_make Try.pinned.checked.prog h
  generalize Try.pinned.checked.prog.make = x at this
  rw [hm, this]; rfl)
end Go.Proofs.Ytfhgpkdhhclpbaa
