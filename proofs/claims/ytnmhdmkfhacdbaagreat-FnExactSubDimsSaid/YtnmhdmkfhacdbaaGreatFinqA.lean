import Derived.OpenShut
import Derived.Test.YtnmhdmkfhacdbaaGreatOpnqA
/- Facts on the words at the head of the program; there are no conditions. -/
namespace Go.Proofs.YtnmhdmkfhacdbaaGreat
open Go.Lg Go.Proofs Go.RowKit Go.ChangeShapes Go.WideShapes Go.ChangeAt
set_option maxRecDepth 100000
theorem band {a b : Bool} (h : a = true) (h' : b = true) : (a && b) = true := by rw [h, h']; rfl
def headCodes : List Nat := [104, 97, 114, 110, 101, 115, 115, 32, 51, 100, 100, 52, 57, 97, 49, 99, 51, 49, 101, 52, 57, 56, 98, 53, 100, 52, 56, 51, 49, 97, 52, 97, 102, 48, 49, 57, 51, 55, 56, 57, 48, 54, 102, 98, 99, 102, 50, 51, 53, 49, 56, 102, 98, 52, 49, 55, 57, 56, 49, 99, 52, 48, 55, 51, 50, 99, 52, 53, 51, 100, 53, 52, 32, 99, 117, 116, 32, 97, 116, 32, 108, 111, 111, 112, 46, 101, 120, 97, 109, 112, 108, 101, 47, 103, 48, 51, 52, 48, 52, 47, 108, 97, 119, 115, 46, 70, 110, 69, 120, 97, 99, 116, 83, 117, 98, 68, 105, 109, 115]
theorem headIs0 : Tryz.pinned.checked.prog.initOrder = "harness 3dd49a1c31e498b5d4831a4af019378906fbcf23518fb417981c40732c453d54 cut at loop.example/g03404/laws.FnExactSubDims" := by kernel_rfl
theorem headIs1 : "harness 3dd49a1c31e498b5d4831a4af019378906fbcf23518fb417981c40732c453d54 cut at loop.example/g03404/laws.FnExactSubDims" = String.ofList (headCodes.map Char.ofNat) := by kernel_rfl
theorem headIs : Tryz.pinned.checked.prog.initOrder = String.ofList (headCodes.map Char.ofNat) := headIs0.trans headIs1
theorem headWords : ∃ rest, behindMainWord (wordsSigns Tryz.pinned.checked.prog.initOrder.toList) = "cut".toList :: "at".toList :: rest := by
  rw [headIs, String.toList_ofList]
  exact ⟨(behindMainWord (wordsSigns (headCodes.map Char.ofNat))).tail.tail, by kernel_rfl⟩
theorem gen_enter (P : Program) {rest : List (List Char)} (h : behindMainWord (wordsSigns P.initOrder.toList) = "cut".toList :: "at".toList :: rest) (h1 : P.laysLater = false) (h2 : P.bearsReflect = false) (h3 : P.doorFits [] = true) : P.mayEnter = true := by
  unfold Program.mayEnter
  rw [h]
  have e : stripLifts liftWords ("cut".toList :: "at".toList :: rest) = ([], "cut".toList :: "at".toList :: rest) := by rfl
  simp only [e, h1, h2, h3]
  simp
theorem gen_lifts (P : Program) {rest : List (List Char)} (h : behindMainWord (wordsSigns P.initOrder.toList) = "cut".toList :: "at".toList :: rest) : P.headLifts = [] := by
  unfold Program.headLifts
  rw [h]
  rfl
theorem gen_lifted (P : Program) {rest : List (List Char)} (h : behindMainWord (wordsSigns P.initOrder.toList) = "cut".toList :: "at".toList :: rest) : P.liftsFinal = false := by
  have := gen_lifts P h
  unfold Program.liftsFinal
  rw [h, this]
  rfl
theorem gen_make (P : Program) {rest : List (List Char)} (h : behindMainWord (wordsSigns P.initOrder.toList) = "cut".toList :: "at".toList :: rest) : P.make = some .cut := by
  unfold Program.make
  rw [h]
  rfl
theorem fin_lays : Tryz.pinned.checked.prog.laysLater = false := by kernel_rfl
theorem fin_bears : Tryz.pinned.checked.prog.bearsReflect = false := by kernel_rfl
theorem fin_door : Tryz.pinned.checked.prog.doorFits [] = true := by kernel_rfl
theorem fin_enter : Tryz.pinned.checked.prog.mayEnter = true := Exists.elim headWords (fun _ h => gen_enter Tryz.pinned.checked.prog h fin_lays fin_bears fin_door)
theorem fin_lifted {b : Bool} (hb : b = false) : (b == Tryz.pinned.checked.prog.liftsFinal) = true := Exists.elim headWords (fun _ h => by
  have := gen_lifted Tryz.pinned.checked.prog h
  generalize Tryz.pinned.checked.prog.liftsFinal = x at this
  rw [hb, this]; rfl)
theorem fin_make {m : Make} (hm : m = .cut) : (Tryz.pinned.checked.prog.make == some m) = true := Exists.elim headWords (fun _ h => by
  have := gen_make Tryz.pinned.checked.prog h
  generalize Tryz.pinned.checked.prog.make = x at this
  rw [hm, this]; rfl)
end Go.Proofs.YtnmhdmkfhacdbaaGreat
