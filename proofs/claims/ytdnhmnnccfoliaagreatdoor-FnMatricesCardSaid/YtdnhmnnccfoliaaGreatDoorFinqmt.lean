import Derived.OpenShut
import Derived.Test.YtdnhmnnccfoliaaGreatDoorOpnqmt
/- Facts on the words at the head of the program; there are no conditions. -/
namespace Go.Proofs.YtdnhmnnccfoliaaGreatDoor
open Go.Lg Go.Proofs Go.RowKit Go.ChangeShapes Go.WideShapes Go.ChangeAt
set_option maxRecDepth 100000
theorem band {a b : Bool} (h : a = true) (h' : b = true) : (a && b) = true := by rw [h, h']; rfl
def headCodes : List Nat := [104, 97, 114, 110, 101, 115, 115, 32, 48, 56, 55, 102, 53, 54, 100, 48, 97, 53, 54, 57, 51, 101, 57, 100, 53, 54, 49, 101, 101, 99, 100, 48, 50, 53, 99, 97, 50, 49, 97, 53, 49, 50, 51, 102, 52, 56, 50, 53, 99, 50, 49, 102, 97, 48, 52, 57, 50, 49, 57, 52, 98, 56, 49, 48, 101, 48, 57, 50, 100, 53, 98, 98, 32, 99, 117, 116, 32, 97, 116, 32, 108, 111, 111, 112, 46, 101, 120, 97, 109, 112, 108, 101, 47, 103, 48, 51, 52, 48, 52, 47, 108, 97, 119, 115, 46, 70, 110, 69, 120, 97, 99, 116, 80, 97, 114, 115, 101, 82, 101, 112, 32, 108, 111, 111, 112, 46, 101, 120, 97, 109, 112, 108, 101, 47, 103, 48, 51, 52, 48, 52, 47, 108, 97, 119, 115, 46, 70, 110, 77, 97, 116, 114, 105, 99, 101, 115, 32, 108, 111, 111, 112, 46, 101, 120, 97, 109, 112, 108, 101, 47, 103, 48, 51, 52, 48, 52, 47, 108, 97, 119, 115, 46, 70, 110, 82, 101, 112, 115]
theorem headIs0 : Tryz.pinned.checked.prog.initOrder = "harness 087f56d0a5693e9d561eecd025ca21a5123f4825c21fa0492194b810e092d5bb cut at loop.example/g03404/laws.FnExactParseRep loop.example/g03404/laws.FnMatrices loop.example/g03404/laws.FnReps" := by kernel_rfl
theorem headIs1 : "harness 087f56d0a5693e9d561eecd025ca21a5123f4825c21fa0492194b810e092d5bb cut at loop.example/g03404/laws.FnExactParseRep loop.example/g03404/laws.FnMatrices loop.example/g03404/laws.FnReps" = String.ofList (headCodes.map Char.ofNat) := by kernel_rfl
theorem headIs : Tryz.pinned.checked.prog.initOrder = String.ofList (headCodes.map Char.ofNat) := headIs0.trans headIs1
theorem headWords : ∃ rest, behindMainWord (wordsSigns Tryz.pinned.checked.prog.initOrder.toList) = "cut".toList :: "at".toList :: rest := by
  rw [headIs, String.toList_ofList]
  exact ⟨(behindMainWord (wordsSigns (headCodes.map Char.ofNat))).tail.tail, by kernel_rfl⟩
theorem gen_enter (P : Program) {rest : List (List Char)} (h : behindMainWord (wordsSigns P.initOrder.toList) = "cut".toList :: "at".toList :: rest) (h1 : P.laysLater = false) (h2 : P.bearsReflect = false) (h3 : P.doorFits [] = true) : P.mayEnter = true := by
  unfold Program.mayEnter
  rw [h]
  have e : stripLifts liftWords ("cut".toList :: "at".toList :: rest) = ([], "cut".toList :: "at".toList :: rest) := by rfl
  simp only [e, h1, h2, h3]
  simp
theorem gen_lifts (P : Program) {rest : List (List Char)} (h : behindMainWord (wordsSigns P.initOrder.toList) = "cut".toList :: "at".toList :: rest) : P.headLifts = [] := by
  unfold Program.headLifts
  rw [h]
  rfl
theorem gen_lifted (P : Program) {rest : List (List Char)} (h : behindMainWord (wordsSigns P.initOrder.toList) = "cut".toList :: "at".toList :: rest) : P.liftsFinal = false := by
  have := gen_lifts P h
  unfold Program.liftsFinal
  rw [h, this]
  rfl
theorem gen_make (P : Program) {rest : List (List Char)} (h : behindMainWord (wordsSigns P.initOrder.toList) = "cut".toList :: "at".toList :: rest) : P.make = some .cut := by
  unfold Program.make
  rw [h]
  rfl
theorem fin_lays : Tryz.pinned.checked.prog.laysLater = false := by kernel_rfl
theorem fin_bears : Tryz.pinned.checked.prog.bearsReflect = false := by kernel_rfl
theorem fin_door : Tryz.pinned.checked.prog.doorFits [] = true := by kernel_rfl
theorem fin_enter : Tryz.pinned.checked.prog.mayEnter = true := Exists.elim headWords (fun _ h => gen_enter Tryz.pinned.checked.prog h fin_lays fin_bears fin_door)
theorem fin_lifted {b : Bool} (hb : b = false) : (b == Tryz.pinned.checked.prog.liftsFinal) = true := Exists.elim headWords (fun _ h => by
  have := gen_lifted Tryz.pinned.checked.prog h
  generalize Tryz.pinned.checked.prog.liftsFinal = x at this
  rw [hb, this]; rfl)
theorem fin_make {m : Make} (hm : m = .cut) : (Tryz.pinned.checked.prog.make == some m) = true := Exists.elim headWords (fun _ h => by
  have := gen_make Tryz.pinned.checked.prog h
  generalize Tryz.pinned.checked.prog.make = x at this
  rw [hm, this]; rfl)
end Go.Proofs.YtdnhmnnccfoliaaGreatDoor
