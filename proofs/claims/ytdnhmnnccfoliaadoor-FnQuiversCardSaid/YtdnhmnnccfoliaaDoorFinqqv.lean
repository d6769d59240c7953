import Derived.OpenShut
import Derived.Test.YtdnhmnnccfoliaaDoorOpnqqv
/- Facts on the words at the head of the program; there are no conditions. -/
namespace Go.Proofs.YtdnhmnnccfoliaaDoor
open Go.Lg Go.Proofs Go.RowKit Go.ChangeShapes Go.WideShapes Go.ChangeAt
set_option maxRecDepth 100000
theorem band {a b : Bool} (h : a = true) (h' : b = true) : (a && b) = true := by rw [h, h']; rfl
def headCodes : List Nat := [104, 97, 114, 110, 101, 115, 115, 32, 101, 49, 53, 51, 48, 51, 57, 49, 54, 56, 97, 97, 98, 54, 50, 55, 100, 48, 57, 102, 48, 100, 99, 54, 100, 57, 102, 99, 100, 54, 53, 97, 51, 99, 101, 97, 100, 50, 53, 101, 101, 102, 52, 102, 98, 97, 54, 49, 51, 97, 53, 50, 50, 49, 99, 53, 48, 97, 52, 100, 98, 102, 48, 102, 32, 99, 117, 116, 32, 97, 116, 32, 108, 111, 111, 112, 46, 101, 120, 97, 109, 112, 108, 101, 47, 103, 48, 51, 52, 48, 52, 47, 108, 97, 119, 115, 46, 70, 110, 81, 117, 105, 118, 101, 114, 115]
theorem headIs0 : Tryd.pinned.checked.prog.initOrder = "harness e153039168aab627d09f0dc6d9fcd65a3cead25eef4fba613a5221c50a4dbf0f cut at loop.example/g03404/laws.FnQuivers" := by kernel_rfl
theorem headIs1 : "harness e153039168aab627d09f0dc6d9fcd65a3cead25eef4fba613a5221c50a4dbf0f cut at loop.example/g03404/laws.FnQuivers" = String.ofList (headCodes.map Char.ofNat) := by kernel_rfl
theorem headIs : Tryd.pinned.checked.prog.initOrder = String.ofList (headCodes.map Char.ofNat) := headIs0.trans headIs1
theorem headWords : ∃ rest, behindMainWord (wordsSigns Tryd.pinned.checked.prog.initOrder.toList) = "cut".toList :: "at".toList :: rest := by
  rw [headIs, String.toList_ofList]
  exact ⟨(behindMainWord (wordsSigns (headCodes.map Char.ofNat))).tail.tail, by kernel_rfl⟩
theorem gen_enter (P : Program) {rest : List (List Char)} (h : behindMainWord (wordsSigns P.initOrder.toList) = "cut".toList :: "at".toList :: rest) (h1 : P.laysLater = false) (h2 : P.bearsReflect = false) (h3 : P.doorFits [] = true) : P.mayEnter = true := by
  unfold Program.mayEnter
  rw [h]
  have e : stripLifts liftWords ("cut".toList :: "at".toList :: rest) = ([], "cut".toList :: "at".toList :: rest) := by rfl
  simp only [e, h1, h2, h3]
  simp
theorem gen_lifts (P : Program) {rest : List (List Char)} (h : behindMainWord (wordsSigns P.initOrder.toList) = "cut".toList :: "at".toList :: rest) : P.headLifts = [] := by
  unfold Program.headLifts
  rw [h]
  rfl
theorem gen_lifted (P : Program) {rest : List (List Char)} (h : behindMainWord (wordsSigns P.initOrder.toList) = "cut".toList :: "at".toList :: rest) : P.liftsFinal = false := by
  have := gen_lifts P h
  unfold Program.liftsFinal
  rw [h, this]
  rfl
theorem gen_make (P : Program) {rest : List (List Char)} (h : behindMainWord (wordsSigns P.initOrder.toList) = "cut".toList :: "at".toList :: rest) : P.make = some .cut := by
  unfold Program.make
  rw [h]
  rfl
theorem fin_lays : Tryd.pinned.checked.prog.laysLater = false := by kernel_rfl
theorem fin_bears : Tryd.pinned.checked.prog.bearsReflect = false := by kernel_rfl
theorem fin_door : Tryd.pinned.checked.prog.doorFits [] = true := by kernel_rfl
theorem fin_enter : Tryd.pinned.checked.prog.mayEnter = true := Exists.elim headWords (fun _ h => gen_enter Tryd.pinned.checked.prog h fin_lays fin_bears fin_door)
theorem fin_lifted {b : Bool} (hb : b = false) : (b == Tryd.pinned.checked.prog.liftsFinal) = true := Exists.elim headWords (fun _ h => by
  have := gen_lifted Tryd.pinned.checked.prog h
  generalize Tryd.pinned.checked.prog.liftsFinal = x at this
  rw [hb, this]; rfl)
theorem fin_make {m : Make} (hm : m = .cut) : (Tryd.pinned.checked.prog.make == some m) = true := Exists.elim headWords (fun _ h => by
  have := gen_make Tryd.pinned.checked.prog h
  generalize Tryd.pinned.checked.prog.make = x at this
  rw [hm, this]; rfl)
end Go.Proofs.YtdnhmnnccfoliaaDoor
