import Derived.OpenShut
import Derived.Test.YtljgmmmgnfgbhaaDoorOpnqfr
/- Facts on the words at the head of the program; there are no conditions. -/
namespace Go.Proofs.YtljgmmmgnfgbhaaDoor
open Go.Lg Go.Proofs Go.RowKit Go.ChangeShapes Go.WideShapes Go.ChangeAt
set_option maxRecDepth 100000
theorem band {a b : Bool} (h : a = true) (h' : b = true) : (a && b) = true := by rw [h, h']; rfl
def headCodes : List Nat := [104, 97, 114, 110, 101, 115, 115, 32, 102, 102, 56, 48, 102, 55, 98, 56, 56, 97, 100, 52, 48, 52, 99, 57, 55, 50, 98, 50, 57, 52, 55, 56, 102, 49, 100, 56, 101, 98, 48, 56, 56, 101, 53, 100, 50, 55, 101, 97, 56, 98, 98, 101, 101, 56, 102, 48, 53, 50, 48, 50, 49, 99, 51, 99, 100, 100, 52, 101, 49, 49, 97, 98, 32, 99, 117, 116, 32, 97, 116, 32, 108, 111, 111, 112, 46, 101, 120, 97, 109, 112, 108, 101, 47, 103, 48, 51, 52, 48, 52, 47, 108, 97, 119, 115, 46, 70, 110, 69, 120, 97, 99, 116, 70, 111, 114, 109, 97, 116, 82, 101, 112]
theorem headIs0 : Tryd.pinned.checked.prog.initOrder = "harness ff80f7b88ad404c972b29478f1d8eb088e5d27ea8bbee8f052021c3cdd4e11ab cut at loop.example/g03404/laws.FnExactFormatRep" := by kernel_rfl
theorem headIs1 : "harness ff80f7b88ad404c972b29478f1d8eb088e5d27ea8bbee8f052021c3cdd4e11ab cut at loop.example/g03404/laws.FnExactFormatRep" = String.ofList (headCodes.map Char.ofNat) := by kernel_rfl
theorem headIs : Tryd.pinned.checked.prog.initOrder = String.ofList (headCodes.map Char.ofNat) := headIs0.trans headIs1
theorem headWords : ∃ rest, behindMainWord (wordsSigns Tryd.pinned.checked.prog.initOrder.toList) = "cut".toList :: "at".toList :: rest := by
  rw [headIs, String.toList_ofList]
  exact ⟨(behindMainWord (wordsSigns (headCodes.map Char.ofNat))).tail.tail, by kernel_rfl⟩
theorem gen_enter (P : Program) {rest : List (List Char)} (h : behindMainWord (wordsSigns P.initOrder.toList) = "cut".toList :: "at".toList :: rest) (h1 : P.laysLater = false) (h2 : P.bearsReflect = false) (h3 : P.doorFits [] = true) : P.mayEnter = true := by
  unfold Program.mayEnter
  rw [h]
  have e : stripLifts liftWords ("cut".toList :: "at".toList :: rest) = ([], "cut".toList :: "at".toList :: rest) := by rfl
  simp only [e, h1, h2, h3]
  simp
theorem gen_lifts (P : Program) {rest : List (List Char)} (h : behindMainWord (wordsSigns P.initOrder.toList) = "cut".toList :: "at".toList :: rest) : P.headLifts = [] := by
  unfold Program.headLifts
  rw [h]
  rfl
theorem gen_lifted (P : Program) {rest : List (List Char)} (h : behindMainWord (wordsSigns P.initOrder.toList) = "cut".toList :: "at".toList :: rest) : P.liftsFinal = false := by
  have := gen_lifts P h
  unfold Program.liftsFinal
  rw [h, this]
  rfl
theorem gen_make (P : Program) {rest : List (List Char)} (h : behindMainWord (wordsSigns P.initOrder.toList) = "cut".toList :: "at".toList :: rest) : P.make = some .cut := by
  unfold Program.make
  rw [h]
  rfl
theorem fin_lays : Tryd.pinned.checked.prog.laysLater = false := by kernel_rfl
theorem fin_bears : Tryd.pinned.checked.prog.bearsReflect = false := by kernel_rfl
theorem fin_door : Tryd.pinned.checked.prog.doorFits [] = true := by kernel_rfl
theorem fin_enter : Tryd.pinned.checked.prog.mayEnter = true := Exists.elim headWords (fun _ h => gen_enter Tryd.pinned.checked.prog h fin_lays fin_bears fin_door)
theorem fin_lifted {b : Bool} (hb : b = false) : (b == Tryd.pinned.checked.prog.liftsFinal) = true := Exists.elim headWords (fun _ h => by
  have := gen_lifted Tryd.pinned.checked.prog h
  generalize Tryd.pinned.checked.prog.liftsFinal = x at this
  rw [hb, this]; rfl)
theorem fin_make {m : Make} (hm : m = .cut) : (Tryd.pinned.checked.prog.make == some m) = true := Exists.elim headWords (fun _ h => by
  have := gen_make Tryd.pinned.checked.prog h
  generalize Tryd.pinned.checked.prog.make = x at this
  rw [hm, this]; rfl)
end Go.Proofs.YtljgmmmgnfgbhaaDoor
