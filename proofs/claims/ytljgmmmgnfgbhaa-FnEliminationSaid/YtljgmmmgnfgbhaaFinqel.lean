import Derived.OpenShut
import Derived.Test.YtljgmmmgnfgbhaaOpnqel
/- Facts on the words at the head of the program; there are no conditions. -/
namespace Go.Proofs.Ytljgmmmgnfgbhaa
open Go.Lg Go.Proofs Go.RowKit Go.ChangeShapes Go.WideShapes Go.ChangeAt
set_option maxRecDepth 100000
theorem band {a b : Bool} (h : a = true) (h' : b = true) : (a && b) = true := by rw [h, h']; rfl
def headCodes : List Nat := [104, 97, 114, 110, 101, 115, 115, 32, 55, 49, 50, 53, 57, 100, 102, 97, 97, 100, 53, 49, 56, 50, 97, 97, 49, 100, 97, 99, 100, 56, 100, 51, 51, 57, 49, 49, 55, 98, 50, 50, 51, 102, 57, 52, 48, 98, 100, 50, 54, 56, 55, 51, 53, 52, 101, 50, 55, 101, 55, 98, 98, 98, 55, 54, 100, 51, 57, 55, 102, 99, 49, 99, 32, 99, 117, 116, 32, 97, 116, 32, 108, 111, 111, 112, 46, 101, 120, 97, 109, 112, 108, 101, 47, 103, 48, 51, 52, 48, 52, 47, 108, 97, 119, 115, 46, 70, 110, 69, 120, 97, 99, 116, 67, 111, 109, 112, 111, 115, 101, 77, 111, 114, 112, 104, 105, 115, 109, 115, 32, 108, 111, 111, 112, 46, 101, 120, 97, 109, 112, 108, 101, 47, 103, 48, 51, 52, 48, 52, 47, 108, 97, 119, 115, 46, 70, 110, 69, 108, 105, 109, 105, 110, 97, 116, 105, 111, 110]
theorem headIs0 : Try.pinned.checked.prog.initOrder = "harness 71259dfaad5182aa1dacd8d339117b223f940bd2687354e27e7bbb76d397fc1c cut at loop.example/g03404/laws.FnExactComposeMorphisms loop.example/g03404/laws.FnElimination" := by kernel_rfl
theorem headIs1 : "harness 71259dfaad5182aa1dacd8d339117b223f940bd2687354e27e7bbb76d397fc1c cut at loop.example/g03404/laws.FnExactComposeMorphisms loop.example/g03404/laws.FnElimination" = String.ofList (headCodes.map Char.ofNat) := by kernel_rfl
theorem headIs : Try.pinned.checked.prog.initOrder = String.ofList (headCodes.map Char.ofNat) := headIs0.trans headIs1
theorem headWords : ∃ rest, behindMainWord (wordsSigns Try.pinned.checked.prog.initOrder.toList) = "cut".toList :: "at".toList :: rest := by
  rw [headIs, String.toList_ofList]
  exact ⟨(behindMainWord (wordsSigns (headCodes.map Char.ofNat))).tail.tail, by kernel_rfl⟩
theorem gen_enter (P : Program) {rest : List (List Char)} (h : behindMainWord (wordsSigns P.initOrder.toList) = "cut".toList :: "at".toList :: rest) (h1 : P.laysLater = false) (h2 : P.bearsReflect = false) (h3 : P.doorFits [] = true) : P.mayEnter = true := by
  unfold Program.mayEnter
  rw [h]
  have e : stripLifts liftWords ("cut".toList :: "at".toList :: rest) = ([], "cut".toList :: "at".toList :: rest) := by rfl
  simp only [e, h1, h2, h3]
  simp
theorem gen_lifts (P : Program) {rest : List (List Char)} (h : behindMainWord (wordsSigns P.initOrder.toList) = "cut".toList :: "at".toList :: rest) : P.headLifts = [] := by
  unfold Program.headLifts
  rw [h]
  rfl
theorem gen_lifted (P : Program) {rest : List (List Char)} (h : behindMainWord (wordsSigns P.initOrder.toList) = "cut".toList :: "at".toList :: rest) : P.liftsFinal = false := by
  have := gen_lifts P h
  unfold Program.liftsFinal
  rw [h, this]
  rfl
theorem gen_make (P : Program) {rest : List (List Char)} (h : behindMainWord (wordsSigns P.initOrder.toList) = "cut".toList :: "at".toList :: rest) : P.make = some .cut := by
  unfold Program.make
  rw [h]
  rfl
theorem fin_lays : Try.pinned.checked.prog.laysLater = false := by kernel_rfl
theorem fin_bears : Try.pinned.checked.prog.bearsReflect = false := by kernel_rfl
theorem fin_door : Try.pinned.checked.prog.doorFits [] = true := by kernel_rfl
theorem fin_enter : Try.pinned.checked.prog.mayEnter = true := Exists.elim headWords (fun _ h => gen_enter Try.pinned.checked.prog h fin_lays fin_bears fin_door)
theorem fin_lifted {b : Bool} (hb : b = false) : (b == Try.pinned.checked.prog.liftsFinal) = true := Exists.elim headWords (fun _ h => by
  have := gen_lifted Try.pinned.checked.prog h
  generalize Try.pinned.checked.prog.liftsFinal = x at this
  rw [hb, this]; rfl)
theorem fin_make {m : Make} (hm : m = .cut) : (Try.pinned.checked.prog.make == some m) = true := Exists.elim headWords (fun _ h => by
  have := gen_make Try.pinned.checked.prog h
  generalize Try.pinned.checked.prog.make = x at this
  rw [hm, this]; rfl)
end Go.Proofs.Ytljgmmmgnfgbhaa
