import Derived.OpenShut
import Derived.Test.YtcplmeajmpkpkaaGreatOpnqsp
/- Facts on the words at the head of the program; there are no conditions. -/
namespace Go.Proofs.YtcplmeajmpkpkaaGreat
open Go.Lg Go.Proofs Go.RowKit Go.ChangeShapes Go.WideShapes Go.ChangeAt
set_option maxRecDepth 100000
theorem band {a b : Bool} (h : a = true) (h' : b = true) : (a && b) = true := by rw [h, h']; rfl
def headCodes : List Nat := [104, 97, 114, 110, 101, 115, 115, 32, 102, 102, 50, 51, 99, 100, 57, 53, 49, 54, 53, 97, 51, 52, 54, 49, 48, 98, 97, 48, 48, 50, 98, 97, 56, 101, 99, 52, 57, 102, 54, 100, 99, 52, 102, 100, 49, 101, 102, 48, 98, 99, 55, 49, 99, 100, 54, 99, 102, 53, 98, 56, 55, 98, 49, 50, 55, 56, 101, 97, 51, 99, 48, 52, 32, 99, 117, 116, 32, 97, 116, 32, 108, 111, 111, 112, 46, 101, 120, 97, 109, 112, 108, 101, 47, 103, 48, 51, 52, 48, 52, 47, 108, 97, 119, 115, 46, 70, 110, 83, 112, 97, 99, 101, 115]
theorem headIs0 : Tryz.pinned.checked.prog.initOrder = "harness ff23cd95165a34610ba002ba8ec49f6dc4fd1ef0bc71cd6cf5b87b1278ea3c04 cut at loop.example/g03404/laws.FnSpaces" := by kernel_rfl
theorem headIs1 : "harness ff23cd95165a34610ba002ba8ec49f6dc4fd1ef0bc71cd6cf5b87b1278ea3c04 cut at loop.example/g03404/laws.FnSpaces" = String.ofList (headCodes.map Char.ofNat) := by kernel_rfl
theorem headIs : Tryz.pinned.checked.prog.initOrder = String.ofList (headCodes.map Char.ofNat) := headIs0.trans headIs1
theorem headWords : ∃ rest, behindMainWord (wordsSigns Tryz.pinned.checked.prog.initOrder.toList) = "cut".toList :: "at".toList :: rest := by
  rw [headIs, String.toList_ofList]
  exact ⟨(behindMainWord (wordsSigns (headCodes.map Char.ofNat))).tail.tail, by kernel_rfl⟩
theorem gen_enter (P : Program) {rest : List (List Char)} (h : behindMainWord (wordsSigns P.initOrder.toList) = "cut".toList :: "at".toList :: rest) (h1 : P.laysLater = false) (h2 : P.bearsReflect = false) (h3 : P.doorFits [] = true) : P.mayEnter = true := by
  unfold Program.mayEnter
  rw [h]
  have e : stripLifts liftWords ("cut".toList :: "at".toList :: rest) = ([], "cut".toList :: "at".toList :: rest) := by rfl
  simp only [e, h1, h2, h3]
  simp
theorem gen_lifts (P : Program) {rest : List (List Char)} (h : behindMainWord (wordsSigns P.initOrder.toList) = "cut".toList :: "at".toList :: rest) : P.headLifts = [] := by
  unfold Program.headLifts
  rw [h]
  rfl
theorem gen_lifted (P : Program) {rest : List (List Char)} (h : behindMainWord (wordsSigns P.initOrder.toList) = "cut".toList :: "at".toList :: rest) : P.liftsFinal = false := by
  have := gen_lifts P h
  unfold Program.liftsFinal
  rw [h, this]
  rfl
theorem gen_make (P : Program) {rest : List (List Char)} (h : behindMainWord (wordsSigns P.initOrder.toList) = "cut".toList :: "at".toList :: rest) : P.make = some .cut := by
  unfold Program.make
  rw [h]
  rfl
theorem fin_lays : Tryz.pinned.checked.prog.laysLater = false := by kernel_rfl
theorem fin_bears : Tryz.pinned.checked.prog.bearsReflect = false := by kernel_rfl
theorem fin_door : Tryz.pinned.checked.prog.doorFits [] = true := by kernel_rfl
theorem fin_enter : Tryz.pinned.checked.prog.mayEnter = true := Exists.elim headWords (fun _ h => gen_enter Tryz.pinned.checked.prog h fin_lays fin_bears fin_door)
theorem fin_lifted {b : Bool} (hb : b = false) : (b == Tryz.pinned.checked.prog.liftsFinal) = true := Exists.elim headWords (fun _ h => by
  have := gen_lifted Tryz.pinned.checked.prog h
  generalize Tryz.pinned.checked.prog.liftsFinal = x at this
  rw [hb, this]; rfl)
theorem fin_make {m : Make} (hm : m = .cut) : (Tryz.pinned.checked.prog.make == some m) = true := Exists.elim headWords (fun _ h => by
  have := gen_make Tryz.pinned.checked.prog h
  generalize Tryz.pinned.checked.prog.make = x at this
  rw [hm, this]; rfl)
end Go.Proofs.YtcplmeajmpkpkaaGreat
