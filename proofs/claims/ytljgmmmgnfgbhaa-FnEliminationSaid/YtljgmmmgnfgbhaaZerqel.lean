import Derived.Test.YtljgmmmgnfgbhaaEqmqel
import Derived.Test.YtljgmmmgnfgbhaaLCqel
import Derived.Test.YtljgmmmgnfgbhaaMxfqel
import Derived.Test.YtljgmmmgnfgbhaaPrmqel
namespace Go.Proofs.Ytljgmmmgnfgbhaa
open Go.Lg Go.Proofs Go.RowKit
attribute [local irreducible] Code.wp wpList bodyPost Exit.then Exit.inBlock Hp Again Calls Y AT ResV QT Qn QI wpAny wpAnyQ
set_option maxRecDepth 20000
set_option maxHeartbeats 4000000

/-! ### representations of zeros -/
/-- the map of zeros of an arrow -/
def zM (q : Qv) (d : List Int) (i : Nat) : Mat := (((d.getD (q.2.2.getD i 0).toNat 0).toNat : Nat), ((d.getD (q.2.1.getD i 0).toNat 0).toNat : Nat), mk (d.getD (q.2.2.getD i 0).toNat 0).toNat (d.getD (q.2.1.getD i 0).toNat 0).toNat (fun _ _ => 0))
/-- vertices and dimensions in range -/
def ArrP (q : Qv) (d : List Int) : Prop := q.2.1.length = q.2.2.length ∧ q.2.1.length ≤ 1024 ∧ d.length ≤ 1024 ∧ (∀ x ∈ q.2.1, 0 ≤ x ∧ x < d.length) ∧ (∀ x ∈ q.2.2, 0 ≤ x ∧ x < d.length) ∧ ∀ x ∈ d, 0 ≤ x ∧ x ≤ 1000
theorem ArrP.at {q : Qv} {d : List Int} (h : ArrP q d) {i : Nat} (hi : i < q.2.1.length) : ∃ f t dt df : Nat, q.2.1.getD i 0 = f ∧ q.2.2.getD i 0 = t ∧ f < d.length ∧ t < d.length ∧ d.getD t 0 = dt ∧ d.getD f 0 = df ∧ dt ≤ 1000 ∧ df ≤ 1000 ∧ zM q d i = ((dt : Int), (df : Int), mk dt df (fun _ _ => 0)) := by
  obtain ⟨h1, h2, h3, h4, h5, h6⟩ := h
  have k1 := h4 _ (List.mem_of_getElem? (getD_some (z := 0) hi))
  have k2 := h5 _ (List.mem_of_getElem? (getD_some (z := 0) (show i < q.2.2.length by omega)))
  have m1 : (q.2.1.getD i 0).toNat < d.length := by omega
  have m2 : (q.2.2.getD i 0).toNat < d.length := by omega
  have k3 := h6 _ (List.mem_of_getElem? (getD_some (z := 0) m1))
  have k4 := h6 _ (List.mem_of_getElem? (getD_some (z := 0) m2))
  exact ⟨(q.2.1.getD i 0).toNat, (q.2.2.getD i 0).toNat, (d.getD (q.2.2.getD i 0).toNat 0).toNat, (d.getD (q.2.1.getD i 0).toNat 0).toNat, by omega, by omega, m1, m2, by omega, by omega, by omega, by omega, rfl⟩
/-! ### the representation of zeros of a quiver and of dimensions -/
end Go.Proofs.Ytljgmmmgnfgbhaa
