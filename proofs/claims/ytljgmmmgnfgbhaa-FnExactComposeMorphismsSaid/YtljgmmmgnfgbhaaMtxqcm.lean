import Derived.Test.YtljgmmmgnfgbhaaModqcm
namespace Go.Proofs.Ytljgmmmgnfgbhaa
open Go.Lg Go.Proofs Go.RowKit

/-! ### matrices as functions -/
def mk (R C : Nat) (f : Nat → Nat → Int) : List Int := (List.range (R * C)).map (fun q => f (q / C) (q % C))
@[simp] theorem mk_length {R C : Nat} {f : Nat → Nat → Int} : (mk R C f).length = R * C := by simp [mk]
theorem cell_lt {R C i j : Nat} (hi : i < R) (hj : j < C) : i * C + j < R * C := by
  have : (i + 1) * C ≤ R * C := Nat.mul_le_mul_right C hi
  rw [Nat.succ_mul] at this
  omega
theorem cell_div {C i j : Nat} (hj : j < C) : (i * C + j) / C = i := by
  rw [Nat.mul_comm, Nat.mul_add_div (by omega), Nat.div_eq_of_lt hj, Nat.add_zero]
theorem cell_mod {C i j : Nat} (hj : j < C) : (i * C + j) % C = j := by
  rw [Nat.mul_comm, Nat.mul_add_mod, Nat.mod_eq_of_lt hj]
theorem mk_get {R C i j : Nat} {f : Nat → Nat → Int} (hi : i < R) (hj : j < C) : (mk R C f).getD (i * C + j) 0 = f i j := by
  have h := cell_lt hi hj
  simp [mk, List.getD, h, cell_div hj, cell_mod hj]
theorem mk_ext {R C : Nat} {f g : Nat → Nat → Int} (h : ∀ i j, i < R → j < C → f i j = g i j) : mk R C f = mk R C g := by
  apply List.map_congr_left
  intro q hq
  have hq' : q < R * C := List.mem_range.1 hq
  have hC : 0 < C := by
    rcases Nat.eq_zero_or_pos C with h0 | h0
    · subst h0; simp at hq'
    · exact h0
  exact h _ _ (Nat.div_lt_of_lt_mul (by rw [Nat.mul_comm]; exact hq')) (Nat.mod_lt _ hC)
def upd (f : Nat → Nat → Int) (i j : Nat) (v : Int) : Nat → Nat → Int := fun a b => if a = i ∧ b = j then v else f a b
theorem mk_set {R C i j : Nat} {f : Nat → Nat → Int} {v : Int} (_hi : i < R) (hj : j < C) : (mk R C f).set (i * C + j) v = mk R C (upd f i j v) := by
  apply List.ext_getElem?
  intro q
  by_cases hq : q < R * C
  · rw [List.getElem?_set]
    by_cases hqe : i * C + j = q
    · subst hqe
      simp [mk, hq, upd, cell_div hj, cell_mod hj]
    · have hne : ¬ (q / C = i ∧ q % C = j) := fun ⟨h1, h2⟩ => hqe (by rw [← h1, ← h2, Nat.mul_comm]; exact Nat.div_add_mod q C)
      simp [mk, hq, upd, hqe, hne]
  · rw [List.getElem?_eq_none (by simp; omega), List.getElem?_eq_none (by simp; omega)]
theorem mk_of {R C : Nat} {l : List Int} (h : l.length = R * C) : l = mk R C (fun i j => l.getD (i * C + j) 0) := by
  apply List.ext_getElem?
  intro q
  by_cases hq : q < R * C
  · have : q / C * C + q % C = q := by rw [Nat.mul_comm]; exact Nat.div_add_mod q C
    simp [mk, hq, this, h]
  · rw [List.getElem?_eq_none (by omega), List.getElem?_eq_none (by simp; omega)]

/-! ### row reduction -/
def matF (m : Mat) : Nat → Nat → Int := fun i j => m.2.2.getD (i * m.2.1.toNat + j) 0
end Go.Proofs.Ytljgmmmgnfgbhaa
