import Derived.Test.YtljgmmmgnfgbhaaModqel
namespace Go.Proofs.Ytljgmmmgnfgbhaa
open Go.Lg Go.Proofs Go.RowKit

/-! ### matrices as functions -/
def mk (R C : Nat) (f : Nat → Nat → Int) : List Int := (List.range (R * C)).map (fun q => f (q / C) (q % C))
@[simp] theorem mk_length {R C : Nat} {f : Nat → Nat → Int} : (mk R C f).length = R * C := by simp [mk]
theorem cell_lt {R C i j : Nat} (hi : i < R) (hj : j < C) : i * C + j < R * C := by
  have : (i + 1) * C ≤ R * C := Nat.mul_le_mul_right C hi
  rw [Nat.succ_mul] at this
  omega
theorem cell_div {C i j : Nat} (hj : j < C) : (i * C + j) / C = i := by
  rw [Nat.mul_comm, Nat.mul_add_div (by omega), Nat.div_eq_of_lt hj, Nat.add_zero]
theorem cell_mod {C i j : Nat} (hj : j < C) : (i * C + j) % C = j := by
  rw [Nat.mul_comm, Nat.mul_add_mod, Nat.mod_eq_of_lt hj]
theorem mk_get {R C i j : Nat} {f : Nat → Nat → Int} (hi : i < R) (hj : j < C) : (mk R C f).getD (i * C + j) 0 = f i j := by
  have h := cell_lt hi hj
  simp [mk, List.getD, h, cell_div hj, cell_mod hj]
theorem mk_ext {R C : Nat} {f g : Nat → Nat → Int} (h : ∀ i j, i < R → j < C → f i j = g i j) : mk R C f = mk R C g := by
  apply List.map_congr_left
  intro q hq
  have hq' : q < R * C := List.mem_range.1 hq
  have hC : 0 < C := by
    rcases Nat.eq_zero_or_pos C with h0 | h0
    · subst h0; simp at hq'
    · exact h0
  exact h _ _ (Nat.div_lt_of_lt_mul (by rw [Nat.mul_comm]; exact hq')) (Nat.mod_lt _ hC)
def upd (f : Nat → Nat → Int) (i j : Nat) (v : Int) : Nat → Nat → Int := fun a b => if a = i ∧ b = j then v else f a b
theorem mk_set {R C i j : Nat} {f : Nat → Nat → Int} {v : Int} (_hi : i < R) (hj : j < C) : (mk R C f).set (i * C + j) v = mk R C (upd f i j v) := by
  apply List.ext_getElem?
  intro q
  by_cases hq : q < R * C
  · rw [List.getElem?_set]
    by_cases hqe : i * C + j = q
    · subst hqe
      simp [mk, hq, upd, cell_div hj, cell_mod hj]
    · have hne : ¬ (q / C = i ∧ q % C = j) := fun ⟨h1, h2⟩ => hqe (by rw [← h1, ← h2, Nat.mul_comm]; exact Nat.div_add_mod q C)
      simp [mk, hq, upd, hqe, hne]
  · rw [List.getElem?_eq_none (by simp; omega), List.getElem?_eq_none (by simp; omega)]
theorem mk_of {R C : Nat} {l : List Int} (h : l.length = R * C) : l = mk R C (fun i j => l.getD (i * C + j) 0) := by
  apply List.ext_getElem?
  intro q
  by_cases hq : q < R * C
  · have : q / C * C + q % C = q := by rw [Nat.mul_comm]; exact Nat.div_add_mod q C
    simp [mk, hq, this, h]
  · rw [List.getElem?_eq_none (by omega), List.getElem?_eq_none (by simp; omega)]

/-! ### row reduction -/
/-- the least row from r on whose number in column k is not 0, or R -/
def findAt (f : Nat → Nat → Int) (k R r : Nat) : Nat := ((List.range R).find? (fun i => decide (r ≤ i ∧ f i k ≠ 0))).getD R
def swapF (f : Nat → Nat → Int) (r a : Nat) : Nat → Nat → Int := fun i j => if i = r then f a j else if i = a then f r j else f i j
def scaleF (p v : Int) (f : Nat → Nat → Int) (r : Nat) : Nat → Nat → Int := fun i j => if i = r then v * f r j % p else f i j
def elimF (p : Int) (f : Nat → Nat → Int) (r k : Nat) : Nat → Nat → Int := fun i j => if i = r then f i j else (f i j - f i k * f r j) % p
/-- one column -/
def colStep (p : Int) (R k : Nat) (st : (Nat → Nat → Int) × List Int) : (Nat → Nat → Int) × List Int :=
  let r := st.2.length
  let a := findAt st.1 k R r
  if a < R then
    let g := swapF st.1 r a
    (elimF p (scaleF p (invM p (g r k)) g r) r k, st.2 ++ [(k : Int)])
  else st
/-- the first k columns -/
def redTo (p : Int) (R : Nat) (f : Nat → Nat → Int) : Nat → (Nat → Nat → Int) × List Int
  | 0 => (f, [])
  | k + 1 => colStep p R k (redTo p R f k)
def matF (m : Mat) : Nat → Nat → Int := fun i j => m.2.2.getD (i * m.2.1.toNat + j) 0
/-- what reduction gives -/
def redM (p : Int) (m : Mat) : Mat := (m.1, m.2.1, mk m.1.toNat m.2.1.toNat (redTo p m.1.toNat (matF m) m.2.1.toNat).1)
def redL (p : Int) (m : Mat) : List Int := (redTo p m.1.toNat (matF m) m.2.1.toNat).2

theorem findAt_le {f : Nat → Nat → Int} {k R r : Nat} : findAt f k R r ≤ R := by
  unfold findAt
  cases h : (List.range R).find? (fun i => decide (r ≤ i ∧ f i k ≠ 0)) with
  | none => simp
  | some i =>
    have := List.mem_of_find?_eq_some h
    simp at this ⊢; omega
theorem findAt_spec {f : Nat → Nat → Int} {k R r : Nat} (h : findAt f k R r < R) : r ≤ findAt f k R r ∧ f (findAt f k R r) k ≠ 0 := by
  unfold findAt at h ⊢
  cases h1 : (List.range R).find? (fun i => decide (r ≤ i ∧ f i k ≠ 0)) with
  | none => rw [h1] at h; simp at h
  | some i =>
    have := List.find?_some h1
    simpa using this
theorem findAt_min {f : Nat → Nat → Int} {k R r i : Nat} (hi : i < R) (hr : r ≤ i) (hf : f i k ≠ 0) : findAt f k R r ≤ i := by
  unfold findAt
  cases h1 : (List.range R).find? (fun i => decide (r ≤ i ∧ f i k ≠ 0)) with
  | none =>
    have := List.find?_eq_none.1 h1 i (List.mem_range.2 hi)
    simp at this
    omega
  | some j =>
    simp only [Option.getD_some]
    rcases Nat.lt_or_ge i j with h2 | h2
    · have h3 := List.find?_range_eq_some.1 h1
      have := h3.2.2 i h2
      simp at this
      omega
    · exact h2
/-- it is the one that is not 0 with zeros ahead of it -/
theorem findAt_eq {f : Nat → Nat → Int} {k R r a : Nat} (ha : a < R) (hr : r ≤ a) (hf : f a k ≠ 0) (hz : ∀ i, r ≤ i → i < a → f i k = 0) : findAt f k R r = a := by
  have h1 := findAt_min ha hr hf
  have h2 := findAt_spec (f := f) (k := k) (R := R) (r := r) (by omega)
  rcases Nat.lt_or_ge (findAt f k R r) a with h3 | h3
  · exact absurd (hz _ h2.1 h3) h2.2
  · omega
theorem findAt_none {f : Nat → Nat → Int} {k R r : Nat} (hz : ∀ i, r ≤ i → i < R → f i k = 0) : findAt f k R r = R := by
  have h1 := findAt_le (f := f) (k := k) (R := R) (r := r)
  rcases Nat.lt_or_ge (findAt f k R r) R with h3 | h3
  · have h2 := findAt_spec h3
    exact absurd (hz _ h2.1 h3) h2.2
  · omega
end Go.Proofs.Ytljgmmmgnfgbhaa
