import Derived.Test.YtnmhdmkfhacdbaaSpdqE
namespace Go.Proofs.Ytnmhdmkfhacdbaa
open Go.Lg Go.Proofs Go.RowKit

/-! ### what belongs to a space (plain) -/
def vecF (xs : List Int) : Nat → Int := fun j => xs.getD j 0
/-- a vector is a combination of some rows -/
def SpnL (p : Int) (C : Nat) (B : List (List Int)) (v : Nat → Int) : Prop := Spn p B.length C (rowsF B) v
theorem rowsF_mem {M : List (List Int)} {x : List Int} (h : x ∈ M) : ∃ i, i < M.length ∧ rowsF M i = vecF x := by
  obtain ⟨i, hi, rfl⟩ := List.getElem_of_mem h
  refine ⟨i, hi, ?_⟩
  funext j
  simp [rowsF, vecF, List.getD, hi]
theorem rowsF_of {M : List (List Int)} {i : Nat} (h : i < M.length) : ∃ x ∈ M, rowsF M i = vecF x := by
  refine ⟨M[i], List.getElem_mem h, ?_⟩
  funext j
  simp [rowsF, vecF, List.getD, h]
theorem spnL_mem {p : Int} {C : Nat} {M : List (List Int)} {x : List Int} (h : x ∈ M) : SpnL p C M (vecF x) := by
  obtain ⟨i, hi, e⟩ := rowsF_mem h
  rw [← e]
  exact Spn.row hi
def rkL (p : Int) (C : Nat) (M : List (List Int)) : Nat := (redTo p M.length (rowsF M) C).2.length
theorem basL_len {p : Int} {C : Nat} {M : List (List Int)} : (basL p C M).length = rkL p C M := by simp [basL, rkL]
theorem rk_le {p : Int} {C : Nat} {A B : List (List Int)} (hF : FieldP p) (hA : RowsP p C A) (hB : RowsP p C B) (h : ∀ a ∈ A, SpnL p C B (vecF a)) : rkL p C A ≤ rkL p C B :=
  (red_sub hF hA.inF hB.inF (fun i hi => by obtain ⟨x, hx, e⟩ := rowsF_of hi; rw [e]; exact h x hx)).1
/-- what is spanned is spanned by the reduced rows too, and by no more -/
theorem spn_red {p : Int} {C : Nat} {M : List (List Int)} {v : Nat → Int} (hF : FieldP p) (hM : RowsP p C M) : SpnL p C M v ↔ Spn p (rkL p C M) C (redTo p M.length (rowsF M) C).1 v := by
  have s1 := redTo_spn hF hM.inF C (Nat.le_refl _)
  have r1 := redTo_rr hF hM.inF C (Nat.le_refl _)
  have hle : rkL p C M ≤ M.length := r1.1
  refine ⟨fun h => ?_, fun h => ?_⟩
  · refine (Spn.mono s1.2 h).mono (fun i hi => ?_)
    by_cases hr : i < rkL p C M
    · exact Spn.row hr
    · exact .nil (fun j hj => by rw [r1.2.2.2.2.1 i j (by unfold rkL at hr; omega) hi hj]; exact Int.dvd_zero p)
  · exact Spn.mono (fun i hi => s1.1 i (by omega)) h
/-- as many reduced rows, one spanned by the other: the same reduced rows -/
theorem red_same {p : Int} {C : Nat} {A B : List (List Int)} (hF : FieldP p) (hA : RowsP p C A) (hB : RowsP p C B) (h : ∀ a ∈ A, SpnL p C B (vecF a)) (he : rkL p C A = rkL p C B) : basL p C A = basL p C B ∧ ∀ v, SpnL p C B v → SpnL p C A v := by
  have hs := (red_sub hF hA.inF hB.inF (fun i hi => by obtain ⟨x, hx, e⟩ := rowsF_of hi; rw [e]; exact h x hx)).2 he
  refine ⟨?_, fun v hv => ?_⟩
  · unfold basL
    rw [← hs.1]
    exact rowL_congr (fun i j hi hj => hs.2 i j hi hj)
  · rw [spn_red hF hA]
    rw [spn_red hF hB, ← he] at hv
    exact hv.mono (fun i hi => (Spn.row (p := p) (C := C) (g := (redTo p A.length (rowsF A) C).1) hi).congr (fun j hj => by rw [hs.2 i j hi hj, Int.sub_self]; exact Int.dvd_zero p))
/-- two lists that span each other have one reduced basis -/
theorem basL_span {p : Int} {C : Nat} {A B : List (List Int)} (hF : FieldP p) (hA : RowsP p C A) (hB : RowsP p C B) (h : ∀ a ∈ A, SpnL p C B (vecF a)) (h' : ∀ b ∈ B, SpnL p C A (vecF b)) : basL p C A = basL p C B :=
  (red_same hF hA hB h (Nat.le_antisymm (rk_le hF hA hB h) (rk_le hF hB hA h'))).1

/-! ### a space's rows are reduced -/
theorem SpcP.rows {p : Int} {s : Sp} (h : SpcP p s) : ∃ C : Nat, s.1 = C ∧ C ≤ 8 ∧ RowsP p C s.2 ∧ FieldP p ∧ s.2.length ≤ 8 ∧ rkL p C s.2 = s.2.length ∧ ∀ t j, t < s.2.length → j < C → (redTo p s.2.length (rowsF s.2) C).1 t j = rowsF s.2 t j := by
  obtain ⟨h1, h2⟩ := h
  obtain ⟨C, hc, hC, hl⟩ := h1.rows
  rw [hc] at h2
  simp only [Int.toNat_natCast] at h2
  have hk : rkL p C s.2 = s.2.length := by rw [← basL_len, h2]
  have h8 : rkL p C s.2 ≤ C := redL_length C
  refine ⟨C, hc, hC, hl, h1.1, by omega, hk, fun t j ht hj => ?_⟩
  have hb : (basL p C s.2).getD t [] = mkv C ((redTo p s.2.length (rowsF s.2) C).1 t) := by
    unfold basL rowL
    have : t < (redTo p s.2.length (rowsF s.2) C).2.length := by unfold rkL at hk; omega
    simp [List.getD, this]
  rw [h2] at hb
  have := mkv_get (g := (redTo p s.2.length (rowsF s.2) C).1 t) hj
  rw [← hb] at this
  exact this.symm
end Go.Proofs.Ytnmhdmkfhacdbaa
