import Derived.Test.YtcplmeajmpkpkaaGreatSpdqsp
namespace Go.Proofs.YtcplmeajmpkpkaaGreat
open Go.Lg Go.Proofs Go.RowKit

/-! ### what belongs to a space (plain) -/
def vecF (xs : List Int) : Nat → Int := fun j => xs.getD j 0
/-- a vector is a combination of some rows -/
def SpnL (p : Int) (C : Nat) (B : List (List Int)) (v : Nat → Int) : Prop := Spn p B.length C (rowsF B) v
theorem rowsF_mem {M : List (List Int)} {x : List Int} (h : x ∈ M) : ∃ i, i < M.length ∧ rowsF M i = vecF x := by
  obtain ⟨i, hi, rfl⟩ := List.getElem_of_mem h
  refine ⟨i, hi, ?_⟩
  funext j
  simp [rowsF, vecF, List.getD, hi]
theorem rowsF_of {M : List (List Int)} {i : Nat} (h : i < M.length) : ∃ x ∈ M, rowsF M i = vecF x := by
  refine ⟨M[i], List.getElem_mem h, ?_⟩
  funext j
  simp [rowsF, vecF, List.getD, h]
theorem spnL_mem {p : Int} {C : Nat} {M : List (List Int)} {x : List Int} (h : x ∈ M) : SpnL p C M (vecF x) := by
  obtain ⟨i, hi, e⟩ := rowsF_mem h
  rw [← e]
  exact Spn.row hi
theorem spnL_mono {p : Int} {C : Nat} {A B : List (List Int)} {v : Nat → Int} (h : ∀ a ∈ A, SpnL p C B (vecF a)) (hv : SpnL p C A v) : SpnL p C B v :=
  Spn.mono (fun i hi => by obtain ⟨x, hx, e⟩ := rowsF_of hi; rw [e]; exact h x hx) hv
def rkL (p : Int) (C : Nat) (M : List (List Int)) : Nat := (redTo p M.length (rowsF M) C).2.length
theorem basL_len {p : Int} {C : Nat} {M : List (List Int)} : (basL p C M).length = rkL p C M := by simp [basL, rkL]
theorem rk_le {p : Int} {C : Nat} {A B : List (List Int)} (hF : FieldP p) (hA : RowsP p C A) (hB : RowsP p C B) (h : ∀ a ∈ A, SpnL p C B (vecF a)) : rkL p C A ≤ rkL p C B :=
  (red_sub hF hA.inF hB.inF (fun i hi => by obtain ⟨x, hx, e⟩ := rowsF_of hi; rw [e]; exact h x hx)).1
/-- what is spanned is spanned by the reduced rows too, and by no more -/
theorem spn_red {p : Int} {C : Nat} {M : List (List Int)} {v : Nat → Int} (hF : FieldP p) (hM : RowsP p C M) : SpnL p C M v ↔ Spn p (rkL p C M) C (redTo p M.length (rowsF M) C).1 v := by
  have s1 := redTo_spn hF hM.inF C (Nat.le_refl _)
  have r1 := redTo_rr hF hM.inF C (Nat.le_refl _)
  have hle : rkL p C M ≤ M.length := r1.1
  refine ⟨fun h => ?_, fun h => ?_⟩
  · refine (Spn.mono s1.2 h).mono (fun i hi => ?_)
    by_cases hr : i < rkL p C M
    · exact Spn.row hr
    · exact .nil (fun j hj => by rw [r1.2.2.2.2.1 i j (by unfold rkL at hr; omega) hi hj]; exact Int.dvd_zero p)
  · exact Spn.mono (fun i hi => s1.1 i om) h
/-- as many reduced rows, one spanned by the other: the same reduced rows -/
theorem red_same {p : Int} {C : Nat} {A B : List (List Int)} (hF : FieldP p) (hA : RowsP p C A) (hB : RowsP p C B) (h : ∀ a ∈ A, SpnL p C B (vecF a)) (he : rkL p C A = rkL p C B) : basL p C A = basL p C B ∧ ∀ v, SpnL p C B v → SpnL p C A v := by
  have hs := (red_sub hF hA.inF hB.inF (fun i hi => by obtain ⟨x, hx, e⟩ := rowsF_of hi; rw [e]; exact h x hx)).2 he
  refine ⟨?_, fun v hv => ?_⟩
  · unfold basL
    rw [← hs.1]
    exact rowL_congr (fun i j hi hj => hs.2 i j hi hj)
  · rw [spn_red hF hA]
    rw [spn_red hF hB, ← he] at hv
    exact hv.mono (fun i hi => (Spn.row (p := p) (C := C) (g := (redTo p A.length (rowsF A) C).1) hi).congr (fun j hj => by rw [hs.2 i j hi hj, Int.sub_self]; exact Int.dvd_zero p))
theorem rk_join {p : Int} {C : Nat} {A B M : List (List Int)} (hF : FieldP p) (hM : RowsP p C M) (hB : RowsP p C B) (h1 : ∀ x ∈ M, x ∈ A ∨ x ∈ B) (h2 : ∀ x ∈ A, x ∈ M) (h3 : ∀ x ∈ B, x ∈ M) : rkL p C M = rkL p C B ↔ ∀ a ∈ A, SpnL p C B (vecF a) := by
  have hle := rk_le hF hB hM (fun b hb => spnL_mem (h3 b hb))
  refine ⟨fun he a ha => ?_, fun h => ?_⟩
  · exact (red_same hF hB hM (fun b hb => spnL_mem (h3 b hb)) he.symm).2 _ (spnL_mem (h2 a ha))
  · have := rk_le hF hM hB (fun x hx => by
      rcases h1 x hx with h4 | h4
      · exact h x h4
      · exact spnL_mem h4)
    omega
/-- two lists that span each other have one reduced basis -/
theorem basL_span {p : Int} {C : Nat} {A B : List (List Int)} (hF : FieldP p) (hA : RowsP p C A) (hB : RowsP p C B) (h : ∀ a ∈ A, SpnL p C B (vecF a)) (h' : ∀ b ∈ B, SpnL p C A (vecF b)) : basL p C A = basL p C B :=
  (red_same hF hA hB h (Nat.le_antisymm (rk_le hF hA hB h) (rk_le hF hB hA h'))).1

/-! ### a space's rows are reduced -/
theorem SpcP.rows {p : Int} {s : Sp} (h : SpcP p s) : ∃ C : Nat, s.1 = C ∧ C ≤ 8 ∧ RowsP p C s.2 ∧ FieldP p ∧ s.2.length ≤ 8 ∧ rkL p C s.2 = s.2.length ∧ ∀ t j, t < s.2.length → j < C → (redTo p s.2.length (rowsF s.2) C).1 t j = rowsF s.2 t j := by
  obtain ⟨h1, h2⟩ := h
  obtain ⟨C, hc, hC, hl⟩ := h1.rows
  rw [hc] at h2
  simp only [Int.toNat_natCast] at h2
  have hk : rkL p C s.2 = s.2.length := by rw [← basL_len, h2]
  have h8 : rkL p C s.2 ≤ C := redL_length C
  refine ⟨C, hc, hC, hl, h1.1, by omega, hk, fun t j ht hj => ?_⟩
  have hb : (basL p C s.2).getD t [] = mkv C ((redTo p s.2.length (rowsF s.2) C).1 t) := by
    unfold basL rowL
    have : t < (redTo p s.2.length (rowsF s.2) C).2.length := by unfold rkL at hk; omega
    simp [List.getD, this]
  rw [h2] at hb
  have := mkv_get (g := (redTo p s.2.length (rowsF s.2) C).1 t) hj
  rw [← hb] at this
  exact this.symm
/-- the numbers at the leading ones are taken away -/
def restF (p : Int) (b : Nat → Nat → Int) (l : List Int) (v : Nat → Int) : Nat → Nat → Int
  | 0 => v
  | n + 1 => fun j => (restF p b l v n j + (p - restF p b l v n (pv l n)) * b n j) % p
theorem restF_in {p : Int} {C : Nat} {b : Nat → Nat → Int} {l : List Int} {v : Nat → Int} (hp : 0 < p) (hv : ∀ j, j < C → 0 ≤ v j ∧ v j < p) : ∀ n j, j < C → 0 ≤ restF p b l v n j ∧ restF p b l v n j < p
  | 0, j, hj => hv j hj
  | n + 1, j, hj => by
    simp only [restF]
    exact ⟨Int.emod_nonneg _ om, Int.emod_lt_of_pos _ hp⟩
theorem restF_spn {p : Int} {R C : Nat} {b : Nat → Nat → Int} {l : List Int} {v : Nat → Int} : ∀ n, n ≤ R → Spn p R C b (fun j => v j - restF p b l v n j)
  | 0, _ => .nil (fun j _ => by simp only [restF, Int.sub_self]; exact Int.dvd_zero p)
  | n + 1, h => .add (u := fun j => v j - restF p b l v n j) n (restF p b l v n (pv l n) - p) om (restF_spn n om) (fun j _ => by
    simp only [restF]
    obtain ⟨y, hy⟩ := emod_sub (p := p) (x := restF p b l v n j + (p - restF p b l v n (pv l n)) * b n j)
    exact ⟨-y, by grind⟩)
theorem restF_piv {p : Int} {R C : Nat} {b g : Nat → Nat → Int} {l : List Int} {v : Nat → Int} (hp : 0 < p) (hR : RR R g l C) (hg : ∀ t j, t < l.length → j < C → g t j = b t j) (hv : ∀ j, j < C → 0 ≤ v j ∧ v j < p) : ∀ n, n ≤ l.length → ∀ t, t < n → restF p b l v n (pv l t) = 0
  | 0, _, t, ht => by omega
  | n + 1, hn, t, ht => by
    have hpt := pv_lt hR (show t < l.length by omega)
    have e1 := hR.2.2.2.1 t n om (by have := hR.1; omega)
    rw [hg n _ om hpt] at e1
    simp only [restF, e1]
    by_cases htn : n = t
    · subst htn
      rw [if_pos rfl, Int.mul_one, show restF p b l v n (pv l n) + (p - restF p b l v n (pv l n)) = p by omega, Int.emod_self]
    · rw [if_neg htn, restF_piv hp hR hg hv n om t om]
      simp
theorem rest_iff {p : Int} {C : Nat} {s : Sp} {v : Nat → Int} (hs : SpcP p s) (hc : s.1 = C) (hv : ∀ j, j < C → 0 ≤ v j ∧ v j < p) :
    (∀ j, j < C → restF p (rowsF s.2) (redTo p s.2.length (rowsF s.2) C).2 v s.2.length j = 0) ↔ SpnL p C s.2 v := by
  obtain ⟨C', hc', hC, hl, hF, _, hk, hg⟩ := hs.rows
  have : C' = C := by omega
  subst this
  have hp := fieldP_pos hF
  have r1 := redTo_rr hF hl.inF C' (Nat.le_refl _)
  unfold rkL at hk
  have hsp := restF_spn (p := p) (C := C') (b := rowsF s.2) (l := (redTo p s.2.length (rowsF s.2) C').2) (v := v) s.2.length (Nat.le_refl _)
  refine ⟨fun h => hsp.congr (fun j hj => ?_), fun h j hj => ?_⟩
  · rw [h j hj, Int.sub_zero, Int.sub_self]; exact Int.dvd_zero p
  · have hr := h.plus (hsp.mul (-1))
    have hb : Spn p s.2.length C' (redTo p s.2.length (rowsF s.2) C').1 (fun j => v j + -1 * (v j - restF p (rowsF s.2) (redTo p s.2.length (rowsF s.2) C').2 v s.2.length j)) :=
      hr.mono (fun i hi => (redTo_spn hF hl.inF C' (Nat.le_refl _)).2 i hi)
    have := spn_zero r1 hb (fun t ht => by
      rw [restF_piv om r1 (fun t j ht hj => hg t j om hj) hv s.2.length om t om]
      exact ⟨0, by omega⟩) j hj
    have h2 := restF_in (b := rowsF s.2) (l := (redTo p s.2.length (rowsF s.2) C').2) om hv s.2.length j hj
    exact dvd_eq (by simpa using dvd_add2 this (Int.dvd_zero p) (show restF p (rowsF s.2) (redTo p s.2.length (rowsF s.2) C').2 v s.2.length j - 0 = _ by omega)) h2 om
/-- the leading one of a row of a space -/
theorem spc_lead {p : Int} {C t : Nat} {s : Sp} (hs : SpcP p s) (hc : s.1 = C) (ht : t < s.2.length) : pv (redTo p s.2.length (rowsF s.2) C).2 t < C ∧ rowsF s.2 t (pv (redTo p s.2.length (rowsF s.2) C).2 t) = 1 ∧ ∀ j, j < pv (redTo p s.2.length (rowsF s.2) C).2 t → rowsF s.2 t j = 0 := by
  obtain ⟨C', hc', hC, hl, hF, _, hk, hg⟩ := hs.rows
  have : C' = C := by omega
  subst this
  have r1 := redTo_rr hF hl.inF C' (Nat.le_refl _)
  unfold rkL at hk
  have hpt := pv_lt r1 (show t < (redTo p s.2.length (rowsF s.2) C').2.length by omega)
  have e1 := r1.2.2.2.1 t t om ht
  rw [if_pos rfl, hg t _ ht hpt] at e1
  refine ⟨hpt, e1, fun j hj => ?_⟩
  rw [← hg t j ht om]
  exact r1.2.2.2.2.2 t j om hj
end Go.Proofs.YtcplmeajmpkpkaaGreat
