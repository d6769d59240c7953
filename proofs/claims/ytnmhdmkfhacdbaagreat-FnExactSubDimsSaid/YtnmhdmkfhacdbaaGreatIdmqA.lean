import Derived.Test.YtnmhdmkfhacdbaaGreatImsqA
namespace Go.Proofs.YtnmhdmkfhacdbaaGreat
open Go.Lg Go.Proofs Go.RowKit

/-! ### the reduced rows of reduced rows -/
theorem basL_get {p : Int} {C : Nat} {M : List (List Int)} {x : List Int} (h : x ∈ basL p C M) : ∃ i, i < rkL p C M ∧ x = mkv C ((redTo p M.length (rowsF M) C).1 i) := by
  simp only [basL, rowL, List.mem_map, List.mem_range] at h
  obtain ⟨i, hi, rfl⟩ := h
  exact ⟨i, hi, rfl⟩
theorem vecF_mkv {C j : Nat} {g : Nat → Int} (h : j < C) : vecF (mkv C g) j = g j := mkv_get h
theorem basL_rows {p : Int} {C : Nat} {M : List (List Int)} (hF : FieldP p) (hM : RowsP p C M) : RowsP p C (basL p C M) := fun x hx => by
  have hp := fieldP_pos hF
  obtain ⟨i, hi, rfl⟩ := basL_get hx
  have r1 := redTo_rr hF hM.inF C (Nat.le_refl _)
  have hle : rkL p C M ≤ M.length := r1.1
  have hin := redTo_in (p := p) (by omega) hM.inF C
  refine ⟨by simp, fun y hy => ?_⟩
  obtain ⟨q, hq, rfl⟩ := List.mem_map.1 hy
  have := hin.1 i q (by omega) (List.mem_range.1 hq)
  omega
theorem basL_spn {p : Int} {C : Nat} {M : List (List Int)} (hF : FieldP p) (hM : RowsP p C M) : ∀ x ∈ basL p C M, SpnL p C M (vecF x) := fun x hx => by
  obtain ⟨i, hi, rfl⟩ := basL_get hx
  have r1 := redTo_rr hF hM.inF C (Nat.le_refl _)
  have hle : rkL p C M ≤ M.length := r1.1
  have s1 := (redTo_spn hF hM.inF C (Nat.le_refl _)).1 i (by omega)
  exact Spn.congr s1 (fun j hj => by rw [vecF_mkv hj, Int.sub_self]; exact Int.dvd_zero p)
theorem basL_spn' {p : Int} {C : Nat} {M : List (List Int)} (hF : FieldP p) (hM : RowsP p C M) : ∀ x ∈ M, SpnL p C (basL p C M) (vecF x) := fun x hx => by
  have h := (spn_red hF hM).1 (spnL_mem hx)
  refine Spn.mono (fun i hi => ?_) h
  have hb : i < (basL p C M).length := by rw [basL_len]; exact hi
  refine Spn.congr (Spn.row hb) (fun j hj => ?_)
  have e : rowsF (basL p C M) i j = (redTo p M.length (rowsF M) C).1 i j := by
    unfold rkL at hi
    simp only [rowsF, basL, rowL, List.getD]
    rw [List.getElem?_map, List.getElem?_range hi]
    exact mkv_get hj
  rw [e, Int.sub_self]
  exact Int.dvd_zero p
theorem basL_idem {p : Int} {C : Nat} {M : List (List Int)} (hF : FieldP p) (hM : RowsP p C M) : basL p C (basL p C M) = basL p C M := basL_span hF (basL_rows hF hM) hM (basL_spn hF hM) (basL_spn' hF hM)
theorem rkL_le {p : Int} {C : Nat} {M : List (List Int)} : rkL p C M ≤ C := redL_length C
theorem spcP_span {p : Int} {C : Nat} {M : List (List Int)} (hF : FieldP p) (hC : C ≤ 8) (hM : RowsP p C M) : SpcP p ((C : Int), basL p C M) := by
  have hl := rkL_le (p := p) (C := C) (M := M)
  rw [← basL_len] at hl
  refine ⟨⟨hF, ⟨by simp only; omega, by simp only; omega⟩, by simp only; omega, fun v hv => ?_⟩, ?_⟩
  · obtain ⟨h1, h2⟩ := basL_rows hF hM v hv
    exact ⟨by simp only; omega, hF, by omega, h2⟩
  · simp only [Int.toNat_natCast]
    exact basL_idem hF hM
end Go.Proofs.YtnmhdmkfhacdbaaGreat
