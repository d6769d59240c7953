import Derived.Test.YtljgmmmgnfgbhaaAppqel
import Derived.Test.YtljgmmmgnfgbhaaInvqel
import Derived.Test.YtljgmmmgnfgbhaaMltqel
import Derived.Test.YtljgmmmgnfgbhaaSolqel
namespace Go.Proofs.Ytljgmmmgnfgbhaa
open Go.Lg Go.Proofs Go.RowKit

/-! ### the facts of the law of elimination (plain) -/
theorem elm1 {p : Int} {m : Mat} (h : MatP p m) : rankF p m + (kerB p m).length = m.2.1 ∧ ((imgL p m).length : Int) = rankF p m ∧ 0 ≤ rankF p m ∧ rankF p m ≤ 8 := by
  obtain ⟨R, C, f, rfl, hR, hC, hF, hin⟩ := matP_mk h
  have hk := ker_len hF hin
  rw [rankF, if_pos h, redL_mk, kerB_mk hF hin h, imgL_mk h]
  simp only [kerL, pickC, List.length_map]
  have := (redTo_rr hF hin C (Nat.le_refl _)).1
  refine ⟨?_, by first | trivial | omega, by omega⟩
  show ((redTo p R f C).2.length : Int) + ((freeN (redTo p R f C).2 C).length : Int) = (C : Int)
  omega
theorem kerV_rng {p : Int} {g : Nat → Nat → Int} {piv : List Int} {k : Nat} (hp : 2 ≤ p) : ∀ n q, 0 ≤ kerV p g piv k n q ∧ kerV p g piv k n q < p
  | 0, q => by rw [kerV_0]; split <;> omega
  | n + 1, q => by
    rw [kerV_s]
    split
    · exact ⟨Int.emod_nonneg _ (by omega), Int.emod_lt_of_pos _ (by omega)⟩
    · exact kerV_rng hp n q
theorem inP_mkv {p : Int} {n : Nat} {g : Nat → Int} (h : ∀ i, i < n → 0 ≤ g i ∧ g i < p) : InP 0 (p - 1) (mkv n g) := fun x hx => by
  simp only [mkv, List.mem_map, List.mem_range] at hx
  obtain ⟨i, hi, rfl⟩ := hx
  have := h i hi
  omega
theorem ker_row {p : Int} {m : Mat} {xs : List Int} (h : MatP p m) (hx : xs ∈ kerB p m) : AppP p m xs ∧ ∀ x ∈ appX p m xs, x = 0 := by
  obtain ⟨R, C, f, rfl, hR, hC, hF, hin⟩ := matP_mk h
  have hp := fieldP_pos hF
  rw [kerB_mk hF hin h] at hx
  have hA : AppP p ((R : Int), (C : Int), mk R C f) xs := by
    obtain ⟨k, hk, e⟩ := List.mem_map.1 hx
    subst e
    exact ⟨h, ⟨hF, by rw [mkv_length]; omega, inP_mkv (fun i _ => kerV_rng (by omega) _ i)⟩, by simp⟩
  refine ⟨hA, fun x hx' => ?_⟩
  rw [appX, if_pos hA] at hx'
  simp only [Int.toNat_natCast] at hx'
  rw [imv_mk] at hx'
  simp only [mkv, List.mem_map, List.mem_range] at hx'
  obtain ⟨i, hi, rfl⟩ := hx'
  exact ker_apply hF hin hx i hi
theorem sum_zero : ∀ {xs : List Int}, (∀ x ∈ xs, x = 0) → xs.sum = 0
  | [], _ => rfl
  | x :: xs, h => by
    rw [List.sum_cons, h x (by simp), sum_zero (fun y hy => h y (by simp [hy]))]; rfl
theorem solG_rng {p : Int} {R C : Nat} {g : Nat → Nat → Int} {l : List Int} (hp : 2 ≤ p) (hg : inF p R (C + 1) g) (hl : l.length ≤ R) : ∀ m q, m ≤ l.length → 0 ≤ solG g C l m q ∧ solG g C l m q < p
  | 0, q, _ => ⟨Int.le_refl _, by show (0 : Int) < p; omega⟩
  | m + 1, q, hm => by
    rw [solG_s]
    split
    · exact hg m C (by omega) (by omega)
    · exact solG_rng hp hg hl m q (by omega)
theorem sol1 {p : Int} {m : Mat} {v : List Int} (hb : sysB p m v = true) : AppP p m (sysX p m v) ∧ appX p m (sysX p m v) = v := by
  by_cases hS : SysP p m v
  · rw [sysB, if_pos hS] at hb
    rw [sysX, if_pos hS]
    obtain ⟨hM, hV, hvl⟩ := hS
    obtain ⟨R, C, f, rfl, hR, hC, hF, hin⟩ := matP_mk hM
    have hp := fieldP_pos hF
    have hvl' : v.length = R := by simp only at hvl; omega
    simp only [Int.toNat_natCast] at hb ⊢
    rw [sys_mk.2] at hb
    rw [sys_mk.1]
    have hsy := inF_sys hin hV.2.2 hvl'
    have hnot : ¬ (C : Int) ∈ (redTo p R (sysF C f v) (C + 1)).2 := by simpa [solB] using hb
    have hri := redTo_in (f := sysF C f v) (p := p) (R := R) (C := C + 1) (by omega) hsy (C + 1)
    have hA : AppP p ((R : Int), (C : Int), mk R C f) (solX p R C f v) := by
      rw [solX, if_neg hnot]
      exact ⟨hM, ⟨hF, by rw [mkv_length]; omega, inP_mkv (fun i _ => solG_rng (R := R) (by omega) hri.1 hri.2 _ i (Nat.le_refl _))⟩, by simp⟩
    refine ⟨hA, ?_⟩
    rw [appX, if_pos hA]
    simp only [Int.toNat_natCast]
    rw [imv_mk, mkv_ext (fun i hi => sol_apply hF hin hV.2.2 hvl' hb i hi)]
    exact (mkv_of hvl').symm
  · rw [sysB, if_neg hS] at hb; cases hb
theorem invF_rng {p : Int} {n : Nat} {f : Nat → Nat → Int} (hF : FieldP p) (h : inF p n n f) : inF p n n (invF p n f) := fun i j hi hj => by
  have hp := fieldP_pos hF
  exact (redTo_in (f := augF n f) (p := p) (R := n) (C := n + n) (by omega) (inF_bes h (inF_id (by omega))) (n + n)).1 i (n + j) hi (by omega)
theorem inv1 {p : Int} {m : Mat} (h : InvP p m) : MlP p m (invM2 p m) ∧ mlM p m (invM2 p m) = idnM m.1 ∧ MlP p (invM2 p m) m ∧ mlM p (invM2 p m) m = idnM m.1 ∧ (0 < m.1 → nilB p m = false) ∧ (0 ≤ m.1 ∧ m.1 ≤ 8) := by
  have hI := h
  obtain ⟨hM, hq, hl⟩ := h
  obtain ⟨R, f, rfl, hR, hF, hin⟩ := pwM_of hM hq
  have hp := fieldP_pos hF
  rw [redL_mk] at hl
  simp only at hl
  have hl' : (redTo p R f R).2.length = R := by omega
  have e1 : invM2 p (↑R, ↑R, mk R R f) = (↑R, ↑R, mk R R (invF p R f)) := by
    rw [invM2, if_pos hI]
    simp only [Int.toNat_natCast]
    rw [invF_congr]
  rw [e1]
  have hd := invF_rng hF hin
  have hMd := matP_of hF hR hR hd
  have hs := inv_sides hF hin hl'
  have a1 : MlP p ((R : Int), (R : Int), mk R R f) ((R : Int), (R : Int), mk R R (invF p R f)) := ⟨hM, hMd, rfl⟩
  have a2 : MlP p ((R : Int), (R : Int), mk R R (invF p R f)) ((R : Int), (R : Int), mk R R f) := ⟨hMd, hM, rfl⟩
  have eI : idnM (R : Int) = ((R : Int), (R : Int), mk R R idF) := by
    rw [idnM, if_pos ⟨by omega, by omega⟩, Int.toNat_natCast]
  refine ⟨a1, ?_, a2, ?_, fun h0 => ?_, by simp only; omega, by simp only; omega⟩
  · rw [mlM_mk a1, eI, mk_ext (fun i j hi hj => hs.1 i j hi hj)]
  · rw [mlM_mk a2, eI, mk_ext (fun i j hi hj => hs.2 i j hi hj)]
  · simp only at h0
    have hn := inv_nil hF hin hl' (by omega) 8
    rw [nilB]
    simp only [Int.toNat_natCast]
    rw [nil_mk, decide_eq_false (fun hz => hn (all0_mk.1 hz)), Bool.and_false]
end Go.Proofs.Ytljgmmmgnfgbhaa
