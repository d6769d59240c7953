import Derived.Test.YtcplmeajmpkpkaaGreatAloqsp
import Derived.Test.YtcplmeajmpkpkaaGreatCobqsp
import Derived.Test.YtcplmeajmpkpkaaGreatDuaqsp
import Derived.Test.YtcplmeajmpkpkaaGreatElmqsp
import Derived.Test.YtcplmeajmpkpkaaGreatImgqsp
import Derived.Test.YtcplmeajmpkpkaaGreatLCqsp
import Derived.Test.YtcplmeajmpkpkaaGreatLEqsp
import Derived.Test.YtcplmeajmpkpkaaGreatMefqsp
import Derived.Test.YtcplmeajmpkpkaaGreatMorqsp
import Derived.Test.YtcplmeajmpkpkaaGreatRdIqsp
import Derived.Test.YtcplmeajmpkpkaaGreatRdPqsp
import Derived.Test.YtcplmeajmpkpkaaGreatRrfqsp
import Derived.Test.YtcplmeajmpkpkaaGreatSpgqsp
import Derived.Test.YtcplmeajmpkpkaaGreatZsbqsp
namespace Go.Proofs.YtcplmeajmpkpkaaGreat
open Go.Lg Go.Proofs Go.RowKit
attribute [local irreducible] Code.wp wpList bodyPost Exit.then Exit.inBlock Hp Again Calls Y AT ResV QT Qn QI wpAny wpAnyQ
set_option maxRecDepth 20000
set_option maxHeartbeats 4000000

theorem AreP.mat {a b : Rp} {ms : List Mat} (h : AreP a b ms) {i : Nat} (hi : i < ms.length) : ∃ m, ms[i]? = some m ∧ ms.getD i mat0 = m ∧ MatP a.p m := by
  obtain ⟨m, hm⟩ : ∃ m, ms[i]? = some m := ⟨_, List.getElem?_eq_getElem hi⟩
  have hmd : ms.getD i mat0 = m := by simp [List.getD, hm]
  have := (h.2.2 i hi).1
  rw [hmd] at this
  exact ⟨m, hm, hmd, this⟩
theorem AreP.all {a b : Rp} {ms : List Mat} (h : AreP a b ms) : ∀ i, i < ms.length → MatP a.p (ms.getD i mat0) := fun i hi => (h.2.2 i hi).1
end Go.Proofs.YtcplmeajmpkpkaaGreat

namespace Go.Proofs.YtcplmeajmpkpkaaGreat
open Go.Lg Go.Proofs Go.RowKit

theorem dN_nat {d : List Int} {v : Nat} : dN d (v : Int) = (d.getD v 0).toNat := by rw [dN, Int.toNat_natCast]
theorem AreP.get {a b : Rp} {fs : List Mat} (h : AreP a b fs) {v : Nat} (hv : v < fs.length) : ∃ m, fs[v]? = some m ∧ fs.getD v mat0 = m ∧ CellsP a.p m (dN b.d v) (dN a.d v) ∧ dN a.d v ≤ 4 ∧ dN b.d v ≤ 4 := by
  obtain ⟨m, h1, h2, h3⟩ := h.mat hv
  obtain ⟨_, m2, m3⟩ := h.2.2 v hv
  rw [h2] at m2 m3
  have ha := h.1.1.dg v
  have hb := h.1.2.1.dg v
  refine ⟨m, h1, h2, cellsP_of h3 (by rw [dN_nat]; omega) (by rw [dN_nat]; omega), by rw [dN_nat]; omega, by rw [dN_nat]; omega⟩
end Go.Proofs.YtcplmeajmpkpkaaGreat

namespace Go.Proofs.YtcplmeajmpkpkaaGreat
open Go.Lg Go.Proofs Go.RowKit

theorem spn_sum {p : Int} {R C : Nat} {g : Nat → Nat → Int} {c : Nat → Int} : ∀ n, n ≤ R → Spn p R C g (fun j => sumN (fun t => c t * g t j) n)
  | 0, _ => .nil (fun j _ => Int.dvd_zero p)
  | n + 1, h => (spn_sum n om).plus ((Spn.row (show n < R by omega)).mul (c n))
theorem rank_tr_le {p : Int} {R C : Nat} {f : Nat → Nat → Int} (hF : FieldP p) (hin : inF p R C f) : (redTo p C (trF f) R).2.length ≤ (redTo p R f C).2.length := by
  have rr := redTo_rr hF hin C (Nat.le_refl _)
  have sp := (redTo_spn hF hin C (Nat.le_refl _)).2
  have hA : inF p (redTo p R f C).2.length R (fun t i => f i (pv (redTo p R f C).2 t)) := fun t i ht hi => hin i _ hi (pv_lt rr ht)
  have h1 := (red_sub (R := C) (S := (redTo p R f C).2.length) (C := R) (f := trF f) hF (fun i j hi hj => hin j i hj hi) hA (fun j hj => by
    refine (spn_sum (c := fun t => (redTo p R f C).1 t j) (redTo p R f C).2.length (Nat.le_refl _)).congr (fun i hi => ?_)
    have := spn_lin rr (sp i hi) j hj
    rwa [sumN_congr (fun t _ => Int.mul_comm _ _)] at this)).1
  exact Nat.le_trans h1 (redTo_rr hF hA R (Nat.le_refl _)).1
theorem rank_tr {p : Int} {R C : Nat} {f : Nat → Nat → Int} (hF : FieldP p) (hin : inF p R C f) : (redTo p C (trF f) R).2.length = (redTo p R f C).2.length := by
  have h1 := rank_tr_le hF hin
  have h2 := rank_tr_le (R := C) (C := R) (f := trF f) hF (fun i j hi hj => hin j i hj hi)
  exact Nat.le_antisymm h1 h2
end Go.Proofs.YtcplmeajmpkpkaaGreat

namespace Go.Proofs.YtcplmeajmpkpkaaGreat
open Go.Lg Go.Proofs Go.RowKit

theorem rank_of_ind {p : Int} {R C : Nat} {f : Nat → Nat → Int} (hF : FieldP p) (hin : inF p R C f) (h : Ind p R f 0 C) : (redTo p R f C).2.length = R := by
  have hp := fieldP_pos hF
  have hI := ind_red hF hin h C (Nat.le_refl _)
  obtain ⟨r1, r2, r3, _, r5, _⟩ := redTo_rr hF hin C (Nat.le_refl _)
  apply Classical.byContradiction
  intro hne
  have hlt : (redTo p R f C).2.length < R := by omega
  have := hI (fun i => if i = (redTo p R f C).2.length then 1 else 0) (fun j _ hj => by
    rw [sumN_congr (g := fun _ => 0) (fun q hq => ?_), sumN_zero]
    · exact ⟨0, by omega⟩
    · split
      · rename_i hq'
        subst hq'
        rw [r5 _ j (Nat.le_refl _) hlt hj, Int.mul_zero]
      · exact Int.zero_mul _) (redTo p R f C).2.length hlt
  rw [if_pos rfl] at this
  have := Int.le_of_dvd om this
  omega
theorem spc_ind {p : Int} {C : Nat} {s : Sp} (hs : SpcP p s) (hc : s.1 = C) : Ind p s.2.length (rowsF s.2) 0 C := fun c hcs i hi => by
  obtain ⟨C', hc', hC, hl, hF, _, hk, hg⟩ := hs.rows
  have : C' = C := by omega
  subst this
  have r1 := redTo_rr hF hl.inF C' (Nat.le_refl _)
  unfold rkL at hk
  have hpt := pv_lt r1 (show i < (redTo p s.2.length (rowsF s.2) C').2.length by omega)
  have h1 := hcs _ (Nat.zero_le _) hpt
  rw [sumN_congr (g := fun t => if t = i then c t else 0) (fun t ht => by
    rw [← hg t _ ht hpt, r1.2.2.2.1 i t om ht]
    split
    · rename_i e; subst e; simp
    · simp), sumN_pick (f := c), if_pos hi] at h1
  exact h1
theorem meeK_ort {p : Int} {C : Nat} {M : List (List Int)} (hF : FieldP p) (hM : RowsP p C M) {s j : Nat} (hs : s < (meeK p C M).length) (hj : j < C) : p ∣ sumN (fun i => rowsF (meeK p C M) s i * rowsF M i j) M.length := by
  have h1 := ker_apply hF (fromF_in hM) (xs := (meeK p C M)[s]) (List.getElem_mem hs) j hj
  rw [imv_sum] at h1
  have h2 := Int.dvd_of_emod_eq_zero h1
  have e : ∀ i, rowsF (meeK p C M) s i = (meeK p C M)[s].getD i 0 := fun i => by simp [rowsF, List.getD, hs]
  rw [sumN_congr (g := fun i => fromF M j i * (meeK p C M)[s].getD i 0) (fun i _ => by rw [e, Int.mul_comm]; rfl)]
  exact h2
theorem meeK_unit {p : Int} {C : Nat} {M : List (List Int)} (hF : FieldP p) (hM : RowsP p C M) {t : Nat} (ht : t < (meeK p C M).length) : ∃ q, q < M.length ∧ ∀ s, s < (meeK p C M).length → rowsF (meeK p C M) s q = if s = t then 1 else 0 := by
  have hR := redTo_rr hF (fromF_in hM) M.length (Nat.le_refl _)
  have hl : (meeK p C M).length = (freeN (redTo p C (fromF M) M.length).2 M.length).length := by rw [meeK, kerL_length]
  have hget : ∀ u, u < (meeK p C M).length → ∃ k : Nat, (freeN (redTo p C (fromF M) M.length).2 M.length).getD u 0 = k ∧ k < M.length ∧ ¬ (k : Int) ∈ (redTo p C (fromF M) M.length).2 := fun u hu => by
    have hm : (freeN (redTo p C (fromF M) M.length).2 M.length).getD u 0 ∈ freeN (redTo p C (fromF M) M.length).2 M.length := by
      rw [List.getD, List.getElem?_eq_getElem om]
      exact List.getElem_mem om
    have h1 := freeN_mem hm
    have h2 := freeN_not hm
    refine ⟨((freeN (redTo p C (fromF M) M.length).2 M.length).getD u 0).toNat, by omega, by omega, ?_⟩
    rw [Int.toNat_of_nonneg h1.1]
    exact h2
  obtain ⟨q, hq, hqM, hqn⟩ := hget t ht
  refine ⟨q, hqM, fun u hu => ?_⟩
  obtain ⟨k, hk, hkM, hkn⟩ := hget u hu
  have e : rowsF (meeK p C M) u q = kerV p (redTo p C (fromF M) M.length).1 (redTo p C (fromF M) M.length).2 k (redTo p C (fromF M) M.length).2.length q := by
    have h3 : (meeK p C M).getD u [] = mkv M.length (kerV p (redTo p C (fromF M) M.length).1 (redTo p C (fromF M) M.length).2 k (redTo p C (fromF M) M.length).2.length) := by
      unfold meeK kerL
      rw [List.getD, List.getElem?_map, List.getElem?_eq_getElem om]
      have : (freeN (redTo p C (fromF M) M.length).2 M.length)[u]'om = (k : Int) := by
        rw [← hk, List.getD, List.getElem?_eq_getElem om]; rfl
      simp only [Option.map_some, Option.getD_some, this, Int.toNat_natCast]
    unfold rowsF
    rw [h3]
    exact mkv_get hqM
  rw [e, kerV_un _ (pv_ne hqn hR)]
  by_cases hut : u = t
  · subst hut
    rw [if_pos om, if_pos rfl]
  · rw [if_neg hut, if_neg]
    intro he
    subst he
    rcases Nat.lt_or_gt_of_ne hut with h | h
    · have := freeN_up (l := (redTo p C (fromF M) M.length).2) M.length u t h om
      omega
    · have := freeN_up (l := (redTo p C (fromF M) M.length).2) M.length t u h om
      omega
theorem rows_app_l {A B : List (List Int)} {i : Nat} (h : i < A.length) : rowsF (A ++ B) i = rowsF A i := by
  funext j
  unfold rowsF
  simp only [List.getD_eq_getElem?_getD, List.getElem?_append_left h]
theorem rows_app_r {A B : List (List Int)} {i : Nat} : rowsF (A ++ B) (A.length + i) = rowsF B i := by
  funext j
  unfold rowsF
  simp only [List.getD_eq_getElem?_getD]
  rw [List.getElem?_append_right om, Nat.add_sub_cancel_left]
theorem meeL_at {p : Int} {C : Nat} {A B : List (List Int)} {s j : Nat} (hs : s < (meeK p C (A ++ B)).length) (hj : j < C) : rowsF (meeL p C A B) s j = sumN (fun i => rowsF (meeK p C (A ++ B)) s i * rowsF A i j) A.length % p := by
  have : (meeL p C A B).getD s [] = mkv C (mulF p A.length (rowsF (meeK p C (A ++ B))) (rowsF A) s) := by
    unfold meeL rowL
    simp [List.getD, hs]
  unfold rowsF
  rw [this, mkv_get hj, mulF_sum]
  rfl
theorem meeL_ind {p : Int} {C : Nat} {A B : List (List Int)} (hF : FieldP p) (hA : RowsP p C A) (hB : RowsP p C B) (iA : Ind p A.length (rowsF A) 0 C) (iB : Ind p B.length (rowsF B) 0 C) : Ind p (meeK p C (A ++ B)).length (rowsF (meeL p C A B)) 0 C := fun c hc t ht => by
  have hM := hA.app hB
  obtain ⟨d, hd⟩ : ∃ d : Nat → Int, d = fun i => sumN (fun s => c s * rowsF (meeK p C (A ++ B)) s i) (meeK p C (A ++ B)).length := ⟨_, rfl⟩
  have ex : ∀ (G : Nat → Nat → Int) (N j : Nat), sumN (fun s => c s * sumN (fun i => rowsF (meeK p C (A ++ B)) s i * G i j) N) (meeK p C (A ++ B)).length = sumN (fun i => d i * G i j) N := fun G N j => by
    rw [sumN_congr (g := fun s => sumN (fun i => c s * rowsF (meeK p C (A ++ B)) s i * G i j) N) (fun s _ => by
      rw [← sumN_mull]; exact sumN_congr (fun i _ => (Int.mul_assoc ..).symm)), sumN_comm]
    exact sumN_congr (fun i _ => by rw [sumN_mul, hd])
  have dA : ∀ i, i < A.length → p ∣ d i := iA d (fun j h0 hj => by
    have h1 : p ∣ sumN (fun s => c s * rowsF (meeL p C A B) s j) (meeK p C (A ++ B)).length - sumN (fun s => c s * sumN (fun i => rowsF (meeK p C (A ++ B)) s i * rowsF A i j) A.length) (meeK p C (A ++ B)).length := dvd_sumN (fun s hs => by
      rw [meeL_at hs hj, ← Int.mul_sub]
      exact Int.dvd_trans emod_sub (Int.dvd_mul_left ..))
    have h2 := dvd_of_sub h1 (hc j h0 hj)
    rwa [ex] at h2)
  have dM : ∀ j, j < C → p ∣ sumN (fun i => d i * rowsF (A ++ B) i j) (A ++ B).length := fun j hj => by
    rw [← ex]
    exact dvd_sumN0 (fun s hs => Int.dvd_trans (meeK_ort hF hM hs hj) (Int.dvd_mul_left ..))
  have dB : ∀ i, i < B.length → p ∣ d (A.length + i) := iB (fun i => d (A.length + i)) (fun j h0 hj => by
    have h1 := dM j hj
    rw [List.length_append, sumN_split] at h1
    have h2 : p ∣ sumN (fun i => d i * rowsF (A ++ B) i j) A.length := dvd_sumN0 (fun i hi => Int.dvd_trans (dA i hi) (Int.dvd_mul_right ..))
    have h3 := (Int.dvd_iff_dvd_of_dvd_add h1).1 h2
    rwa [sumN_congr (g := fun i => d (A.length + i) * rowsF B i j) (fun i _ => by rw [rows_app_r])] at h3)
  obtain ⟨q, hq, hu⟩ := meeK_unit hF hM ht
  have hdq : p ∣ d q := by
    by_cases hqa : q < A.length
    · exact dA q hqa
    · rw [List.length_append] at hq
      have := dB (q - A.length) om
      rwa [show A.length + (q - A.length) = q by omega] at this
  rw [hd] at hdq
  simp only at hdq
  rw [sumN_congr (g := fun s => if s = t then c s else 0) (fun s hs => by
    rw [hu s hs]
    split <;> simp), sumN_pick (f := c), if_pos ht] at hdq
  exact hdq
theorem meeL_length {p : Int} {C : Nat} {A B : List (List Int)} : (meeL p C A B).length = (meeK p C (A ++ B)).length := by
  unfold meeL
  rw [rowL_length]
theorem meeK_dim {p : Int} {C : Nat} {M : List (List Int)} (hF : FieldP p) (hM : RowsP p C M) : (meeK p C M).length + rkL p C M = M.length := by
  have h1 := ker_len hF (fromF_in hM)
  have h2 := rank_tr hF hM.inF
  rw [meeK, kerL_length]
  unfold rkL
  rw [← h2]
  exact h1
theorem mee_dims {p : Int} {a b : Sp} (h : SumP p a b) : (meeS p a b).2.length + (sumS p a b).2.length = a.2.length + b.2.length := by
  obtain ⟨C, hc, hC, hl, hF, hn, _⟩ := h.1.rows
  obtain ⟨C', hc', hC', hl', _, hn', _⟩ := h.2.1.rows
  have : C' = C := by have := h.2.2; omega
  subst this
  rw [meeS, if_pos h, sumS, if_pos h, hc]
  simp only [Int.toNat_natCast]
  rw [basL_len, basL_len]
  have hp := fieldP_pos hF
  have h1 := rank_of_ind hF (meeL_rows (A := a.2) (B := b.2) (C := C') hp.1).inF (by
    rw [meeL_length]
    exact meeL_ind hF hl hl' (spc_ind h.1 hc) (spc_ind h.2.1 hc'))
  have h2 := meeK_dim hF (hl.app hl')
  rw [List.length_append] at h2
  have h3 : rkL p C' (meeL p C' a.2 b.2) = (meeL p C' a.2 b.2).length := h1
  rw [h3, meeL_length]
  exact h2
theorem spnL_sum {p : Int} {C : Nat} {A : List (List Int)} {c : Nat → Int} : SpnL p C A (fun j => sumN (fun t => c t * rowsF A t j) A.length) := spn_sum A.length (Nat.le_refl _)
theorem meeL_in {p : Int} {C : Nat} {A B : List (List Int)} (hF : FieldP p) (hA : RowsP p C A) (hB : RowsP p C B) : ∀ x ∈ meeL p C A B, SpnL p C A (vecF x) ∧ SpnL p C B (vecF x) := fun x hx => by
  obtain ⟨s, hs, e⟩ := rowsF_mem hx
  rw [meeL_length] at hs
  have hat : ∀ j, j < C → p ∣ vecF x j - sumN (fun i => rowsF (meeK p C (A ++ B)) s i * rowsF A i j) A.length := fun j hj => by
    rw [← e, meeL_at hs hj]
    exact emod_sub
  refine ⟨spnL_sum.congr hat, (spnL_sum (c := fun i => - rowsF (meeK p C (A ++ B)) s (A.length + i))).congr (fun j hj => ?_)⟩
  have h1 := meeK_ort hF (hA.app hB) hs hj
  rw [List.length_append, sumN_split, sumN_congr (g := fun i => rowsF (meeK p C (A ++ B)) s i * rowsF A i j) (fun i hi => by rw [rows_app_l hi]),
    sumN_congr (f := fun i => rowsF (meeK p C (A ++ B)) s (A.length + i) * rowsF (A ++ B) (A.length + i) j) (g := fun i => rowsF (meeK p C (A ++ B)) s (A.length + i) * rowsF B i j) (fun i hi => by rw [rows_app_r])] at h1
  have h2 := hat j hj
  rw [sumN_congr (g := fun i => -(rowsF (meeK p C (A ++ B)) s (A.length + i) * rowsF B i j)) (fun i _ => by rw [Int.neg_mul]), sumN_neg]
  obtain ⟨y, hy⟩ := h1
  obtain ⟨z, hz⟩ := h2
  exact ⟨y + z, by rw [Int.mul_add]; omega⟩
theorem mee_law {p : Int} {a b : Sp} (h : SumP p a b) : SpcP p (meeS p a b) ∧ SpcP p (sumS p a b) ∧ WthP p (meeS p a b) a ∧ WthP p (meeS p a b) b ∧ WthP p a (sumS p a b) := by
  obtain ⟨C, hc, hC, hl, hF, hn, hk, _⟩ := h.1.rows
  obtain ⟨C', hc', hC', hl', _, hn', hk', _⟩ := h.2.1.rows
  have : C' = C := by have := h.2.2; omega
  subst this
  have hp := fieldP_pos hF
  have e1 : meeS p a b = ((C' : Int), basL p C' (meeL p C' a.2 b.2)) := by rw [meeS, if_pos h, hc]; rfl
  have e2 : sumS p a b = ((C' : Int), basL p C' (a.2 ++ b.2)) := by rw [sumS, if_pos h, hc]; rfl
  have hm := meeL_rows (A := a.2) (B := b.2) (C := C') hp.1
  have hab := hl.app hl'
  have s1 : SpcP p (meeS p a b) := by rw [e1]; exact spcP_span hF hC hm
  have s2 : SpcP p (sumS p a b) := by rw [e2]; exact spcP_span hF hC hab
  have hbm := basL_rows hF hm
  have hba := basL_rows hF hab
  have join : ∀ {X Y : List (List Int)}, RowsP p C' X → RowsP p C' Y → (∀ x ∈ X, SpnL p C' Y (vecF x)) → rkL p C' (X ++ Y) = rkL p C' Y := fun {X Y} hX hY hs =>
    (rk_join hF (hX.app hY) hY (fun x hx => List.mem_append.1 hx) (fun x hx => List.mem_append_left _ hx) (fun x hx => List.mem_append_right _ hx)).2 hs
  refine ⟨s1, s2, ⟨⟨s1, h.1, by rw [e1, hc]⟩, ?_⟩, ⟨⟨s1, h.2.1, by rw [e1, hc']⟩, ?_⟩, ⟨⟨h.1, s2, by rw [e2, hc]⟩, ?_⟩⟩
  · rw [e1]
    simp only [Int.toNat_natCast]
    rw [join hbm hl (fun x hx => spnL_mono (fun y hy => (meeL_in hF hl hl' y hy).1) (basL_spn hF hm x hx)), hk]
  · rw [e1]
    simp only [Int.toNat_natCast]
    rw [join hbm hl' (fun x hx => spnL_mono (fun y hy => (meeL_in hF hl hl' y hy).2) (basL_spn hF hm x hx)), hk']
  · rw [e2, hc]
    simp only [Int.toNat_natCast]
    rw [join hl hba (fun x hx => basL_spn' hF hab x (List.mem_append_left _ hx)), ← basL_len, basL_idem hF hab]
end Go.Proofs.YtcplmeajmpkpkaaGreat
