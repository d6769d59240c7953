import Derived.Test.YtijjkfbkihgfgaaGreatCmsqho
import Derived.Test.YtijjkfbkihgfgaaGreatCobqho
import Derived.Test.YtijjkfbkihgfgaaGreatCreqho
import Derived.Test.YtijjkfbkihgfgaaGreatCrsqho
import Derived.Test.YtijjkfbkihgfgaaGreatHspqho
import Derived.Test.YtijjkfbkihgfgaaGreatIvsqho
import Derived.Test.YtijjkfbkihgfgaaGreatLEqho
import Derived.Test.YtijjkfbkihgfgaaGreatMphqho
import Derived.Test.YtijjkfbkihgfgaaGreatMssqho
import Derived.Test.YtijjkfbkihgfgaaGreatMulqho
import Derived.Test.YtijjkfbkihgfgaaGreatMxfqho
import Derived.Test.YtijjkfbkihgfgaaGreatNumqho
import Derived.Test.YtijjkfbkihgfgaaGreatRdIqho
import Derived.Test.YtijjkfbkihgfgaaGreatSolqho
import Derived.Test.YtijjkfbkihgfgaaGreatSpbqho
import Derived.Test.YtijjkfbkihgfgaaGreatSpmqho
namespace Go.Proofs.YtijjkfbkihgfgaaGreat
open Go.Lg Go.Proofs Go.RowKit

theorem sumN_comm {F : Nat → Nat → Int} {m : Nat} : ∀ n, sumN (fun i => sumN (fun j => F i j) m) n = sumN (fun j => sumN (fun i => F i j) n) m
  | 0 => by simp only [sumN]; rw [sumN_zero]
  | n + 1 => by
    simp only [sumN]
    rw [sumN_comm n, ← sumN_add]
theorem sumN_mull {f : Nat → Int} {x : Int} {n : Nat} : sumN (fun i => x * f i) n = x * sumN f n := by
  rw [sumN_congr (g := fun i => f i * x) (fun i _ => Int.mul_comm ..), sumN_mul, Int.mul_comm]
theorem emod_dvd {p x y : Int} (h : p ∣ x - y) : x % p = y % p := by
  obtain ⟨c, hc⟩ := h
  have : x = y + p * c := by omega
  rw [this, Int.add_mul_emod_self_left]
end Go.Proofs.YtijjkfbkihgfgaaGreat

namespace Go.Proofs.YtijjkfbkihgfgaaGreat
open Go.Lg Go.Proofs Go.RowKit

theorem red_ort {p : Int} {R C : Nat} {f : Nat → Nat → Int} {x : Nat → Int} (hF : FieldP p) (hin : inF p R C f) (h : ∀ i, i < R → p ∣ sumN (fun j => (redTo p R f C).1 i j * x j) C) : ∀ i, i < R → p ∣ sumN (fun j => f i j * x j) C :=
  fun i hi => spn_ort h ((redTo_spn hF hin C (Nat.le_refl _)).2 i hi)
theorem ort_red {p : Int} {R C : Nat} {f : Nat → Nat → Int} {x : Nat → Int} (hF : FieldP p) (hin : inF p R C f) (h : ∀ i, i < R → p ∣ sumN (fun j => f i j * x j) C) : ∀ i, i < R → p ∣ sumN (fun j => (redTo p R f C).1 i j * x j) C :=
  fun i hi => spn_ort h ((redTo_spn hF hin C (Nat.le_refl _)).1 i hi)
end Go.Proofs.YtijjkfbkihgfgaaGreat

namespace Go.Proofs.YtijjkfbkihgfgaaGreat
open Go.Lg Go.Proofs Go.RowKit
attribute [local irreducible] Code.wp wpList bodyPost Exit.then Exit.inBlock Hp Again Calls Y AT ResV QT Qn QI wpAny wpAnyQ
set_option maxRecDepth 20000
set_option maxHeartbeats 4000000

theorem AreP.mat {a b : Rp} {ms : List Mat} (h : AreP a b ms) {i : Nat} (hi : i < ms.length) : ∃ m, ms[i]? = some m ∧ ms.getD i mat0 = m ∧ MatP a.p m := by
  obtain ⟨m, hm⟩ : ∃ m, ms[i]? = some m := ⟨_, List.getElem?_eq_getElem hi⟩
  have hmd : ms.getD i mat0 = m := by simp [List.getD, hm]
  have := (h.2.2 i hi).1
  rw [hmd] at this
  exact ⟨m, hm, hmd, this⟩
theorem AreP.all {a b : Rp} {ms : List Mat} (h : AreP a b ms) : ∀ i, i < ms.length → MatP a.p (ms.getD i mat0) := fun i hi => (h.2.2 i hi).1
end Go.Proofs.YtijjkfbkihgfgaaGreat

namespace Go.Proofs.YtijjkfbkihgfgaaGreat
open Go.Lg Go.Proofs Go.RowKit

theorem inP_mkv {p : Int} {n : Nat} {g : Nat → Int} (h : ∀ i, i < n → 0 ≤ g i ∧ g i < p) : InP 0 (p - 1) (mkv n g) := fun x hx => by
  simp only [mkv, List.mem_map, List.mem_range] at hx
  obtain ⟨i, hi, rfl⟩ := hx
  have := h i hi
  omega
end Go.Proofs.YtijjkfbkihgfgaaGreat

namespace Go.Proofs.YtijjkfbkihgfgaaGreat
open Go.Lg Go.Proofs Go.RowKit

theorem idx_mem {a b : Rp} {i r k N : Nat} (hi : i < N) (hr : r < dN b.d (a.q.2.2.getD i 0)) (hk : k < dN a.d (a.q.2.1.getD i 0)) : (i, r, k) ∈ idxN a b N := by
  simp only [idxN, rowsI, List.mem_flatMap, List.mem_range, List.mem_map]
  exact ⟨i, hi, r, hr, k, hk, rfl⟩
theorem ort_mor {a b : Rp} {ms : List Mat} (hA : AreP a b ms) (h : ∀ t, t < (idxN a b a.q.2.1.length).length → a.p ∣ sumN (fun c => eqsF a b t c * (flatL ms).getD c 0) (offN a.d b.d a.d.length)) : MorP a b ms := by
  have hF := hA.1
  refine ⟨hA, fun i hi => mk_ext (fun r k hr hk => ?_)⟩
  obtain ⟨t, ht, e⟩ := List.getElem_of_mem (idx_mem hi hr hk)
  have h0 := h t ht
  have e0 : ∀ c, eqsF a b t c = eqE a b i r k c := fun c => by
    unfold eqsF
    rw [List.getD, List.getElem?_eq_getElem ht, e]; rfl
  simp only [e0] at h0
  have hQ := hF.1.2.1.1
  have hs := inP_get hQ.2.2.2.1 (i := i) hi
  have htt := inP_get hQ.2.2.2.2 (i := i) (by have := hQ.2.2.1; omega)
  have hdl := hF.1.2.1.2.1
  have hs' : (a.q.2.1.getD i 0).toNat < a.d.length := by omega
  have ht' : (a.q.2.2.getD i 0).toNat < a.d.length := by omega
  rw [firF, secF, mulF, mulF, accF_sum, accF_sum]
  have h1 := sum_at (A := fun j => at1 a b i k j) (B := fun j => matF (b.m.getD i mat0) r j) (x := fun c => (flatL ms).getD c 0) (n := offN a.d b.d a.d.length) (dN b.d (a.q.2.1.getD i 0)) (fun j hj => off_lt hs' hj hk)
  have h2 := sum_at (A := fun j => at2 a b i r j) (B := fun j => matF (a.m.getD i mat0) j k) (x := fun c => (flatL ms).getD c 0) (n := offN a.d b.d a.d.length) (dN a.d (a.q.2.2.getD i 0)) (fun j hj => off_lt ht' hr hj)
  have e1 : sumN (fun j => matF (b.m.getD i mat0) r j * matF (ms.getD (a.q.2.1.getD i 0).toNat mat0) j k) (dN b.d (a.q.2.1.getD i 0)) = sumN (fun j => matF (b.m.getD i mat0) r j * (flatL ms).getD (at1 a b i k j) 0) (dN b.d (a.q.2.1.getD i 0)) := sumN_congr (fun j hj => by
    rw [flat_cell hA hs' hj hk]; rfl)
  have e2 : sumN (fun j => matF (ms.getD (a.q.2.2.getD i 0).toNat mat0) r j * matF (a.m.getD i mat0) j k) (dN a.d (a.q.2.2.getD i 0)) = sumN (fun j => matF (a.m.getD i mat0) j k * (flatL ms).getD (at2 a b i r j) 0) (dN a.d (a.q.2.2.getD i 0)) := sumN_congr (fun j hj => by
    rw [flat_cell hA ht' hr hj, Int.mul_comm]; rfl)
  rw [e1, e2, ← h1, ← h2]
  have hd : a.p ∣ sumN (fun c => eqE a b i r k c * (flatL ms).getD c 0) (offN a.d b.d a.d.length) - sumN (fun c => sum1 a b i r k c (dN b.d (a.q.2.1.getD i 0)) * (flatL ms).getD c 0 + sum2 a b i r k c (dN a.d (a.q.2.2.getD i 0)) * (flatL ms).getD c 0 * (-1)) (offN a.d b.d a.d.length) := dvd_sumN (fun c _ => by
    obtain ⟨y, hy⟩ := emod_sub (p := a.p) (x := sum1 a b i r k c (dN b.d (a.q.2.1.getD i 0)) - sum2 a b i r k c (dN a.d (a.q.2.2.getD i 0)))
    exact ⟨y * (flatL ms).getD c 0, by rw [eqE]; grind⟩)
  rw [sumN_add, sumN_mul] at hd
  refine emod_dvd ?_
  obtain ⟨x, hx⟩ := h0
  obtain ⟨y, hy⟩ := hd
  exact ⟨x - y, by have e := Int.mul_sub a.p x y; simp only [sum1, sum2] at hy; omega⟩
theorem hk_in {a b : Rp} (hF : FitP a b) {c q : Nat} (hc : c < homN a b) (hq : q < offN a.d b.d a.d.length) : 0 ≤ ((hkL a b).getD c []).getD q 0 ∧ ((hkL a b).getD c []).getD q 0 < a.p := by
  have hc' : c < (hkL a b).length := by rw [hkL_length]; exact hc
  have hm : (hkL a b).getD c [] ∈ hkL a b := by rw [List.getD, List.getElem?_eq_getElem hc']; exact List.getElem_mem _
  have hr := kerL_rows (fieldP_pos hF.1.1).1 _ hm
  have := inP_get hr.2 (i := q) (by rw [hr.1]; exact hq)
  omega
theorem hk_ort {a b : Rp} (hF : FitP a b) {c : Nat} (hc : c < homN a b) : ∀ t, t < (idxN a b a.q.2.1.length).length → a.p ∣ sumN (fun j => eqsF a b t j * ((hkL a b).getD c []).getD j 0) (offN a.d b.d a.d.length) := by
  have hp := hF.1.1
  have hin0 : inF a.p (idxN a b a.q.2.1.length).length (offN a.d b.d a.d.length) (eqsF a b) := eqs_in hp
  have hr := redTo_rr hp hin0 (offN a.d b.d a.d.length) (Nat.le_refl _)
  have hc' : c < (freeN (redTo a.p (idxN a b a.q.2.1.length).length (eqsF a b) (offN a.d b.d a.d.length)).2 (offN a.d b.d a.d.length)).length := hc
  have hm := List.getElem_mem hc'
  rw [← getD_ix hc'] at hm
  have f1 := freeN_mem hm
  have f2 := freeN_not hm
  intro t ht
  rw [sumN_congr (fun j hj => by rw [hk_get hc, mkv_get hj])]
  exact red_ort hp hin0 (fun i hi => ker_ort hr om (by rw [Int.toNat_of_nonneg f1.1]; exact f2) hi) t ht
theorem homB_fl {a b : Rp} (hF : FitP a b) {c : Nat} (hc : c < homN a b) : (homB a b).getD c [] = cutL a.d b.d ((hkL a b).getD c []) ∧ flatL ((homB a b).getD c []) = (hkL a b).getD c [] ∧ (homB a b).length = homN a b := by
  have hc' : c < (hkL a b).length := by rw [hkL_length]; exact hc
  have e1 : (homB a b).getD c [] = cutL a.d b.d ((hkL a b).getD c []) := by
    rw [homB, if_pos hF, List.getD, List.getD, List.getElem?_map, List.getElem?_eq_getElem hc']; rfl
  refine ⟨e1, ?_, by rw [homB, if_pos hF, List.length_map, hkL_length]⟩
  have hm : (hkL a b).getD c [] ∈ hkL a b := by rw [List.getD, List.getElem?_eq_getElem hc']; exact List.getElem_mem _
  rw [e1, cutL, flat_cut, List.take_of_length_le (by rw [hkL_len _ hm]; exact Nat.le_refl _)]
theorem hom_len {a b : Rp} (hF : FitP a b) : (homB a b).length = homN a b := by rw [homB, if_pos hF, List.length_map, hkL_length]
theorem cb_flat {a b : Rp} {ks : List Int} : flatL (cutL a.d b.d (mkv (offN a.d b.d a.d.length) (cmS a.p ks (homB a b) (homB a b).length))) = mkv (offN a.d b.d a.d.length) (cmS a.p ks (homB a b) (homB a b).length) := by
  rw [cutL, flat_cut, List.take_of_length_le (by rw [mkv_length]; exact Nat.le_refl _)]
theorem cmS_hk {a b : Rp} (hF : FitP a b) {ks : List Int} {q : Nat} : cmS a.p ks (homB a b) (homB a b).length q = sumN (fun s => ks.getD s 0 * ((hkL a b).getD s []).getD q 0) (homN a b) % a.p := by
  rw [cmS, hom_len hF, sumN_congr (fun s hs => by rw [(homB_fl hF hs).2.1])]
theorem cmS_in {a b : Rp} (hF : FitP a b) {ks : List Int} {q : Nat} : 0 ≤ cmS a.p ks (homB a b) (homB a b).length q ∧ cmS a.p ks (homB a b) (homB a b).length q < a.p := by
  have hp := fieldP_pos hF.1.1
  rw [cmS]
  exact ⟨Int.emod_nonneg _ om, Int.emod_lt_of_pos _ om⟩
theorem cb_mor {a b : Rp} (hF : FitP a b) {ks : List Int} : MorP a b (cutL a.d b.d (mkv (offN a.d b.d a.d.length) (cmS a.p ks (homB a b) (homB a b).length))) := by
  have hA : AreP a b (cutL a.d b.d (mkv (offN a.d b.d a.d.length) (cmS a.p ks (homB a b) (homB a b).length))) := cut_are hF (by rw [mkv_length]) (inP_mkv (fun i _ => cmS_in hF))
  refine ort_mor hA (fun t ht => ?_)
  rw [cb_flat]
  have h1 : a.p ∣ sumN (fun c => eqsF a b t c * sumN (fun s => ks.getD s 0 * ((hkL a b).getD s []).getD c 0) (homN a b)) (offN a.d b.d a.d.length) := by
    rw [sumN_congr (g := fun c => sumN (fun s => ks.getD s 0 * (eqsF a b t c * ((hkL a b).getD s []).getD c 0)) (homN a b)) (fun c _ => by
      rw [← sumN_mull]
      exact sumN_congr (fun s _ => by grind)), sumN_comm]
    have := dvd_sumN (p := a.p) (f := fun s => sumN (fun c => ks.getD s 0 * (eqsF a b t c * ((hkL a b).getD s []).getD c 0)) (offN a.d b.d a.d.length)) (g := fun _ => 0) (n := homN a b) (fun s hs => by
      rw [Int.sub_zero, sumN_mull]
      exact Int.dvd_trans (hk_ort hF hs t ht) (Int.dvd_mul_left ..))
    rwa [sumN_zero, Int.sub_zero] at this
  have h2 : a.p ∣ sumN (fun c => eqsF a b t c * (mkv (offN a.d b.d a.d.length) (cmS a.p ks (homB a b) (homB a b).length)).getD c 0) (offN a.d b.d a.d.length) - sumN (fun c => eqsF a b t c * sumN (fun s => ks.getD s 0 * ((hkL a b).getD s []).getD c 0) (homN a b)) (offN a.d b.d a.d.length) := dvd_sumN (fun c hc => by
    rw [mkv_get hc, cmS_hk hF]
    obtain ⟨y, hy⟩ := emod_sub (p := a.p) (x := sumN (fun s => ks.getD s 0 * ((hkL a b).getD s []).getD c 0) (homN a b))
    exact ⟨eqsF a b t c * y, by rw [← Int.mul_sub, hy]; grind⟩)
  obtain ⟨x, hx⟩ := h1
  obtain ⟨y, hy⟩ := h2
  exact ⟨x + y, by rw [Int.mul_add]; omega⟩
theorem hb_mor {a b : Rp} {ms : List Mat} (h : ms ∈ homB a b) : MorP a b ms := by
  by_cases hF : FitP a b
  · obtain ⟨c, hc, e⟩ := List.getElem_of_mem h
    rw [hom_len hF] at hc
    have e2 : (homB a b).getD c [] = ms := by rw [List.getD, List.getElem?_eq_getElem (by rw [hom_len hF]; exact hc)]; exact e
    obtain ⟨f1, f2, _⟩ := homB_fl hF hc
    rw [e2] at f1 f2
    have hr := fun q hq => hk_in hF hc (q := q) hq
    have hl : ((hkL a b).getD c []).length = offN a.d b.d a.d.length := by
      have hc' : c < (hkL a b).length := by rw [hkL_length]; exact hc
      exact hkL_len _ (by rw [List.getD, List.getElem?_eq_getElem hc']; exact List.getElem_mem _)
    have hA : AreP a b ms := by
      rw [f1]
      refine cut_are hF hl (fun x hx => ?_)
      obtain ⟨q, hq, e⟩ := List.getElem_of_mem hx
      have := hr q om
      rw [getD_ix hq, e] at this
      omega
    refine ort_mor hA (fun t ht => ?_)
    rw [f2]
    exact hk_ort hF hc t ht
  · rw [homB, if_neg hF] at h; simp at h
theorem cb_crd {a b : Rp} {ms : List Mat} (h : MorP a b ms) : cutL a.d b.d (mkv (offN a.d b.d a.d.length) (cmS a.p (crdL a b ms) (homB a b) (homB a b).length)) = ms := by
  have hA := h.1
  have hF := hA.1
  have hp := hF.1.1
  have hin0 : inF a.p (idxN a b a.q.2.1.length).length (offN a.d b.d a.d.length) (eqsF a b) := eqs_in hp
  have hr := redTo_rr hp hin0 (offN a.d b.d a.d.length) (Nat.le_refl _)
  have hfl := flat_len hA
  have hsp := ker_span hr (fun i hi => ort_red hp hin0 (fun i hi => mor_ort h hi) i hi)
  have e1 : mkv (offN a.d b.d a.d.length) (cmS a.p (crdL a b ms) (homB a b) (homB a b).length) = flatL ms := by
    refine Eq.trans (mkv_ext (fun q hq => ?_)) (mkv_of hfl).symm
    rw [cmS_hk hF]
    have hs := hsp q hq
    have hfi := inP_get (flat_in hA) (i := q) om
    have e2 : sumN (fun s => (crdL a b ms).getD s 0 * ((hkL a b).getD s []).getD q 0) (homN a b) = sumN (fun s => kerV a.p (redTo a.p (idxN a b a.q.2.1.length).length (eqsF a b) (offN a.d b.d a.d.length)).1 (redTo a.p (idxN a b a.q.2.1.length).length (eqsF a b) (offN a.d b.d a.d.length)).2 ((freeN (redTo a.p (idxN a b a.q.2.1.length).length (eqsF a b) (offN a.d b.d a.d.length)).2 (offN a.d b.d a.d.length)).getD s 0).toNat (redTo a.p (idxN a b a.q.2.1.length).length (eqsF a b) (offN a.d b.d a.d.length)).2.length q * (flatL ms).getD ((freeN (redTo a.p (idxN a b a.q.2.1.length).length (eqsF a b) (offN a.d b.d a.d.length)).2 (offN a.d b.d a.d.length)).getD s 0).toNat 0) (homN a b) := sumN_congr (fun s hs => by
      have hs' : s < (freeN (redTo a.p (idxN a b a.q.2.1.length).length (eqsF a b) (offN a.d b.d a.d.length)).2 (offN a.d b.d a.d.length)).length := hs
      rw [hk_get hs, mkv_get hq, crdL, List.getD, List.getElem?_map, List.getElem?_eq_getElem hs', Option.map_some, Option.getD_some, ← getD_ix hs', Int.mul_comm])
    rw [e2]
    have e3 := emod_dvd hs
    rw [show homN a b = (freeN (redTo a.p (idxN a b a.q.2.1.length).length (eqsF a b) (offN a.d b.d a.d.length)).2 (offN a.d b.d a.d.length)).length from rfl, ← e3]
    exact emod_small om
  rw [e1]
  refine List.ext_getElem? (fun v => ?_)
  rcases Nat.lt_or_ge v a.d.length with hv | hv
  · obtain ⟨m, m1, m2, _⟩ := hA.mat (i := v) (by rw [hA.2.1]; exact hv)
    have hE := hA.2.2 v (by rw [hA.2.1]; exact hv)
    rw [ElemP, m2] at hE
    have hda := hF.1.dg v
    have hdb := hF.2.1.dg v
    rw [cutL, tabM_get hv, m1]
    refine congrArg some ?_
    have hc := cellsP_of (R := (b.d.getD v 0).toNat) (C := (a.d.getD v 0).toNat) hE.1 (by have := hE.2.2; omega) (by have := hE.2.1; omega)
    have hcl : m.2.2.length = (b.d.getD v 0).toNat * (a.d.getD v 0).toNat := by rw [hc.2.2.1, mk_length]
    refine Prod.ext (by simp only [cutM]; exact hc.1.symm) (Prod.ext (by simp only [cutM]; exact hc.2.1.symm) ?_)
    have hl1 := cut_len (x := flatL ms) (n := a.d.length) hv hfl
    refine List.ext_getElem (by rw [hl1, szV, hcl, Nat.mul_comm]) (fun i h1 h2 => ?_)
    rw [← getD_ix h1, ← getD_ix h2, cut_get (by rw [hl1] at h1; exact h1)]
    exact flat_get hA m1 h2
  · rw [List.getElem?_eq_none (by rw [cutL, tabM_length]; exact hv), List.getElem?_eq_none (by rw [hA.2.1]; exact hv)]
theorem crd_cb {a b : Rp} (hF : FitP a b) {ks : List Int} (hl : ks.length = homN a b) (hk : InP 0 (a.p - 1) ks) : crdL a b (cutL a.d b.d (mkv (offN a.d b.d a.d.length) (cmS a.p ks (homB a b) (homB a b).length))) = ks := by
  have hp := hF.1.1
  have hin0 : inF a.p (idxN a b a.q.2.1.length).length (offN a.d b.d a.d.length) (eqsF a b) := eqs_in hp
  have hr := redTo_rr hp hin0 (offN a.d b.d a.d.length) (Nat.le_refl _)
  have hmem : ∀ c, c < homN a b → 0 ≤ (freeN (redTo a.p (idxN a b a.q.2.1.length).length (eqsF a b) (offN a.d b.d a.d.length)).2 (offN a.d b.d a.d.length)).getD c 0 ∧ (freeN (redTo a.p (idxN a b a.q.2.1.length).length (eqsF a b) (offN a.d b.d a.d.length)).2 (offN a.d b.d a.d.length)).getD c 0 < offN a.d b.d a.d.length ∧ ¬ (freeN (redTo a.p (idxN a b a.q.2.1.length).length (eqsF a b) (offN a.d b.d a.d.length)).2 (offN a.d b.d a.d.length)).getD c 0 ∈ (redTo a.p (idxN a b a.q.2.1.length).length (eqsF a b) (offN a.d b.d a.d.length)).2 := fun c hc => by
    have hc' : c < (freeN (redTo a.p (idxN a b a.q.2.1.length).length (eqsF a b) (offN a.d b.d a.d.length)).2 (offN a.d b.d a.d.length)).length := hc
    have hm := List.getElem_mem hc'
    rw [← getD_ix hc'] at hm
    exact ⟨(freeN_mem hm).1, (freeN_mem hm).2, freeN_not hm⟩
  refine List.ext_getElem (by rw [crdL_length, hl]) (fun i h1 h2 => ?_)
  rw [← getD_ix h2]
  have hi : i < homN a b := by omega
  have hi' : i < (freeN (redTo a.p (idxN a b a.q.2.1.length).length (eqsF a b) (offN a.d b.d a.d.length)).2 (offN a.d b.d a.d.length)).length := hi
  have hm := hmem i hi
  simp only [crdL, List.getElem_map]
  rw [← getD_ix hi', cb_flat, mkv_get om, cmS_hk hF, sumN_congr (g := fun s => if s = i then ks.getD s 0 else 0) (fun s hs => ?_), sumN_pick (f := fun s => ks.getD s 0), if_pos hi]
  · have := inP_get hk (i := i) h2
    exact emod_small om
  · rw [hk_get hs, mkv_get om, kerV_un _ (pv_ne (by rw [Int.toNat_of_nonneg hm.1]; exact hm.2.2) hr)]
    have hms := hmem s hs
    by_cases e : s = i
    · rw [if_pos e, e, if_pos rfl, Int.mul_one]
    · rw [if_neg e, if_neg, Int.mul_zero]
      intro e2
      rcases Nat.lt_or_gt_of_ne e with h | h
      · have := freeN_up (l := (redTo a.p (idxN a b a.q.2.1.length).length (eqsF a b) (offN a.d b.d a.d.length)).2) (offN a.d b.d a.d.length) s i h hi; omega
      · have := freeN_up (l := (redTo a.p (idxN a b a.q.2.1.length).length (eqsF a b) (offN a.d b.d a.d.length)).2) (offN a.d b.d a.d.length) i s h hs; omega
def codN (p : Int) (v : List Int) : Nat → Int
  | 0 => 0
  | n + 1 => codN p v n * p + v.getD n 0
theorem cdT_add {p c : Int} (hp : 2 ≤ p) (_hc : 0 ≤ c) : ∀ m t, cdT p c (m + t) = cdT p (cdT p c m) t
  | m, 0 => rfl
  | m, t + 1 => by rw [← Nat.add_assoc, cdT, cdT_add hp _hc m t]; rfl
theorem cod_dig {p c : Int} (hp : 2 ≤ p) (hc : 0 ≤ c) {n : Nat} (h : c < powI p n) : ∀ k, k ≤ n → codN p (mkv n (digF p c n)) k = cdT p c (n - k)
  | 0, _ => by
    have hz : ∀ m (c : Int), 0 ≤ c → c < powI p m → cdT p c m = 0 := by
      intro m
      induction m with
      | zero => intro c h0 h1; simp only [powI] at h1; show c = 0; omega
      | succ m ih =>
        intro c h0 h1
        rw [Nat.add_comm m 1, cdT_add hp h0]
        refine ih _ (Int.ediv_nonneg h0 om) ?_
        show c / p < _
        exact Int.ediv_lt_of_lt_mul om (by simpa [powI, Int.mul_comm] using h1)
    simp only [codN, Nat.sub_zero]
    exact (hz n c hc h).symm
  | k + 1, hk => by
    rw [codN, cod_dig hp hc h k om, mkv_get om, digF]
    have e : n - k = (n - (k + 1)) + 1 := by omega
    have e2 : n - 1 - k = n - (k + 1) := by omega
    rw [e, e2, cdT]
    have := Int.ediv_mul_add_emod (cdT p c (n - (k + 1))) p
    omega
end Go.Proofs.YtijjkfbkihgfgaaGreat
