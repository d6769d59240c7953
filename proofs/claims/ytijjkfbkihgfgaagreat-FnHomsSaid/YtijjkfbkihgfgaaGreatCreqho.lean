import Derived.Test.YtijjkfbkihgfgaaGreatCbnqho
import Derived.Test.YtijjkfbkihgfgaaGreatHbsqho
import Derived.Test.YtijjkfbkihgfgaaGreatIvsqho
import Derived.Test.YtijjkfbkihgfgaaGreatSpmqho
namespace Go.Proofs.YtijjkfbkihgfgaaGreat
open Go.Lg Go.Proofs Go.RowKit

theorem spn_ort {p : Int} {R C : Nat} {g : Nat → Nat → Int} {x v : Nat → Int} (h : ∀ i, i < R → p ∣ sumN (fun j => g i j * x j) C) (hv : Spn p R C g v) : p ∣ sumN (fun j => v j * x j) C := by
  induction hv with
  | nil h0 => exact dvd_sumN0 (fun j hj => Int.dvd_trans (h0 j hj) (Int.dvd_mul_right ..))
  | @add u v i c hi _ e ih =>
    have e1 : p ∣ sumN (fun j => v j * x j) C - sumN (fun j => u j * x j + g i j * x j * c) C := dvd_sumN (fun j hj => by
      obtain ⟨y, hy⟩ := e j hj
      exact ⟨y * x j, by grind⟩)
    rw [sumN_add, sumN_mul] at e1
    obtain ⟨a, ha⟩ := e1
    obtain ⟨b, hb⟩ := ih
    obtain ⟨d, hd⟩ := h i hi
    exact ⟨a + b + d * c, by grind⟩
theorem pv_ne {l : List Int} {k : Nat} (h : ¬ (k : Int) ∈ l) {R C : Nat} {g : Nat → Nat → Int} (hR : RR R g l C) : ∀ t, t < l.length → k ≠ pv l t := fun t ht e => by
  have := hR.2.1 t ht
  unfold pv at e
  have e2 : l.getD t 0 = (k : Int) := by omega
  exact h (by rw [← e2, getD_ix ht]; exact List.getElem_mem _)
theorem kerV_0 {p : Int} {g : Nat → Nat → Int} {l : List Int} {k q : Nat} : kerV p g l k 0 q = if q = k then 1 else 0 := rfl
theorem kerV_s {p : Int} {g : Nat → Nat → Int} {l : List Int} {k n q : Nat} : kerV p g l k (n + 1) q = if q = (l.getD n 0).toNat then (p - g n k) % p else kerV p g l k n q := rfl
theorem kerV_un {p : Int} {g : Nat → Nat → Int} {l : List Int} {k q : Nat} : ∀ n, (∀ t, t < n → q ≠ pv l t) → kerV p g l k n q = if q = k then 1 else 0
  | 0, _ => rfl
  | n + 1, h => by
    have := h n om
    unfold pv at this
    rw [kerV_s, if_neg this, kerV_un n (fun t ht => h t om)]
theorem pv_inj {R C : Nat} {g : Nat → Nat → Int} {l : List Int} (hR : RR R g l C) {t s : Nat} (ht : t < l.length) (hs : s < l.length) (hts : t ≠ s) : pv l t ≠ pv l s := by
  rcases Nat.lt_or_gt_of_ne hts with h | h
  · have := pv_mono hR h hs; omega
  · have := pv_mono hR h ht; omega
theorem sum_two {f g : Nat → Int} {r n : Nat} (hr : r < n) (h : ∀ j, j < n → j ≠ r → f j = g j) : sumN f n = sumN g n + (f r - g r) := by
  rw [sumN_one hr, sumN_one (f := g) hr, sumN_congr (g := fun i => if i = r then 0 else g i) (fun i hi => by
    split
    · rfl
    · rename_i hn; exact h i hi hn)]
  omega
theorem ker_ort {p : Int} {R C k : Nat} {g : Nat → Nat → Int} {l : List Int} (hR : RR R g l C) (hk : k < C) (hf : ¬ (k : Int) ∈ l) {i : Nat} (hi : i < R) : p ∣ sumN (fun j => g i j * kerV p g l k l.length j) C := by
  have key : ∀ n, n ≤ l.length → p ∣ sumN (fun j => g i j * kerV p g l k n j) C - (if i < n then 0 else g i k) := fun n => by
    induction n with
    | zero =>
      intro _
      rw [if_neg om, sumN_congr (g := fun j => if j = k then g i j else 0) (fun j _ => by
        rw [kerV_0]
        split
        · rw [Int.mul_one]
        · rw [Int.mul_zero]), sumN_pick (f := g i), if_pos hk, Int.sub_self]
      exact Int.dvd_zero p
    | succ n ih =>
      intro hn
      have h0 := ih om
      have hpn := pv_lt hR (t := n) om
      rw [sum_two (g := fun j => g i j * kerV p g l k n j) (r := pv l n) hpn (fun j _ hj => by
        unfold pv at hj
        rw [kerV_s, if_neg hj])]
      have hz : kerV p g l k n (pv l n) = 0 := by
        rw [kerV_un n (fun t ht => pv_inj hR om om om), if_neg (fun e => pv_ne hf hR n om e.symm)]
      have hv : kerV p g l k (n + 1) (pv l n) = (p - g n k) % p := by rw [kerV_s]; exact if_pos rfl
      have hg := hR.2.2.2.1 n i om hi
      rw [hz, hv, hg]
      by_cases hin : i = n
      · subst hin
        rw [if_neg om] at h0
        rw [if_pos rfl, if_pos om]
        have h1 := emod_sub (p := p) (x := p - g i k)
        obtain ⟨a, ha⟩ := h0
        obtain ⟨b, hb⟩ := h1
        exact ⟨a + b + 1, by grind⟩
      · rw [if_neg hin]
        by_cases hlt : i < n
        · rw [if_pos hlt] at h0
          rw [if_pos om]
          obtain ⟨a, ha⟩ := h0
          exact ⟨a, by omega⟩
        · rw [if_neg hlt] at h0
          rw [if_neg om]
          obtain ⟨a, ha⟩ := h0
          exact ⟨a, by omega⟩
  have := key l.length (Nat.le_refl _)
  by_cases hil : i < l.length
  · rwa [if_pos hil, Int.sub_zero] at this
  · rwa [if_neg hil, hR.2.2.2.2.1 i k om hi hk, Int.sub_zero] at this
theorem freeN_not {l : List Int} : ∀ {n : Nat} {x : Int}, x ∈ freeN l n → ¬ x ∈ l
  | 0, x, h => by simp [freeN] at h
  | n + 1, x, h => by
    rw [freeN] at h
    split at h
    · exact freeN_not h
    · rename_i hn
      rcases List.mem_append.1 h with h | h
      · exact freeN_not h
      · simp at h; subst h; exact hn
theorem freeN_of {l : List Int} : ∀ {n k : Nat}, k < n → ¬ (k : Int) ∈ l → (k : Int) ∈ freeN l n
  | 0, k, h, _ => absurd h om
  | n + 1, k, h, hn => by
    rw [freeN]
    by_cases e : k = n
    · subst e; rw [if_neg hn]; simp
    · have := freeN_of (n := n) (k := k) om hn
      split
      · exact this
      · exact List.mem_append_left _ this
theorem freeN_up {l : List Int} : ∀ (n : Nat), ∀ s t, s < t → t < (freeN l n).length → (freeN l n).getD s 0 < (freeN l n).getD t 0
  | 0, s, t, _, ht => absurd ht (by simp [freeN])
  | n + 1, s, t, hst, ht => by
    by_cases hm : (n : Int) ∈ l
    · rw [freeN_yes hm] at ht ⊢; exact freeN_up n s t hst ht
    · rw [freeN_no hm] at ht ⊢
      rw [List.length_append, List.length_singleton] at ht
      rw [getD_app, getD_app]
      rw [if_pos (show s < (freeN l n).length by omega)]
      by_cases h : t < (freeN l n).length
      · rw [if_pos h]; exact freeN_up n s t hst h
      · rw [if_neg h, if_pos om]
        have : (freeN l n).getD s 0 ∈ freeN l n := by rw [getD_ix (show s < (freeN l n).length by omega)]; exact List.getElem_mem _
        exact (freeN_mem this).2
theorem full_of {p : Int} {R K : Nat} {f : Nat → Nat → Int} (hF : FieldP p) (hin : inF p R K f) (h : ∀ c, c < K → ∃ i, i < R ∧ ∀ j, j < K → f i j = if j = c then 1 else 0) : (redTo p R f K).2.length = K := by
  have hr := redTo_rr hF hin K (Nat.le_refl _)
  have hl := freeN_len hr.2.1 hr.2.2.1
  refine Decidable.byContradiction (fun hne => ?_)
  obtain ⟨x, hx⟩ : ∃ x, x ∈ freeN (redTo p R f K).2 K := by
    cases hc : freeN (redTo p R f K).2 K with
    | nil => rw [hc] at hl; simp at hl; omega
    | cons x r => exact ⟨x, by simp⟩
  have h1 := freeN_mem hx
  have h2 := freeN_not hx
  obtain ⟨k, rfl⟩ : ∃ k : Nat, x = k := ⟨x.toNat, by omega⟩
  have hk : k < K := by omega
  obtain ⟨i, hi, hu⟩ := h k hk
  have h3 := spn_ort (x := kerV p (redTo p R f K).1 (redTo p R f K).2 k (redTo p R f K).2.length) (fun i hi => ker_ort hr hk h2 hi) ((redTo_spn hF hin K (Nat.le_refl _)).2 i hi)
  rw [sumN_congr (g := fun j => if j = k then kerV p (redTo p R f K).1 (redTo p R f K).2 k (redTo p R f K).2.length j else 0) (fun j hj => by
    rw [hu j hj]
    split
    · rw [Int.one_mul]
    · rw [Int.zero_mul]), sumN_pick, if_pos hk, kerV_un _ (pv_ne h2 hr), if_pos rfl] at h3
  exact not_dvd_one (by have := fieldP_pos hF; omega) h3
theorem sol_unit {p : Int} {R K : Nat} {f : Nat → Nat → Int} {v : List Int} {y : Nat → Int} (hF : FieldP p) (hin : inF p R K f) (hv : InP 0 (p - 1) v) (hl : v.length = R)
    (h : ∀ c, c < K → ∃ i, i < R ∧ ∀ j, j < K → f i j = if j = c then 1 else 0) (hy : ∀ c, c < K → 0 ≤ y c ∧ y c < p) (he : ∀ i, i < R → p ∣ v.getD i 0 - sumN (fun c => f i c * y c) K) :
    solX p R K f v = mkv K y ∧ solB p R K f v = true := by
  have hfu := full_of hF hin h
  have hsy := inF_sys hin hv hl
  have hc := redTo_cols (p := p) (R := R) (f := f) (f' := sysF K f v) K (fun i j hi hj => by simp only [sysF, besF]; rw [if_pos hj])
  rw [hc.1] at hfu
  have hr := redTo_rr hF hsy K om
  have hgi := (redTo_in (p := p) (by have := fieldP_pos hF; omega) hsy K).1
  have hsp := (redTo_spn hF hsy K om).1
  have hskip : ∀ i, i < R → (redTo p R (sysF K f v) K).1 i K = if i < K then y i else 0 := fun i hi => by
    have h3 := spn_ort (x := fun j => if j < K then -(y j) else 1) (fun i hi => by
      rw [sumN, if_neg (Nat.lt_irrefl K), sumN_congr (g := fun c => (f i c * y c) * (-1)) (fun c hc => by
        rw [if_pos hc]; simp only [sysF, besF]; rw [if_pos hc]; grind), sumN_mul]
      simp only [sysF, besF, vF]
      rw [if_neg (Nat.lt_irrefl K)]
      obtain ⟨a, ha⟩ := he i hi
      exact ⟨a, by grind⟩) (hsp i hi)
    rw [sumN, if_neg (Nat.lt_irrefl K), Int.mul_one] at h3
    have hgj : ∀ j, j < K → (redTo p R (sysF K f v) K).1 i j = if i = j then 1 else 0 := fun j hj => by
      have e := hr.2.2.2.1 j i om hi
      unfold pv at e
      rw [full_piv hr hfu j hj, Int.toNat_natCast] at e
      exact e
    rw [sumN_congr (g := fun j => if j = i then -(y j) else 0) (fun j hj => by
      rw [hgj j hj, if_pos hj]
      by_cases e : i = j
      · rw [if_pos e, if_pos e.symm, Int.one_mul]
      · rw [if_neg e, if_neg (fun h => e h.symm), Int.zero_mul]), sumN_pick (f := fun j => -(y j))] at h3
    have hb := hgi i K hi om
    by_cases hiK : i < K
    · rw [if_pos hiK] at h3 ⊢
      exact dvd_eq (p := p) (by obtain ⟨a, ha⟩ := h3; exact ⟨a, by omega⟩) hb (hy i hiK)
    · rw [if_neg hiK] at h3 ⊢
      refine dvd_eq (p := p) (by obtain ⟨a, ha⟩ := h3; exact ⟨a, by omega⟩) hb ⟨Int.le_refl _, by have := fieldP_pos hF; omega⟩
  have hsk : redTo p R (sysF K f v) (K + 1) = redTo p R (sysF K f v) K := redTo_skip (findAt_none (fun i hi hiR => by
    rw [hskip i hiR, if_neg om]))
  have hnot : ¬ (K : Int) ∈ (redTo p R (sysF K f v) K).2 := fun hm => by
    have := redTo_piv K _ hm
    omega
  refine ⟨?_, ?_⟩
  · rw [solX, hsk, if_neg hnot, hfu]
    refine mkv_ext (fun q hq => ?_)
    have hKR : K ≤ R := by have := hr.1; omega
    have key : ∀ m, m ≤ K → ∀ q, q < m → solG (redTo p R (sysF K f v) K).1 K (redTo p R (sysF K f v) K).2 m q = y q := fun m => by
      induction m with
      | zero => intro _ q hq; omega
      | succ m ih =>
        intro hm q hq
        have e := full_piv hr hfu m om
        simp only [solG, e, Int.toNat_natCast]
        by_cases hqm : q = m
        · rw [if_pos hqm, hskip m om, if_pos om, hqm]
        · rw [if_neg hqm]; exact ih om q om
    exact key K (Nat.le_refl _) q hq
  · rw [solB, hsk, decide_eq_false hnot]; rfl
theorem ker_span {p : Int} {R C : Nat} {g : Nat → Nat → Int} {l : List Int} {x : Nat → Int} (hR : RR R g l C) (hx : ∀ i, i < R → p ∣ sumN (fun j => g i j * x j) C) :
    ∀ q, q < C → p ∣ x q - sumN (fun s => kerV p g l ((freeN l C).getD s 0).toNat l.length q * x ((freeN l C).getD s 0).toNat) (freeN l C).length := by
  obtain ⟨F, hF⟩ : ∃ F, F = freeN l C := ⟨_, rfl⟩
  rw [← hF]
  have hfm : ∀ s, s < F.length → 0 ≤ F.getD s 0 ∧ F.getD s 0 < C ∧ ¬ F.getD s 0 ∈ l := fun s hs => by
    have hm : F.getD s 0 ∈ freeN l C := by rw [← hF, getD_ix hs]; exact List.getElem_mem _
    exact ⟨(freeN_mem hm).1, (freeN_mem hm).2, freeN_not hm⟩
  have hcast : ∀ s, s < F.length → ((F.getD s 0).toNat : Int) = F.getD s 0 := fun s hs => by have := hfm s hs; omega
  have ho : ∀ i, i < R → ∀ m, m ≤ F.length → p ∣ sumN (fun j => g i j * sumN (fun s => kerV p g l (F.getD s 0).toNat l.length j * x (F.getD s 0).toNat) m) C := fun i hi m => by
    induction m with
    | zero => intro _; exact dvd_sumN0 (fun j _ => by rw [sumN, Int.mul_zero]; exact Int.dvd_zero p)
    | succ m ih =>
      intro hm
      have h1 := ih om
      have hf := hfm m om
      have h2 := ker_ort (p := p) (k := (F.getD m 0).toNat) hR om (by rw [hcast m om]; exact hf.2.2) hi
      rw [sumN_congr (g := fun j => g i j * sumN (fun s => kerV p g l (F.getD s 0).toNat l.length j * x (F.getD s 0).toNat) m + g i j * kerV p g l (F.getD m 0).toNat l.length j * x (F.getD m 0).toNat) (fun j _ => by rw [sumN]; grind), sumN_add, sumN_mul]
      exact Int.dvd_add h1 (Int.dvd_trans h2 (Int.dvd_mul_right ..))
  -- at free columns
  have hfree : ∀ q, q < C → ¬ (q : Int) ∈ l → x q - sumN (fun s => kerV p g l (F.getD s 0).toNat l.length q * x (F.getD s 0).toNat) F.length = 0 := fun q hq hn => by
    have hm : (q : Int) ∈ F := by rw [hF]; exact freeN_of hq hn
    obtain ⟨r, hr, e⟩ := List.getElem_of_mem hm
    rw [← getD_ix hr] at e
    rw [sumN_congr (g := fun s => if s = r then x (F.getD s 0).toNat else 0) (fun s hs => by
      rw [kerV_un _ (pv_ne hn hR)]
      by_cases hsr : s = r
      · subst hsr
        rw [if_pos om, if_pos rfl, Int.one_mul]
      · have : F.getD s 0 ≠ F.getD r 0 := by
          rw [hF] at hs hr ⊢
          rcases Nat.lt_or_gt_of_ne hsr with h | h
          · have := freeN_up (l := l) C s r h hr; omega
          · have := freeN_up (l := l) C r s h hs; omega
        have hfs := hfm s hs
        rw [if_neg om, if_neg hsr, Int.zero_mul]), sumN_pick (f := fun s => x (F.getD s 0).toNat), if_pos hr, e, Int.toNat_natCast, Int.sub_self]
  intro q hq
  by_cases hn : (q : Int) ∈ l
  · obtain ⟨t, ht, e⟩ := List.getElem_of_mem hn
    rw [← getD_ix ht] at e
    have hpq : pv l t = q := by unfold pv; omega
    have htR : t < R := by have := hR.1; omega
    have h1 := ho t htR F.length (Nat.le_refl _)
    have h2 := hx t htR
    have h3 : p ∣ sumN (fun j => g t j * (x j - sumN (fun s => kerV p g l (F.getD s 0).toNat l.length j * x (F.getD s 0).toNat) F.length)) C := by
      rw [sumN_congr (g := fun j => g t j * x j + g t j * sumN (fun s => kerV p g l (F.getD s 0).toNat l.length j * x (F.getD s 0).toNat) F.length * (-1)) (fun j _ => by grind), sumN_add, sumN_mul]
      obtain ⟨a, ha⟩ := h1
      obtain ⟨b, hb⟩ := h2
      exact ⟨b - a, by grind⟩
    rw [sumN_congr (g := fun j => if j = q then x j - sumN (fun s => kerV p g l (F.getD s 0).toNat l.length j * x (F.getD s 0).toNat) F.length else 0) (fun j hj => by
      by_cases hjl : (j : Int) ∈ l
      · obtain ⟨t2, ht2, e2⟩ := List.getElem_of_mem hjl
        rw [← getD_ix ht2] at e2
        have hp2 : pv l t2 = j := by unfold pv; omega
        have hg := hR.2.2.2.1 t2 t ht2 htR
        rw [hp2] at hg
        rw [hg]
        by_cases htt : t = t2
        · subst htt
          rw [if_pos rfl, if_pos om, Int.one_mul]
        · have := pv_inj hR ht ht2 htt
          rw [if_neg htt, if_neg om, Int.zero_mul]
      · rw [hfree j hj hjl, Int.mul_zero]; split <;> rfl), sumN_pick (f := fun j => x j - sumN (fun s => kerV p g l (F.getD s 0).toNat l.length j * x (F.getD s 0).toNat) F.length), if_pos hq] at h3
    exact h3
  · rw [hfree q hq hn]; exact Int.dvd_zero p
end Go.Proofs.YtijjkfbkihgfgaaGreat

namespace Go.Proofs.YtijjkfbkihgfgaaGreat
open Go.Lg Go.Proofs Go.RowKit

theorem mem_idx {a b : Rp} {t : Nat × Nat × Nat} {N : Nat} (h : t ∈ idxN a b N) : t.1 < N ∧ t.2.1 < dN b.d (a.q.2.2.getD t.1 0) ∧ t.2.2 < dN a.d (a.q.2.1.getD t.1 0) := by
  rw [idxN, List.mem_flatMap] at h
  obtain ⟨i, hi, h⟩ := h
  rw [rowsI, List.mem_flatMap] at h
  obtain ⟨r, hr, h⟩ := h
  obtain ⟨k, hk, rfl⟩ := List.mem_map.1 h
  exact ⟨List.mem_range.1 hi, List.mem_range.1 hr, List.mem_range.1 hk⟩
theorem sum_at {A : Nat → Nat} {B : Nat → Int} {x : Nat → Int} {n : Nat} : ∀ m, (∀ j, j < m → A j < n) → sumN (fun c => sumN (fun j => if A j = c then B j else 0) m * x c) n = sumN (fun j => B j * x (A j)) m
  | 0, _ => by
    rw [sumN_congr (g := fun _ => 0) (fun c _ => by rw [sumN, Int.zero_mul]), sumN_zero, sumN]
  | m + 1, h => by
    rw [sumN_congr (g := fun c => sumN (fun j => if A j = c then B j else 0) m * x c + (if c = A m then B m * x c else 0)) (fun c _ => by
      rw [sumN, Int.add_mul]
      by_cases e : A m = c
      · rw [if_pos e, if_pos e.symm]
      · rw [if_neg e, if_neg (fun h => e h.symm), Int.zero_mul]), sumN_add, sum_at m (fun j hj => h j om), sumN_pick (f := fun c => B m * x c), if_pos (h m om), sumN]
theorem flat_cell {a b : Rp} {ms : List Mat} {v j k : Nat} (h : AreP a b ms) (hv : v < a.d.length) (hj : j < (b.d.getD v 0).toNat) (hk : k < (a.d.getD v 0).toNat) : matF (ms.getD v mat0) j k = (flatL ms).getD (offN a.d b.d v + (j * (a.d.getD v 0).toNat + k)) 0 := by
  have hl := h.2.1
  obtain ⟨m, hm⟩ : ∃ m, ms[v]? = some m := ⟨_, List.getElem?_eq_getElem om⟩
  have gm : ms.getD v mat0 = m := by rw [List.getD, hm]; rfl
  obtain ⟨p1, p2, p3⟩ := h.2.2 v om
  rw [gm] at p1 p2 p3 ⊢
  have d1 := h.1.1.dg v
  have d2 := h.1.2.1.dg v
  obtain ⟨_, _, c3, _⟩ := cellsP_of (R := (b.d.getD v 0).toNat) (C := (a.d.getD v 0).toNat) p1 om om
  rw [flat_get h hm (by rw [c3, mk_length]; exact cell_lt hj hk), matF, p2]
theorem flat_len {a b : Rp} {ms : List Mat} (h : AreP a b ms) : (flatL ms).length = offN a.d b.d a.d.length := by
  have := flat_at h a.d.length (Nat.le_refl _)
  rwa [List.take_of_length_le (by rw [h.2.1]; exact Nat.le_refl _)] at this
theorem flat_in {a b : Rp} {ms : List Mat} (h : AreP a b ms) : InP 0 (a.p - 1) (flatL ms) := fun x hx => by
  rw [flatL, List.mem_flatMap] at hx
  obtain ⟨m, hm, hx⟩ := hx
  obtain ⟨i, hi, e⟩ := List.getElem_of_mem hm
  have gm : ms.getD i mat0 = m := by rw [List.getD, List.getElem?_eq_getElem hi]; exact e
  have := (h.2.2 i hi).1
  rw [gm] at this
  exact this.2.2.2.2.2 x hx
theorem mor_ort {a b : Rp} {ms : List Mat} (h : MorP a b ms) {t : Nat} (ht : t < (idxN a b a.q.2.1.length).length) : a.p ∣ sumN (fun c => eqsF a b t c * (flatL ms).getD c 0) (offN a.d b.d a.d.length) := by
  obtain ⟨hA, hE⟩ := h
  have hF := hA.1
  have hm : (idxN a b a.q.2.1.length).getD t (0, 0, 0) ∈ idxN a b a.q.2.1.length := by
    rw [List.getD, List.getElem?_eq_getElem ht]; exact List.getElem_mem _
  have e0 : ∀ c, eqsF a b t c = eqE a b ((idxN a b a.q.2.1.length).getD t (0, 0, 0)).1 ((idxN a b a.q.2.1.length).getD t (0, 0, 0)).2.1 ((idxN a b a.q.2.1.length).getD t (0, 0, 0)).2.2 c := fun _ => rfl
  simp only [e0]
  generalize (idxN a b a.q.2.1.length).getD t (0, 0, 0) = z at hm
  obtain ⟨i, r, k⟩ := z
  obtain ⟨hi, hr, hk⟩ := mem_idx hm
  simp only at hi hr hk ⊢
  have hQ := hF.1.2.1.1
  have hs := inP_get hQ.2.2.2.1 (i := i) hi
  have htt := inP_get hQ.2.2.2.2 (i := i) (by have := hQ.2.2.1; omega)
  have hdl := hF.1.2.1.2.1
  have hs' : (a.q.2.1.getD i 0).toNat < a.d.length := by omega
  have ht' : (a.q.2.2.getD i 0).toNat < a.d.length := by omega
  have hEi := hE i hi
  have hrk : firF a b ms i r k = secF a ms i r k := by
    rw [← mk_get (f := firF a b ms i) hr hk, hEi, mk_get hr hk]
  rw [firF, secF, mulF, mulF, accF_sum, accF_sum] at hrk
  have h1 := sum_at (A := fun j => at1 a b i k j) (B := fun j => matF (b.m.getD i mat0) r j) (x := fun c => (flatL ms).getD c 0) (n := offN a.d b.d a.d.length) (dN b.d (a.q.2.1.getD i 0)) (fun j hj => off_lt hs' hj hk)
  have h2 := sum_at (A := fun j => at2 a b i r j) (B := fun j => matF (a.m.getD i mat0) j k) (x := fun c => (flatL ms).getD c 0) (n := offN a.d b.d a.d.length) (dN a.d (a.q.2.2.getD i 0)) (fun j hj => off_lt ht' hr hj)
  have e1 : sumN (fun j => matF (b.m.getD i mat0) r j * matF (ms.getD (a.q.2.1.getD i 0).toNat mat0) j k) (dN b.d (a.q.2.1.getD i 0)) = sumN (fun j => matF (b.m.getD i mat0) r j * (flatL ms).getD (at1 a b i k j) 0) (dN b.d (a.q.2.1.getD i 0)) := sumN_congr (fun j hj => by
    rw [flat_cell hA hs' hj hk]; rfl)
  have e2 : sumN (fun j => matF (ms.getD (a.q.2.2.getD i 0).toNat mat0) r j * matF (a.m.getD i mat0) j k) (dN a.d (a.q.2.2.getD i 0)) = sumN (fun j => matF (a.m.getD i mat0) j k * (flatL ms).getD (at2 a b i r j) 0) (dN a.d (a.q.2.2.getD i 0)) := sumN_congr (fun j hj => by
    rw [flat_cell hA ht' hr hj, Int.mul_comm]; rfl)
  rw [e1, e2, ← h1, ← h2] at hrk
  have hd : a.p ∣ sumN (fun c => eqE a b i r k c * (flatL ms).getD c 0) (offN a.d b.d a.d.length) - sumN (fun c => sum1 a b i r k c (dN b.d (a.q.2.1.getD i 0)) * (flatL ms).getD c 0 + sum2 a b i r k c (dN a.d (a.q.2.2.getD i 0)) * (flatL ms).getD c 0 * (-1)) (offN a.d b.d a.d.length) := dvd_sumN (fun c _ => by
    obtain ⟨y, hy⟩ := emod_sub (p := a.p) (x := sum1 a b i r k c (dN b.d (a.q.2.1.getD i 0)) - sum2 a b i r k c (dN a.d (a.q.2.2.getD i 0)))
    exact ⟨y * (flatL ms).getD c 0, by rw [eqE]; grind⟩)
  rw [sumN_add, sumN_mul] at hd
  have hz := Int.emod_emod_of_dvd
  have hd2 : a.p ∣ sumN (fun c => sum1 a b i r k c (dN b.d (a.q.2.1.getD i 0)) * (flatL ms).getD c 0) (offN a.d b.d a.d.length) - sumN (fun c => sum2 a b i r k c (dN a.d (a.q.2.2.getD i 0)) * (flatL ms).getD c 0) (offN a.d b.d a.d.length) := Int.dvd_of_emod_eq_zero (Int.emod_eq_emod_iff_emod_sub_eq_zero.1 hrk)
  exact dvd_add2 hd hd2 om
def crdL (a b : Rp) (ms : List Mat) : List Int := (freeN (redTo a.p (idxN a b a.q.2.1.length).length (eqsF a b) (offN a.d b.d a.d.length)).2 (offN a.d b.d a.d.length)).map (fun k => (flatL ms).getD k.toNat 0)
theorem crdL_length {a b : Rp} {ms : List Mat} : (crdL a b ms).length = homN a b := by rw [crdL, List.length_map, homN]
theorem crd_in {a b : Rp} {ms : List Mat} (h : AreP a b ms) : InP 0 (a.p - 1) (crdL a b ms) := fun x hx => by
  obtain ⟨k, hk, rfl⟩ := List.mem_map.1 hx
  have := freeN_mem hk
  exact inP_get (flat_in h) (i := k.toNat) (by rw [flat_len h]; omega)
theorem hk_get {a b : Rp} {c : Nat} (hc : c < homN a b) : (hkL a b).getD c [] = mkv (offN a.d b.d a.d.length) (kerV a.p (redTo a.p (idxN a b a.q.2.1.length).length (eqsF a b) (offN a.d b.d a.d.length)).1 (redTo a.p (idxN a b a.q.2.1.length).length (eqsF a b) (offN a.d b.d a.d.length)).2 ((freeN (redTo a.p (idxN a b a.q.2.1.length).length (eqsF a b) (offN a.d b.d a.d.length)).2 (offN a.d b.d a.d.length)).getD c 0).toNat (redTo a.p (idxN a b a.q.2.1.length).length (eqsF a b) (offN a.d b.d a.d.length)).2.length) := by
  have hc' : c < (freeN (redTo a.p (idxN a b a.q.2.1.length).length (eqsF a b) (offN a.d b.d a.d.length)).2 (offN a.d b.d a.d.length)).length := hc
  rw [hkL, kerL, List.getD, List.getElem?_map, List.getElem?_eq_getElem hc', Option.map_some, Option.getD_some, ← getD_ix hc']
theorem crd_sol {a b : Rp} {ms : List Mat} (h : MorP a b ms) :
    solX a.p (offN a.d b.d a.d.length) (homN a b) (fun i j => rowsF (hkL a b) j i) (flatL ms) = crdL a b ms ∧ solB a.p (offN a.d b.d a.d.length) (homN a b) (fun i j => rowsF (hkL a b) j i) (flatL ms) = true := by
  have hA := h.1
  have hF := hA.1
  have hp := hF.1.1
  have hin0 : inF a.p (idxN a b a.q.2.1.length).length (offN a.d b.d a.d.length) (eqsF a b) := eqs_in hp
  have hr := redTo_rr hp hin0 (offN a.d b.d a.d.length) (Nat.le_refl _)
  have hfl := flat_len hA
  have hfi := flat_in hA
  have hort : ∀ i, i < (idxN a b a.q.2.1.length).length → a.p ∣ sumN (fun j => (redTo a.p (idxN a b a.q.2.1.length).length (eqsF a b) (offN a.d b.d a.d.length)).1 i j * (flatL ms).getD j 0) (offN a.d b.d a.d.length) := fun i hi =>
    spn_ort (fun i hi => mor_ort h hi) ((redTo_spn hp hin0 (offN a.d b.d a.d.length) (Nat.le_refl _)).1 i hi)
  have hsp := ker_span hr hort
  have hA1 : ∀ i j, i < offN a.d b.d a.d.length → j < homN a b → rowsF (hkL a b) j i = kerV a.p (redTo a.p (idxN a b a.q.2.1.length).length (eqsF a b) (offN a.d b.d a.d.length)).1 (redTo a.p (idxN a b a.q.2.1.length).length (eqsF a b) (offN a.d b.d a.d.length)).2 ((freeN (redTo a.p (idxN a b a.q.2.1.length).length (eqsF a b) (offN a.d b.d a.d.length)).2 (offN a.d b.d a.d.length)).getD j 0).toNat (redTo a.p (idxN a b a.q.2.1.length).length (eqsF a b) (offN a.d b.d a.d.length)).2.length i := fun i j hi hj => by
    rw [rowsF, hk_get hj, mkv_get hi]
  have hmem : ∀ c, c < homN a b → 0 ≤ (freeN (redTo a.p (idxN a b a.q.2.1.length).length (eqsF a b) (offN a.d b.d a.d.length)).2 (offN a.d b.d a.d.length)).getD c 0 ∧ (freeN (redTo a.p (idxN a b a.q.2.1.length).length (eqsF a b) (offN a.d b.d a.d.length)).2 (offN a.d b.d a.d.length)).getD c 0 < offN a.d b.d a.d.length ∧ ¬ (freeN (redTo a.p (idxN a b a.q.2.1.length).length (eqsF a b) (offN a.d b.d a.d.length)).2 (offN a.d b.d a.d.length)).getD c 0 ∈ (redTo a.p (idxN a b a.q.2.1.length).length (eqsF a b) (offN a.d b.d a.d.length)).2 := fun c hc => by
    have hc' : c < (freeN (redTo a.p (idxN a b a.q.2.1.length).length (eqsF a b) (offN a.d b.d a.d.length)).2 (offN a.d b.d a.d.length)).length := hc
    have hm := List.getElem_mem hc'
    rw [← getD_ix hc'] at hm
    exact ⟨(freeN_mem hm).1, (freeN_mem hm).2, freeN_not hm⟩
  have hs := sol_unit (p := a.p) (R := offN a.d b.d a.d.length) (K := homN a b) (f := fun i j => rowsF (hkL a b) j i) (v := flatL ms) (y := fun c => (flatL ms).getD ((freeN (redTo a.p (idxN a b a.q.2.1.length).length (eqsF a b) (offN a.d b.d a.d.length)).2 (offN a.d b.d a.d.length)).getD c 0).toNat 0) hp
    (fun i j hi hj => by
      have hm : (hkL a b).getD j [] ∈ hkL a b := by
        have hj' : j < (hkL a b).length := by rw [hkL_length]; exact hj
        rw [List.getD, List.getElem?_eq_getElem hj']; exact List.getElem_mem _
      have := inP_get (kerL_rows (fieldP_pos hp).1 _ hm).2 (i := i) (by rw [(kerL_rows (fieldP_pos hp).1 _ hm).1]; exact hi)
      simp only [rowsF]; omega)
    hfi hfl
    (fun c hc => by
      have hc1 := hmem c hc
      refine ⟨((freeN (redTo a.p (idxN a b a.q.2.1.length).length (eqsF a b) (offN a.d b.d a.d.length)).2 (offN a.d b.d a.d.length)).getD c 0).toNat, by omega, fun j hj => ?_⟩
      have hj1 := hmem j hj
      rw [hA1 _ _ om hj, kerV_un _ (pv_ne (by rw [Int.toNat_of_nonneg hc1.1]; exact hc1.2.2) hr)]
      by_cases e : j = c
      · rw [if_pos e, e, if_pos rfl]
      · rw [if_neg e, if_neg]
        intro e2
        rcases Nat.lt_or_gt_of_ne e with h | h
        · have := freeN_up (l := (redTo a.p (idxN a b a.q.2.1.length).length (eqsF a b) (offN a.d b.d a.d.length)).2) (offN a.d b.d a.d.length) j c h hc; omega
        · have := freeN_up (l := (redTo a.p (idxN a b a.q.2.1.length).length (eqsF a b) (offN a.d b.d a.d.length)).2) (offN a.d b.d a.d.length) c j h hj; omega)
    (fun c hc => by
      have hc1 := hmem c hc
      have := inP_get hfi (i := ((freeN (redTo a.p (idxN a b a.q.2.1.length).length (eqsF a b) (offN a.d b.d a.d.length)).2 (offN a.d b.d a.d.length)).getD c 0).toNat) om
      omega)
    (fun i hi => by
      have := hsp i hi
      rw [sumN_congr (g := fun c => (fun i j => rowsF (hkL a b) j i) i c * (flatL ms).getD ((freeN (redTo a.p (idxN a b a.q.2.1.length).length (eqsF a b) (offN a.d b.d a.d.length)).2 (offN a.d b.d a.d.length)).getD c 0).toNat 0) (fun s hs => by simp only; rw [hA1 i s hi hs])] at this
      exact this)
  refine ⟨?_, hs.2⟩
  rw [hs.1, crdL]
  refine List.ext_getElem (by rw [mkv_length, List.length_map]; rfl) (fun i h1 h2 => ?_)
  rw [mkv_length] at h1
  rw [List.getElem_map, ← getD_ix (by rw [mkv_length]; exact h1), mkv_get h1, ← getD_ix]
end Go.Proofs.YtijjkfbkihgfgaaGreat
