import Derived.Test.YtijjkfbkihgfgaaGreatAloqsu
import Derived.Test.YtijjkfbkihgfgaaGreatCgbqsu
import Derived.Test.YtijjkfbkihgfgaaGreatCmpqsu
import Derived.Test.YtijjkfbkihgfgaaGreatCobqsu
import Derived.Test.YtijjkfbkihgfgaaGreatCopqsu
import Derived.Test.YtijjkfbkihgfgaaGreatDsmqsu
import Derived.Test.YtijjkfbkihgfgaaGreatDuaqsu
import Derived.Test.YtijjkfbkihgfgaaGreatEqmqsu
import Derived.Test.YtijjkfbkihgfgaaGreatHbsqsu
import Derived.Test.YtijjkfbkihgfgaaGreatHmbqsu
import Derived.Test.YtijjkfbkihgfgaaGreatHomqsu
import Derived.Test.YtijjkfbkihgfgaaGreatIvsqsu
import Derived.Test.YtijjkfbkihgfgaaGreatLEqsu
import Derived.Test.YtijjkfbkihgfgaaGreatLinqsu
import Derived.Test.YtijjkfbkihgfgaaGreatLwsqsu
import Derived.Test.YtijjkfbkihgfgaaGreatMulqsu
import Derived.Test.YtijjkfbkihgfgaaGreatMxfqsu
import Derived.Test.YtijjkfbkihgfgaaGreatPrdqsu
import Derived.Test.YtijjkfbkihgfgaaGreatPrmqsu
import Derived.Test.YtijjkfbkihgfgaaGreatPwiqsu
import Derived.Test.YtijjkfbkihgfgaaGreatRdIqsu
import Derived.Test.YtijjkfbkihgfgaaGreatRvcqsu
import Derived.Test.YtijjkfbkihgfgaaGreatSolqsu
import Derived.Test.YtijjkfbkihgfgaaGreatSpbqsu
namespace Go.Proofs.YtijjkfbkihgfgaaGreat
open Go.Lg Go.Proofs Go.RowKit

theorem spn_ort {p : Int} {R C : Nat} {g : Nat → Nat → Int} {x v : Nat → Int} (h : ∀ i, i < R → p ∣ sumN (fun j => g i j * x j) C) (hv : Spn p R C g v) : p ∣ sumN (fun j => v j * x j) C := by
  induction hv with
  | nil h0 => exact dvd_sumN0 (fun j hj => Int.dvd_trans (h0 j hj) (Int.dvd_mul_right ..))
  | @add u v i c hi _ e ih =>
    have e1 : p ∣ sumN (fun j => v j * x j) C - sumN (fun j => u j * x j + g i j * x j * c) C := dvd_sumN (fun j hj => by
      obtain ⟨y, hy⟩ := e j hj
      exact ⟨y * x j, by grind⟩)
    rw [sumN_add, sumN_mul] at e1
    obtain ⟨a, ha⟩ := e1
    obtain ⟨b, hb⟩ := ih
    obtain ⟨d, hd⟩ := h i hi
    exact ⟨a + b + d * c, by grind⟩
theorem pv_ne {l : List Int} {k : Nat} (h : ¬ (k : Int) ∈ l) {R C : Nat} {g : Nat → Nat → Int} (hR : RR R g l C) : ∀ t, t < l.length → k ≠ pv l t := fun t ht e => by
  have := hR.2.1 t ht
  unfold pv at e
  have e2 : l.getD t 0 = (k : Int) := by omega
  exact h (by rw [← e2, getD_ix ht]; exact List.getElem_mem _)
theorem kerV_0 {p : Int} {g : Nat → Nat → Int} {l : List Int} {k q : Nat} : kerV p g l k 0 q = if q = k then 1 else 0 := rfl
theorem kerV_s {p : Int} {g : Nat → Nat → Int} {l : List Int} {k n q : Nat} : kerV p g l k (n + 1) q = if q = (l.getD n 0).toNat then (p - g n k) % p else kerV p g l k n q := rfl
theorem kerV_un {p : Int} {g : Nat → Nat → Int} {l : List Int} {k q : Nat} : ∀ n, (∀ t, t < n → q ≠ pv l t) → kerV p g l k n q = if q = k then 1 else 0
  | 0, _ => rfl
  | n + 1, h => by
    have := h n om
    unfold pv at this
    rw [kerV_s, if_neg this, kerV_un n (fun t ht => h t om)]
theorem pv_inj {R C : Nat} {g : Nat → Nat → Int} {l : List Int} (hR : RR R g l C) {t s : Nat} (ht : t < l.length) (hs : s < l.length) (hts : t ≠ s) : pv l t ≠ pv l s := by
  rcases Nat.lt_or_gt_of_ne hts with h | h
  · have := pv_mono hR h hs; omega
  · have := pv_mono hR h ht; omega
theorem sum_two {f g : Nat → Int} {r n : Nat} (hr : r < n) (h : ∀ j, j < n → j ≠ r → f j = g j) : sumN f n = sumN g n + (f r - g r) := by
  rw [sumN_one hr, sumN_one (f := g) hr, sumN_congr (g := fun i => if i = r then 0 else g i) (fun i hi => by
    split
    · rfl
    · rename_i hn; exact h i hi hn)]
  omega
theorem ker_ort {p : Int} {R C k : Nat} {g : Nat → Nat → Int} {l : List Int} (hR : RR R g l C) (hk : k < C) (hf : ¬ (k : Int) ∈ l) {i : Nat} (hi : i < R) : p ∣ sumN (fun j => g i j * kerV p g l k l.length j) C := by
  have key : ∀ n, n ≤ l.length → p ∣ sumN (fun j => g i j * kerV p g l k n j) C - (if i < n then 0 else g i k) := fun n => by
    induction n with
    | zero =>
      intro _
      rw [if_neg om, sumN_congr (g := fun j => if j = k then g i j else 0) (fun j _ => by
        rw [kerV_0]
        split
        · rw [Int.mul_one]
        · rw [Int.mul_zero]), sumN_pick (f := g i), if_pos hk, Int.sub_self]
      exact Int.dvd_zero p
    | succ n ih =>
      intro hn
      have h0 := ih om
      have hpn := pv_lt hR (t := n) om
      rw [sum_two (g := fun j => g i j * kerV p g l k n j) (r := pv l n) hpn (fun j _ hj => by
        unfold pv at hj
        rw [kerV_s, if_neg hj])]
      have hz : kerV p g l k n (pv l n) = 0 := by
        rw [kerV_un n (fun t ht => pv_inj hR om om om), if_neg (fun e => pv_ne hf hR n om e.symm)]
      have hv : kerV p g l k (n + 1) (pv l n) = (p - g n k) % p := by rw [kerV_s]; exact if_pos rfl
      have hg := hR.2.2.2.1 n i om hi
      rw [hz, hv, hg]
      by_cases hin : i = n
      · subst hin
        rw [if_neg om] at h0
        rw [if_pos rfl, if_pos om]
        have h1 := emod_sub (p := p) (x := p - g i k)
        obtain ⟨a, ha⟩ := h0
        obtain ⟨b, hb⟩ := h1
        exact ⟨a + b + 1, by grind⟩
      · rw [if_neg hin]
        by_cases hlt : i < n
        · rw [if_pos hlt] at h0
          rw [if_pos om]
          obtain ⟨a, ha⟩ := h0
          exact ⟨a, by omega⟩
        · rw [if_neg hlt] at h0
          rw [if_neg om]
          obtain ⟨a, ha⟩ := h0
          exact ⟨a, by omega⟩
  have := key l.length (Nat.le_refl _)
  by_cases hil : i < l.length
  · rwa [if_pos hil, Int.sub_zero] at this
  · rwa [if_neg hil, hR.2.2.2.2.1 i k om hi hk, Int.sub_zero] at this
theorem freeN_not {l : List Int} : ∀ {n : Nat} {x : Int}, x ∈ freeN l n → ¬ x ∈ l
  | 0, x, h => by simp [freeN] at h
  | n + 1, x, h => by
    rw [freeN] at h
    split at h
    · exact freeN_not h
    · rename_i hn
      rcases List.mem_append.1 h with h | h
      · exact freeN_not h
      · simp at h; subst h; exact hn
theorem freeN_of {l : List Int} : ∀ {n k : Nat}, k < n → ¬ (k : Int) ∈ l → (k : Int) ∈ freeN l n
  | 0, k, h, _ => absurd h om
  | n + 1, k, h, hn => by
    rw [freeN]
    by_cases e : k = n
    · subst e; rw [if_neg hn]; simp
    · have := freeN_of (n := n) (k := k) om hn
      split
      · exact this
      · exact List.mem_append_left _ this
theorem freeN_up {l : List Int} : ∀ (n : Nat), ∀ s t, s < t → t < (freeN l n).length → (freeN l n).getD s 0 < (freeN l n).getD t 0
  | 0, s, t, _, ht => absurd ht (by simp [freeN])
  | n + 1, s, t, hst, ht => by
    by_cases hm : (n : Int) ∈ l
    · rw [freeN_yes hm] at ht ⊢; exact freeN_up n s t hst ht
    · rw [freeN_no hm] at ht ⊢
      rw [List.length_append, List.length_singleton] at ht
      rw [getD_app, getD_app]
      rw [if_pos (show s < (freeN l n).length by omega)]
      by_cases h : t < (freeN l n).length
      · rw [if_pos h]; exact freeN_up n s t hst h
      · rw [if_neg h, if_pos om]
        have : (freeN l n).getD s 0 ∈ freeN l n := by rw [getD_ix (show s < (freeN l n).length by omega)]; exact List.getElem_mem _
        exact (freeN_mem this).2
theorem ker_span {p : Int} {R C : Nat} {g : Nat → Nat → Int} {l : List Int} {x : Nat → Int} (hR : RR R g l C) (hx : ∀ i, i < R → p ∣ sumN (fun j => g i j * x j) C) :
    ∀ q, q < C → p ∣ x q - sumN (fun s => kerV p g l ((freeN l C).getD s 0).toNat l.length q * x ((freeN l C).getD s 0).toNat) (freeN l C).length := by
  obtain ⟨F, hF⟩ : ∃ F, F = freeN l C := ⟨_, rfl⟩
  rw [← hF]
  have hfm : ∀ s, s < F.length → 0 ≤ F.getD s 0 ∧ F.getD s 0 < C ∧ ¬ F.getD s 0 ∈ l := fun s hs => by
    have hm : F.getD s 0 ∈ freeN l C := by rw [← hF, getD_ix hs]; exact List.getElem_mem _
    exact ⟨(freeN_mem hm).1, (freeN_mem hm).2, freeN_not hm⟩
  have hcast : ∀ s, s < F.length → ((F.getD s 0).toNat : Int) = F.getD s 0 := fun s hs => by have := hfm s hs; omega
  have ho : ∀ i, i < R → ∀ m, m ≤ F.length → p ∣ sumN (fun j => g i j * sumN (fun s => kerV p g l (F.getD s 0).toNat l.length j * x (F.getD s 0).toNat) m) C := fun i hi m => by
    induction m with
    | zero => intro _; exact dvd_sumN0 (fun j _ => by rw [sumN, Int.mul_zero]; exact Int.dvd_zero p)
    | succ m ih =>
      intro hm
      have h1 := ih om
      have hf := hfm m om
      have h2 := ker_ort (p := p) (k := (F.getD m 0).toNat) hR om (by rw [hcast m om]; exact hf.2.2) hi
      rw [sumN_congr (g := fun j => g i j * sumN (fun s => kerV p g l (F.getD s 0).toNat l.length j * x (F.getD s 0).toNat) m + g i j * kerV p g l (F.getD m 0).toNat l.length j * x (F.getD m 0).toNat) (fun j _ => by rw [sumN]; grind), sumN_add, sumN_mul]
      exact Int.dvd_add h1 (Int.dvd_trans h2 (Int.dvd_mul_right ..))
  -- at free columns
  have hfree : ∀ q, q < C → ¬ (q : Int) ∈ l → x q - sumN (fun s => kerV p g l (F.getD s 0).toNat l.length q * x (F.getD s 0).toNat) F.length = 0 := fun q hq hn => by
    have hm : (q : Int) ∈ F := by rw [hF]; exact freeN_of hq hn
    obtain ⟨r, hr, e⟩ := List.getElem_of_mem hm
    rw [← getD_ix hr] at e
    rw [sumN_congr (g := fun s => if s = r then x (F.getD s 0).toNat else 0) (fun s hs => by
      rw [kerV_un _ (pv_ne hn hR)]
      by_cases hsr : s = r
      · subst hsr
        rw [if_pos om, if_pos rfl, Int.one_mul]
      · have : F.getD s 0 ≠ F.getD r 0 := by
          rw [hF] at hs hr ⊢
          rcases Nat.lt_or_gt_of_ne hsr with h | h
          · have := freeN_up (l := l) C s r h hr; omega
          · have := freeN_up (l := l) C r s h hs; omega
        have hfs := hfm s hs
        rw [if_neg om, if_neg hsr, Int.zero_mul]), sumN_pick (f := fun s => x (F.getD s 0).toNat), if_pos hr, e, Int.toNat_natCast, Int.sub_self]
  intro q hq
  by_cases hn : (q : Int) ∈ l
  · obtain ⟨t, ht, e⟩ := List.getElem_of_mem hn
    rw [← getD_ix ht] at e
    have hpq : pv l t = q := by unfold pv; omega
    have htR : t < R := by have := hR.1; omega
    have h1 := ho t htR F.length (Nat.le_refl _)
    have h2 := hx t htR
    have h3 : p ∣ sumN (fun j => g t j * (x j - sumN (fun s => kerV p g l (F.getD s 0).toNat l.length j * x (F.getD s 0).toNat) F.length)) C := by
      rw [sumN_congr (g := fun j => g t j * x j + g t j * sumN (fun s => kerV p g l (F.getD s 0).toNat l.length j * x (F.getD s 0).toNat) F.length * (-1)) (fun j _ => by grind), sumN_add, sumN_mul]
      obtain ⟨a, ha⟩ := h1
      obtain ⟨b, hb⟩ := h2
      exact ⟨b - a, by grind⟩
    rw [sumN_congr (g := fun j => if j = q then x j - sumN (fun s => kerV p g l (F.getD s 0).toNat l.length j * x (F.getD s 0).toNat) F.length else 0) (fun j hj => by
      by_cases hjl : (j : Int) ∈ l
      · obtain ⟨t2, ht2, e2⟩ := List.getElem_of_mem hjl
        rw [← getD_ix ht2] at e2
        have hp2 : pv l t2 = j := by unfold pv; omega
        have hg := hR.2.2.2.1 t2 t ht2 htR
        rw [hp2] at hg
        rw [hg]
        by_cases htt : t = t2
        · subst htt
          rw [if_pos rfl, if_pos om, Int.one_mul]
        · have := pv_inj hR ht ht2 htt
          rw [if_neg htt, if_neg om, Int.zero_mul]
      · rw [hfree j hj hjl, Int.mul_zero]; split <;> rfl), sumN_pick (f := fun j => x j - sumN (fun s => kerV p g l (F.getD s 0).toNat l.length j * x (F.getD s 0).toNat) F.length), if_pos hq] at h3
    exact h3
  · rw [hfree q hq hn]; exact Int.dvd_zero p
end Go.Proofs.YtijjkfbkihgfgaaGreat

namespace Go.Proofs.YtijjkfbkihgfgaaGreat
open Go.Lg Go.Proofs Go.RowKit

theorem sumN_split {f : Nat → Int} {n : Nat} : ∀ m, sumN f (n + m) = sumN f n + sumN (fun i => f (n + i)) m
  | 0 => by simp [sumN]
  | m + 1 => by
    rw [← Nat.add_assoc, sumN, sumN_split m, sumN]
    omega
theorem sumN_comm {F : Nat → Nat → Int} {m : Nat} : ∀ n, sumN (fun i => sumN (fun j => F i j) m) n = sumN (fun j => sumN (fun i => F i j) n) m
  | 0 => by simp only [sumN]; rw [sumN_zero]
  | n + 1 => by
    simp only [sumN]
    rw [sumN_comm n, ← sumN_add]
theorem sumN_mull {f : Nat → Int} {x : Int} {n : Nat} : sumN (fun i => x * f i) n = x * sumN f n := by
  rw [sumN_congr (g := fun i => f i * x) (fun i _ => Int.mul_comm ..), sumN_mul, Int.mul_comm]
theorem mulF_sum {p : Int} {N : Nat} {f g : Nat → Nat → Int} {i j : Nat} : mulF p N f g i j = sumN (fun k => f i k * g k j) N % p := accF_sum N
theorem mulF_dvd {p : Int} {N : Nat} {f g : Nat → Nat → Int} {i j : Nat} : p ∣ mulF p N f g i j - sumN (fun k => f i k * g k j) N := by
  rw [mulF_sum]; exact emod_sub
theorem emod_dvd {p x y : Int} (h : p ∣ x - y) : x % p = y % p := by
  obtain ⟨c, hc⟩ := h
  have : x = y + p * c := by omega
  rw [this, Int.add_mul_emod_self_left]
theorem mulF_congr {p : Int} {N : Nat} {f f' g g' : Nat → Nat → Int} {i j : Nat} (h : ∀ k, k < N → p ∣ f i k - f' i k) (h' : ∀ k, k < N → p ∣ g k j - g' k j) : mulF p N f g i j = mulF p N f' g' i j := by
  rw [mulF_sum, mulF_sum]
  refine emod_dvd (dvd_sumN (fun k hk => ?_))
  obtain ⟨a, ha⟩ := h k hk
  obtain ⟨b, hb⟩ := h' k hk
  exact ⟨a * g k j + f' i k * b, by grind⟩
theorem mulF_ext {p : Int} {N : Nat} {f f' g g' : Nat → Nat → Int} {i j : Nat} (h : ∀ k, k < N → f i k = f' i k) (h' : ∀ k, k < N → g k j = g' k j) : mulF p N f g i j = mulF p N f' g' i j :=
  mulF_congr (fun k hk => by rw [h k hk, Int.sub_self]; exact Int.dvd_zero p) (fun k hk => by rw [h' k hk, Int.sub_self]; exact Int.dvd_zero p)
theorem mul_assocF {p : Int} {N M : Nat} {f g h : Nat → Nat → Int} {i j : Nat} : mulF p M (mulF p N f g) h i j = mulF p N f (mulF p M g h) i j := by
  rw [mulF_congr (f' := fun i k => sumN (fun q => f i q * g q k) N) (g' := h) (fun k _ => mulF_dvd) (fun k _ => by rw [Int.sub_self]; exact Int.dvd_zero p),
    mulF_congr (f := f) (g := mulF p M g h) (f' := f) (g' := fun q j => sumN (fun k => g q k * h k j) M) (fun k _ => by rw [Int.sub_self]; exact Int.dvd_zero p) (fun k _ => mulF_dvd), mulF_sum, mulF_sum]
  congr 1
  rw [sumN_congr (g := fun k => sumN (fun q => f i q * g q k * h k j) N) (fun k _ => sumN_mul.symm), sumN_comm]
  refine sumN_congr (fun q _ => ?_)
  rw [← sumN_mull]
  exact sumN_congr (fun k _ => Int.mul_assoc ..)
theorem mul_idr {p : Int} {N : Nat} {f : Nat → Nat → Int} {i j : Nat} (hj : j < N) (hf : 0 ≤ f i j ∧ f i j < p) : mulF p N f idF i j = f i j := by
  rw [mulF_sum, sumN_congr (g := fun k => if k = j then f i k else 0) (fun k _ => by
    unfold idF
    by_cases h : k = j
    · rw [if_pos h, if_pos h, Int.mul_one]
    · rw [if_neg h, if_neg h, Int.mul_zero]), sumN_pick (f := fun k => f i k), if_pos hj]
  exact emod_small hf
end Go.Proofs.YtijjkfbkihgfgaaGreat

namespace Go.Proofs.YtijjkfbkihgfgaaGreat
open Go.Lg Go.Proofs Go.RowKit

theorem red_ort {p : Int} {R C : Nat} {f : Nat → Nat → Int} {x : Nat → Int} (hF : FieldP p) (hin : inF p R C f) (h : ∀ i, i < R → p ∣ sumN (fun j => (redTo p R f C).1 i j * x j) C) : ∀ i, i < R → p ∣ sumN (fun j => f i j * x j) C :=
  fun i hi => spn_ort h ((redTo_spn hF hin C (Nat.le_refl _)).2 i hi)
theorem ort_red {p : Int} {R C : Nat} {f : Nat → Nat → Int} {x : Nat → Int} (hF : FieldP p) (hin : inF p R C f) (h : ∀ i, i < R → p ∣ sumN (fun j => f i j * x j) C) : ∀ i, i < R → p ∣ sumN (fun j => (redTo p R f C).1 i j * x j) C :=
  fun i hi => spn_ort h ((redTo_spn hF hin C (Nat.le_refl _)).1 i hi)
theorem aug_lt {n j i : Nat} {f : Nat → Nat → Int} (h : j < n) : augF n f i j = f i j := if_pos h
theorem aug_ge {n j i : Nat} {f : Nat → Nat → Int} : augF n f i (n + j) = idF i j := by
  show (if n + j < n then _ else _) = _
  rw [if_neg om, Nat.add_sub_cancel_left]
theorem inv_sides {p : Int} {n : Nat} {f : Nat → Nat → Int} (hF : FieldP p) (hin : inF p n n f) (h : (redTo p n f n).2.length = n) : (∀ i j, i < n → j < n → mulF p n f (invF p n f) i j = idF i j) ∧ ∀ i j, i < n → j < n → mulF p n (invF p n f) f i j = idF i j := by
  have hp := fieldP_pos hF
  have hau : inF p n (n + n) (augF n f) := inF_bes hin (inF_id om)
  have hla : (redTo p n (augF n f) n).2 = (redTo p n f n).2 := by
    rcases Nat.eq_zero_or_pos n with h0 | h0
    · subst h0; rfl
    · exact (unit_cols (p := p) (f := f) h0).2.2.symm
  have hfa := redTo_full (p := p) (R := n) (f := augF n f) (k := n) (by rw [hla]; omega) n
  have hrr := redTo_rr hF hau n om
  have hpv := full_piv hrr (by rw [hla]; exact h)
  have hd : ∀ i q, i < n → q < n → (redTo p n (augF n f) (n + n)).1 i q = idF i q := fun i q hi hq => by
    rw [hfa]
    have h1 := hrr.2.2.2.1 q i (by rw [hla]; omega) hi
    have e : pv (redTo p n (augF n f) n).2 q = q := by unfold pv; rw [hpv q hq]; omega
    rw [e] at h1
    exact h1
  have mod1 : ∀ (S : Int) (i j : Nat), p ∣ S - idF i j → S % p = idF i j := fun S i j hS => by
    rw [emod_dvd hS]
    exact Int.emod_eq_of_lt (by unfold idF; split <;> omega) (by unfold idF; split <;> omega)
  constructor
  · intro i j hi hj
    have h1 := red_ort hF hau (x := fun q => if q < n then invF p n f q j else if q = n + j then -1 else 0) (fun i hi => by
      rw [sumN_split, sumN_congr (g := fun q => if q = i then invF p n f q j else 0) (fun q hq => by
        rw [hd i q hi hq, if_pos hq]; unfold idF
        by_cases e : i = q
        · rw [if_pos e, if_pos e.symm, Int.one_mul]
        · rw [if_neg e, if_neg (fun e' => e e'.symm), Int.zero_mul]), sumN_pick (f := fun q => invF p n f q j), if_pos hi,
        sumN_congr (g := fun q => if q = j then (-1) * invF p n f i q else 0) (fun q hq => by
          rw [if_neg om]
          by_cases e : q = j
          · rw [if_pos om, if_pos e, Int.mul_comm]; rfl
          · rw [if_neg om, if_neg e, Int.mul_zero]), sumN_pick (f := fun q => (-1) * invF p n f i q), if_pos hj]
      exact ⟨0, by omega⟩) i hi
    rw [sumN_split, sumN_congr (g := fun q => f i q * invF p n f q j) (fun q hq => by rw [if_pos hq, aug_lt hq]),
      sumN_congr (f := fun q => augF n f i (n + q) * _) (g := fun q => if q = j then (-1) * idF i q else 0) (fun q hq => by
        rw [if_neg om, aug_ge]
        by_cases e : q = j
        · rw [if_pos om, if_pos e, Int.mul_comm]
        · rw [if_neg om, if_neg e, Int.mul_zero]), sumN_pick (f := fun q => (-1) * idF i q), if_pos hj] at h1
    rw [mulF_sum]
    exact mod1 _ i j (by obtain ⟨c, hc⟩ := h1; exact ⟨c, by omega⟩)
  · intro i j hi hj
    have h1 := ort_red hF hau (x := fun q => if q < n then (if q = j then -1 else 0) else f (q - n) j) (fun i hi => by
      rw [sumN_split, sumN_congr (g := fun q => if q = j then (-1) * f i q else 0) (fun q hq => by
        rw [if_pos hq, aug_lt hq]
        by_cases e : q = j
        · rw [if_pos e, if_pos e, Int.mul_comm]
        · rw [if_neg e, if_neg e, Int.mul_zero]), sumN_pick (f := fun q => (-1) * f i q), if_pos hj,
        sumN_congr (f := fun q => augF n f i (n + q) * _) (g := fun q => if q = i then f q j else 0) (fun q hq => by
          rw [if_neg om, aug_ge, Nat.add_sub_cancel_left]; unfold idF
          by_cases e : i = q
          · rw [if_pos e, if_pos e.symm, Int.one_mul]
          · rw [if_neg e, if_neg (fun e' => e e'.symm), Int.zero_mul]), sumN_pick (f := fun q => f q j), if_pos hi]
      exact ⟨0, by omega⟩) i hi
    rw [sumN_split, sumN_congr (g := fun q => if q = j then (-1) * idF i q else 0) (fun q hq => by
        rw [if_pos hq, hd i q hi hq]
        by_cases e : q = j
        · rw [if_pos e, if_pos e, Int.mul_comm]
        · rw [if_neg e, if_neg e, Int.mul_zero]), sumN_pick (f := fun q => (-1) * idF i q), if_pos hj,
      sumN_congr (f := fun q => (redTo p n (augF n f) (n + n)).1 i (n + q) * _) (g := fun q => invF p n f i q * f q j) (fun q hq => by rw [if_neg om, Nat.add_sub_cancel_left]; rfl)] at h1
    rw [mulF_sum]
    exact mod1 _ i j (by obtain ⟨c, hc⟩ := h1; exact ⟨c, by omega⟩)
end Go.Proofs.YtijjkfbkihgfgaaGreat

namespace Go.Proofs.YtijjkfbkihgfgaaGreat
open Go.Lg Go.Proofs Go.RowKit
attribute [local irreducible] Code.wp wpList bodyPost Exit.then Exit.inBlock Hp Again Calls Y AT ResV QT Qn QI wpAny wpAnyQ
set_option maxRecDepth 20000
set_option maxHeartbeats 4000000

theorem matP_of {p : Int} {R C : Nat} {f : Nat → Nat → Int} (hF : FieldP p) (hR : R ≤ 8) (hC : C ≤ 8) (h : inF p R C f) : MatP p ((R : Int), (C : Int), mk R C f) := by
  have hRC : R * C ≤ 64 := Nat.mul_le_mul hR hC
  refine ⟨⟨by simp only; omega, by simp only; omega⟩, ⟨by simp only; omega, by simp only; omega⟩, by simp, hF, ?_, inP_mk h⟩
  rw [mk_length]; exact hRC
end Go.Proofs.YtijjkfbkihgfgaaGreat

namespace Go.Proofs.YtijjkfbkihgfgaaGreat
open Go.Lg Go.Proofs Go.RowKit
attribute [local irreducible] Code.wp wpList bodyPost Exit.then Exit.inBlock Hp Again Calls Y AT ResV QT Qn QI wpAny wpAnyQ
set_option maxRecDepth 20000
set_option maxHeartbeats 4000000

theorem rkN_get {p : Int} {ms : List Mat} {i : Nat} : ∀ {n}, i < n → (rkN p ms n).getD i 0 = ((redL p (ms.getD i mat0)).length : Int)
  | 0, h => absurd h om
  | n + 1, h => by
    rw [rkN, List.getD, List.getElem?_append]
    have hl := rkN_len p ms n
    by_cases e : i = n
    · subst e
      rw [if_neg om, hl]
      simp
    · rw [if_pos om]
      exact rkN_get om
end Go.Proofs.YtijjkfbkihgfgaaGreat

namespace Go.Proofs.YtijjkfbkihgfgaaGreat
open Go.Lg Go.Proofs Go.RowKit

theorem dN_nat {d : List Int} {v : Nat} : dN d (v : Int) = (d.getD v 0).toNat := by rw [dN, Int.toNat_natCast]
theorem AreP.get {a b : Rp} {fs : List Mat} (h : AreP a b fs) {v : Nat} (hv : v < fs.length) : ∃ m, fs[v]? = some m ∧ fs.getD v mat0 = m ∧ CellsP a.p m (dN b.d v) (dN a.d v) ∧ dN a.d v ≤ 4 ∧ dN b.d v ≤ 4 := by
  obtain ⟨m, h1, h2, h3⟩ := h.mat hv
  obtain ⟨_, m2, m3⟩ := h.2.2 v hv
  rw [h2] at m2 m3
  have ha := h.1.1.dg v
  have hb := h.1.2.1.dg v
  refine ⟨m, h1, h2, cellsP_of h3 (by rw [dN_nat]; omega) (by rw [dN_nat]; omega), by rw [dN_nat]; omega, by rw [dN_nat]; omega⟩
theorem mor_of {a b : Rp} {fs : List Mat} (h : AreP a b fs) (he : ∀ (i s t : Nat), i < a.q.2.1.length → a.q.2.1.getD i 0 = s → a.q.2.2.getD i 0 = t → s < fs.length → t < fs.length →
    ∀ r c, r < dN b.d t → c < dN a.d s → mulF a.p (dN b.d s) (matF (b.m.getD i mat0)) (matF (fs.getD s mat0)) r c = mulF a.p (dN a.d t) (matF (fs.getD t mat0)) (matF (a.m.getD i mat0)) r c) : MorP a b fs := by
  refine ⟨h, fun i hi => ?_⟩
  obtain ⟨s, t, _, _, _, _, _, _, _, _, es, et, hs, ht, _⟩ := mor_at h hi
  rw [es, et]
  refine mk_ext (fun r c hr hc => ?_)
  have := he i s t hi es et hs ht r c hr hc
  simp only [firF, secF, es, et, Int.toNat_natCast]
  exact this
theorem FitP.rf {a : Rp} (h : RepP a) : FitP a a := ⟨h, h, rfl, rfl⟩
theorem RepP.arrow {r : Rp} (h : RepP r) {i s t : Nat} (hi : i < r.q.2.1.length) (es : r.q.2.1.getD i 0 = s) (et : r.q.2.2.getD i 0 = t) : CellsP r.p (r.m.getD i mat0) (dN r.d t) (dN r.d s) := by
  have hd := h.dg
  obtain ⟨m1, m2, m3⟩ := h.2.2.2 i (by have := h.2.2.1; omega)
  rw [es, Int.toNat_natCast] at m2
  rw [et, Int.toNat_natCast] at m3
  have h1 := hd s
  have h2 := hd t
  exact cellsP_of m1 (by rw [dN_nat]; omega) (by rw [dN_nat]; omega)
theorem IsoP.dd {a b : Rp} {ms : List Mat} (h : IsoP a b ms) : a.d = b.d := h.1.2.symm.trans h.2.2
end Go.Proofs.YtijjkfbkihgfgaaGreat

namespace Go.Proofs.YtijjkfbkihgfgaaGreat
open Go.Lg Go.Proofs Go.RowKit

theorem full_of_rows {p : Int} {R C : Nat} {f : Nat → Nat → Int} (hF : FieldP p) (hin : inF p R C f) (h : Ind p R f 0 C) : R ≤ C := by
  have hp := fieldP_pos hF
  have hI := ind_red hF hin h C (Nat.le_refl _)
  obtain ⟨r1, r2, r3, _, r5, _⟩ := redTo_rr hF hin C (Nat.le_refl _)
  have hlen := freeN_len r2 r3
  apply Classical.byContradiction
  intro hne
  have hlt : (redTo p R f C).2.length < R := by omega
  have := hI (fun i => if i = (redTo p R f C).2.length then 1 else 0) (fun j _ hj => by
    rw [sumN_congr (g := fun _ => 0) (fun q hq => ?_), sumN_zero]
    · exact ⟨0, by omega⟩
    · split
      · rename_i hq'
        subst hq'
        rw [r5 _ j (Nat.le_refl _) hlt hj, Int.mul_zero]
      · exact Int.zero_mul _) (redTo p R f C).2.length hlt
  rw [if_pos rfl] at this
  have := Int.le_of_dvd om this
  omega
theorem le_of_right {p : Int} {N M : Nat} {P Q : Nat → Nat → Int} (hF : FieldP p) (h : ∀ i j, i < N → j < N → p ∣ sumN (fun k => P i k * Q k j) M - idF i j) : N ≤ M := by
  have hp := fieldP_pos hF
  refine full_of_rows (f := fun i k => P i k % p) hF (fun i j _ _ => ⟨Int.emod_nonneg _ om, Int.emod_lt_of_pos _ om⟩) (fun c hc i0 hi0 => ?_)
  have h1 : p ∣ sumN (fun j => sumN (fun i => c i * (P i j % p)) N * Q j i0) M := by
    have := dvd_sumN (p := p) (f := fun j => sumN (fun i => c i * (P i j % p)) N * Q j i0) (g := fun _ => 0) (n := M) (fun j hj => by
      rw [Int.sub_zero]
      exact Int.dvd_trans (hc j (Nat.zero_le _) hj) (Int.dvd_mul_right ..))
    rwa [sumN_zero, Int.sub_zero] at this
  have e1 : sumN (fun j => sumN (fun i => c i * (P i j % p)) N * Q j i0) M = sumN (fun i => c i * sumN (fun j => (P i j % p) * Q j i0) M) N := by
    rw [sumN_congr (g := fun j => sumN (fun i => c i * (P i j % p) * Q j i0) N) (fun j _ => sumN_mul.symm), sumN_comm]
    refine sumN_congr (fun i _ => ?_)
    rw [← sumN_mull]
    exact sumN_congr (fun j _ => Int.mul_assoc ..)
  have h2 : p ∣ sumN (fun i => c i * sumN (fun j => (P i j % p) * Q j i0) M) N - sumN (fun i => if i = i0 then c i else 0) N := dvd_sumN (fun i hi => by
    have k1 : p ∣ sumN (fun j => (P i j % p) * Q j i0) M - sumN (fun j => P i j * Q j i0) M := dvd_sumN (fun j _ => by
      obtain ⟨y, hy⟩ := emod_sub (p := p) (x := P i j)
      exact ⟨y * Q j i0, by rw [← Int.sub_mul, hy, Int.mul_assoc]⟩)
    obtain ⟨y, hy⟩ := k1
    obtain ⟨z, hz⟩ := h i i0 hi hi0
    refine ⟨c i * (y + z), ?_⟩
    have : sumN (fun j => (P i j % p) * Q j i0) M = idF i i0 + p * (y + z) := by rw [Int.mul_add]; omega
    rw [this]
    unfold idF
    split <;> grind)
  rw [e1] at h1
  rw [sumN_pick (f := c), if_pos hi0] at h2
  obtain ⟨x, hx⟩ := h1
  obtain ⟨y, hy⟩ := h2
  exact ⟨x - y, by rw [Int.mul_sub]; omega⟩
structure Spc0 (p : Int) {ι : Type} (Mem : (ι → Int) → Prop) (V : ι → Prop) (N : Nat) (e : Nat → ι → Int) (pos : Nat → ι) : Prop where
  mem : ∀ s, s < N → Mem (e s)
  val : ∀ s, s < N → V (pos s)
  unit : ∀ s i, s < N → i < N → p ∣ e s (pos i) - idF s i
  span : ∀ x, Mem x → ∀ q, V q → p ∣ x q - sumN (fun s => x (pos s) * e s q) N
def pull {ι κ : Type} (τ : ι → Option κ) (x : κ → Int) : ι → Int := fun q => match τ q with
  | some q' => x q'
  | none => 0
theorem pull_span {p : Int} {ι κ : Type} {Mem : (κ → Int) → Prop} {V : κ → Prop} {N : Nat} {e : Nat → κ → Int} {pos : Nat → κ} (h : Spc0 p Mem V N e pos) {τ : ι → Option κ} {q : ι} (hq : ∀ q', τ q = some q' → V q') {x : κ → Int} (hx : Mem x) :
    p ∣ pull τ x q - sumN (fun s => x (pos s) * pull τ (e s) q) N := by
  unfold pull
  cases ht : τ q with
  | none =>
    simp only
    rw [sumN_congr (g := fun _ => 0) (fun s _ => Int.mul_zero _), sumN_zero]
    exact ⟨0, by omega⟩
  | some q' => exact h.span x hx q' (hq q' ht)
theorem dims_add {p : Int} {ι κ μ : Type} {Mem : (ι → Int) → Prop} {Mem1 : (κ → Int) → Prop} {Mem2 : (μ → Int) → Prop} {V : ι → Prop} {V1 : κ → Prop} {V2 : μ → Prop} {N N1 N2 : Nat} {e : Nat → ι → Int} {e1 : Nat → κ → Int} {e2 : Nat → μ → Int} {pos : Nat → ι} {pos1 : Nat → κ} {pos2 : Nat → μ}
    (hF : FieldP p) (h : Spc0 p Mem V N e pos) (h1 : Spc0 p Mem1 V1 N1 e1 pos1) (h2 : Spc0 p Mem2 V2 N2 e2 pos2) {τ1 : ι → Option κ} {τ2 : ι → Option μ} {σ1 : κ → Option ι} {σ2 : μ → Option ι}
    (t1 : ∀ q q', V q → τ1 q = some q' → V1 q') (t2 : ∀ q q', V q → τ2 q = some q' → V2 q') (s1 : ∀ q q', V1 q → σ1 q = some q' → V q') (s2 : ∀ q q', V2 q → σ2 q = some q' → V q')
    (a1 : ∀ x, Mem1 x → Mem (pull τ1 x)) (a2 : ∀ x, Mem2 x → Mem (pull τ2 x)) (b1 : ∀ x, Mem x → Mem1 (pull σ1 x)) (b2 : ∀ x, Mem x → Mem2 (pull σ2 x))
    (c0 : ∀ x q, V q → pull τ1 (pull σ1 x) q + pull τ2 (pull σ2 x) q = x q)
    (c1 : ∀ x q, V1 q → pull σ1 (pull τ1 x) q = x q) (c2 : ∀ x q, V2 q → pull σ2 (pull τ2 x) q = x q) (d1 : ∀ x q, V2 q → pull σ2 (pull τ1 x) q = 0) (d2 : ∀ x q, V1 q → pull σ1 (pull τ2 x) q = 0) : N = N1 + N2 := by
  refine Nat.le_antisymm ?_ ?_
  · refine le_of_right (P := fun c s => if s < N1 then pull σ1 (e c) (pos1 s) else pull σ2 (e c) (pos2 (s - N1))) (Q := fun s i => if s < N1 then pull τ1 (e1 s) (pos i) else pull τ2 (e2 (s - N1)) (pos i)) hF (fun c i hc hi => ?_)
    rw [sumN_split]
    have k1 := pull_span h1 (τ := τ1) (q := pos i) (fun q' hq => t1 _ _ (h.val i hi) hq) (b1 _ (h.mem c hc))
    have k2 := pull_span h2 (τ := τ2) (q := pos i) (fun q' hq => t2 _ _ (h.val i hi) hq) (b2 _ (h.mem c hc))
    have k3 := c0 (e c) (pos i) (h.val i hi)
    have k4 := h.unit c i hc hi
    rw [sumN_congr (n := N1) (g := fun s => pull σ1 (e c) (pos1 s) * pull τ1 (e1 s) (pos i)) (fun s hs => by rw [if_pos hs, if_pos hs]),
      sumN_congr (n := N2) (g := fun s => pull σ2 (e c) (pos2 s) * pull τ2 (e2 s) (pos i)) (fun s hs => by rw [if_neg om, if_neg om, Nat.add_sub_cancel_left])]
    obtain ⟨x, hx⟩ := k1
    obtain ⟨y, hy⟩ := k2
    obtain ⟨z, hz⟩ := k4
    exact ⟨z - x - y, by rw [Int.mul_sub, Int.mul_sub]; omega⟩
  · refine le_of_right (P := fun s i => if s < N1 then pull τ1 (e1 s) (pos i) else pull τ2 (e2 (s - N1)) (pos i)) (Q := fun c s => if s < N1 then pull σ1 (e c) (pos1 s) else pull σ2 (e c) (pos2 (s - N1))) hF (fun s j hs hj => ?_)
    by_cases hs1 : s < N1
    · rw [sumN_congr (g := fun c => pull τ1 (e1 s) (pos c) * (if j < N1 then pull σ1 (e c) (pos1 j) else pull σ2 (e c) (pos2 (j - N1)))) (fun c _ => by rw [if_pos hs1])]
      by_cases hj1 : j < N1
      · rw [sumN_congr (g := fun c => pull τ1 (e1 s) (pos c) * pull σ1 (e c) (pos1 j)) (fun c _ => by rw [if_pos hj1])]
        have k1 := pull_span h (τ := σ1) (q := pos1 j) (fun q' hq => s1 _ _ (h1.val j hj1) hq) (a1 _ (h1.mem s hs1))
        rw [c1 _ _ (h1.val j hj1)] at k1
        have k4 := h1.unit s j hs1 hj1
        obtain ⟨x, hx⟩ := k1
        obtain ⟨z, hz⟩ := k4
        exact ⟨z - x, by rw [Int.mul_sub]; omega⟩
      · rw [sumN_congr (g := fun c => pull τ1 (e1 s) (pos c) * pull σ2 (e c) (pos2 (j - N1))) (fun c _ => by rw [if_neg hj1])]
        have k1 := pull_span h (τ := σ2) (q := pos2 (j - N1)) (fun q' hq => s2 _ _ (h2.val _ om) hq) (a1 _ (h1.mem s hs1))
        rw [d1 _ _ (h2.val _ om)] at k1
        rw [show idF s j = 0 from if_neg om]
        obtain ⟨x, hx⟩ := k1
        exact ⟨-x, by rw [Int.mul_neg]; omega⟩
    · rw [sumN_congr (g := fun c => pull τ2 (e2 (s - N1)) (pos c) * (if j < N1 then pull σ1 (e c) (pos1 j) else pull σ2 (e c) (pos2 (j - N1)))) (fun c _ => by rw [if_neg hs1])]
      by_cases hj1 : j < N1
      · rw [sumN_congr (g := fun c => pull τ2 (e2 (s - N1)) (pos c) * pull σ1 (e c) (pos1 j)) (fun c _ => by rw [if_pos hj1])]
        have k1 := pull_span h (τ := σ1) (q := pos1 j) (fun q' hq => s1 _ _ (h1.val j hj1) hq) (a2 _ (h2.mem (s - N1) om))
        rw [d2 _ _ (h1.val j hj1)] at k1
        rw [show idF s j = 0 from if_neg om]
        obtain ⟨x, hx⟩ := k1
        exact ⟨-x, by rw [Int.mul_neg]; omega⟩
      · rw [sumN_congr (g := fun c => pull τ2 (e2 (s - N1)) (pos c) * pull σ2 (e c) (pos2 (j - N1))) (fun c _ => by rw [if_neg hj1])]
        have k1 := pull_span h (τ := σ2) (q := pos2 (j - N1)) (fun q' hq => s2 _ _ (h2.val _ om) hq) (a2 _ (h2.mem (s - N1) om))
        rw [c2 _ _ (h2.val _ om)] at k1
        have k4 := h2.unit (s - N1) (j - N1) om om
        have e4 : idF (s - N1) (j - N1) = idF s j := by
          unfold idF
          by_cases e : s = j
          · rw [if_pos e, if_pos om]
          · rw [if_neg e, if_neg om]
        rw [e4] at k4
        obtain ⟨x, hx⟩ := k1
        obtain ⟨z, hz⟩ := k4
        exact ⟨z - x, by rw [Int.mul_sub]; omega⟩
end Go.Proofs.YtijjkfbkihgfgaaGreat

namespace Go.Proofs.YtijjkfbkihgfgaaGreat
open Go.Lg Go.Proofs Go.RowKit

theorem mem_idx {a b : Rp} {t : Nat × Nat × Nat} {N : Nat} (h : t ∈ idxN a b N) : t.1 < N ∧ t.2.1 < dN b.d (a.q.2.2.getD t.1 0) ∧ t.2.2 < dN a.d (a.q.2.1.getD t.1 0) := by
  rw [idxN, List.mem_flatMap] at h
  obtain ⟨i, hi, h⟩ := h
  rw [rowsI, List.mem_flatMap] at h
  obtain ⟨r, hr, h⟩ := h
  obtain ⟨k, hk, rfl⟩ := List.mem_map.1 h
  exact ⟨List.mem_range.1 hi, List.mem_range.1 hr, List.mem_range.1 hk⟩
theorem sum_at {A : Nat → Nat} {B : Nat → Int} {x : Nat → Int} {n : Nat} : ∀ m, (∀ j, j < m → A j < n) → sumN (fun c => sumN (fun j => if A j = c then B j else 0) m * x c) n = sumN (fun j => B j * x (A j)) m
  | 0, _ => by
    rw [sumN_congr (g := fun _ => 0) (fun c _ => by rw [sumN, Int.zero_mul]), sumN_zero, sumN]
  | m + 1, h => by
    rw [sumN_congr (g := fun c => sumN (fun j => if A j = c then B j else 0) m * x c + (if c = A m then B m * x c else 0)) (fun c _ => by
      rw [sumN, Int.add_mul]
      by_cases e : A m = c
      · rw [if_pos e, if_pos e.symm]
      · rw [if_neg e, if_neg (fun h => e h.symm), Int.zero_mul]), sumN_add, sum_at m (fun j hj => h j om), sumN_pick (f := fun c => B m * x c), if_pos (h m om), sumN]
theorem hk_get {a b : Rp} {c : Nat} (hc : c < homN a b) : (hkL a b).getD c [] = mkv (offN a.d b.d a.d.length) (kerV a.p (redTo a.p (idxN a b a.q.2.1.length).length (eqsF a b) (offN a.d b.d a.d.length)).1 (redTo a.p (idxN a b a.q.2.1.length).length (eqsF a b) (offN a.d b.d a.d.length)).2 ((freeN (redTo a.p (idxN a b a.q.2.1.length).length (eqsF a b) (offN a.d b.d a.d.length)).2 (offN a.d b.d a.d.length)).getD c 0).toNat (redTo a.p (idxN a b a.q.2.1.length).length (eqsF a b) (offN a.d b.d a.d.length)).2.length) := by
  have hc' : c < (freeN (redTo a.p (idxN a b a.q.2.1.length).length (eqsF a b) (offN a.d b.d a.d.length)).2 (offN a.d b.d a.d.length)).length := hc
  rw [hkL, kerL, List.getD, List.getElem?_map, List.getElem?_eq_getElem hc', Option.map_some, Option.getD_some, ← getD_ix hc']
end Go.Proofs.YtijjkfbkihgfgaaGreat

namespace Go.Proofs.YtijjkfbkihgfgaaGreat
open Go.Lg Go.Proofs Go.RowKit

theorem idx_mem {a b : Rp} {i r k N : Nat} (hi : i < N) (hr : r < dN b.d (a.q.2.2.getD i 0)) (hk : k < dN a.d (a.q.2.1.getD i 0)) : (i, r, k) ∈ idxN a b N := by
  simp only [idxN, rowsI, List.mem_flatMap, List.mem_range, List.mem_map]
  exact ⟨i, hi, r, hr, k, hk, rfl⟩
theorem hk_ort {a b : Rp} (hF : FitP a b) {c : Nat} (hc : c < homN a b) : ∀ t, t < (idxN a b a.q.2.1.length).length → a.p ∣ sumN (fun j => eqsF a b t j * ((hkL a b).getD c []).getD j 0) (offN a.d b.d a.d.length) := by
  have hp := hF.1.1
  have hin0 : inF a.p (idxN a b a.q.2.1.length).length (offN a.d b.d a.d.length) (eqsF a b) := eqs_in hp
  have hr := redTo_rr hp hin0 (offN a.d b.d a.d.length) (Nat.le_refl _)
  have hc' : c < (freeN (redTo a.p (idxN a b a.q.2.1.length).length (eqsF a b) (offN a.d b.d a.d.length)).2 (offN a.d b.d a.d.length)).length := hc
  have hm := List.getElem_mem hc'
  rw [← getD_ix hc'] at hm
  have f1 := freeN_mem hm
  have f2 := freeN_not hm
  intro t ht
  rw [sumN_congr (fun j hj => by rw [hk_get hc, mkv_get hj])]
  exact red_ort hp hin0 (fun i hi => ker_ort hr om (by rw [Int.toNat_of_nonneg f1.1]; exact f2) hi) t ht
end Go.Proofs.YtijjkfbkihgfgaaGreat

namespace Go.Proofs.YtijjkfbkihgfgaaGreat
open Go.Lg Go.Proofs Go.RowKit

abbrev I3 := Nat × Nat × Nat
def encN (da db : List Int) (q : I3) : Nat := offN da db q.1 + (q.2.1 * (da.getD q.1 0).toNat + q.2.2)
def decN (da db : List Int) : Nat → Nat → I3
  | 0, _ => (0, 0, 0)
  | n + 1, k => if k < offN da db n then decN da db n k else (n, (k - offN da db n) / (da.getD n 0).toNat, (k - offN da db n) % (da.getD n 0).toNat)
def ValI (da db : List Int) (n : Nat) (q : I3) : Prop := q.1 < n ∧ q.2.1 < (db.getD q.1 0).toNat ∧ q.2.2 < (da.getD q.1 0).toNat
theorem dec_enc {da db : List Int} : ∀ {n : Nat} {q : I3}, ValI da db n q → decN da db n (encN da db q) = q
  | 0, q, h => by exact absurd h.1 om
  | n + 1, (v, j, i), ⟨h1, h2, h3⟩ => by
    simp only at h1 h2 h3
    rw [decN]
    by_cases hv : v = n
    · subst hv
      have ee : encN da db (v, j, i) = offN da db v + (j * (da.getD v 0).toNat + i) := rfl
      rw [ee, if_neg om, Nat.add_sub_cancel_left]
      refine Prod.ext rfl (Prod.ext ?_ ?_)
      · show (j * (da.getD v 0).toNat + i) / (da.getD v 0).toNat = j
        rw [Nat.mul_comm, Nat.mul_add_div om, Nat.div_eq_of_lt h3]; omega
      · show (j * (da.getD v 0).toNat + i) % (da.getD v 0).toNat = i
        rw [Nat.mul_comm, Nat.mul_add_mod, Nat.mod_eq_of_lt h3]
    · have : encN da db (v, j, i) < offN da db n := off_lt om h2 h3
      rw [if_pos this]
      exact dec_enc ⟨by simp only; omega, h2, h3⟩
theorem dec_val {da db : List Int} : ∀ {n k : Nat}, k < offN da db n → ValI da db n (decN da db n k) ∧ encN da db (decN da db n k) = k
  | 0, k, h => by simp [offN] at h
  | n + 1, k, h => by
    rw [decN]
    by_cases hk : k < offN da db n
    · rw [if_pos hk]
      obtain ⟨⟨h1, h2⟩, h3⟩ := dec_val hk
      exact ⟨⟨by omega, h2⟩, h3⟩
    · rw [if_neg hk]
      rw [offN, szV] at h
      have hr : k - offN da db n < (da.getD n 0).toNat * (db.getD n 0).toNat := by omega
      have ha : 0 < (da.getD n 0).toNat := Nat.pos_of_ne_zero (fun e => by rw [e, Nat.zero_mul] at hr; omega)
      refine ⟨⟨by simp only; omega, ?_, Nat.mod_lt _ ha⟩, ?_⟩
      · simp only
        exact Nat.div_lt_of_lt_mul hr
      · simp only [encN]
        have := Nat.div_add_mod' (k - offN da db n) (da.getD n 0).toNat
        omega
def MemH (a b : Rp) (X : I3 → Int) : Prop := ∀ i r c, i < a.q.2.1.length → r < dN b.d (a.q.2.2.getD i 0) → c < dN a.d (a.q.2.1.getD i 0) →
  a.p ∣ sumN (fun k => matF (b.m.getD i mat0) r k * X ((a.q.2.1.getD i 0).toNat, k, c)) (dN b.d (a.q.2.1.getD i 0)) - sumN (fun k => X ((a.q.2.2.getD i 0).toNat, r, k) * matF (a.m.getD i mat0) k c) (dN a.d (a.q.2.2.getD i 0))
theorem ar_rng {a b : Rp} (hF : FitP a b) {i : Nat} (hi : i < a.q.2.1.length) : (a.q.2.1.getD i 0).toNat < a.d.length ∧ (a.q.2.2.getD i 0).toNat < a.d.length := by
  have hQ := hF.1.2.1.1
  have hs := inP_get hQ.2.2.2.1 (i := i) hi
  have htt := inP_get hQ.2.2.2.2 (i := i) (by have := hQ.2.2.1; omega)
  have hdl := hF.1.2.1.2.1
  omega
theorem ort_iff {a b : Rp} (hF : FitP a b) {x : Nat → Int} {X : I3 → Int} (hX : ∀ q, ValI a.d b.d a.d.length q → x (encN a.d b.d q) = X q) :
    (∀ t, t < (idxN a b a.q.2.1.length).length → a.p ∣ sumN (fun c => eqsF a b t c * x c) (offN a.d b.d a.d.length)) ↔ MemH a b X := by
  have key : ∀ i r k, i < a.q.2.1.length → r < dN b.d (a.q.2.2.getD i 0) → k < dN a.d (a.q.2.1.getD i 0) →
      a.p ∣ sumN (fun c => eqE a b i r k c * x c) (offN a.d b.d a.d.length) - (sumN (fun j => matF (b.m.getD i mat0) r j * X ((a.q.2.1.getD i 0).toNat, j, k)) (dN b.d (a.q.2.1.getD i 0)) - sumN (fun j => X ((a.q.2.2.getD i 0).toNat, r, j) * matF (a.m.getD i mat0) j k) (dN a.d (a.q.2.2.getD i 0))) := fun i r k hi hr hk => by
    obtain ⟨hs', ht'⟩ := ar_rng hF hi
    have h1 := sum_at (A := fun j => at1 a b i k j) (B := fun j => matF (b.m.getD i mat0) r j) (x := x) (n := offN a.d b.d a.d.length) (dN b.d (a.q.2.1.getD i 0)) (fun j hj => off_lt hs' hj hk)
    have h2 := sum_at (A := fun j => at2 a b i r j) (B := fun j => matF (a.m.getD i mat0) j k) (x := x) (n := offN a.d b.d a.d.length) (dN a.d (a.q.2.2.getD i 0)) (fun j hj => off_lt ht' hr hj)
    have e1 : sumN (fun j => matF (b.m.getD i mat0) r j * X ((a.q.2.1.getD i 0).toNat, j, k)) (dN b.d (a.q.2.1.getD i 0)) = sumN (fun j => matF (b.m.getD i mat0) r j * x (at1 a b i k j)) (dN b.d (a.q.2.1.getD i 0)) := sumN_congr (fun j hj => by
      rw [← hX ((a.q.2.1.getD i 0).toNat, j, k) ⟨hs', hj, hk⟩]; rfl)
    have e2 : sumN (fun j => X ((a.q.2.2.getD i 0).toNat, r, j) * matF (a.m.getD i mat0) j k) (dN a.d (a.q.2.2.getD i 0)) = sumN (fun j => matF (a.m.getD i mat0) j k * x (at2 a b i r j)) (dN a.d (a.q.2.2.getD i 0)) := sumN_congr (fun j hj => by
      rw [← hX ((a.q.2.2.getD i 0).toNat, r, j) ⟨ht', hr, hj⟩, Int.mul_comm]; rfl)
    rw [e1, e2, ← h1, ← h2]
    have hd : a.p ∣ sumN (fun c => eqE a b i r k c * x c) (offN a.d b.d a.d.length) - sumN (fun c => sum1 a b i r k c (dN b.d (a.q.2.1.getD i 0)) * x c + sum2 a b i r k c (dN a.d (a.q.2.2.getD i 0)) * x c * (-1)) (offN a.d b.d a.d.length) := dvd_sumN (fun c _ => by
      obtain ⟨y, hy⟩ := emod_sub (p := a.p) (x := sum1 a b i r k c (dN b.d (a.q.2.1.getD i 0)) - sum2 a b i r k c (dN a.d (a.q.2.2.getD i 0)))
      exact ⟨y * x c, by rw [eqE]; grind⟩)
    rw [sumN_add, sumN_mul] at hd
    obtain ⟨z, hz⟩ := hd
    exact ⟨z, by simp only [sum1, sum2] at hz; omega⟩
  constructor
  · intro h i r k hi hr hk
    obtain ⟨t, ht, e⟩ := List.getElem_of_mem (idx_mem hi hr hk)
    have h0 := h t ht
    have e0 : ∀ c, eqsF a b t c = eqE a b i r k c := fun c => by
      unfold eqsF
      rw [List.getD, List.getElem?_eq_getElem ht, e]; rfl
    simp only [e0] at h0
    obtain ⟨x1, h1⟩ := h0
    obtain ⟨x2, h2⟩ := key i r k hi hr hk
    exact ⟨x1 - x2, by have e := Int.mul_sub a.p x1 x2; omega⟩
  · intro h t ht
    have hm : (idxN a b a.q.2.1.length).getD t (0, 0, 0) ∈ idxN a b a.q.2.1.length := by
      rw [List.getD, List.getElem?_eq_getElem ht]; exact List.getElem_mem _
    have e0 : ∀ c, eqsF a b t c = eqE a b ((idxN a b a.q.2.1.length).getD t (0, 0, 0)).1 ((idxN a b a.q.2.1.length).getD t (0, 0, 0)).2.1 ((idxN a b a.q.2.1.length).getD t (0, 0, 0)).2.2 c := fun _ => rfl
    simp only [e0]
    obtain ⟨hi, hr, hk⟩ := mem_idx hm
    obtain ⟨x1, h1⟩ := h _ _ _ hi hr hk
    obtain ⟨x2, h2⟩ := key _ _ _ hi hr hk
    exact ⟨x1 + x2, by have e := Int.mul_add a.p x1 x2; omega⟩
def frK (a b : Rp) (s : Nat) : Nat := ((freeN (redTo a.p (idxN a b a.q.2.1.length).length (eqsF a b) (offN a.d b.d a.d.length)).2 (offN a.d b.d a.d.length)).getD s 0).toNat
def hmE (a b : Rp) (s : Nat) : I3 → Int := fun q => ((hkL a b).getD s []).getD (encN a.d b.d q) 0
def hmP (a b : Rp) (s : Nat) : I3 := decN a.d b.d a.d.length (frK a b s)
theorem hom_spc {a b : Rp} (hF : FitP a b) : Spc0 a.p (MemH a b) (ValI a.d b.d a.d.length) (homN a b) (hmE a b) (hmP a b) := by
  have hp := hF.1.1
  have hin0 : inF a.p (idxN a b a.q.2.1.length).length (offN a.d b.d a.d.length) (eqsF a b) := eqs_in hp
  have hr := redTo_rr hp hin0 (offN a.d b.d a.d.length) (Nat.le_refl _)
  have hmem : ∀ c, c < homN a b → frK a b c < offN a.d b.d a.d.length ∧ (((frK a b c : Nat) : Int) = (freeN (redTo a.p (idxN a b a.q.2.1.length).length (eqsF a b) (offN a.d b.d a.d.length)).2 (offN a.d b.d a.d.length)).getD c 0) ∧ ¬ ((frK a b c : Nat) : Int) ∈ (redTo a.p (idxN a b a.q.2.1.length).length (eqsF a b) (offN a.d b.d a.d.length)).2 := fun c hc => by
    have hc' : c < (freeN (redTo a.p (idxN a b a.q.2.1.length).length (eqsF a b) (offN a.d b.d a.d.length)).2 (offN a.d b.d a.d.length)).length := hc
    have hm := List.getElem_mem hc'
    rw [← getD_ix hc'] at hm
    have h1 := freeN_mem hm
    have h2 := freeN_not hm
    have e : ((frK a b c : Nat) : Int) = (freeN (redTo a.p (idxN a b a.q.2.1.length).length (eqsF a b) (offN a.d b.d a.d.length)).2 (offN a.d b.d a.d.length)).getD c 0 := by rw [frK]; omega
    exact ⟨by omega, e, by rw [e]; exact h2⟩
  have hdv : ∀ s, s < homN a b → ValI a.d b.d a.d.length (hmP a b s) ∧ encN a.d b.d (hmP a b s) = frK a b s := fun s hs => dec_val (hmem s hs).1
  refine ⟨fun s hs => (ort_iff hF (x := fun c => ((hkL a b).getD s []).getD c 0) (fun q _ => rfl)).1 (hk_ort hF hs), fun s hs => (hdv s hs).1, fun s i hs hi => ?_, fun X hX q hq => ?_⟩
  · have e1 : hmE a b s (hmP a b i) = idF s i := by
      rw [hmE, (hdv i hi).2, hk_get hs, mkv_get (hmem i hi).1, kerV_un _ (pv_ne (hmem i hi).2.2 hr), idF]
      by_cases e : s = i
      · rw [if_pos e, e]; exact if_pos rfl
      · rw [if_neg e, if_neg]
        intro e2
        have m1 := (hmem i hi).2.1
        have m2 := (hmem s hs).2.1
        change frK a b i = frK a b s at e2
        rcases Nat.lt_or_gt_of_ne e with h | h
        · have := freeN_up (l := (redTo a.p (idxN a b a.q.2.1.length).length (eqsF a b) (offN a.d b.d a.d.length)).2) (offN a.d b.d a.d.length) s i h hi; omega
        · have := freeN_up (l := (redTo a.p (idxN a b a.q.2.1.length).length (eqsF a b) (offN a.d b.d a.d.length)).2) (offN a.d b.d a.d.length) i s h hs; omega
    rw [e1, Int.sub_self]
    exact Int.dvd_zero _
  · have ho := (ort_iff hF (x := fun k => X (decN a.d b.d a.d.length k)) (X := X) (fun q hq => by rw [dec_enc hq])).2 hX
    have hlt : encN a.d b.d q < offN a.d b.d a.d.length := off_lt hq.1 hq.2.1 hq.2.2
    have hs := ker_span hr (ort_red hp hin0 ho) (encN a.d b.d q) hlt
    rw [dec_enc hq] at hs
    have e : sumN (fun s => X (hmP a b s) * hmE a b s q) (homN a b) = sumN (fun s => kerV a.p (redTo a.p (idxN a b a.q.2.1.length).length (eqsF a b) (offN a.d b.d a.d.length)).1 (redTo a.p (idxN a b a.q.2.1.length).length (eqsF a b) (offN a.d b.d a.d.length)).2 ((freeN (redTo a.p (idxN a b a.q.2.1.length).length (eqsF a b) (offN a.d b.d a.d.length)).2 (offN a.d b.d a.d.length)).getD s 0).toNat (redTo a.p (idxN a b a.q.2.1.length).length (eqsF a b) (offN a.d b.d a.d.length)).2.length (encN a.d b.d q) * X (decN a.d b.d a.d.length ((freeN (redTo a.p (idxN a b a.q.2.1.length).length (eqsF a b) (offN a.d b.d a.d.length)).2 (offN a.d b.d a.d.length)).getD s 0).toNat)) (homN a b) := sumN_congr (fun s hs => by
      rw [hmE, hk_get hs, mkv_get hlt, Int.mul_comm]; rfl)
    rw [e]
    exact hs
end Go.Proofs.YtijjkfbkihgfgaaGreat

namespace Go.Proofs.YtijjkfbkihgfgaaGreat
open Go.Lg Go.Proofs Go.RowKit

theorem blk_at {R C : Nat} {f g : Nat → Nat → Int} {i j : Nat} : blkF R C f (fun _ _ => 0) g i j = if i < R then (if j < C then f i j else 0) else (if j < C then 0 else g (i - R) (j - C)) := rfl
theorem blk_row {R C D : Nat} {f g : Nat → Nat → Int} {r : Nat} {Y : Nat → Int} : sumN (fun k => blkF R C f (fun _ _ => 0) g r k * Y k) (C + D) = if r < R then sumN (fun k => f r k * Y k) C else sumN (fun k => g (r - R) k * Y (C + k)) D := by
  rw [sumN_split]
  by_cases hr : r < R
  · rw [if_pos hr, sumN_congr (n := C) (g := fun k => f r k * Y k) (fun k hk => by rw [blk_at, if_pos hr, if_pos hk]), sumN_congr (n := D) (g := fun _ => 0) (fun k _ => by rw [blk_at, if_pos hr, if_neg om, Int.zero_mul]), sumN_zero, Int.add_zero]
  · rw [if_neg hr, sumN_congr (n := C) (g := fun _ => 0) (fun k hk => by rw [blk_at, if_neg hr, if_pos hk, Int.zero_mul]), sumN_congr (n := D) (g := fun k => g (r - R) k * Y (C + k)) (fun k _ => by rw [blk_at, if_neg hr, if_neg om, Nat.add_sub_cancel_left]), sumN_zero, Int.zero_add]
theorem blk_col {R S C : Nat} {f g : Nat → Nat → Int} {c : Nat} {Y : Nat → Int} : sumN (fun k => Y k * blkF R C f (fun _ _ => 0) g k c) (R + S) = if c < C then sumN (fun k => Y k * f k c) R else sumN (fun k => Y (R + k) * g k (c - C)) S := by
  rw [sumN_split]
  by_cases hc : c < C
  · rw [if_pos hc, sumN_congr (n := R) (g := fun k => Y k * f k c) (fun k hk => by rw [blk_at, if_pos hk, if_pos hc]), sumN_congr (n := S) (g := fun _ => 0) (fun k _ => by rw [blk_at, if_neg om, if_pos hc, Int.mul_zero]), sumN_zero, Int.add_zero]
  · rw [if_neg hc, sumN_congr (n := R) (g := fun _ => 0) (fun k hk => by rw [blk_at, if_pos hk, if_neg hc, Int.mul_zero]), sumN_congr (n := S) (g := fun k => Y (R + k) * g k (c - C)) (fun k _ => by rw [blk_at, if_neg om, if_neg hc, Nat.add_sub_cancel_left]), sumN_zero, Int.zero_add]
theorem ds_d {a b : Rp} (h : FitP a b) {v : Nat} (hv : v < a.d.length) : ((dsR a b).d.getD v 0).toNat = (a.d.getD v 0).toNat + (b.d.getD v 0).toNat := by
  have e : (dsR a b).d = mkv a.d.length (dsD a b) := rfl
  have hl : b.d.length = a.d.length := by have h1 := h.1.2.1.2.1; have h2 := h.2.1.2.1.2.1; rw [← h.2.2.2] at h2; omega
  have h1 := inP_get h.1.2.1.2.2.1 (i := v) hv
  have h2 := inP_get h.2.1.2.1.2.2.1 (i := v) om
  rw [e, mkv_get hv, dsD]
  omega
theorem ds_dN {a b : Rp} (h : FitP a b) {v : Int} (hv : v.toNat < a.d.length) : dN (dsR a b).d v = dN a.d v + dN b.d v := ds_d h hv
theorem ds_m {a b : Rp} (h : FitP a b) {i : Nat} (hi : i < a.q.2.1.length) {k c : Nat} (hk : k < dN a.d (a.q.2.2.getD i 0) + dN b.d (a.q.2.2.getD i 0)) (hc : c < dN a.d (a.q.2.1.getD i 0) + dN b.d (a.q.2.1.getD i 0)) :
    matF ((dsR a b).m.getD i mat0) k c = blkF (dN a.d (a.q.2.2.getD i 0)) (dN a.d (a.q.2.1.getD i 0)) (matF (a.m.getD i mat0)) (fun _ _ => 0) (matF (b.m.getD i mat0)) k c := by
  have hia : i < a.m.length := by rw [h.1.2.2.1]; exact hi
  have hib : i < b.m.length := by rw [h.2.1.2.2.1, ← h.2.2.2]; exact hi
  have ha := h.1.2.2.2 i hia
  have hb := h.2.1.2.2.2 i hib
  have hq := h.2.2.2
  unfold MapP at hb
  rw [← hq] at hb
  have e : (dsR a b).m.getD i mat0 = dsM a b i := tabM_getD hia
  have e1 : (a.m.getD i mat0).1.toNat = dN a.d (a.q.2.2.getD i 0) := by rw [ha.2.2]; rfl
  have e2 : (a.m.getD i mat0).2.1.toNat = dN a.d (a.q.2.1.getD i 0) := by rw [ha.2.1]; rfl
  have e3 : (b.m.getD i mat0).1.toNat = dN b.d (a.q.2.2.getD i 0) := by rw [hb.2.2]; rfl
  have e4 : (b.m.getD i mat0).2.1.toNat = dN b.d (a.q.2.1.getD i 0) := by rw [hb.2.1]; rfl
  rw [e, dsM, e1, e2, e3, e4]
  exact matF_mk hk hc
theorem dvd_sub_congr {p x y x' y' : Int} (h : p ∣ x' - y') (e1 : x = x') (e2 : y = y') : p ∣ x - y := by subst e1; subst e2; exact h
theorem dvd_sub_zero {p x y : Int} (e1 : x = 0) (e2 : y = 0) : p ∣ x - y := by subst e1; subst e2; exact ⟨0, by omega⟩
theorem sumN_z {f : Nat → Int} {n : Nat} (h : ∀ k, k < n → f k = 0) : sumN f n = 0 := by rw [sumN_congr h, sumN_zero]
def tC (A : Nat → Nat) : I3 → Option I3 := fun q => if q.2.2 < A q.1 then some q else none
def tD (A : Nat → Nat) : I3 → Option I3 := fun q => if q.2.2 < A q.1 then none else some (q.1, q.2.1, q.2.2 - A q.1)
def tE (A : Nat → Nat) : I3 → Option I3 := fun q => some (q.1, q.2.1, A q.1 + q.2.2)
def tR (A : Nat → Nat) : I3 → Option I3 := fun q => if q.2.1 < A q.1 then some q else none
def tS (A : Nat → Nat) : I3 → Option I3 := fun q => if q.2.1 < A q.1 then none else some (q.1, q.2.1 - A q.1, q.2.2)
def tT (A : Nat → Nat) : I3 → Option I3 := fun q => some (q.1, A q.1 + q.2.1, q.2.2)
section
variable {A : Nat → Nat} {X : I3 → Int} {v j i : Nat}
theorem pl_C : pull (tC A) X (v, j, i) = if i < A v then X (v, j, i) else 0 := by
  unfold pull tC; by_cases h : i < A v <;> simp [h]
theorem pl_D : pull (tD A) X (v, j, i) = if i < A v then 0 else X (v, j, i - A v) := by
  unfold pull tD; by_cases h : i < A v <;> simp [h]
theorem pl_E : pull (tE A) X (v, j, i) = X (v, j, A v + i) := rfl
theorem pl_R : pull (tR A) X (v, j, i) = if j < A v then X (v, j, i) else 0 := by
  unfold pull tR; by_cases h : j < A v <;> simp [h]
theorem pl_S : pull (tS A) X (v, j, i) = if j < A v then 0 else X (v, j - A v, i) := by
  unfold pull tS; by_cases h : j < A v <;> simp [h]
theorem pl_T : pull (tT A) X (v, j, i) = X (v, A v + j, i) := rfl
theorem pl_I : pull some X (v, j, i) = X (v, j, i) := rfl
end
theorem homL_add {a b x : Rp} (h : DsP a b) (hx : FitP a x) : homN (dsR a b) x = homN a x + homN b x := by
  have hf := h.1
  have hT : FitP (dsR a b) x := ⟨h.2, hx.2.1, hx.2.2.1, hx.2.2.2⟩
  have hB : FitP b x := ⟨hf.2.1, hx.2.1, by rw [← hf.2.2.1]; exact hx.2.2.1, by rw [← hf.2.2.2]; exact hx.2.2.2⟩
  have hl : b.d.length = a.d.length := by have h1 := hf.1.2.1.2.1; have h2 := hf.2.1.2.1.2.1; rw [← hf.2.2.2] at h2; omega
  have hlT : (dsR a b).d.length = a.d.length := by show (mkv a.d.length (dsD a b)).length = _; rw [mkv_length]
  have hq : b.q = a.q := hf.2.2.2.symm
  have hp : b.p = a.p := hf.2.2.1.symm
  have s0 := hom_spc hT
  have s1 := hom_spc hx
  have s2 := hom_spc hB
  rw [hlT] at s0
  rw [hl, hp] at s2
  have m1 : ∀ X, MemH a x X ↔ ∀ i r c, i < a.q.2.1.length → r < dN x.d (a.q.2.2.getD i 0) → c < dN a.d (a.q.2.1.getD i 0) → a.p ∣ sumN (fun k => matF (x.m.getD i mat0) r k * X ((a.q.2.1.getD i 0).toNat, k, c)) (dN x.d (a.q.2.1.getD i 0)) - sumN (fun k => X ((a.q.2.2.getD i 0).toNat, r, k) * matF (a.m.getD i mat0) k c) (dN a.d (a.q.2.2.getD i 0)) := fun X => Iff.rfl
  have m2 : ∀ X, MemH b x X ↔ ∀ i r c, i < a.q.2.1.length → r < dN x.d (a.q.2.2.getD i 0) → c < dN b.d (a.q.2.1.getD i 0) → a.p ∣ sumN (fun k => matF (x.m.getD i mat0) r k * X ((a.q.2.1.getD i 0).toNat, k, c)) (dN x.d (a.q.2.1.getD i 0)) - sumN (fun k => X ((a.q.2.2.getD i 0).toNat, r, k) * matF (b.m.getD i mat0) k c) (dN b.d (a.q.2.2.getD i 0)) := fun X => by unfold MemH; rw [hq, hp]
  have m0 : ∀ X, MemH (dsR a b) x X ↔ ∀ i r c, i < a.q.2.1.length → r < dN x.d (a.q.2.2.getD i 0) → c < dN a.d (a.q.2.1.getD i 0) + dN b.d (a.q.2.1.getD i 0) → a.p ∣ sumN (fun k => matF (x.m.getD i mat0) r k * X ((a.q.2.1.getD i 0).toNat, k, c)) (dN x.d (a.q.2.1.getD i 0)) - (if c < dN a.d (a.q.2.1.getD i 0) then sumN (fun k => X ((a.q.2.2.getD i 0).toNat, r, k) * matF (a.m.getD i mat0) k c) (dN a.d (a.q.2.2.getD i 0)) else sumN (fun k => X ((a.q.2.2.getD i 0).toNat, r, dN a.d (a.q.2.2.getD i 0) + k) * matF (b.m.getD i mat0) k (c - dN a.d (a.q.2.1.getD i 0))) (dN b.d (a.q.2.2.getD i 0))) := fun X => by
    have e : ∀ i, i < a.q.2.1.length → ∀ r c, c < dN a.d (a.q.2.1.getD i 0) + dN b.d (a.q.2.1.getD i 0) → sumN (fun k => X ((a.q.2.2.getD i 0).toNat, r, k) * matF ((dsR a b).m.getD i mat0) k c) (dN (dsR a b).d (a.q.2.2.getD i 0)) = (if c < dN a.d (a.q.2.1.getD i 0) then sumN (fun k => X ((a.q.2.2.getD i 0).toNat, r, k) * matF (a.m.getD i mat0) k c) (dN a.d (a.q.2.2.getD i 0)) else sumN (fun k => X ((a.q.2.2.getD i 0).toNat, r, dN a.d (a.q.2.2.getD i 0) + k) * matF (b.m.getD i mat0) k (c - dN a.d (a.q.2.1.getD i 0))) (dN b.d (a.q.2.2.getD i 0))) := fun i hi r c hc => by
      rw [ds_dN hf (ar_rng hf hi).2, ← blk_col (R := dN a.d (a.q.2.2.getD i 0)) (S := dN b.d (a.q.2.2.getD i 0)) (C := dN a.d (a.q.2.1.getD i 0)) (f := matF (a.m.getD i mat0)) (g := matF (b.m.getD i mat0)) (c := c) (Y := fun k => X ((a.q.2.2.getD i 0).toNat, r, k))]
      exact sumN_congr (fun k hk => by rw [ds_m hf hi hk hc])
    constructor
    · intro H i r c hi hr hc
      rw [← e i hi r c hc]
      exact H i r c hi hr (by show c < dN (dsR a b).d (a.q.2.1.getD i 0); rw [ds_dN hf (ar_rng hf hi).1]; exact hc)
    · intro H i r c hi hr hc
      have hc' : c < dN a.d (a.q.2.1.getD i 0) + dN b.d (a.q.2.1.getD i 0) := by rw [← ds_dN hf (ar_rng hf hi).1]; exact hc
      have := H i r c hi hr hc'
      rw [← e i hi r c hc'] at this
      exact this
  refine dims_add (τ1 := tC (fun v => (a.d.getD v 0).toNat)) (τ2 := tD (fun v => (a.d.getD v 0).toNat)) (σ1 := some) (σ2 := tE (fun v => (a.d.getD v 0).toNat)) hx.1.1 s0 s1 s2 ?_ ?_ ?_ ?_ ?_ ?_ ?_ ?_ ?_ ?_ ?_ ?_ ?_
  · rintro ⟨v, j, i⟩ q' ⟨h1, h2, h3⟩ he
    simp only [tC] at h1 h2 h3 he
    split at he
    · cases he; exact ⟨h1, h2, by assumption⟩
    · exact absurd he (by simp)
  · rintro ⟨v, j, i⟩ q' ⟨h1, h2, h3⟩ he
    simp only [tD] at h1 h2 h3 he
    rw [ds_d hf h1] at h3
    split at he
    · exact absurd he (by simp)
    · cases he; exact ⟨h1, h2, by simp only; omega⟩
  · rintro ⟨v, j, i⟩ q' ⟨h1, h2, h3⟩ he
    cases he
    simp only at h1 h2 h3
    exact ⟨h1, h2, by simp only; rw [ds_d hf h1]; omega⟩
  · rintro ⟨v, j, i⟩ q' ⟨h1, h2, h3⟩ he
    cases he
    simp only at h1 h2 h3
    exact ⟨h1, h2, by simp only; rw [ds_d hf h1]; omega⟩
  · intro X hX
    refine (m0 _).2 (fun i r c hi hr hc => ?_)
    by_cases h5 : c < dN a.d (a.q.2.1.getD i 0)
    · rw [if_pos h5]
      exact dvd_sub_congr ((m1 X).1 hX i r c hi hr h5) (sumN_congr (fun k _ => by rw [pl_C, if_pos (by exact h5)])) (sumN_congr (fun k hk => by rw [pl_C, if_pos (by exact hk)]))
    · rw [if_neg h5]
      exact dvd_sub_zero (sumN_z (fun k _ => by rw [pl_C, if_neg (by exact h5), Int.mul_zero])) (sumN_z (fun k hk => by rw [pl_C, if_neg (by simp only [dN]; omega), Int.zero_mul]))
  · intro X hX
    refine (m0 _).2 (fun i r c hi hr hc => ?_)
    by_cases h5 : c < dN a.d (a.q.2.1.getD i 0)
    · rw [if_pos h5]
      exact dvd_sub_zero (sumN_z (fun k _ => by rw [pl_D, if_pos (by exact h5), Int.mul_zero])) (sumN_z (fun k hk => by rw [pl_D, if_pos (by exact hk), Int.zero_mul]))
    · rw [if_neg h5]
      exact dvd_sub_congr ((m2 X).1 hX i r (c - dN a.d (a.q.2.1.getD i 0)) hi hr om) (sumN_congr (fun k _ => by rw [pl_D, if_neg (by exact h5)]; rfl)) (sumN_congr (fun k hk => by rw [pl_D, if_neg (by simp only [dN]; omega)]; simp only [dN, Nat.add_sub_cancel_left]))
  · intro X hX
    refine (m1 _).2 (fun i r c hi hr hc => ?_)
    have := (m0 X).1 hX i r c hi hr om
    rw [if_pos hc] at this
    exact this
  · intro X hX
    refine (m2 _).2 (fun i r c hi hr hc => ?_)
    have := (m0 X).1 hX i r (dN a.d (a.q.2.1.getD i 0) + c) hi hr om
    rw [if_neg om, Nat.add_sub_cancel_left] at this
    exact this
  · rintro X ⟨v, j, i⟩ _
    rw [pl_C, pl_D]
    by_cases h5 : i < (a.d.getD v 0).toNat
    · rw [if_pos h5, if_pos h5, pl_I, Int.add_zero]
    · rw [if_neg h5, if_neg h5, pl_E, Int.zero_add, Nat.add_sub_cancel' om]
  · rintro X ⟨v, j, i⟩ ⟨_, _, h3⟩
    rw [pl_I, pl_C, if_pos (by exact h3)]
  · rintro X ⟨v, j, i⟩ _
    rw [pl_E, pl_D, if_neg (Nat.not_lt.2 (Nat.le_add_right _ _)), Nat.add_sub_cancel_left]
  · rintro X ⟨v, j, i⟩ _
    rw [pl_E, pl_C, if_neg (Nat.not_lt.2 (Nat.le_add_right _ _))]
  · rintro X ⟨v, j, i⟩ ⟨_, _, h3⟩
    rw [pl_I, pl_D, if_pos (by exact h3)]
theorem homR_add {a b x : Rp} (h : DsP a b) (hx : FitP x a) : homN x (dsR a b) = homN x a + homN x b := by
  have hf := h.1
  have hT : FitP x (dsR a b) := ⟨hx.1, h.2, hx.2.2.1, hx.2.2.2⟩
  have hB : FitP x b := ⟨hx.1, hf.2.1, by rw [hx.2.2.1]; exact hf.2.2.1, by rw [hx.2.2.2]; exact hf.2.2.2⟩
  have hqa : a.q = x.q := hx.2.2.2.symm
  have hl : x.d.length = a.d.length := by have h1 := hf.1.2.1.2.1; have h2 := hx.1.2.1.2.1; rw [← hqa] at h2; omega
  have s0 := hom_spc hT
  have s1 := hom_spc hx
  have s2 := hom_spc hB
  have rng : ∀ i, i < x.q.2.1.length → (x.q.2.1.getD i 0).toNat < a.d.length ∧ (x.q.2.2.getD i 0).toNat < a.d.length := fun i hi => by
    have := ar_rng hx hi
    rw [hl] at this
    exact this
  have dm : ∀ i, i < x.q.2.1.length → ∀ k c, k < dN a.d (x.q.2.2.getD i 0) + dN b.d (x.q.2.2.getD i 0) → c < dN a.d (x.q.2.1.getD i 0) + dN b.d (x.q.2.1.getD i 0) → matF ((dsR a b).m.getD i mat0) k c = blkF (dN a.d (x.q.2.2.getD i 0)) (dN a.d (x.q.2.1.getD i 0)) (matF (a.m.getD i mat0)) (fun _ _ => 0) (matF (b.m.getD i mat0)) k c := fun i hi k c hk hc => by
    have := ds_m hf (i := i) (k := k) (c := c) (by rw [hqa]; exact hi) (by rw [hqa]; exact hk) (by rw [hqa]; exact hc)
    rw [hqa] at this
    exact this
  have m0 : ∀ X, MemH x (dsR a b) X ↔ ∀ i r c, i < x.q.2.1.length → r < dN a.d (x.q.2.2.getD i 0) + dN b.d (x.q.2.2.getD i 0) → c < dN x.d (x.q.2.1.getD i 0) → x.p ∣ (if r < dN a.d (x.q.2.2.getD i 0) then sumN (fun k => matF (a.m.getD i mat0) r k * X ((x.q.2.1.getD i 0).toNat, k, c)) (dN a.d (x.q.2.1.getD i 0)) else sumN (fun k => matF (b.m.getD i mat0) (r - dN a.d (x.q.2.2.getD i 0)) k * X ((x.q.2.1.getD i 0).toNat, dN a.d (x.q.2.1.getD i 0) + k, c)) (dN b.d (x.q.2.1.getD i 0))) - sumN (fun k => X ((x.q.2.2.getD i 0).toNat, r, k) * matF (x.m.getD i mat0) k c) (dN x.d (x.q.2.2.getD i 0)) := fun X => by
    have e : ∀ i, i < x.q.2.1.length → ∀ r c, r < dN a.d (x.q.2.2.getD i 0) + dN b.d (x.q.2.2.getD i 0) → sumN (fun k => matF ((dsR a b).m.getD i mat0) r k * X ((x.q.2.1.getD i 0).toNat, k, c)) (dN (dsR a b).d (x.q.2.1.getD i 0)) = (if r < dN a.d (x.q.2.2.getD i 0) then sumN (fun k => matF (a.m.getD i mat0) r k * X ((x.q.2.1.getD i 0).toNat, k, c)) (dN a.d (x.q.2.1.getD i 0)) else sumN (fun k => matF (b.m.getD i mat0) (r - dN a.d (x.q.2.2.getD i 0)) k * X ((x.q.2.1.getD i 0).toNat, dN a.d (x.q.2.1.getD i 0) + k, c)) (dN b.d (x.q.2.1.getD i 0))) := fun i hi r c hr => by
      rw [ds_dN hf (rng i hi).1, ← blk_row (R := dN a.d (x.q.2.2.getD i 0)) (D := dN b.d (x.q.2.1.getD i 0)) (C := dN a.d (x.q.2.1.getD i 0)) (f := matF (a.m.getD i mat0)) (g := matF (b.m.getD i mat0)) (r := r) (Y := fun k => X ((x.q.2.1.getD i 0).toNat, k, c))]
      exact sumN_congr (fun k hk => by rw [dm i hi r k hr hk])
    constructor
    · intro H i r c hi hr hc
      rw [← e i hi r c hr]
      exact H i r c hi (by rw [ds_dN hf (rng i hi).2]; exact hr) hc
    · intro H i r c hi hr hc
      have hr' : r < dN a.d (x.q.2.2.getD i 0) + dN b.d (x.q.2.2.getD i 0) := by rw [← ds_dN hf (rng i hi).2]; exact hr
      have := H i r c hi hr' hc
      rw [← e i hi r c hr'] at this
      exact this
  refine dims_add (τ1 := tR (fun v => (a.d.getD v 0).toNat)) (τ2 := tS (fun v => (a.d.getD v 0).toNat)) (σ1 := some) (σ2 := tT (fun v => (a.d.getD v 0).toNat)) hx.1.1 s0 s1 s2 ?_ ?_ ?_ ?_ ?_ ?_ ?_ ?_ ?_ ?_ ?_ ?_ ?_
  · rintro ⟨v, j, i⟩ q' ⟨h1, h2, h3⟩ he
    simp only [tR] at h1 h2 h3 he
    split at he
    · cases he; exact ⟨h1, by assumption, h3⟩
    · exact absurd he (by simp)
  · rintro ⟨v, j, i⟩ q' ⟨h1, h2, h3⟩ he
    simp only [tS] at h1 h2 h3 he
    rw [ds_d hf om] at h2
    split at he
    · exact absurd he (by simp)
    · cases he; exact ⟨h1, by simp only; omega, h3⟩
  · rintro ⟨v, j, i⟩ q' ⟨h1, h2, h3⟩ he
    cases he
    simp only at h1 h2 h3
    exact ⟨h1, by simp only; rw [ds_d hf om]; omega, h3⟩
  · rintro ⟨v, j, i⟩ q' ⟨h1, h2, h3⟩ he
    cases he
    simp only at h1 h2 h3
    exact ⟨h1, by simp only; rw [ds_d hf om]; omega, h3⟩
  · intro X hX
    refine (m0 _).2 (fun i r c hi hr hc => ?_)
    by_cases h5 : r < dN a.d (x.q.2.2.getD i 0)
    · rw [if_pos h5]
      exact dvd_sub_congr (hX i r c hi h5 hc) (sumN_congr (fun k hk => by rw [pl_R, if_pos (by exact hk)])) (sumN_congr (fun k hk => by rw [pl_R, if_pos (by exact h5)]))
    · rw [if_neg h5]
      exact dvd_sub_zero (sumN_z (fun k _ => by rw [pl_R, if_neg (by simp only [dN]; omega), Int.mul_zero])) (sumN_z (fun k hk => by rw [pl_R, if_neg (by exact h5), Int.zero_mul]))
  · intro X hX
    refine (m0 _).2 (fun i r c hi hr hc => ?_)
    by_cases h5 : r < dN a.d (x.q.2.2.getD i 0)
    · rw [if_pos h5]
      exact dvd_sub_zero (sumN_z (fun k hk => by rw [pl_S, if_pos (by exact hk), Int.mul_zero])) (sumN_z (fun k hk => by rw [pl_S, if_pos (by exact h5), Int.zero_mul]))
    · rw [if_neg h5]
      exact dvd_sub_congr (hX i (r - dN a.d (x.q.2.2.getD i 0)) c hi om hc) (sumN_congr (fun k _ => by rw [pl_S, if_neg (by simp only [dN]; omega)]; simp only [dN, Nat.add_sub_cancel_left])) (sumN_congr (fun k hk => by rw [pl_S, if_neg (by exact h5)]; rfl))
  · intro X hX i r c hi hr hc
    have := (m0 X).1 hX i r c hi om hc
    rw [if_pos hr] at this
    exact this
  · intro X hX i r c hi hr hc
    have := (m0 X).1 hX i (dN a.d (x.q.2.2.getD i 0) + r) c hi om hc
    rw [if_neg om, Nat.add_sub_cancel_left] at this
    exact this
  · rintro X ⟨v, j, i⟩ _
    rw [pl_R, pl_S]
    by_cases h5 : j < (a.d.getD v 0).toNat
    · rw [if_pos h5, if_pos h5, pl_I, Int.add_zero]
    · rw [if_neg h5, if_neg h5, pl_T, Int.zero_add, Nat.add_sub_cancel' om]
  · rintro X ⟨v, j, i⟩ ⟨_, h2, _⟩
    rw [pl_I, pl_R, if_pos (by exact h2)]
  · rintro X ⟨v, j, i⟩ _
    rw [pl_T, pl_S, if_neg (Nat.not_lt.2 (Nat.le_add_right _ _)), Nat.add_sub_cancel_left]
  · rintro X ⟨v, j, i⟩ _
    rw [pl_T, pl_R, if_neg (Nat.not_lt.2 (Nat.le_add_right _ _))]
  · rintro X ⟨v, j, i⟩ ⟨_, h2, _⟩
    rw [pl_I, pl_S, if_pos (by exact h2)]
theorem ds_homs {a b : Rp} (h : DsP a b) : hdV (dsR a b) a = hdV a a + hdV b a ∧ hdV b (dsR a b) = hdV b a + hdV b b := by
  have hf := h.1
  have faa : FitP a a := ⟨hf.1, hf.1, rfl, rfl⟩
  have fba : FitP b a := ⟨hf.2.1, hf.1, hf.2.2.1.symm, hf.2.2.2.symm⟩
  have fbb : FitP b b := ⟨hf.2.1, hf.2.1, rfl, rfl⟩
  have fta : FitP (dsR a b) a := ⟨h.2, hf.1, rfl, rfl⟩
  have fbt : FitP b (dsR a b) := ⟨hf.2.1, h.2, hf.2.2.1.symm, hf.2.2.2.symm⟩
  have e1 := homL_add h faa
  have e2 := homR_add h fba
  simp only [hdV, if_pos faa, if_pos fba, if_pos fbb, if_pos fta, if_pos fbt]
  omega
end Go.Proofs.YtijjkfbkihgfgaaGreat

namespace Go.Proofs.YtijjkfbkihgfgaaGreat
open Go.Lg Go.Proofs Go.RowKit

theorem chg_cell {r : Rp} {g : List Mat} (h : ChgP r g) {v : Nat} (hv : v < g.length) : CellsP r.p (g.getD v mat0) (dN r.d v) (dN r.d v) ∧ (redTo r.p (dN r.d v) (matF (g.getD v mat0)) (dN r.d v)).2.length = dN r.d v ∧ dN r.d v ≤ 4 ∧ ((dN r.d v : Nat) : Int) = r.d.getD v 0 := by
  have hd := h.1.dg v
  obtain ⟨h1, h2⟩ := h.2.2 v hv
  have e : ((dN r.d v : Nat) : Int) = r.d.getD v 0 := by rw [dN_nat]; omega
  obtain ⟨k1, k2⟩ := inv_cells (n := dN r.d v) h1 om
  exact ⟨k1, k2, by rw [dN_nat]; omega, e⟩
theorem cg_rep {r : Rp} {g : List Mat} (h : ChgP r g) : RepP (cgR r g) := by
  have hR := h.1
  have hp := fieldP_pos hR.1
  refine ⟨hR.1, hR.2.1, by show (tabM (cgM r g) r.m.length).length = _; rw [tabM_length]; exact hR.2.2.1, fun i hi => ?_⟩
  have hi' : i < r.m.length := by
    have : (cgR r g).m.length = r.m.length := by show (tabM (cgM r g) r.m.length).length = _; rw [tabM_length]
    omega
  have e : (cgR r g).m.getD i mat0 = cgM r g i := tabM_getD hi'
  have d1 := hR.dg (r.q.2.1.getD i 0).toNat
  have d2 := hR.dg (r.q.2.2.getD i 0).toNat
  unfold MapP
  rw [e, cgM]
  refine ⟨matP_of hR.1 (by rw [dN]; omega) (by rw [dN]; omega) (inF_mul (by show 0 < r.p; omega)), ?_, ?_⟩
  · show ((dN r.d (r.q.2.1.getD i 0) : Nat) : Int) = r.d.getD (r.q.2.1.getD i 0).toNat 0
    rw [dN]; omega
  · show ((dN r.d (r.q.2.2.getD i 0) : Nat) : Int) = r.d.getD (r.q.2.2.getD i 0).toNat 0
    rw [dN]; omega
theorem cg_iso {r : Rp} {g : List Mat} (h : ChgP r g) : IsoP r (cgR r g) g := by
  have hR := h.1
  have hF := hR.1
  have hp := fieldP_pos hF
  have hf : FitP r (cgR r g) := ⟨hR, cg_rep h, rfl, rfl⟩
  have hA : AreP r (cgR r g) g := ⟨hf, h.2.1, fun i hi => by
    obtain ⟨h1, h2⟩ := h.2.2 i hi
    obtain ⟨k1, _, _, k4⟩ := chg_cell h hi
    exact ⟨h1.1, by rw [k1.2.1]; exact k4, by rw [k1.1]; exact k4⟩⟩
  have hM : MorP r (cgR r g) g := mor_of hA (fun i s t hi es et hs ht x y hx hy => by
    obtain ⟨c1, c2, _, _⟩ := chg_cell h hs
    have iv := (inv_sides hF c1.2.2.2 c2).2
    have e : (cgR r g).m.getD i mat0 = cgM r g i := tabM_getD (by rw [hR.2.2.1]; exact hi)
    change x < dN r.d t at hx
    show mulF r.p (dN r.d s) (matF ((cgR r g).m.getD i mat0)) (matF (g.getD s mat0)) x y = _
    rw [e, cgM, es, et, Int.toNat_natCast, Int.toNat_natCast]
    rw [mulF_ext (f' := mulF r.p (dN r.d s) (mulF r.p (dN r.d t) (matF (g.getD t mat0)) (matF (r.m.getD i mat0))) (invF r.p (dN r.d s) (matF (g.getD s mat0)))) (g' := matF (g.getD s mat0)) (fun k hk => matF_mk hx hk) (fun _ _ => rfl), mul_assocF,
      mulF_ext (f := mulF r.p (dN r.d t) (matF (g.getD t mat0)) (matF (r.m.getD i mat0))) (f' := mulF r.p (dN r.d t) (matF (g.getD t mat0)) (matF (r.m.getD i mat0))) (g' := idF) (fun _ _ => rfl) (fun k hk => iv k y hk hy)]
    exact mul_idr hy (inF_mul (R := dN r.d t) (C := dN r.d s) om x y hx hy))
  have hK : rkN r.p g g.length = r.d := by
    have hl := hA.2.1
    refine List.ext_getElem? (fun v => ?_)
    rcases Nat.lt_or_ge v r.d.length with hv | hv
    · have h1 := rkN_get (p := r.p) (ms := g) (i := v) (n := g.length) om
      have h2 : (rkN r.p g g.length)[v]? = some ((rkN r.p g g.length).getD v 0) := getD_some (by rw [rkN_len]; omega)
      obtain ⟨c1, c2, _, c4⟩ := chg_cell h (v := v) om
      have e3 : g.getD v mat0 = (((dN r.d v : Nat) : Int), ((dN r.d v : Nat) : Int), mk (dN r.d v) (dN r.d v) (matF (g.getD v mat0))) := Prod.ext c1.1 (Prod.ext c1.2.1 c1.2.2.1)
      have e4 : ((redL r.p (g.getD v mat0)).length : Int) = r.d.getD v 0 := by
        rw [e3, redL_mk]; omega
      rw [h2, h1, e4, getD_some (z := 0) hv]
    · rw [List.getElem?_eq_none (by rw [rkN_len]; omega), List.getElem?_eq_none hv]
  exact ⟨⟨hM, hK⟩, hM, hK⟩
theorem sum_add : ∀ {n : Nat} {f g : Nat → Int}, (mkv n (fun k => f k + g k)).sum = (mkv n f).sum + (mkv n g).sum
  | 0, _, _ => rfl
  | n + 1, f, g => by
    rw [mkv_next, mkv_next, mkv_next, List.sum_append, List.sum_append, List.sum_append, sum_add]
    simp only [List.sum_cons, List.sum_nil]
    omega
theorem mkv_self {d : List Int} : mkv d.length (fun k => d.getD k 0) = d := by
  refine List.ext_getElem? (fun v => ?_)
  rcases Nat.lt_or_ge v d.length with hv | hv
  · rw [getD_some (z := 0) (by rw [mkv_length]; exact hv), mkv_get hv, getD_some (z := 0) hv]
  · rw [List.getElem?_eq_none (by rw [mkv_length]; exact hv), List.getElem?_eq_none hv]
theorem ds_sum {a b : Rp} (h : FitP a b) : (dsR a b).d.sum = a.d.sum + b.d.sum := by
  have hl : b.d.length = a.d.length := by have h1 := h.1.2.1.2.1; have h2 := h.2.1.2.1.2.1; rw [← h.2.2.2] at h2; omega
  have e : (dsR a b).d = mkv a.d.length (fun k => a.d.getD k 0 + b.d.getD k 0) := rfl
  rw [e, sum_add, mkv_self, ← hl, mkv_self]
theorem so_sum {r : Rp} {n : Int} (h : SoP (pwL r n)) : RepP r ∧ RepP (soR (pwL r n)) ∧ (soR (pwL r n)).d.sum = n * r.d.sum ∧ 1 ≤ n ∧ n ≤ 8 := by
  have hn : 1 ≤ n ∧ n ≤ 8 := Decidable.byContradiction (fun hn => pw_no hn h)
  have hl : (pwL r n).length = n.toNat := by rw [pwL, List.length_replicate]; omega
  have hg : ∀ i, i < (pwL r n).length → (pwL r n).getD i rp0 = r := fun i hi => by
    have hi' : i < min n.toNat 9 := by rw [pwL, List.length_replicate] at hi; exact hi
    rw [pwL, List.getD, List.getElem?_replicate, if_pos hi']; rfl
  have h0 := h.2.1
  rw [hg 0 om] at h0
  have key : ∀ i, i < (pwL r n).length → RepP (soN (pwL r n) i) ∧ (soN (pwL r n) i).d.sum = ((i : Int) + 1) * r.d.sum := fun i => by
    induction i with
    | zero => intro hi; rw [soN, hg 0 hi]; exact ⟨h0, by simp⟩
    | succ i ih =>
      intro hi
      obtain ⟨k1, k2⟩ := ih om
      have hd := h.2.2 i om
      rw [hg (i + 1) hi] at hd
      rw [soN, hg (i + 1) hi]
      refine ⟨hd.2, ?_⟩
      rw [ds_sum hd.1, k2]
      have e : (((i + 1 : Nat) : Int) + 1) = ((i : Int) + 1) + 1 := by omega
      rw [e, Int.add_mul ((i : Int) + 1) 1, Int.one_mul]
  obtain ⟨k1, k2⟩ := key ((pwL r n).length - 1) om
  rw [soR, if_pos h]
  refine ⟨h0, k1, ?_, hn⟩
  rw [k2, hl]
  congr 1
  omega
end Go.Proofs.YtijjkfbkihgfgaaGreat
