import Derived.Test.YtcplmeajmpkpkaaGreatCobqsp
import Derived.Test.YtcplmeajmpkpkaaGreatImgqsp
import Derived.Test.YtcplmeajmpkpkaaGreatImsqsp
import Derived.Test.YtcplmeajmpkpkaaGreatKerqsp
import Derived.Test.YtcplmeajmpkpkaaGreatLCqsp
import Derived.Test.YtcplmeajmpkpkaaGreatLEqsp
import Derived.Test.YtcplmeajmpkpkaaGreatMorqsp
import Derived.Test.YtcplmeajmpkpkaaGreatMxfqsp
import Derived.Test.YtcplmeajmpkpkaaGreatQuiqsp
import Derived.Test.YtcplmeajmpkpkaaGreatRdPqsp
import Derived.Test.YtcplmeajmpkpkaaGreatRrfqsp
import Derived.Test.YtcplmeajmpkpkaaGreatSpmqsp
namespace Go.Proofs.YtcplmeajmpkpkaaGreat
open Go.Lg Go.Proofs Go.RowKit
attribute [local irreducible] Code.wp wpList bodyPost Exit.then Exit.inBlock Hp Again Calls Y AT ResV QT Qn QI wpAny wpAnyQ
set_option maxRecDepth 20000
set_option maxHeartbeats 4000000

theorem getD_ix {l : List Int} {i : Nat} (h : i < l.length) : l.getD i 0 = l[i] := by rw [List.getD, List.getElem?_eq_getElem h]; rfl
end Go.Proofs.YtcplmeajmpkpkaaGreat

namespace Go.Proofs.YtcplmeajmpkpkaaGreat
open Go.Lg Go.Proofs Go.RowKit
attribute [local irreducible] Code.wp wpList bodyPost Exit.then Exit.inBlock Hp Again Calls Y AT ResV QT Qn QI wpAny wpAnyQ
set_option maxRecDepth 20000
set_option maxHeartbeats 4000000

theorem freeN_part {l : List Int} {K : Nat} (h0 : ∀ t, t < l.length → 0 ≤ l.getD t 0 ∧ l.getD t 0 < K) (h1 : ∀ t s, t < s → s < l.length → l.getD t 0 < l.getD s 0) :
    ∀ k, ∃ t, t ≤ l.length ∧ (freeN l k).length + t = k ∧ (∀ s, s < t → l.getD s 0 < k) ∧ ∀ s, t ≤ s → s < l.length → (k : Int) ≤ l.getD s 0
  | 0 => ⟨0, Nat.zero_le _, rfl, fun s hs => absurd hs om, fun s _ hs => by have := h0 s hs; omega⟩
  | k + 1 => by
    obtain ⟨t, ht, hl, ha, hb⟩ := freeN_part h0 h1 k
    by_cases hk : t < l.length ∧ l.getD t 0 = k
    · have hm : (k : Int) ∈ l := by rw [← hk.2, getD_ix hk.1]; exact List.getElem_mem _
      refine ⟨t + 1, hk.1, by rw [freeN_yes hm]; omega, fun s hs => ?_, fun s hs hsl => ?_⟩
      · by_cases e : s = t
        · subst e; omega
        · have := ha s om; omega
      · have := h1 t s om hsl; omega
    · have hm : ¬ (k : Int) ∈ l := fun hm => by
        obtain ⟨s, hs, e⟩ := List.getElem_of_mem hm
        rw [← getD_ix hs] at e
        rcases Nat.lt_trichotomy s t with h | h | h
        · have := ha s h; omega
        · subst h; exact hk ⟨hs, e⟩
        · have h2 := h1 t s h hs
          have h3 := hb t (Nat.le_refl _) om
          omega
      refine ⟨t, ht, by rw [freeN_no hm, List.length_append, List.length_singleton]; omega, fun s hs => by have := ha s hs; omega, fun s hs hsl => ?_⟩
      have h3 := hb s hs hsl
      by_cases e : l.getD s 0 = k
      · exact absurd (by rw [← e, getD_ix hsl]; exact List.getElem_mem _) hm
      · omega
theorem freeN_len {l : List Int} {K : Nat} (h0 : ∀ t, t < l.length → 0 ≤ l.getD t 0 ∧ l.getD t 0 < K) (h1 : ∀ t s, t < s → s < l.length → l.getD t 0 < l.getD s 0) : (freeN l K).length + l.length = K := by
  obtain ⟨t, ht, hl, _, hb⟩ := freeN_part h0 h1 K
  have : t = l.length := by
    refine Decidable.byContradiction (fun hn => ?_)
    have h2 := hb t (Nat.le_refl _) om
    have h3 := h0 t om
    omega
  omega
theorem ker_len {p : Int} {R C : Nat} {f : Nat → Nat → Int} (hF : FieldP p) (h : inF p R C f) : (freeN (redTo p R f C).2 C).length + (redTo p R f C).2.length = C := by
  have hr := redTo_rr hF h C (Nat.le_refl _)
  exact freeN_len hr.2.1 hr.2.2.1
end Go.Proofs.YtcplmeajmpkpkaaGreat

namespace Go.Proofs.YtcplmeajmpkpkaaGreat
open Go.Lg Go.Proofs Go.RowKit

theorem spn_ort {p : Int} {R C : Nat} {g : Nat → Nat → Int} {x v : Nat → Int} (h : ∀ i, i < R → p ∣ sumN (fun j => g i j * x j) C) (hv : Spn p R C g v) : p ∣ sumN (fun j => v j * x j) C := by
  induction hv with
  | nil h0 => exact dvd_sumN0 (fun j hj => Int.dvd_trans (h0 j hj) (Int.dvd_mul_right ..))
  | @add u v i c hi _ e ih =>
    have e1 : p ∣ sumN (fun j => v j * x j) C - sumN (fun j => u j * x j + g i j * x j * c) C := dvd_sumN (fun j hj => by
      obtain ⟨y, hy⟩ := e j hj
      exact ⟨y * x j, by grind⟩)
    rw [sumN_add, sumN_mul] at e1
    obtain ⟨a, ha⟩ := e1
    obtain ⟨b, hb⟩ := ih
    obtain ⟨d, hd⟩ := h i hi
    exact ⟨a + b + d * c, by grind⟩
theorem pv_ne {l : List Int} {k : Nat} (h : ¬ (k : Int) ∈ l) {R C : Nat} {g : Nat → Nat → Int} (hR : RR R g l C) : ∀ t, t < l.length → k ≠ pv l t := fun t ht e => by
  have := hR.2.1 t ht
  unfold pv at e
  have e2 : l.getD t 0 = (k : Int) := by omega
  exact h (by rw [← e2, getD_ix ht]; exact List.getElem_mem _)
theorem kerV_0 {p : Int} {g : Nat → Nat → Int} {l : List Int} {k q : Nat} : kerV p g l k 0 q = if q = k then 1 else 0 := rfl
theorem kerV_s {p : Int} {g : Nat → Nat → Int} {l : List Int} {k n q : Nat} : kerV p g l k (n + 1) q = if q = (l.getD n 0).toNat then (p - g n k) % p else kerV p g l k n q := rfl
theorem kerV_un {p : Int} {g : Nat → Nat → Int} {l : List Int} {k q : Nat} : ∀ n, (∀ t, t < n → q ≠ pv l t) → kerV p g l k n q = if q = k then 1 else 0
  | 0, _ => rfl
  | n + 1, h => by
    have := h n om
    unfold pv at this
    rw [kerV_s, if_neg this, kerV_un n (fun t ht => h t om)]
theorem pv_inj {R C : Nat} {g : Nat → Nat → Int} {l : List Int} (hR : RR R g l C) {t s : Nat} (ht : t < l.length) (hs : s < l.length) (hts : t ≠ s) : pv l t ≠ pv l s := by
  rcases Nat.lt_or_gt_of_ne hts with h | h
  · have := pv_mono hR h hs; omega
  · have := pv_mono hR h ht; omega
theorem sum_two {f g : Nat → Int} {r n : Nat} (hr : r < n) (h : ∀ j, j < n → j ≠ r → f j = g j) : sumN f n = sumN g n + (f r - g r) := by
  rw [sumN_one hr, sumN_one (f := g) hr, sumN_congr (g := fun i => if i = r then 0 else g i) (fun i hi => by
    split
    · rfl
    · rename_i hn; exact h i hi hn)]
  omega
theorem ker_ort {p : Int} {R C k : Nat} {g : Nat → Nat → Int} {l : List Int} (hR : RR R g l C) (hk : k < C) (hf : ¬ (k : Int) ∈ l) {i : Nat} (hi : i < R) : p ∣ sumN (fun j => g i j * kerV p g l k l.length j) C := by
  have key : ∀ n, n ≤ l.length → p ∣ sumN (fun j => g i j * kerV p g l k n j) C - (if i < n then 0 else g i k) := fun n => by
    induction n with
    | zero =>
      intro _
      rw [if_neg om, sumN_congr (g := fun j => if j = k then g i j else 0) (fun j _ => by
        rw [kerV_0]
        split
        · rw [Int.mul_one]
        · rw [Int.mul_zero]), sumN_pick (f := g i), if_pos hk, Int.sub_self]
      exact Int.dvd_zero p
    | succ n ih =>
      intro hn
      have h0 := ih om
      have hpn := pv_lt hR (t := n) om
      rw [sum_two (g := fun j => g i j * kerV p g l k n j) (r := pv l n) hpn (fun j _ hj => by
        unfold pv at hj
        rw [kerV_s, if_neg hj])]
      have hz : kerV p g l k n (pv l n) = 0 := by
        rw [kerV_un n (fun t ht => pv_inj hR om om om), if_neg (fun e => pv_ne hf hR n om e.symm)]
      have hv : kerV p g l k (n + 1) (pv l n) = (p - g n k) % p := by rw [kerV_s]; exact if_pos rfl
      have hg := hR.2.2.2.1 n i om hi
      rw [hz, hv, hg]
      by_cases hin : i = n
      · subst hin
        rw [if_neg om] at h0
        rw [if_pos rfl, if_pos om]
        have h1 := emod_sub (p := p) (x := p - g i k)
        obtain ⟨a, ha⟩ := h0
        obtain ⟨b, hb⟩ := h1
        exact ⟨a + b + 1, by grind⟩
      · rw [if_neg hin]
        by_cases hlt : i < n
        · rw [if_pos hlt] at h0
          rw [if_pos om]
          obtain ⟨a, ha⟩ := h0
          exact ⟨a, by omega⟩
        · rw [if_neg hlt] at h0
          rw [if_neg om]
          obtain ⟨a, ha⟩ := h0
          exact ⟨a, by omega⟩
  have := key l.length (Nat.le_refl _)
  by_cases hil : i < l.length
  · rwa [if_pos hil, Int.sub_zero] at this
  · rwa [if_neg hil, hR.2.2.2.2.1 i k om hi hk, Int.sub_zero] at this
theorem freeN_not {l : List Int} : ∀ {n : Nat} {x : Int}, x ∈ freeN l n → ¬ x ∈ l
  | 0, x, h => by simp [freeN] at h
  | n + 1, x, h => by
    rw [freeN] at h
    split at h
    · exact freeN_not h
    · rename_i hn
      rcases List.mem_append.1 h with h | h
      · exact freeN_not h
      · simp at h; subst h; exact hn
theorem freeN_up {l : List Int} : ∀ (n : Nat), ∀ s t, s < t → t < (freeN l n).length → (freeN l n).getD s 0 < (freeN l n).getD t 0
  | 0, s, t, _, ht => absurd ht (by simp [freeN])
  | n + 1, s, t, hst, ht => by
    by_cases hm : (n : Int) ∈ l
    · rw [freeN_yes hm] at ht ⊢; exact freeN_up n s t hst ht
    · rw [freeN_no hm] at ht ⊢
      rw [List.length_append, List.length_singleton] at ht
      rw [getD_app, getD_app]
      rw [if_pos (show s < (freeN l n).length by omega)]
      by_cases h : t < (freeN l n).length
      · rw [if_pos h]; exact freeN_up n s t hst h
      · rw [if_neg h, if_pos om]
        have : (freeN l n).getD s 0 ∈ freeN l n := by rw [getD_ix (show s < (freeN l n).length by omega)]; exact List.getElem_mem _
        exact (freeN_mem this).2
end Go.Proofs.YtcplmeajmpkpkaaGreat

namespace Go.Proofs.YtcplmeajmpkpkaaGreat
open Go.Lg Go.Proofs Go.RowKit

theorem red_ort {p : Int} {R C : Nat} {f : Nat → Nat → Int} {x : Nat → Int} (hF : FieldP p) (hin : inF p R C f) (h : ∀ i, i < R → p ∣ sumN (fun j => (redTo p R f C).1 i j * x j) C) : ∀ i, i < R → p ∣ sumN (fun j => f i j * x j) C :=
  fun i hi => spn_ort h ((redTo_spn hF hin C (Nat.le_refl _)).2 i hi)
theorem imv_sum {p : Int} {C i : Nat} {f : Nat → Nat → Int} {xs : List Int} : imv p C f xs i = sumN (fun j => f i j * xs.getD j 0) C % p := by rw [imv, accF_sum]
theorem ker_apply {p : Int} {R C : Nat} {f : Nat → Nat → Int} {xs : List Int} (hF : FieldP p) (hin : inF p R C f) (h : xs ∈ kerL p C (redTo p R f C).1 (redTo p R f C).2 (freeN (redTo p R f C).2 C)) : ∀ i, i < R → imv p C f xs i = 0 := fun i hi => by
  obtain ⟨k, hk, rfl⟩ := List.mem_map.1 h
  have hf := freeN_mem hk
  have hn := freeN_not hk
  have hR := redTo_rr hF hin C (Nat.le_refl _)
  have h1 := red_ort hF hin (x := kerV p (redTo p R f C).1 (redTo p R f C).2 k.toNat (redTo p R f C).2.length) (fun i hi => ker_ort (k := k.toNat) hR om (by rw [Int.toNat_of_nonneg hf.1]; exact hn) hi) i hi
  rw [imv_sum, sumN_congr (g := fun j => f i j * kerV p (redTo p R f C).1 (redTo p R f C).2 k.toNat (redTo p R f C).2.length j) (fun j hj => by rw [mkv_get hj])]
  exact Int.emod_eq_zero_of_dvd h1
end Go.Proofs.YtcplmeajmpkpkaaGreat
