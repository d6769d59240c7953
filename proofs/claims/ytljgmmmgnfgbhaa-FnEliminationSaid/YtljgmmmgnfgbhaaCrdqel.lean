import Derived.Test.YtljgmmmgnfgbhaaEqmqel
import Derived.Test.YtljgmmmgnfgbhaaHomqel
import Derived.Test.YtljgmmmgnfgbhaaInvqel
import Derived.Test.YtljgmmmgnfgbhaaIvsqel
import Derived.Test.YtljgmmmgnfgbhaaKerqel
import Derived.Test.YtljgmmmgnfgbhaaLCqel
import Derived.Test.YtljgmmmgnfgbhaaLEqel
import Derived.Test.YtljgmmmgnfgbhaaMorqel
import Derived.Test.YtljgmmmgnfgbhaaMxfqel
import Derived.Test.YtljgmmmgnfgbhaaPrmqel
import Derived.Test.YtljgmmmgnfgbhaaRdPqel
import Derived.Test.YtljgmmmgnfgbhaaRowqel
import Derived.Test.YtljgmmmgnfgbhaaSpmqel
namespace Go.Proofs.Ytljgmmmgnfgbhaa
open Go.Lg Go.Proofs Go.RowKit

/-! ### the kernel, in plain: its vectors, and systems with them as columns -/
theorem spn_ort {p : Int} {R C : Nat} {g : Nat → Nat → Int} {x v : Nat → Int} (h : ∀ i, i < R → p ∣ sumN (fun j => g i j * x j) C) (hv : Spn p R C g v) : p ∣ sumN (fun j => v j * x j) C := by
  induction hv with
  | nil h0 => exact dvd_sumN0 (fun j hj => Int.dvd_trans (h0 j hj) (Int.dvd_mul_right ..))
  | @add u v i c hi _ e ih =>
    have e1 : p ∣ sumN (fun j => v j * x j) C - sumN (fun j => u j * x j + g i j * x j * c) C := dvd_sumN (fun j hj => by
      obtain ⟨y, hy⟩ := e j hj
      exact ⟨y * x j, by grind⟩)
    rw [sumN_add, sumN_mul] at e1
    obtain ⟨a, ha⟩ := e1
    obtain ⟨b, hb⟩ := ih
    obtain ⟨d, hd⟩ := h i hi
    exact ⟨a + b + d * c, by grind⟩
theorem pv_ne {l : List Int} {k : Nat} (h : ¬ (k : Int) ∈ l) {R C : Nat} {g : Nat → Nat → Int} (hR : RR R g l C) : ∀ t, t < l.length → k ≠ pv l t := fun t ht e => by
  have := hR.2.1 t ht
  unfold pv at e
  have e2 : l.getD t 0 = (k : Int) := by omega
  exact h (by rw [← e2, getD_ix ht]; exact List.getElem_mem _)
theorem kerV_0 {p : Int} {g : Nat → Nat → Int} {l : List Int} {k q : Nat} : kerV p g l k 0 q = if q = k then 1 else 0 := rfl
theorem kerV_s {p : Int} {g : Nat → Nat → Int} {l : List Int} {k n q : Nat} : kerV p g l k (n + 1) q = if q = (l.getD n 0).toNat then (p - g n k) % p else kerV p g l k n q := rfl
theorem kerV_un {p : Int} {g : Nat → Nat → Int} {l : List Int} {k q : Nat} : ∀ n, (∀ t, t < n → q ≠ pv l t) → kerV p g l k n q = if q = k then 1 else 0
  | 0, _ => rfl
  | n + 1, h => by
    have := h n (by omega)
    unfold pv at this
    rw [kerV_s, if_neg this, kerV_un n (fun t ht => h t (by omega))]
theorem pv_inj {R C : Nat} {g : Nat → Nat → Int} {l : List Int} (hR : RR R g l C) {t s : Nat} (ht : t < l.length) (hs : s < l.length) (hts : t ≠ s) : pv l t ≠ pv l s := by
  rcases Nat.lt_or_gt_of_ne hts with h | h
  · have := pv_mono hR h hs; omega
  · have := pv_mono hR h ht; omega
theorem sum_two {f g : Nat → Int} {r n : Nat} (hr : r < n) (h : ∀ j, j < n → j ≠ r → f j = g j) : sumN f n = sumN g n + (f r - g r) := by
  rw [sumN_one hr, sumN_one (f := g) hr, sumN_congr (g := fun i => if i = r then 0 else g i) (fun i hi => by
    split
    · rfl
    · rename_i hn; exact h i hi hn)]
  omega
/-- the vectors of the kernel are orthogonal to the reduced rows -/
theorem ker_ort {p : Int} {R C k : Nat} {g : Nat → Nat → Int} {l : List Int} (hR : RR R g l C) (hk : k < C) (hf : ¬ (k : Int) ∈ l) {i : Nat} (hi : i < R) : p ∣ sumN (fun j => g i j * kerV p g l k l.length j) C := by
  have key : ∀ n, n ≤ l.length → p ∣ sumN (fun j => g i j * kerV p g l k n j) C - (if i < n then 0 else g i k) := fun n => by
    induction n with
    | zero =>
      intro _
      rw [if_neg (by omega), sumN_congr (g := fun j => if j = k then g i j else 0) (fun j _ => by
        rw [kerV_0]
        split
        · rw [Int.mul_one]
        · rw [Int.mul_zero]), sumN_pick (f := g i), if_pos hk, Int.sub_self]
      exact Int.dvd_zero p
    | succ n ih =>
      intro hn
      have h0 := ih (by omega)
      have hpn := pv_lt hR (t := n) (by omega)
      rw [sum_two (g := fun j => g i j * kerV p g l k n j) (r := pv l n) hpn (fun j _ hj => by
        unfold pv at hj
        rw [kerV_s, if_neg hj])]
      have hz : kerV p g l k n (pv l n) = 0 := by
        rw [kerV_un n (fun t ht => pv_inj hR (by omega) (by omega) (by omega)), if_neg (fun e => pv_ne hf hR n (by omega) e.symm)]
      have hv : kerV p g l k (n + 1) (pv l n) = (p - g n k) % p := by rw [kerV_s]; exact if_pos rfl
      have hg := hR.2.2.2.1 n i (by omega) hi
      rw [hz, hv, hg]
      by_cases hin : i = n
      · subst hin
        rw [if_neg (by omega)] at h0
        rw [if_pos rfl, if_pos (by omega)]
        have h1 := emod_sub (p := p) (x := p - g i k)
        obtain ⟨a, ha⟩ := h0
        obtain ⟨b, hb⟩ := h1
        exact ⟨a + b + 1, by grind⟩
      · rw [if_neg hin]
        by_cases hlt : i < n
        · rw [if_pos hlt] at h0
          rw [if_pos (by omega)]
          obtain ⟨a, ha⟩ := h0
          exact ⟨a, by omega⟩
        · rw [if_neg hlt] at h0
          rw [if_neg (by omega)]
          obtain ⟨a, ha⟩ := h0
          exact ⟨a, by omega⟩
  have := key l.length (Nat.le_refl _)
  by_cases hil : i < l.length
  · rwa [if_pos hil, Int.sub_zero] at this
  · rwa [if_neg hil, hR.2.2.2.2.1 i k (by omega) hi hk, Int.sub_zero] at this
theorem freeN_not {l : List Int} : ∀ {n : Nat} {x : Int}, x ∈ freeN l n → ¬ x ∈ l
  | 0, x, h => by simp [freeN] at h
  | n + 1, x, h => by
    rw [freeN] at h
    split at h
    · exact freeN_not h
    · rename_i hn
      rcases List.mem_append.1 h with h | h
      · exact freeN_not h
      · simp at h; subst h; exact hn
end Go.Proofs.Ytljgmmmgnfgbhaa
