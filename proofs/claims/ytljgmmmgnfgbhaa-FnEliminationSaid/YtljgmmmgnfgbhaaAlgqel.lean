import Derived.Test.YtljgmmmgnfgbhaaMulqel
import Derived.Test.YtljgmmmgnfgbhaaSpmqel
namespace Go.Proofs.Ytljgmmmgnfgbhaa
open Go.Lg Go.Proofs Go.RowKit

/-! ### products of matrices, mod p (plain) -/
theorem sumN_split {f : Nat → Int} {n : Nat} : ∀ m, sumN f (n + m) = sumN f n + sumN (fun i => f (n + i)) m
  | 0 => by simp [sumN]
  | m + 1 => by
    rw [← Nat.add_assoc, sumN, sumN_split m, sumN]
    omega
theorem sumN_comm {F : Nat → Nat → Int} {m : Nat} : ∀ n, sumN (fun i => sumN (fun j => F i j) m) n = sumN (fun j => sumN (fun i => F i j) n) m
  | 0 => by simp only [sumN]; rw [sumN_zero]
  | n + 1 => by
    simp only [sumN]
    rw [sumN_comm n, ← sumN_add]
theorem sumN_mull {f : Nat → Int} {x : Int} {n : Nat} : sumN (fun i => x * f i) n = x * sumN f n := by
  rw [sumN_congr (g := fun i => f i * x) (fun i _ => Int.mul_comm ..), sumN_mul, Int.mul_comm]
theorem mulF_sum {p : Int} {N : Nat} {f g : Nat → Nat → Int} {i j : Nat} : mulF p N f g i j = sumN (fun k => f i k * g k j) N % p := accF_sum N
theorem mulF_dvd {p : Int} {N : Nat} {f g : Nat → Nat → Int} {i j : Nat} : p ∣ mulF p N f g i j - sumN (fun k => f i k * g k j) N := by
  rw [mulF_sum]; exact emod_sub
theorem emod_dvd {p x y : Int} (h : p ∣ x - y) : x % p = y % p := by
  obtain ⟨c, hc⟩ := h
  have : x = y + p * c := by omega
  rw [this, Int.add_mul_emod_self_left]
theorem mulF_congr {p : Int} {N : Nat} {f f' g g' : Nat → Nat → Int} {i j : Nat} (h : ∀ k, k < N → p ∣ f i k - f' i k) (h' : ∀ k, k < N → p ∣ g k j - g' k j) : mulF p N f g i j = mulF p N f' g' i j := by
  rw [mulF_sum, mulF_sum]
  refine emod_dvd (dvd_sumN (fun k hk => ?_))
  obtain ⟨a, ha⟩ := h k hk
  obtain ⟨b, hb⟩ := h' k hk
  exact ⟨a * g k j + f' i k * b, by grind⟩
theorem mulF_ext {p : Int} {N : Nat} {f f' g g' : Nat → Nat → Int} {i j : Nat} (h : ∀ k, k < N → f i k = f' i k) (h' : ∀ k, k < N → g k j = g' k j) : mulF p N f g i j = mulF p N f' g' i j :=
  mulF_congr (fun k hk => by rw [h k hk, Int.sub_self]; exact Int.dvd_zero p) (fun k hk => by rw [h' k hk, Int.sub_self]; exact Int.dvd_zero p)
theorem mul_assocF {p : Int} {N M : Nat} {f g h : Nat → Nat → Int} {i j : Nat} : mulF p M (mulF p N f g) h i j = mulF p N f (mulF p M g h) i j := by
  rw [mulF_congr (f' := fun i k => sumN (fun q => f i q * g q k) N) (g' := h) (fun k _ => mulF_dvd) (fun k _ => by rw [Int.sub_self]; exact Int.dvd_zero p),
    mulF_congr (f := f) (g := mulF p M g h) (f' := f) (g' := fun q j => sumN (fun k => g q k * h k j) M) (fun k _ => by rw [Int.sub_self]; exact Int.dvd_zero p) (fun k _ => mulF_dvd), mulF_sum, mulF_sum]
  congr 1
  rw [sumN_congr (g := fun k => sumN (fun q => f i q * g q k * h k j) N) (fun k _ => sumN_mul.symm), sumN_comm]
  refine sumN_congr (fun q _ => ?_)
  rw [← sumN_mull]
  exact sumN_congr (fun k _ => Int.mul_assoc ..)
theorem mul_idr {p : Int} {N : Nat} {f : Nat → Nat → Int} {i j : Nat} (hj : j < N) (hf : 0 ≤ f i j ∧ f i j < p) : mulF p N f idF i j = f i j := by
  rw [mulF_sum, sumN_congr (g := fun k => if k = j then f i k else 0) (fun k _ => by
    unfold idF
    by_cases h : k = j
    · rw [if_pos h, if_pos h, Int.mul_one]
    · rw [if_neg h, if_neg h, Int.mul_zero]), sumN_pick (f := fun k => f i k), if_pos hj]
  exact emod_small hf
end Go.Proofs.Ytljgmmmgnfgbhaa
