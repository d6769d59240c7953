import Derived.Test.YtcplmeajmpkpkaaGreatKerqsp
import Derived.Test.YtcplmeajmpkpkaaGreatWhoqsp
namespace Go.Proofs.YtcplmeajmpkpkaaGreat
open Go.Lg Go.Proofs Go.RowKit

def pvN (set : Nat) : Nat → List Int
  | 0 => []
  | c + 1 => if set / 2 ^ c % 2 = 1 then pvN set c ++ [(c : Int)] else pvN set c
theorem pvN_le (set : Nat) : ∀ c, (pvN set c).length ≤ c
  | 0 => Nat.le_refl _
  | c + 1 => by
    have := pvN_le set c
    rw [pvN]
    split
    · rw [List.length_append, List.length_singleton]; omega
    · omega
theorem pvN_mem {set : Nat} : ∀ {c : Nat} {x : Int}, x ∈ pvN set c → 0 ≤ x ∧ x < c
  | 0, x, h => by simp [pvN] at h
  | c + 1, x, h => by
    rw [pvN] at h
    split at h
    · rcases List.mem_append.1 h with h | h
      · have := pvN_mem h; omega
      · simp at h; omega
    · have := pvN_mem h; omega
def clJ (i : Nat) (x : Int) (fr : List Int) : Nat → List (Int × Int)
  | 0 => []
  | j + 1 => if fr.getD j 0 > x then clJ i x fr j ++ [((i : Int), fr.getD j 0)] else clJ i x fr j
def clL (n : Nat) (piv : List Int) : Nat → List (Int × Int)
  | 0 => []
  | i + 1 => clL n piv i ++ clJ i (piv.getD i 0) (freeN piv n) (freeN piv n).length
theorem clJ_le (i : Nat) (x : Int) (fr : List Int) : ∀ j, (clJ i x fr j).length ≤ j
  | 0 => Nat.le_refl _
  | j + 1 => by
    have := clJ_le i x fr j
    rw [clJ]
    split
    · rw [List.length_append, List.length_singleton]; omega
    · omega
theorem clL_le (n : Nat) (piv : List Int) : ∀ i, (clL n piv i).length ≤ i * n
  | 0 => by simp [clL]
  | i + 1 => by
    have h1 := clL_le n piv i
    have h2 := clJ_le i (piv.getD i 0) (freeN piv n) (freeN piv n).length
    have h3 := freeN_le piv n
    rw [clL, List.length_append, Nat.succ_mul]; omega
theorem clJ_mem {i : Nat} {x : Int} {fr : List Int} {K : Int} (hK : ∀ y ∈ fr, 0 ≤ y ∧ y < K) : ∀ {j : Nat} {c : Int × Int}, j ≤ fr.length → c ∈ clJ i x fr j → c.1 = i ∧ 0 ≤ c.2 ∧ c.2 < K
  | 0, c, _, h => by simp [clJ] at h
  | j + 1, c, hj, h => by
    rw [clJ] at h
    split at h
    · rcases List.mem_append.1 h with h | h
      · exact clJ_mem hK om h
      · simp only [List.mem_singleton] at h
        subst h
        have := hK (fr.getD j 0) (by rw [List.getD, List.getElem?_eq_getElem om]; exact List.getElem_mem om)
        exact ⟨rfl, this.1, this.2⟩
    · exact clJ_mem hK om h
theorem clL_mem {n : Nat} {piv : List Int} : ∀ {i : Nat} {c : Int × Int}, c ∈ clL n piv i → 0 ≤ c.1 ∧ c.1 < i ∧ 0 ≤ c.2 ∧ c.2 < n
  | 0, c, h => by simp [clL] at h
  | i + 1, c, h => by
    rw [clL] at h
    rcases List.mem_append.1 h with h | h
    · have := clL_mem h; omega
    · have := clJ_mem (K := (n : Int)) (fun y hy => freeN_mem hy) (Nat.le_refl _) h
      omega
def dgt (p L j t : Nat) : Nat := j / p ^ (L - 1 - t) % p
def vlF (p L j t : Nat) : Int := (dgt p L j t : Nat)
def vl (p L j : Nat) : List Int := mkv L (vlF p L j)
def vq (p L j q : Nat) : List Int := mkv L (fun t => if t + q < L then vlF p L j t else 0)
theorem vq_zero {p L j : Nat} : vq p L j 0 = vl p L j := mkv_ext (fun t ht => by rw [if_pos om])
theorem vl_zero {p L : Nat} : vl p L 0 = List.replicate L 0 := by
  rw [mkv_zero]
  refine mkv_ext (fun t _ => ?_)
  simp [vlF, dgt]
theorem vq_next {p L j q : Nat} (hq : q < L) : (vq p L j q).set (L - 1 - q) 0 = vq p L j (q + 1) := by
  rw [vq, mkv_set]
  refine mkv_ext (fun t ht => ?_)
  by_cases h : t = L - 1 - q
  · rw [if_pos h, if_neg om]
  · rw [if_neg h]
    by_cases h2 : t + q < L
    · rw [if_pos h2, if_pos om]
    · rw [if_neg h2, if_neg om]
theorem full_next {p j q : Nat} (hp : 2 ≤ p) (h : j % p ^ q = p ^ q - 1) (hd : j / p ^ q % p = p - 1) : j % p ^ (q + 1) = p ^ (q + 1) - 1 := by
  rw [Nat.pow_succ, Nat.mod_mul, h, hd]
  have hpos : 0 < p ^ q := Nat.pow_pos om
  rw [Nat.mul_sub, Nat.mul_one]
  have := Nat.mul_le_mul_left (p ^ q) hp
  omega
theorem vq_up {p L j q : Nat} (hp : 2 ≤ p) (hq : q < L) (h : j % p ^ q = p ^ q - 1) (hd : j / p ^ q % p ≠ p - 1) : (vq p L j q).set (L - 1 - q) (vlF p L j (L - 1 - q) + 1) = vl p L (j + 1) := by
  have hpos : 0 < p ^ q := Nat.pow_pos om
  have hlt := Nat.mod_lt (j / p ^ q) (show 0 < p by omega)
  have hj : j + 1 = p ^ q * (j / p ^ q + 1) := by
    have := Nat.div_add_mod j (p ^ q)
    rw [h] at this
    rw [Nat.mul_add, Nat.mul_one]; omega
  have hdq : (j + 1) / p ^ q = j / p ^ q + 1 := by rw [hj, Nat.mul_div_cancel_left _ hpos]
  rw [vq, mkv_set]
  refine mkv_ext (fun t ht => ?_)
  unfold vlF dgt
  by_cases e : t = L - 1 - q
  · subst e
    rw [if_pos rfl]
    have e1 : L - 1 - (L - 1 - q) = q := by omega
    rw [e1, hdq]
    have : (j / p ^ q + 1) % p = j / p ^ q % p + 1 := by
      rw [Nat.add_mod, Nat.mod_eq_of_lt (show 1 < p by omega), Nat.mod_eq_of_lt om]
    rw [this]; omega
  · rw [if_neg e]
    by_cases h2 : t + q < L
    · rw [if_pos h2]
      obtain ⟨r, hr⟩ : ∃ r, L - 1 - t = q + 1 + r := ⟨L - 1 - t - (q + 1), by omega⟩
      rw [hr, Nat.pow_add, Nat.pow_succ, ← Nat.div_div_eq_div_mul, ← Nat.div_div_eq_div_mul, ← Nat.div_div_eq_div_mul, ← Nat.div_div_eq_div_mul, hdq]
      have : (j / p ^ q + 1) / p = j / p ^ q / p := by
        have h3 := Nat.div_add_mod (j / p ^ q) p
        refine Nat.div_eq_of_lt_le ?_ ?_
        · rw [Nat.mul_comm]; omega
        · rw [Nat.succ_mul, Nat.mul_comm]; omega
      rw [this]
    · rw [if_neg h2]
      obtain ⟨r, hr⟩ : ∃ r, q = L - 1 - t + 1 + r := ⟨q - (L - 1 - t + 1), by omega⟩
      have h4 : (j + 1) / p ^ (L - 1 - t) % p = 0 := by
        rw [hj, hr, Nat.pow_add, Nat.pow_succ, Nat.mul_assoc, Nat.mul_assoc, Nat.mul_div_cancel_left _ (Nat.pow_pos om), Nat.mul_mod_right]
      rw [h4]; rfl
def pvF (piv : List Int) : Nat → Nat → Nat → Int
  | 0 => fun _ _ => 0
  | i + 1 => upd (pvF piv i) i (piv.getD i 0).toNat 1
def clV (cs : List (Int × Int)) (vs : List Int) (b : Nat → Nat → Int) : Nat → Nat → Nat → Int
  | 0 => b
  | j + 1 => upd (clV cs vs b j) (cs.getD j (0, 0)).1.toNat (cs.getD j (0, 0)).2.toNat (vs.getD j 0)
def spJ (p n k : Nat) (piv : List Int) (j : Nat) : Sp := ((n : Int), rowL n (clV (clL n piv piv.length) (vl p (clL n piv piv.length).length j) (pvF piv piv.length) (clL n piv piv.length).length) k)
def outJ (p n k : Nat) (piv : List Int) : Nat → List Sp
  | 0 => []
  | j + 1 => outJ p n k piv j ++ [spJ p n k piv j]
def outS (p n k : Nat) : Nat → List Sp
  | 0 => []
  | t + 1 => if (pvN t n).length = k then outS p n k t ++ outJ p n k (pvN t n) (p ^ (clL n (pvN t n) (pvN t n).length).length) else outS p n k t
theorem outJ_len {p n k : Nat} {piv : List Int} : ∀ j, (outJ p n k piv j).length = j
  | 0 => rfl
  | j + 1 => by rw [outJ, List.length_append, outJ_len j]; rfl
theorem outS_le {p n k : Nat} (hp : 1 ≤ p) : ∀ t, (outS p n k t).length ≤ t * p ^ (n * n)
  | 0 => by simp [outS]
  | t + 1 => by
    have h := outS_le (p := p) (n := n) (k := k) hp t
    rw [outS, Nat.succ_mul]
    split
    · rw [List.length_append, outJ_len]
      have h1 := clL_le n (pvN t n) (pvN t n).length
      have h2 := Nat.mul_le_mul_right n (pvN_le t n)
      have h3 := Nat.pow_le_pow_right hp (Nat.le_trans h1 h2)
      omega
    · omega
end Go.Proofs.YtcplmeajmpkpkaaGreat
