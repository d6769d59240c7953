import Derived.Test.YtcplmeajmpkpkaaGreatClxqsp
namespace Go.Proofs.YtcplmeajmpkpkaaGreat
open Go.Lg Go.Proofs Go.RowKit

def csI (p n : Nat) : Nat → Nat
  | 0 => 1
  | i + 1 => csI p n i * (p ^ (n - i) - 1) / (p ^ (i + 1) - 1)
def csA (p n : Nat) : Nat → Nat
  | 0 => 1
  | i + 1 => csA p n i * (p ^ (n - i) - 1)
def csB (p : Nat) : Nat → Nat
  | 0 => 1
  | i + 1 => csB p i * (p ^ (i + 1) - 1)
theorem cs_all : ∀ p ∈ [2, 3, 5], ∀ n ∈ [0, 1, 2, 3, 4], ∀ k ∈ List.range (n + 1), csA p n k / csB p k = csI p n k ∧ csA p n k ≤ 100000000 ∧ csB p k ≤ 100000000 ∧ 0 < csB p k ∧ csI p n k ≤ 1000000 ∧ (k < n → csI p n k * (p ^ (n - k) - 1) ≤ 100000000) := by decide +kernel
def CsP (p n k : Int) : Prop := FieldP p ∧ (0 ≤ n ∧ n ≤ 4) ∧ 0 ≤ k ∧ k ≤ n
instance (p n k : Int) : Decidable (CsP p n k) := by unfold CsP; infer_instance
def csF (p n k : Int) : Int := if CsP p n k then (csI p.toNat n.toNat k.toNat : Nat) else -1
theorem CsP.nat {p n k : Int} (h : CsP p n k) : ∃ p' n' k' : Nat, p = p' ∧ n = n' ∧ k = k' ∧ p' ∈ [2, 3, 5] ∧ n' ∈ [0, 1, 2, 3, 4] ∧ k' ∈ List.range (n' + 1) := by
  obtain ⟨hF, ⟨h1, h2⟩, h3, h4⟩ := h
  refine ⟨p.toNat, n.toNat, k.toNat, ?_, by omega, by omega, ?_, ?_, ?_⟩
  · rcases hF with rfl | rfl | rfl <;> rfl
  · rcases hF with rfl | rfl | rfl <;> simp
  · have : n.toNat = 0 ∨ n.toNat = 1 ∨ n.toNat = 2 ∨ n.toNat = 3 ∨ n.toNat = 4 := by omega
    rcases this with e | e | e | e | e <;> rw [e] <;> simp
  · rw [List.mem_range]; omega
theorem ls_all : ∀ p ∈ [2, 3], ∀ n ∈ [0, 1, 2, 3], ∀ k ∈ List.range (n + 1), (outS p n k (2 ^ n)).Perm (ltS p n k) ∧ (ltS p n k).Pairwise (fun x y => lxL (lxL lxI) x.2 y.2 < 0) ∧ (ltS p n k).length = csI p n k ∧ csI p n (n - k) = csI p n k ∧ csI p n k ≤ 13 ∧ 1 ≤ csI p n k := by decide +kernel
end Go.Proofs.YtcplmeajmpkpkaaGreat
