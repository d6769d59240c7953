import Derived.Lib.Join
import Derived.Lib.ItoaNum
import Derived.Test.YtdnhmnnccfoliaaGreatDoorDigqmt
import Derived.Test.YtdnhmnnccfoliaaGreatDoorMxfqmt
import Derived.Test.YtdnhmnnccfoliaaGreatDoorPrdqmt
import Derived.Test.YtdnhmnnccfoliaaGreatDoorZerqmt
namespace Go.Proofs.YtdnhmnnccfoliaaGreatDoor
open Go.Lg Go.Proofs Go.RowKit

def digL (xs : List Int) : List UInt8 := xs.map dg
def bodyN (C : Nat) (xs : List Int) : Nat → List UInt8
  | 0 => []
  | i + 1 => bodyN C xs i ++ ((if 0 < i ∧ i % C = 0 then [47] else []) ++ [dg (xs.getD i 0)])
theorem bodyN_len {C : Nat} {xs : List Int} : ∀ i, (bodyN C xs i).length ≤ 2 * i
  | 0 => by simp [bodyN]
  | i + 1 => by
    have := bodyN_len (C := C) (xs := xs) i
    rw [bodyN, List.length_append, List.length_append, List.length_singleton]
    split <;> simp <;> omega
def rowsD (R C : Nat) (f : Nat → Nat → Int) : List (List UInt8) := (List.range R).map (fun i => digL (mkv C (f i)))
theorem rowsD_next {R C : Nat} {f : Nat → Nat → Int} : rowsD (R + 1) C f = rowsD R C f ++ [digL (mkv C (f R))] := by simp [rowsD, List.range_succ]
theorem join_snoc (x : List UInt8) (sep : List UInt8) : ∀ L : List (List UInt8), Lib.join (L ++ [x]) sep = if L = [] then x else Lib.join L sep ++ (sep ++ x)
  | [] => by simp [Lib.join_one]
  | y :: r => by
    rw [List.cons_append, Lib.join_cons, Lib.join_cons, if_neg (by simp)]
    simp [Lib.joinTail]
theorem body_row {R C : Nat} {f : Nat → Nat → Int} {i : Nat} (hi : i < R) : ∀ k, k ≤ C → bodyN C (mk R C f) (i * C + k) = bodyN C (mk R C f) (i * C) ++ (if k = 0 then [] else (if 0 < i then [47] else []) ++ digL (mkv k (f i)))
  | 0, _ => by simp
  | k + 1, hk => by
    have hkC : k < C := by omega
    rw [← Nat.add_assoc, bodyN, body_row hi k om, mk_get hi hkC, cell_mod hkC, if_neg (show ¬ k + 1 = 0 by omega), List.append_assoc]
    congr 1
    by_cases h : k = 0
    · subst h
      rw [if_pos rfl, List.nil_append]
      have e : (0 < i * C + 0 ∧ (0 : Nat) = 0) ↔ 0 < i := by
        constructor
        · rintro ⟨h, _⟩
          rcases Nat.eq_zero_or_pos i with h0 | h0
          · subst h0; simp at h
          · exact h0
        · intro h; exact ⟨Nat.mul_pos h om, rfl⟩
      by_cases hi0 : 0 < i
      · rw [if_pos (e.2 hi0), if_pos hi0]; rfl
      · rw [if_neg (fun h => hi0 (e.1 h)), if_neg hi0]; rfl
    · rw [if_neg h, if_neg (show ¬ (0 < i * C + k ∧ k = 0) from fun h' => h h'.2), List.nil_append, List.append_assoc]
      congr 1
      simp [digL, mkv, List.range_succ]
theorem body_all {R C : Nat} {f : Nat → Nat → Int} (hC : 0 < C) : ∀ i, i ≤ R → bodyN C (mk R C f) (i * C) = Lib.join (rowsD i C f) [47]
  | 0, _ => by rw [Nat.zero_mul]; rfl
  | i + 1, hi => by
    rw [Nat.succ_mul, body_row (show i < R by omega) C (Nat.le_refl _), body_all hC i om, if_neg om, rowsD_next, join_snoc]
    by_cases h : 0 < i
    · rw [if_pos h, if_neg (fun e => by have := congrArg List.length e; simp [rowsD] at this; omega)]
    · have : i = 0 := by omega
      subst this
      rw [if_neg om, if_pos (by rfl)]
      rfl
def fmtM (p : Int) (m : Mat) : List UInt8 := if MatP p m then [dg m.1, 120, dg m.2.1, 58] ++ bodyN m.2.1.toNat m.2.2 m.2.2.length else []
theorem fmtM_len (p : Int) (m : Mat) : (fmtM p m).length ≤ 132 := by
  unfold fmtM
  split
  · rename_i h
    have h1 := h.2.2.2.2.1
    have := bodyN_len (C := m.2.1.toNat) (xs := m.2.2) m.2.2.length
    simp only [List.length_append, List.length_cons, List.length_nil]
    omega
  · simp
end Go.Proofs.YtdnhmnnccfoliaaGreatDoor
