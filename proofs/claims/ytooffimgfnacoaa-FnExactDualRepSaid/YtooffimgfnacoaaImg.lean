import Derived.Test.YtooffimgfnacoaaInv
namespace Go.Proofs.Ytooffimgfnacoaa
open Go.Lg Go.Proofs Go.RowKit
attribute [local irreducible] Code.wp wpList bodyPost Exit.then Exit.inBlock Hp Again Calls Y AT ResV QT Qn QI wpAny wpAnyQ
set_option maxRecDepth 20000
set_option maxHeartbeats 4000000

theorem redTo_piv {p : Int} {R : Nat} {f : Nat → Nat → Int} : ∀ k, ∀ x ∈ (redTo p R f k).2, 0 ≤ x ∧ x < (k : Int)
  | 0, x, h => by simp [redTo] at h
  | k + 1, x, h => by
    simp only [redTo, colStep] at h
    split at h
    · rcases List.mem_append.1 h with h | h
      · have := redTo_piv k x h; omega
      · simp at h; omega
    · have := redTo_piv k x h; omega
/-- some columns of a matrix -/
def pickC (R : Nat) (f : Nat → Nat → Int) (l : List Int) : List (List Int) := l.map (fun k => mkv R (fun i => f i k.toNat))
@[simp] theorem pickC_length {R : Nat} {f : Nat → Nat → Int} {l : List Int} : (pickC R f l).length = l.length := by simp [pickC]
theorem pickC_next {R : Nat} {f : Nat → Nat → Int} {l : List Int} {i : Nat} (h : i < l.length) : pickC R f (l.take (i + 1)) = pickC R f (l.take i) ++ [mkv R (fun a => f a (l.getD i 0).toNat)] := by
  rw [take_next (z := 0) h]; simp [pickC]
def imgL (p : Int) (m : Mat) : List (List Int) := if MatP p m then pickC m.1.toNat (matF m) (redL p m) else []
abbrev GivesRows (l : List (List Int)) (v : Value) (H : List HE) : Prop := ∃ a c, v = .slice a l.length c ∧ SA a l.length ∧ H = [.own (rowsT 38 l) (.slice a l.length c)]
abbrev GivesRowsB (rs : List (List Int)) (b : Bool) (v : Value) (H : List HE) : Prop := ∃ a c, v = .tuple #[.slice a rs.length c, .bool b] ∧ SA a rs.length ∧ H = [.own (rowsT 38 rs) (.slice a rs.length c)]
theorem pickC_congr {R C : Nat} {f g : Nat → Nat → Int} {l : List Int} (h : ∀ i j, i < R → j < C → f i j = g i j) (hl : ∀ x ∈ l, 0 ≤ x ∧ x < (C : Int)) : pickC R f l = pickC R g l := List.map_congr_left (fun k hk => mkv_ext (fun i hi => h i _ hi (by have := hl k hk; omega)))
theorem imgL_mk {p : Int} {R C : Nat} {f : Nat → Nat → Int} (h : MatP p (↑R, ↑C, mk R C f)) : imgL p (↑R, ↑C, mk R C f) = pickC R f (redTo p R f C).2 := by
  rw [imgL, if_pos h, redL_mk]
  simp only [Int.toNat_natCast]
  exact pickC_congr (C := C) (fun i j hi hj => matF_mk hi hj) (redTo_piv C)
theorem imgL_nT (p : Int) (m : Mat) (e : Nat) : nT (rowsT e (imgL p m)) ≤ 64 := by
  unfold imgL
  split
  · rename_i h
    obtain ⟨R, C, f, rfl, hR, hC, hF, hin⟩ := matP_mk h
    have hl : (redL p (↑R, ↑C, mk R C f)).length ≤ 8 := by have := redL_le (p := p) (m := (↑R, ↑C, mk R C f)); simp at this; omega
    have key : ∀ l : List Int, nL ((pickC R (matF (↑R, ↑C, mk R C f)) l).map iT) = (l.length : Int) * R := fun l => by
      induction l with
      | nil => simp [pickC, nL]
      | cons x l ih =>
        have h1 : pickC R (matF (↑R, ↑C, mk R C f)) (x :: l) = mkv R (fun i => matF (↑R, ↑C, mk R C f) i x.toNat) :: pickC R (matF (↑R, ↑C, mk R C f)) l := rfl
        rw [h1, List.map_cons, nL, ih, nT_ints, mkv_length, List.length_cons, Int.natCast_add, Int.add_mul]
        omega
    simp only [nT, rowT_map, Int.toNat_natCast]
    rw [key, ← Int.natCast_mul]
    have := Nat.mul_le_mul hl hR
    omega
  · simp [nT, nL]
end Go.Proofs.Ytooffimgfnacoaa
