import Derived.Test.YtdnhmnnccfoliaaGreatDoorCopqmt
import Derived.Test.YtdnhmnnccfoliaaGreatDoorImgqmt
import Derived.Test.YtdnhmnnccfoliaaGreatDoorPrmqmt
import Derived.Test.YtdnhmnnccfoliaaGreatDoorShrqmt
namespace Go.Proofs.YtdnhmnnccfoliaaGreatDoor
open Go.Lg Go.Proofs Go.RowKit
attribute [local irreducible] Code.wp wpList bodyPost Exit.then Exit.inBlock Hp Again Calls Y AT ResV QT Qn QI wpAny wpAnyQ
set_option maxRecDepth 20000
set_option maxHeartbeats 4000000

def FineP (p n : Int) (l : List (List Int)) : Prop := FieldP p ∧ (0 ≤ n ∧ n ≤ 8) ∧ l.length ≤ 16 ∧ ∀ v ∈ l, (v.length : Int) = n ∧ VecP p v
instance (p n : Int) (l : List (List Int)) : Decidable (FineP p n l) := by unfold FineP; infer_instance
end Go.Proofs.YtdnhmnnccfoliaaGreatDoor

namespace Go.Proofs.YtdnhmnnccfoliaaGreatDoor
open Go.Lg Go.Proofs Go.RowKit
attribute [local irreducible] Code.wp wpList bodyPost Exit.then Exit.inBlock Hp Again Calls Y AT ResV QT Qn QI wpAny wpAnyQ
set_option maxRecDepth 20000
set_option maxHeartbeats 4000000

def rowL (C : Nat) (g : Nat → Nat → Int) (k : Nat) : List (List Int) := (List.range k).map (fun i => mkv C (g i))
@[simp] theorem rowL_length {C : Nat} {g : Nat → Nat → Int} {k : Nat} : (rowL C g k).length = k := by simp [rowL]
theorem rowL_next {C : Nat} {g : Nat → Nat → Int} {k : Nat} : rowL C g (k + 1) = rowL C g k ++ [mkv C (g k)] := by simp [rowL, List.range_succ]
def basL (p : Int) (C : Nat) (rs : List (List Int)) : List (List Int) := rowL C (redTo p rs.length (rowsF rs) C).1 (redTo p rs.length (rowsF rs) C).2.length
def RowsP (p : Int) (C : Nat) (rs : List (List Int)) : Prop := ∀ xs ∈ rs, xs.length = C ∧ InP 0 (p - 1) xs
theorem RowsP.inF {p : Int} {C : Nat} {rs : List (List Int)} (h : RowsP p C rs) : inF p rs.length C (rowsF rs) := fun i j hi hj => by
  have hx : rs[i]? = some (rs.getD i []) := getD_some hi
  obtain ⟨h1, h2⟩ := h _ (List.mem_of_getElem? hx)
  have := inP_get h2 (i := j) om
  unfold rowsF
  omega
theorem FineP.rows {p n : Int} {l : List (List Int)} (h : FineP p n l) : ∃ C : Nat, n = C ∧ C ≤ 8 ∧ RowsP p C l := by
  obtain ⟨_, h1, _, h2⟩ := h
  refine ⟨n.toNat, by omega, by omega, fun xs hx => ?_⟩
  obtain ⟨h3, h4⟩ := h2 xs hx
  exact ⟨by omega, h4.2.2⟩
theorem mk_row {R C i : Nat} {g : Nat → Nat → Int} (hi : i < R) : ((mk R C g).drop (i * C)).take C = mkv C (g i) := by
  apply List.ext_getElem?
  intro q
  rw [List.getElem?_take]
  by_cases hq : q < C
  · have hc := cell_lt (R := R) hi hq
    have h1 := mk_get (f := g) hi hq
    rw [if_pos hq, List.getElem?_drop, getD_some (z := 0) (by rw [mk_length]; exact hc), h1]
    simp [mkv, hq]
  · rw [if_neg hq, List.getElem?_eq_none (by simp; omega)]
theorem row_rds {w : World} {R C i cap : Nat} {g : Nat → Nat → Int} {a : Option Addr} (hr : Rd w (iT (mk R C g)) (.slice a (R * C) cap)) (hi : i < R) : Rd w (iT (mkv C (g i))) (.slice (subA a 1 (i * C) cap) C (cap - i * C)) := by
  have h1 : (i + 1) * C ≤ R * C := Nat.mul_le_mul_right C hi
  rw [Nat.succ_mul] at h1
  have h := Rd.part (lo := i * C) (hi := i * C + C) hr om h1
  rw [show i * C + C - i * C = C by omega] at h
  have e : ((it (mk R C g)).drop (i * C * 1)).take (C * 1) = it (mkv C (g i)) := by
    rw [Nat.mul_one, Nat.mul_one, ← mk_row hi]
    simp [it, List.map_take, List.map_drop]
  rw [e] at h
  exact h
theorem bld_mat20 (r k : Int) (w : World) : (Instr.build 41 #[(0, iV r), (1, iV k)]).run Tryz.prog w = .ok (.agg #[iV r, iV k, .slice none 0 0]) w := by kernel_rfl
end Go.Proofs.YtdnhmnnccfoliaaGreatDoor
