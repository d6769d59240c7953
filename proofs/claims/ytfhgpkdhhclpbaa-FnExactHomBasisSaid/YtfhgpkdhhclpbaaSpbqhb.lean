import Derived.Test.YtfhgpkdhhclpbaaCopqhb
import Derived.Test.YtfhgpkdhhclpbaaEqmqhb
import Derived.Test.YtfhgpkdhhclpbaaImgqhb
import Derived.Test.YtfhgpkdhhclpbaaLDqhb
import Derived.Test.YtfhgpkdhhclpbaaMxfqhb
import Derived.Test.YtfhgpkdhhclpbaaPrmqhb
import Derived.Test.YtfhgpkdhhclpbaaRowqhb
import Derived.Test.YtfhgpkdhhclpbaaRrfqhb
namespace Go.Proofs.Ytfhgpkdhhclpbaa
open Go.Lg Go.Proofs Go.RowKit

/-! ### the span of rows (plain) -/
inductive Spn (p : Int) (R C : Nat) (g : Nat → Nat → Int) : (Nat → Int) → Prop where
  | nil {v : Nat → Int} (h : ∀ j, j < C → p ∣ v j) : Spn p R C g v
  | add {u v : Nat → Int} (i : Nat) (c : Int) (hi : i < R) (hu : Spn p R C g u) (h : ∀ j, j < C → p ∣ v j - (u j + c * g i j)) : Spn p R C g v
theorem dvd_add2 {p a b c : Int} (h1 : p ∣ a) (h2 : p ∣ b) (h : c = a + b) : p ∣ c := h ▸ Int.dvd_add h1 h2
theorem Spn.congr {p : Int} {R C : Nat} {g : Nat → Nat → Int} {v v' : Nat → Int} (h : Spn p R C g v) (e : ∀ j, j < C → p ∣ v' j - v j) : Spn p R C g v' := by
  cases h with
  | nil h => exact .nil (fun j hj => dvd_add2 (e j hj) (h j hj) (by omega))
  | add i c hi hu h => exact .add i c hi hu (fun j hj => dvd_add2 (e j hj) (h j hj) (by omega))
theorem Spn.row {p : Int} {R C i : Nat} {g : Nat → Nat → Int} (hi : i < R) : Spn p R C g (g i) :=
  .add (u := fun _ => 0) i 1 hi (.nil (fun j _ => Int.dvd_zero p)) (fun j _ => by rw [show g i j - (0 + 1 * g i j) = 0 by omega]; exact Int.dvd_zero p)
theorem Spn.plus {p : Int} {R C : Nat} {g : Nat → Nat → Int} {u v : Nat → Int} (hu : Spn p R C g u) (hv : Spn p R C g v) : Spn p R C g (fun j => u j + v j) := by
  induction hv with
  | nil h => exact hu.congr (fun j hj => by rw [show u j + _ - u j = _ by rw [Int.add_comm, Int.add_sub_cancel]]; exact h j hj)
  | add i c hi _ h ih => exact .add i c hi ih (fun j hj => by have := h j hj; exact dvd_add2 this (Int.dvd_zero p) (by omega))
theorem Spn.mul {p : Int} {R C : Nat} {g : Nat → Nat → Int} {u : Nat → Int} (x : Int) (hu : Spn p R C g u) : Spn p R C g (fun j => x * u j) := by
  induction hu with
  | nil h => exact .nil (fun j hj => Int.dvd_trans (h j hj) (Int.dvd_mul_left ..))
  | add i c hi _ h ih => exact .add i (x * c) hi ih (fun j hj => by
      obtain ⟨y, hy⟩ := h j hj
      exact ⟨x * y, by grind⟩)
theorem Spn.mono {p : Int} {R R' C : Nat} {g g' : Nat → Nat → Int} {v : Nat → Int} (h : ∀ i, i < R → Spn p R' C g' (g i)) (hv : Spn p R C g v) : Spn p R' C g' v := by
  induction hv with
  | nil h => exact .nil h
  | add i c hi _ e ih => exact (ih.plus ((h i hi).mul c)).congr e
/-! ### reduction keeps the span -/
/-! ### reduced rows are told by their span -/
end Go.Proofs.Ytfhgpkdhhclpbaa

namespace Go.Proofs.Ytfhgpkdhhclpbaa
open Go.Lg Go.Proofs Go.RowKit
attribute [local irreducible] Code.wp wpList bodyPost Exit.then Exit.inBlock Hp Again Calls Y AT ResV QT Qn QI wpAny wpAnyQ
set_option maxRecDepth 20000
set_option maxHeartbeats 4000000

/-! ### rows that others own, and lists put together -/
/-- a matrix by its rows -/
def rowsF (rs : List (List Int)) : Nat → Nat → Int := fun i j => (rs.getD i []).getD j 0
/-- the cells of a slice, by their values -/
def NamesAt (w : World) (v : Value) (us : List Value) : Prop := ∃ a c, v = .slice a us.length c ∧ us.length ≤ 1048576 ∧ (us.length = 0 ∨ a = some ⟨ab a, ao a, none⟩) ∧ (∀ (j : Nat) u, us[j]? = some u → w.cell? ⟨ab a, ao a + j, none⟩ = some u) ∧ ∀ u ∈ us, u.oneCell' = true
theorem NamesAt.rd {w w' : World} {H : List HE} {v : Value} {us : List Value} (h : NamesAt w v us) (c : Hp [] w H w') : NamesAt w' v us := by
  obtain ⟨a, cc, h1, h2, h3, h4, h5⟩ := h
  exact ⟨a, cc, h1, h2, h3, fun j u hu => c.cell (h4 j u hu), h5⟩
end Go.Proofs.Ytfhgpkdhhclpbaa

namespace Go.Proofs.Ytfhgpkdhhclpbaa
open Go.Lg Go.Proofs Go.RowKit
attribute [local irreducible] Code.wp wpList bodyPost Exit.then Exit.inBlock Hp Again Calls Y AT ResV QT Qn QI wpAny wpAnyQ
set_option maxRecDepth 20000
set_option maxHeartbeats 4000000

/-! ### lists of rows: search -/
/-! ### vectors that fit -/
def FineP (p n : Int) (l : List (List Int)) : Prop := FieldP p ∧ (0 ≤ n ∧ n ≤ 8) ∧ l.length ≤ 16 ∧ ∀ v ∈ l, (v.length : Int) = n ∧ VecP p v
instance (p n : Int) (l : List (List Int)) : Decidable (FineP p n l) := by unfold FineP; infer_instance
end Go.Proofs.Ytfhgpkdhhclpbaa

namespace Go.Proofs.Ytfhgpkdhhclpbaa
open Go.Lg Go.Proofs Go.RowKit
attribute [local irreducible] Code.wp wpList bodyPost Exit.then Exit.inBlock Hp Again Calls Y AT ResV QT Qn QI wpAny wpAnyQ
set_option maxRecDepth 20000
set_option maxHeartbeats 4000000

/-! ### the reduced basis of some rows -/
/-- rows that are vectors of C numbers of the field -/
def RowsP (p : Int) (C : Nat) (rs : List (List Int)) : Prop := ∀ xs ∈ rs, xs.length = C ∧ InP 0 (p - 1) xs
theorem RowsP.inF {p : Int} {C : Nat} {rs : List (List Int)} (h : RowsP p C rs) : inF p rs.length C (rowsF rs) := fun i j hi hj => by
  have hx : rs[i]? = some (rs.getD i []) := getD_some hi
  obtain ⟨h1, h2⟩ := h _ (List.mem_of_getElem? hx)
  have := inP_get h2 (i := j) (by omega)
  unfold rowsF
  omega
theorem FineP.rows {p n : Int} {l : List (List Int)} (h : FineP p n l) : ∃ C : Nat, n = C ∧ C ≤ 8 ∧ RowsP p C l := by
  obtain ⟨_, h1, _, h2⟩ := h
  refine ⟨n.toNat, by omega, by omega, fun xs hx => ?_⟩
  obtain ⟨h3, h4⟩ := h2 xs hx
  exact ⟨by omega, h4.2.2⟩
theorem mk_row {R C i : Nat} {g : Nat → Nat → Int} (hi : i < R) : ((mk R C g).drop (i * C)).take C = mkv C (g i) := by
  apply List.ext_getElem?
  intro q
  rw [List.getElem?_take]
  by_cases hq : q < C
  · have hc := cell_lt (R := R) hi hq
    have h1 := mk_get (f := g) hi hq
    rw [if_pos hq, List.getElem?_drop, getD_some (z := 0) (by rw [mk_length]; exact hc), h1]
    simp [mkv, hq]
  · rw [if_neg hq, List.getElem?_eq_none (by simp; omega)]
theorem row_rds {w : World} {R C i cap : Nat} {g : Nat → Nat → Int} {a : Option Addr} (hr : Rd w (iT (mk R C g)) (.slice a (R * C) cap)) (hi : i < R) : Rd w (iT (mkv C (g i))) (.slice (subA a 1 (i * C) cap) C (cap - i * C)) := by
  have h1 : (i + 1) * C ≤ R * C := Nat.mul_le_mul_right C hi
  rw [Nat.succ_mul] at h1
  have h := Rd.part (lo := i * C) (hi := i * C + C) hr (by omega) h1
  rw [show i * C + C - i * C = C by omega] at h
  have e : ((it (mk R C g)).drop (i * C * 1)).take (C * 1) = it (mkv C (g i)) := by
    rw [Nat.mul_one, Nat.mul_one, ← mk_row hi]
    simp [it, List.map_take, List.map_drop]
  rw [e] at h
  exact h
end Go.Proofs.Ytfhgpkdhhclpbaa
