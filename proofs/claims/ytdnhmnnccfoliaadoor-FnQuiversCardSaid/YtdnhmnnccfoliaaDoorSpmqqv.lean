import Derived.Test.YtdnhmnnccfoliaaDoorMxfqqv
namespace Go.Proofs.YtdnhmnnccfoliaaDoor
open Go.Lg Go.Proofs Go.RowKit

inductive Spn (p : Int) (R C : Nat) (g : Nat → Nat → Int) : (Nat → Int) → Prop where
  | nil {v : Nat → Int} (h : ∀ j, j < C → p ∣ v j) : Spn p R C g v
  | add {u v : Nat → Int} (i : Nat) (c : Int) (hi : i < R) (hu : Spn p R C g u) (h : ∀ j, j < C → p ∣ v j - (u j + c * g i j)) : Spn p R C g v
theorem dvd_add2 {p a b c : Int} (h1 : p ∣ a) (h2 : p ∣ b) (h : c = a + b) : p ∣ c := h ▸ Int.dvd_add h1 h2
theorem Spn.congr {p : Int} {R C : Nat} {g : Nat → Nat → Int} {v v' : Nat → Int} (h : Spn p R C g v) (e : ∀ j, j < C → p ∣ v' j - v j) : Spn p R C g v' := by
  cases h with
  | nil h => exact .nil (fun j hj => dvd_add2 (e j hj) (h j hj) om)
  | add i c hi hu h => exact .add i c hi hu (fun j hj => dvd_add2 (e j hj) (h j hj) om)
theorem Spn.row {p : Int} {R C i : Nat} {g : Nat → Nat → Int} (hi : i < R) : Spn p R C g (g i) :=
  .add (u := fun _ => 0) i 1 hi (.nil (fun j _ => Int.dvd_zero p)) (fun j _ => by rw [show g i j - (0 + 1 * g i j) = 0 by omega]; exact Int.dvd_zero p)
theorem Spn.plus {p : Int} {R C : Nat} {g : Nat → Nat → Int} {u v : Nat → Int} (hu : Spn p R C g u) (hv : Spn p R C g v) : Spn p R C g (fun j => u j + v j) := by
  induction hv with
  | nil h => exact hu.congr (fun j hj => by rw [show u j + _ - u j = _ by rw [Int.add_comm, Int.add_sub_cancel]]; exact h j hj)
  | add i c hi _ h ih => exact .add i c hi ih (fun j hj => by have := h j hj; exact dvd_add2 this (Int.dvd_zero p) om)
theorem Spn.mul {p : Int} {R C : Nat} {g : Nat → Nat → Int} {u : Nat → Int} (x : Int) (hu : Spn p R C g u) : Spn p R C g (fun j => x * u j) := by
  induction hu with
  | nil h => exact .nil (fun j hj => Int.dvd_trans (h j hj) (Int.dvd_mul_left ..))
  | add i c hi _ h ih => exact .add i (x * c) hi ih (fun j hj => by
      obtain ⟨y, hy⟩ := h j hj
      exact ⟨x * y, by grind⟩)
theorem Spn.mono {p : Int} {R R' C : Nat} {g g' : Nat → Nat → Int} {v : Nat → Int} (h : ∀ i, i < R → Spn p R' C g' (g i)) (hv : Spn p R C g v) : Spn p R' C g' v := by
  induction hv with
  | nil h => exact .nil h
  | add i c hi _ e ih => exact (ih.plus ((h i hi).mul c)).congr e
end Go.Proofs.YtdnhmnnccfoliaaDoor
