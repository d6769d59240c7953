import Derived.Test.YtdnhmnnccfoliaaGreatDoorCopqmt
namespace Go.Proofs.YtdnhmnnccfoliaaGreatDoor
open Go.Lg Go.Proofs Go.RowKit

def inF (p : Int) (R C : Nat) (f : Nat → Nat → Int) : Prop := ∀ i j, i < R → j < C → 0 ≤ f i j ∧ f i j < p
theorem redL_length {p : Int} {R : Nat} {f : Nat → Nat → Int} : ∀ k, (redTo p R f k).2.length ≤ k
  | 0 => by simp [redTo]
  | k + 1 => by
    have := redL_length (p := p) (R := R) (f := f) k
    simp only [redTo, colStep]
    split
    · simp; omega
    · omega

def MatG (p : Int) (m : Mat) : Prop := FieldP p ∧ (0 ≤ m.1 ∧ m.1 ≤ 1024) ∧ (0 ≤ m.2.1 ∧ m.2.1 ≤ 1024) ∧ (m.2.2.length : Int) = m.1 * m.2.1 ∧ InP 0 (p - 1) m.2.2
theorem MatP.g {p : Int} {m : Mat} (h : MatP p m) : MatG p m := by
  obtain ⟨⟨h1, h2⟩, ⟨h3, h4⟩, h5, h6, h7, h8⟩ := h
  exact ⟨h6, ⟨h1, by omega⟩, ⟨h3, by omega⟩, h5, h8⟩
end Go.Proofs.YtdnhmnnccfoliaaGreatDoor
