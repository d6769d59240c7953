import Derived.Test.YtdnhmnnccfoliaaDoorCopqqv
namespace Go.Proofs.YtdnhmnnccfoliaaDoor
open Go.Lg Go.Proofs Go.RowKit

def MatG (p : Int) (m : Mat) : Prop := FieldP p ∧ (0 ≤ m.1 ∧ m.1 ≤ 1024) ∧ (0 ≤ m.2.1 ∧ m.2.1 ≤ 1024) ∧ (m.2.2.length : Int) = m.1 * m.2.1 ∧ InP 0 (p - 1) m.2.2
theorem MatP.g {p : Int} {m : Mat} (h : MatP p m) : MatG p m := by
  obtain ⟨⟨h1, h2⟩, ⟨h3, h4⟩, h5, h6, h7, h8⟩ := h
  exact ⟨h6, ⟨h1, by omega⟩, ⟨h3, by omega⟩, h5, h8⟩
end Go.Proofs.YtdnhmnnccfoliaaDoor
