import Derived.Test.YtfhgpkdhhclpbaaAloqch
import Derived.Test.YtfhgpkdhhclpbaaCopqch
import Derived.Test.YtfhgpkdhhclpbaaLCqch
import Derived.Test.YtfhgpkdhhclpbaaMatqch
import Derived.Test.YtfhgpkdhhclpbaaRepqch
namespace Go.Proofs.Ytfhgpkdhhclpbaa
open Go.Lg Go.Proofs Go.RowKit
attribute [local irreducible] Code.wp wpList bodyPost Exit.then Exit.inBlock Hp Again Calls Y AT ResV QT Qn QI wpAny wpAnyQ
set_option maxRecDepth 20000
set_option maxHeartbeats 4000000

/-! ### sums of matrices, zero matrices -/
/-! ### morphisms -/
def CellsP (p : Int) (m : Mat) (R C : Nat) : Prop := m.1 = R ∧ m.2.1 = C ∧ m.2.2 = mk R C (matF m) ∧ inF p R C (matF m)
theorem cellsP_of {p : Int} {m : Mat} {R C : Nat} (h : MatP p m) (h1 : m.1 = R) (h2 : m.2.1 = C) : CellsP p m R C := by
  obtain ⟨R', C', e1, e2, _, _, e3, e4⟩ := matP_cells h
  have r1 : R' = R := by omega
  have r2 : C' = C := by omega
  subst r1; subst r2
  exact ⟨e1, e2, e3, e4⟩
def dN (d : List Int) (v : Int) : Nat := (d.getD v.toNat 0).toNat
end Go.Proofs.Ytfhgpkdhhclpbaa
