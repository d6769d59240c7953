import Derived.Test.YtnmhdmkfhacdbaaGreatCopqA
import Derived.Test.YtnmhdmkfhacdbaaGreatEqmqA
import Derived.Test.YtnmhdmkfhacdbaaGreatInvqA
import Derived.Test.YtnmhdmkfhacdbaaGreatLCqA
import Derived.Test.YtnmhdmkfhacdbaaGreatMorqA
import Derived.Test.YtnmhdmkfhacdbaaGreatMrkqA
import Derived.Test.YtnmhdmkfhacdbaaGreatMulqA
import Derived.Test.YtnmhdmkfhacdbaaGreatOpnqA
import Derived.Test.YtnmhdmkfhacdbaaGreatRepqA
import Derived.Test.YtnmhdmkfhacdbaaGreatRplqA
namespace Go.Proofs.YtnmhdmkfhacdbaaGreat
open Go.Lg Go.Proofs Go.RowKit
attribute [local irreducible] Code.wp wpList bodyPost Exit.then Exit.inBlock Hp Again Calls Y AT ResV QT Qn QI wpAny wpAnyQ
set_option maxRecDepth 20000
set_option maxHeartbeats 4000000

/-! ### the map along a path -/
theorem matP_cells {p : Int} {m : Mat} (h : MatP p m) : ∃ R C : Nat, m.1 = R ∧ m.2.1 = C ∧ R ≤ 8 ∧ C ≤ 8 ∧ m.2.2 = mk R C (matF m) ∧ inF p R C (matF m) := by
  obtain ⟨R, C, f, rfl, hR, hC, _, hin⟩ := matP_mk h
  refine ⟨R, C, rfl, rfl, hR, hC, mk_ext (fun i j hi hj => (matF_mk hi hj).symm), fun i j hi hj => ?_⟩
  rw [matF_mk hi hj]
  exact hin i j hi hj
theorem RepP.dg {r : Rp} (h : RepP r) (n : Nat) : 0 ≤ r.d.getD n 0 ∧ r.d.getD n 0 ≤ 4 := (RepP.dd h).1 n
end Go.Proofs.YtnmhdmkfhacdbaaGreat

namespace Go.Proofs.YtnmhdmkfhacdbaaGreat
open Go.Lg Go.Proofs Go.RowKit
attribute [local irreducible] Code.wp wpList bodyPost Exit.then Exit.inBlock Hp Again Calls Y AT ResV QT Qn QI wpAny wpAnyQ
set_option maxRecDepth 20000
set_option maxHeartbeats 4000000

/-! ### sums of matrices, zero matrices -/
/-! ### morphisms -/
def CellsP (p : Int) (m : Mat) (R C : Nat) : Prop := m.1 = R ∧ m.2.1 = C ∧ m.2.2 = mk R C (matF m) ∧ inF p R C (matF m)
theorem cellsP_of {p : Int} {m : Mat} {R C : Nat} (h : MatP p m) (h1 : m.1 = R) (h2 : m.2.1 = C) : CellsP p m R C := by
  obtain ⟨R', C', e1, e2, _, _, e3, e4⟩ := matP_cells h
  have r1 : R' = R := by omega
  have r2 : C' = C := by omega
  subst r1; subst r2
  exact ⟨e1, e2, e3, e4⟩
end Go.Proofs.YtnmhdmkfhacdbaaGreat
