import Derived.Test.YtfhgpkdhhclpbaaCopqpo
import Derived.Test.YtfhgpkdhhclpbaaFitqpo
import Derived.Test.YtfhgpkdhhclpbaaInvqpo
import Derived.Test.YtfhgpkdhhclpbaaMorqpo
import Derived.Test.YtfhgpkdhhclpbaaMrkqpo
import Derived.Test.YtfhgpkdhhclpbaaMulqpo
import Derived.Test.YtfhgpkdhhclpbaaOpnqpo
import Derived.Test.YtfhgpkdhhclpbaaRepqpo
import Derived.Test.YtfhgpkdhhclpbaaRplqpo
namespace Go.Proofs.Ytfhgpkdhhclpbaa
open Go.Lg Go.Proofs Go.RowKit
attribute [local irreducible] Code.wp wpList bodyPost Exit.then Exit.inBlock Hp Again Calls Y AT ResV QT Qn QI wpAny wpAnyQ
set_option maxRecDepth 20000
set_option maxHeartbeats 4000000

/-! ### the map along a path -/
theorem matP_cells {p : Int} {m : Mat} (h : MatP p m) : ∃ R C : Nat, m.1 = R ∧ m.2.1 = C ∧ R ≤ 8 ∧ C ≤ 8 ∧ m.2.2 = mk R C (matF m) ∧ inF p R C (matF m) := by
  obtain ⟨R, C, f, rfl, hR, hC, _, hin⟩ := matP_mk h
  refine ⟨R, C, rfl, rfl, hR, hC, mk_ext (fun i j hi hj => (matF_mk hi hj).symm), fun i j hi hj => ?_⟩
  rw [matF_mk hi hj]
  exact hin i j hi hj
theorem RepP.dg {r : Rp} (h : RepP r) (n : Nat) : 0 ≤ r.d.getD n 0 ∧ r.d.getD n 0 ≤ 4 := (RepP.dd h).1 n
end Go.Proofs.Ytfhgpkdhhclpbaa

namespace Go.Proofs.Ytfhgpkdhhclpbaa
open Go.Lg Go.Proofs Go.RowKit
attribute [local irreducible] Code.wp wpList bodyPost Exit.then Exit.inBlock Hp Again Calls Y AT ResV QT Qn QI wpAny wpAnyQ
set_option maxRecDepth 20000
set_option maxHeartbeats 4000000

/-! ### lists of made matrices; products of matrices vertex by vertex -/
def tabM (F : Nat → Mat) (n : Nat) : List Mat := (List.range n).map F
@[simp] theorem tabM_length {F : Nat → Mat} {n : Nat} : (tabM F n).length = n := by simp [tabM]
theorem tabM_next {F : Nat → Mat} {i x y : Nat} {f : Nat → Nat → Int} (hz : F i = ((x : Int), (y : Int), mk x y f)) : (tabM F i).flatMap matT ++ (List.map T.c [iV x, iV y] ++ [iT (mk x y f)]) = (tabM F (i + 1)).flatMap matT := by
  have e1 : tabM F (i + 1) = tabM F i ++ [F i] := by simp [tabM, List.range_succ]
  rw [e1, List.flatMap_append, hz]; rfl
end Go.Proofs.Ytfhgpkdhhclpbaa
