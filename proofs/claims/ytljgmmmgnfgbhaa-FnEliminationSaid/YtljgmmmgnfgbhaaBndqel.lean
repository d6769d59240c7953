import Derived.Test.YtljgmmmgnfgbhaaCobqel
namespace Go.Proofs.Ytljgmmmgnfgbhaa
open Go.Lg Go.Proofs Go.RowKit
attribute [local irreducible] Code.wp wpList bodyPost Exit.then Exit.inBlock Hp Again Calls Y AT ResV QT Qn QI wpAny wpAnyQ
set_option maxRecDepth 20000
set_option maxHeartbeats 4000000

/-! ### the cells of all matrices between two representations; the equations of the morphisms, in plain -/
theorem getD_ix {l : List Int} {i : Nat} (h : i < l.length) : l.getD i 0 = l[i] := by rw [List.getD, List.getElem?_eq_getElem h]; rfl
/-! the rows, one for each cell of each arrow -/
/-! the rows so far, in the midst of an arrow -/
/-! the rows of the reference, step by step -/
end Go.Proofs.Ytljgmmmgnfgbhaa
