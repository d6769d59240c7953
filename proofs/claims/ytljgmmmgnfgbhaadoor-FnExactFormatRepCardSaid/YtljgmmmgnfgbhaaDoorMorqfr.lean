import Derived.Test.YtljgmmmgnfgbhaaDoorZerqfr
namespace Go.Proofs.YtljgmmmgnfgbhaaDoor
open Go.Lg Go.Proofs Go.RowKit
attribute [local irreducible] Code.wp wpList bodyPost Exit.then Exit.inBlock Hp Again Calls Y AT ResV QT Qn QI wpAny wpAnyQ
set_option maxRecDepth 20000
set_option maxHeartbeats 4000000

/-! ### lists of matrices: of one, of zeros -/
theorem RepP.dd {r : Rp} (h : RepP r) : (∀ n, 0 ≤ r.d.getD n 0 ∧ r.d.getD n 0 ≤ 4) ∧ r.d.length ≤ 5 := by
  obtain ⟨_, ⟨⟨hV, _⟩, hdV, hdi, _⟩, _⟩ := h
  refine ⟨fun n => ?_, by omega⟩
  rcases Nat.lt_or_ge n r.d.length with h1 | h1
  · exact hdi _ (List.mem_of_getElem? (getD_some (z := 0) h1))
  · rw [List.getD_eq_getElem?_getD, List.getElem?_eq_none h1]; exact ⟨by simp, by simp⟩
/-! ### the morphism of zeros -/
end Go.Proofs.YtljgmmmgnfgbhaaDoor
