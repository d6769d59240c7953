import Derived.Test.YtdnhmnnccfoliaaDoorPrdqqv
namespace Go.Proofs.YtdnhmnnccfoliaaDoor
open Go.Lg Go.Proofs Go.RowKit
attribute [local irreducible] Code.wp wpList bodyPost Exit.then Exit.inBlock Hp Again Calls Y AT ResV QT
set_option maxRecDepth 20000
set_option maxHeartbeats 4000000

theorem inP_take {lo hi : Int} {xs : List Int} {i : Nat} (h : InP lo hi (xs.take i)) (hi' : i < xs.length) (hx : lo ≤ xs.getD i 0 ∧ xs.getD i 0 ≤ hi) : InP lo hi (xs.take (i + 1)) := by
  intro x hm
  rw [take_next (z := 0) hi'] at hm
  rcases List.mem_append.1 hm with hm | hm
  · exact h x hm
  · simp only [List.mem_singleton] at hm
    subst hm; exact hx
theorem inP_not {lo hi : Int} {xs : List Int} {i : Nat} (hi' : i < xs.length) (hx : ¬ (lo ≤ xs.getD i 0 ∧ xs.getD i 0 ≤ hi)) : ¬ InP lo hi xs := fun h => hx (h _ (by
  have : xs.getD i 0 = xs[i] := by simp [List.getD, hi']
  rw [this]; exact List.getElem_mem hi'))
end Go.Proofs.YtdnhmnnccfoliaaDoor
