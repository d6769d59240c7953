import Derived.Test.YtljgmmmgnfgbhaaLBqcm
import Derived.Test.YtljgmmmgnfgbhaaPrdqcm
namespace Go.Proofs.Ytljgmmmgnfgbhaa
open Go.Lg Go.Proofs Go.RowKit
attribute [local irreducible] Code.wp wpList bodyPost Exit.then Exit.inBlock Hp Again Calls Y AT ResV QT
set_option maxRecDepth 20000
set_option maxHeartbeats 4000000

theorem fieldP_pos {p : Int} (h : FieldP p) : 2 ≤ p ∧ p ≤ 5 := by unfold FieldP at h; omega
theorem l2Mod_ok {w : World} {p x : Int} (hp : 0 < p) (hp' : p ≤ 9223372036854775807) : Does Try.prog 95 [iV p, iV x] w (fun v H => v = iV (x % p) ∧ H = []) := by
  have hh := tmod_fix (x := x) hp
  have h1 := Int.emod_nonneg x (show p ≠ 0 by omega)
  have h2 := Int.emod_lt_of_pos x hp
  refine fn_enter Try.func95 rfl Try.ntmps95 rfl ?_
  repeat' (first
    | (show AT _ _ _ (wpList _ _ _ (_ :: _)); first
       | (show AT _ _ _ (wpList _ _ _ (⟨_, Op.move _, _, _, _, _⟩ :: _)); refine st_y (y_move rfl) rfl ?_)
       | (show AT _ _ _ (wpList _ _ _ (⟨_, Op.assign _, _, _, _, _⟩ :: _)); refine st_y (y_assign rfl) rfl ?_)
       | (show AT _ _ _ (wpList _ _ _ (⟨_, Op.binOp _ _ _ _ _, _, _, _, _⟩ :: _)); first | refine st_y (y_rem rfl rfl (by omega)) rfl ?_ | refine st_y (y_add rfl rfl (by have := hh; split at this <;> omega)) rfl ?_ | refine st_y (y_lss rfl rfl) rfl ?_))
    | (show AT _ _ _ (wpList _ _ _ []); refine c_nil (x_then ?_))
    | (show AT _ _ _ (Code.wp _ _ _); first | refine c_seq ?_ | refine c_region ?_ | refine c_skip (x_then ?_) | refine c_ret ?_ | refine c_if rfl (fun h => ?_) (fun h => ?_)))
  all_goals refine x_ret1 Try.results95 (res_tmp rfl) (fun w c => ⟨_, _, rfl, ⟨congrArg iV ?_, rfl⟩, c⟩)
  · rw [if_pos h] at hh; exact hh
  · rw [if_neg h] at hh; exact hh

theorem mul_small {a b : Int} (ha : 0 ≤ a ∧ a ≤ 5) (hb : 0 ≤ b ∧ b ≤ 5) : 0 ≤ a * b ∧ a * b ≤ 25 := ⟨Int.mul_nonneg ha.1 hb.1, by have := Int.mul_le_mul ha.2 hb.2 hb.1 (by omega); omega⟩

end Go.Proofs.Ytljgmmmgnfgbhaa
