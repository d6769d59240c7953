import Derived.Test.YtljgmmmgnfgbhaaLBqel
import Derived.Test.YtljgmmmgnfgbhaaPrdqel
namespace Go.Proofs.Ytljgmmmgnfgbhaa
open Go.Lg Go.Proofs Go.RowKit
attribute [local irreducible] Code.wp wpList bodyPost Exit.then Exit.inBlock Hp Again Calls Y AT ResV QT
set_option maxRecDepth 20000
set_option maxHeartbeats 4000000

theorem fieldP_pos {p : Int} (h : FieldP p) : 2 ≤ p ∧ p ≤ 5 := by unfold FieldP at h; omega
/-- the inverse of x, modulo a p of a field -/
def invM (p x : Int) : Int := if p = 5 ∧ x = 2 then 3 else if p = 5 ∧ x = 3 then 2 else x

theorem l2Mod_ok {w : World} {p x : Int} (hp : 0 < p) (hp' : p ≤ 9223372036854775807) : Does Try.prog 95 [iV p, iV x] w (fun v H => v = iV (x % p) ∧ H = []) := by
  have hh := tmod_fix (x := x) hp
  have h1 := Int.emod_nonneg x (show p ≠ 0 by omega)
  have h2 := Int.emod_lt_of_pos x hp
  refine fn_enter Try.func95 rfl Try.ntmps95 rfl ?_
  repeat' (first
    | (show AT _ _ _ (wpList _ _ _ (_ :: _)); first
       | (show AT _ _ _ (wpList _ _ _ (⟨_, Op.move _, _, _, _, _⟩ :: _)); refine st_y (y_move rfl) rfl ?_)
       | (show AT _ _ _ (wpList _ _ _ (⟨_, Op.assign _, _, _, _, _⟩ :: _)); refine st_y (y_assign rfl) rfl ?_)
       | (show AT _ _ _ (wpList _ _ _ (⟨_, Op.binOp _ _ _ _ _, _, _, _, _⟩ :: _)); first | refine st_y (y_rem rfl rfl (by omega)) rfl ?_ | refine st_y (y_add rfl rfl (by have := hh; split at this <;> omega)) rfl ?_ | refine st_y (y_lss rfl rfl) rfl ?_))
    | (show AT _ _ _ (wpList _ _ _ []); refine c_nil (x_then ?_))
    | (show AT _ _ _ (Code.wp _ _ _); first | refine c_seq ?_ | refine c_region ?_ | refine c_skip (x_then ?_) | refine c_ret ?_ | refine c_if rfl (fun h => ?_) (fun h => ?_)))
  all_goals refine x_ret1 Try.results95 (res_tmp rfl) (fun w c => ⟨_, _, rfl, ⟨congrArg iV ?_, rfl⟩, c⟩)
  · rw [if_pos h] at hh; exact hh
  · rw [if_neg h] at hh; exact hh

theorem ReduceMod_ok {w : World} {p x : Int} (hp : FieldP p) : Does Try.prog 137 [iV p, iV x] w (fun v H => v = iV (x % p) ∧ H = []) := by
  have ⟨hp1, hp2⟩ := fieldP_pos hp
  have h := tmod_fix (x := x) (p := p) (by omega)
  have h1 := Int.emod_nonneg x (show p ≠ 0 by omega)
  have h2 := Int.emod_lt_of_pos x (show 0 < p by omega)
  have h0 : -p ≤ x.tmod p ∧ x.tmod p < p := by split at h <;> omega
  refine fn_enter Try.func137 rfl Try.ntmps137 rfl ?_
  repeat' (first
    | (show AT _ _ _ (wpList _ _ _ (_ :: _)); first
       | (show AT _ _ _ (wpList _ _ _ (⟨_, Op.move _, _, _, _, _⟩ :: _)); refine st_y (y_move rfl) rfl ?_)
       | (show AT _ _ _ (wpList _ _ _ (⟨_, Op.assign _, _, _, _, _⟩ :: _)); refine st_y (y_assign rfl) rfl ?_)
       | (show AT _ _ _ (wpList _ _ _ (⟨_, Op.binOp _ _ _ _ _, _, _, _, _⟩ :: _)); first | refine st_y (y_rem rfl rfl (by omega)) rfl ?_ | refine st_y (y_add rfl rfl (by omega)) rfl ?_)
       | (show AT _ _ _ (wpList _ _ _ (⟨_, Op.unOp _ _ _, _, _, _, _⟩ :: _)); refine st_y (y_notd rfl) rfl ?_)
       | (show AT _ _ _ (wpList _ _ _ (⟨_, Op.call _, _, _, _, _⟩ :: _)); (refine m_call (ent_of Try.func106 (by kernel_rfl) rfl) rfl rfl (fun w c => impl_IsField_ok p) ?_; rintro v H' ⟨rfl, rfl⟩)))
    | (show AT _ _ _ (wpList _ _ _ []); refine c_nil (x_then ?_))
    | (show AT _ _ _ (Code.wp _ _ _); first | refine c_seq ?_ | refine c_region ?_ | refine c_skip (x_then ?_) | refine c_ret ?_ | refine c_iff rfl (by first | assumption | exact not_not_intro (by assumption) | omega) ?_))
  all_goals refine x_ret1 Try.results137 (res_tmp rfl) (fun w c => ⟨_, _, rfl, ⟨congrArg iV ?_, rfl⟩, c⟩)
  rw [tmod_pos (by omega)]
  split at h
  · rw [← h, Int.emod_eq_of_lt (by omega) (by omega)]
  · rw [Int.add_emod_right, Int.emod_eq_of_lt (by omega) (by omega)]; exact h

theorem invM_of {p x y : Int} (hp : FieldP p) (hx : 0 ≤ x ∧ x < p) (hy : 1 ≤ y ∧ y < p) (h : x % p * y % p = 1) : y = invM p x := by
  rcases hp with rfl | rfl | rfl
  · rcases (by omega : x = 0 ∨ x = 1) with rfl | rfl <;> simp [invM] at h ⊢ <;> omega
  · rcases (by omega : x = 0 ∨ x = 1 ∨ x = 2) with rfl | rfl | rfl <;> simp [invM] at h ⊢ <;> omega
  · rcases (by omega : x = 0 ∨ x = 1 ∨ x = 2 ∨ x = 3 ∨ x = 4) with rfl | rfl | rfl | rfl | rfl <;> simp [invM] at h ⊢ <;> omega
theorem invM_is {p x : Int} (hp : FieldP p) (hx : 0 < x ∧ x < p) : x % p * invM p x % p = 1 ∧ 1 ≤ invM p x ∧ invM p x < p := by
  rcases hp with rfl | rfl | rfl
  · rcases (by omega : x = 1) with rfl; simp [invM]
  · rcases (by omega : x = 1 ∨ x = 2) with rfl | rfl <;> simp [invM]
  · rcases (by omega : x = 1 ∨ x = 2 ∨ x = 3 ∨ x = 4) with rfl | rfl | rfl | rfl <;> simp [invM]
theorem invM_in {p x : Int} (hp : FieldP p) (hx : 0 ≤ x ∧ x < p) : 0 ≤ invM p x ∧ invM p x < p := by
  by_cases h0 : x = 0
  · subst h0; simp [invM]; omega
  · have := invM_is hp (x := x) (by omega); omega
theorem mul_small {a b : Int} (ha : 0 ≤ a ∧ a ≤ 5) (hb : 0 ≤ b ∧ b ≤ 5) : 0 ≤ a * b ∧ a * b ≤ 25 := ⟨Int.mul_nonneg ha.1 hb.1, by have := Int.mul_le_mul ha.2 hb.2 hb.1 (by omega); omega⟩

theorem spec_InverseMod_ok {w : World} {p x : Int} (hp : FieldP p) (hx : 0 ≤ x ∧ x < p) : Does Try.prog 121 [iV p, iV x] w (fun v H => v = iV (invM p x) ∧ H = []) := by
  have ⟨hp1, hp2⟩ := fieldP_pos hp
  have h1 := Int.emod_nonneg x (show p ≠ 0 by omega)
  have h2 := Int.emod_lt_of_pos x (show 0 < p by omega)
  refine fn_enter Try.func121 rfl Try.ntmps121 rfl ?_
  repeat' (first
    | (show AT _ _ _ (wpList _ _ _ (_ :: _)); first
       | (show AT _ _ _ (wpList _ _ _ (⟨_, Op.assign _, _, _, _, _⟩ :: _)); refine st_y (y_assign rfl) rfl ?_))
    | (show AT _ _ _ (wpList _ _ _ []); refine c_nil (x_then ?_))
    | (show AT _ _ _ (Code.wp _ _ _); first | refine c_seq ?_ | refine c_region ?_ | refine c_block ?_))
  refine c_loop (fun y : Nat => [(0, iV p), (1, iV x), (5, .int .i64 y)])
    (fun y w' => (1 ≤ y ∧ y ≤ p ∧ ∀ z : Int, 1 ≤ z → z < y → x % p * z % p ≠ 1) ∧ Hp [] w [] w') (fun y => p.toNat - y) 1 ?_ ?_ ?_
  · exact (by repeat' (first | exact Sub.nil | refine Sub.cons rfl ?_ | refine Sub.consi rfl (by omega) ?_))
  · intro w' c'
    exact ⟨⟨by omega, by omega, fun z h3 h4 => by omega⟩, c'⟩
  · intro y
    refine AT.pr (fun ⟨hy1, hy2, hn⟩ => ?_)
    have hm := mul_small (a := x % p) (b := y) (by omega) (by omega)
    repeat' (first
      | (show AT _ _ _ (wpList _ _ _ (_ :: _)); first
         | (show AT _ _ _ (wpList _ _ _ (⟨_, Op.move _, _, _, _, _⟩ :: _)); refine st_y (y_move rfl) rfl ?_)
         | (show AT _ _ _ (wpList _ _ _ (⟨_, Op.assign _, _, _, _, _⟩ :: _)); refine st_y (y_assign rfl) rfl ?_)
         | (show AT _ _ _ (wpList _ _ _ (⟨_, Op.binOp _ _ _ _ _, _, _, _, _⟩ :: _)); first | refine st_y (y_mul rfl rfl (by omega)) rfl ?_ | refine st_y (y_add rfl rfl (by omega)) rfl ?_ | refine st_y (y_lss rfl rfl) rfl ?_ | refine st_y (y_eql rfl rfl) rfl ?_)
         | (show AT _ _ _ (wpList _ _ _ (⟨_, Op.call _, _, _, _, _⟩ :: _)); first | (refine m_call (ent_of Try.func113 (by kernel_rfl) rfl) rfl rfl (fun w c => spec_IsField_ok p) ?_; rintro v H' ⟨rfl, rfl⟩) | (refine m_call (ent_of Try.func95 (by kernel_rfl) rfl) rfl rfl (fun w c => l2Mod_ok (by omega) (by omega)) ?_; rintro v H' ⟨rfl, rfl⟩))
         | (show AT _ _ _ (wpList _ _ _ (⟨_, Op.pick _ _ _, _, _, _, _⟩ :: _)); first | refine st_y (y_pickt rfl (by assumption) rfl) rfl ?_ | refine st_y (y_pickf rfl (by assumption) rfl) rfl ?_)
         | refine st_gdy rfl rfl (by assumption) ?_ | refine st_gdn rfl rfl (by assumption) rfl ?_ | refine st_gd rfl rfl (fun h => ?_) (fun h => ?_))
      | (show AT _ _ _ (wpList _ _ _ []); refine c_nil (x_then ?_))
      | (show AT _ _ _ (Code.wp _ _ _); first | refine c_seq ?_ | refine c_region ?_ | refine c_skip (x_then ?_) | refine c_skip (x_blk ?_) | refine c_block ?_ | refine c_ret ?_ | refine c_exit ?_ | refine c_false rfl ?_ | refine c_ift rfl (by first | assumption | omega) ?_ | refine c_if rfl (fun h => ?_) (fun h => ?_))
      | (show AT _ _ _ _; first | refine x_then ?_ | refine x_then_ret ?_ | refine x_blk_ret ?_ | refine x_then_exit ?_ | refine x_blk_exit rfl ?_))
    · refine x_ret1 Try.results121 (res_tmp rfl) (fun w c => ⟨_, _, rfl, ⟨congrArg iV ?_, rfl⟩, c⟩)
      exact invM_of hp hx (by omega) (by assumption)
    · refine x_next (y + 1) (by repeat' (first | exact Sub.nil | refine Sub.cons rfl ?_ | refine Sub.consi rfl (by omega) ?_)) (fun w' c' => ⟨⟨by omega, by omega, fun z h3 h4 => ?_⟩, c'⟩) (by omega)
      by_cases hz : z = y
      · subst hz; assumption
      · exact hn z h3 (by omega)
    all_goals refine x_ret1 Try.results121 (res_tmp rfl) (fun w c => ⟨_, _, rfl, ⟨congrArg iV ?_, rfl⟩, c⟩)
    all_goals
      by_cases h0 : x = 0
      · subst h0; simp [invM]
      · have hh := invM_is hp (x := x) (by omega)
        exact absurd hh.1 (hn _ hh.2.1 (by omega))

/-- powers -/
def powM (p x : Int) : Nat → Int
  | 0 => 1
  | i + 1 => powM p x i * (x % p) % p
theorem powM_in {p x : Int} (hp : 2 ≤ p) : ∀ i, 0 ≤ powM p x i ∧ powM p x i < p
  | 0 => by simp [powM]; omega
  | i + 1 => ⟨Int.emod_nonneg _ (by omega), Int.emod_lt_of_pos _ (by omega)⟩
theorem powM_inv {p x : Int} (hp : FieldP p) (hx : 0 ≤ x ∧ x < p) : powM p x (max (p - 2) 1).toNat = invM p x := by
  rcases hp with rfl | rfl | rfl
  · rcases (by omega : x = 0 ∨ x = 1) with rfl | rfl <;> decide
  · rcases (by omega : x = 0 ∨ x = 1 ∨ x = 2) with rfl | rfl | rfl <;> decide
  · rcases (by omega : x = 0 ∨ x = 1 ∨ x = 2 ∨ x = 3 ∨ x = 4) with rfl | rfl | rfl | rfl | rfl <;> decide

theorem PowerMod_ok {w : World} {p x n : Int} (hp : FieldP p) (hn : 0 ≤ n ∧ n ≤ 1000) : Does Try.prog 128 [iV p, iV x, iV n] w (fun v H => v = iV (powM p x n.toNat) ∧ H = []) := by
  have ⟨hp1, hp2⟩ := fieldP_pos hp
  have h1 := Int.emod_nonneg x (show p ≠ 0 by omega)
  have h2 := Int.emod_lt_of_pos x (show 0 < p by omega)
  refine fn_enter Try.func128 rfl Try.ntmps128 rfl ?_
  repeat' (first
    | (show AT _ _ _ (wpList _ _ _ (_ :: _)); first
       | (show AT _ _ _ (wpList _ _ _ (⟨_, Op.move _, _, _, _, _⟩ :: _)); refine st_y (y_move rfl) rfl ?_)
       | (show AT _ _ _ (wpList _ _ _ (⟨_, Op.assign _, _, _, _, _⟩ :: _)); refine st_y (y_assign rfl) rfl ?_)
       | (show AT _ _ _ (wpList _ _ _ (⟨_, Op.unOp _ _ _, _, _, _, _⟩ :: _)); refine st_y (y_notd rfl) rfl ?_)
       | (show AT _ _ _ (wpList _ _ _ (⟨_, Op.call _, _, _, _, _⟩ :: _)); first | (refine m_call (ent_of Try.func106 (by kernel_rfl) rfl) rfl rfl (fun w c => impl_IsField_ok p) ?_; rintro v H' ⟨rfl, rfl⟩) | (refine m_call (ent_of Try.func91 (by kernel_rfl) rfl) rfl rfl (fun w c => within_ok _ _ _) ?_; rintro v H' ⟨rfl, rfl⟩))
       | (show AT _ _ _ (wpList _ _ _ (⟨_, Op.pick _ _ _, _, _, _, _⟩ :: _)); first | refine st_y (y_pickt rfl (by assumption) rfl) rfl ?_ | refine st_y (y_pickf rfl (by assumption) rfl) rfl ?_)
       | refine st_gfy rfl rfl (by assumption) ?_ | refine st_gfn rfl rfl (by assumption) rfl ?_ | refine st_gd rfl rfl (fun h => ?_) (fun h => ?_))
    | (show AT _ _ _ (wpList _ _ _ []); refine c_nil (x_then ?_))
    | (show AT _ _ _ (Code.wp _ _ _); first | refine c_seq ?_ | refine c_region ?_ | refine c_skip (x_then ?_) | refine c_block ?_ | refine c_ret ?_ | refine c_true rfl ?_ | refine c_iff rfl (by first | assumption | exact not_not_intro (by assumption) | omega) ?_)
    | (show AT _ _ _ _; refine x_then_ret ?_))
  · exact absurd hp (by assumption)
  · refine c_loop (fun i : Nat => [(0, iV p), (1, iV x), (7, iV (powM p x i)), (16, iV n), (17, .int .i64 i)])
      (fun i w' => (i : Int) ≤ n ∧ Hp [] w [] w') (fun i => n.toNat - i) 0 ?_ ?_ ?_
    · exact (by repeat' (first | exact Sub.nil | refine Sub.cons rfl ?_ | refine Sub.consi rfl (by omega) ?_))
    · intro w' c'
      exact ⟨by omega, c'⟩
    · intro i
      refine AT.pr (fun hi => ?_)
      have hb := powM_in (p := p) (x := x) (by omega) i
      have hm := mul_small (a := powM p x i) (b := x % p) (by omega) (by omega)
      repeat' (first
        | (show AT _ _ _ (wpList _ _ _ (_ :: _)); first
           | (show AT _ _ _ (wpList _ _ _ (⟨_, Op.move _, _, _, _, _⟩ :: _)); refine st_y (y_move rfl) rfl ?_)
           | (show AT _ _ _ (wpList _ _ _ (⟨_, Op.assign _, _, _, _, _⟩ :: _)); refine st_y (y_assign rfl) rfl ?_)
           | (show AT _ _ _ (wpList _ _ _ (⟨_, Op.binOp _ _ _ _ _, _, _, _, _⟩ :: _)); first | refine st_y (y_mul rfl rfl (by omega)) rfl ?_ | refine st_y (y_rem rfl rfl (by omega)) rfl ?_ | refine st_y (y_add rfl rfl (by omega)) rfl ?_ | refine st_y (y_lss rfl rfl) rfl ?_)
           | (show AT _ _ _ (wpList _ _ _ (⟨_, Op.call _, _, _, _, _⟩ :: _)); (refine m_call (ent_of Try.func137 (by kernel_rfl) rfl) rfl rfl (fun w c => ReduceMod_ok hp) ?_; rintro v H' ⟨rfl, rfl⟩)))
        | (show AT _ _ _ (wpList _ _ _ []); first | refine c_nil (x_then ?_) | refine c_nil ?_)
        | (show AT _ _ _ (Code.wp _ _ _); first | refine c_seq ?_ | refine c_region ?_ | refine c_skip (x_then ?_) | refine c_block ?_ | refine c_ret ?_ | refine c_exit ?_ | refine c_if rfl (fun h => ?_) (fun h => ?_))
        | (show AT _ _ _ _; first | refine x_then ?_ | refine x_then_exit ?_ | refine x_blk_exit rfl ?_ | refine x_blk ?_))
      · refine x_next (i + 1) ?_ (fun w' c' => ⟨by omega, c'⟩) (by omega)
        refine Sub.cons rfl (Sub.cons rfl (Sub.consi rfl ?_ (Sub.cons rfl (Sub.consi rfl (by omega) Sub.nil))))
        rw [tmod_pos hm.1]; rfl
      · refine x_ret1 Try.results128 (res_tmp rfl) (fun w c => ⟨_, _, rfl, ⟨?_, rfl⟩, c⟩)
        rw [show n.toNat = i by omega]

theorem impl_InverseMod_ok {w : World} {p x : Int} (hp : FieldP p) (hx : 0 ≤ x ∧ x < p) : Does Try.prog 104 [iV p, iV x] w (fun v H => v = iV (invM p x) ∧ H = []) := by
  have ⟨hp1, hp2⟩ := fieldP_pos hp
  refine fn_enter Try.func104 rfl Try.ntmps104 rfl ?_
  repeat' (first
    | (show AT _ _ _ (wpList _ _ _ (_ :: _)); first
       | (show AT _ _ _ (wpList _ _ _ (⟨_, Op.move _, _, _, _, _⟩ :: _)); refine st_y (y_move rfl) rfl ?_)
       | (show AT _ _ _ (wpList _ _ _ (⟨_, Op.assign _, _, _, _, _⟩ :: _)); refine st_y (y_assign rfl) rfl ?_)
       | (show AT _ _ _ (wpList _ _ _ (⟨_, Op.binOp _ _ _ _ _, _, _, _, _⟩ :: _)); refine st_y (y_sub rfl rfl (by omega)) rfl ?_)
       | (show AT _ _ _ (wpList _ _ _ (⟨_, Op.unOp _ _ _, _, _, _, _⟩ :: _)); refine st_y (y_notd rfl) rfl ?_)
       | (show AT _ _ _ (wpList _ _ _ (⟨_, Op.call _, _, _, _, _⟩ :: _)); first | (refine m_call (ent_of Try.func106 (by kernel_rfl) rfl) rfl rfl (fun w c => impl_IsField_ok p) ?_; rintro v H' ⟨rfl, rfl⟩) | refine st_y (y_max rfl rfl) rfl ?_ | (refine m_call (ent_of Try.func128 (by kernel_rfl) rfl) rfl rfl (fun w c => PowerMod_ok hp (by omega)) ?_; rintro v H' ⟨rfl, rfl⟩)))
    | (show AT _ _ _ (wpList _ _ _ []); refine c_nil (x_then ?_))
    | (show AT _ _ _ (Code.wp _ _ _); first | refine c_seq ?_ | refine c_region ?_ | refine c_skip (x_then ?_) | refine c_ret ?_ | refine c_iff rfl (by first | assumption | exact not_not_intro (by assumption) | omega) ?_))
  all_goals first | exact absurd hp (by assumption) | skip
  refine x_ret1 Try.results104 (res_tmp rfl) (fun w c => ⟨_, _, rfl, ⟨congrArg iV (powM_inv hp hx), rfl⟩, c⟩)
end Go.Proofs.Ytljgmmmgnfgbhaa
