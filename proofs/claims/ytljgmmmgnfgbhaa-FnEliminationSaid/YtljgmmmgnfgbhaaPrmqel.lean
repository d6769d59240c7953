import Derived.Test.YtljgmmmgnfgbhaaPrdqel
namespace Go.Proofs.Ytljgmmmgnfgbhaa
open Go.Lg Go.Proofs Go.RowKit
attribute [local irreducible] Code.wp wpList bodyPost Exit.then Exit.inBlock Hp Again Calls Y AT ResV QT
set_option maxRecDepth 20000
set_option maxHeartbeats 4000000

theorem inP_take {lo hi : Int} {xs : List Int} {i : Nat} (h : InP lo hi (xs.take i)) (hi' : i < xs.length) (hx : lo ≤ xs.getD i 0 ∧ xs.getD i 0 ≤ hi) : InP lo hi (xs.take (i + 1)) := by
  intro x hm
  rw [take_next (z := 0) hi'] at hm
  rcases List.mem_append.1 hm with hm | hm
  · exact h x hm
  · simp only [List.mem_singleton] at hm
    subst hm; exact hx
theorem inP_not {lo hi : Int} {xs : List Int} {i : Nat} (hi' : i < xs.length) (hx : ¬ (lo ≤ xs.getD i 0 ∧ xs.getD i 0 ≤ hi)) : ¬ InP lo hi xs := fun h => hx (h _ (by
  have : xs.getD i 0 = xs[i] := by simp [List.getD, hi']
  rw [this]; exact List.getElem_mem hi'))
theorem inP_get {lo hi : Int} {xs : List Int} {i : Nat} (h : InP lo hi xs) (hi' : i < xs.length) : lo ≤ xs.getD i 0 ∧ xs.getD i 0 ≤ hi := h _ (by
  have : xs.getD i 0 = xs[i] := by simp [List.getD, hi']
  rw [this]; exact List.getElem_mem hi')

theorem spec_IsVector_ok {w : World} {p : Int} {v : Value} {xs : List Int} (hr : Rd w (iT xs) v) : Does Try.prog 80 [iV p, v] w (fun v H => v = .bool (decide (VecP p xs)) ∧ H = []) := by
  obtain ⟨a, c, rfl, hs, hc1, hc2, hget⟩ := hr.ints
  unfold maxLen at hc2
  refine fn_enter Try.func80 rfl Try.ntmps80 rfl ?_
  repeat' (first
    | (show AT _ _ _ (wpList _ _ _ (_ :: _)); first
       | (show AT _ _ _ (wpList _ _ _ (⟨_, Op.move _, _, _, _, _⟩ :: _)); refine st_y (y_move rfl) rfl ?_)
       | (show AT _ _ _ (wpList _ _ _ (⟨_, Op.assign _, _, _, _, _⟩ :: _)); refine st_y (y_assign rfl) rfl ?_)
       | (show AT _ _ _ (wpList _ _ _ (⟨_, Op.binOp _ _ _ _ _, _, _, _, _⟩ :: _)); refine st_y (y_gtr rfl rfl) rfl ?_)
       | (show AT _ _ _ (wpList _ _ _ (⟨_, Op.unOp _ _ _, _, _, _, _⟩ :: _)); refine st_y (y_notd rfl) rfl ?_)
       | (show AT _ _ _ (wpList _ _ _ (⟨_, Op.call _, _, _, _, _⟩ :: _)); first | (refine m_call (ent_of Try.func113 (by kernel_rfl) rfl) rfl rfl (fun w c => spec_IsField_ok p) ?_; rintro v H' ⟨rfl, rfl⟩) | refine st_y (y_len tabs rfl rfl) rfl ?_)
       | (show AT _ _ _ (wpList _ _ _ (⟨_, Op.pick _ _ _, _, _, _, _⟩ :: _)); first | refine st_y (y_pickt rfl (by assumption) rfl) rfl ?_ | refine st_y (y_pickf rfl (by assumption) rfl) rfl ?_)
       | refine st_gfy rfl rfl (by assumption) ?_ | refine st_gfn rfl rfl (by assumption) rfl ?_ | refine st_gd rfl rfl (fun h => ?_) (fun h => ?_))
    | (show AT _ _ _ (wpList _ _ _ []); refine c_nil (x_then ?_))
    | (show AT _ _ _ (Code.wp _ _ _); first | refine c_seq ?_ | refine c_region ?_ | refine c_skip (x_then ?_) | refine c_block ?_ | refine c_ret ?_ | refine c_true rfl ?_ | refine c_if rfl (fun h => ?_) (fun h => ?_))
    | (show AT _ _ _ _; refine x_then_ret ?_))
  · refine x_ret1 Try.results80 (res_tmp rfl) (fun w c => ⟨_, _, rfl, ⟨congrArg Value.bool ?_, rfl⟩, c⟩)
    simp_all [VecP]
  · refine x_ret1 Try.results80 (res_tmp rfl) (fun w c => ⟨_, _, rfl, ⟨congrArg Value.bool ?_, rfl⟩, c⟩)
    have : ¬ VecP p xs := fun hv => by have := hv.2.1; omega
    simp [this]
  · have hF : FieldP p := by simp_all
    have hp : p ≤ 5 ∧ 2 ≤ p := by unfold FieldP at hF; omega
    refine c_loop (fun i : Nat => [(0, iV p), (1, .slice a xs.length c), (5, .int .i64 i)])
      (fun i w' => (i ≤ xs.length ∧ InP 0 (p - 1) (xs.take i)) ∧ Hp [] w [] w') (fun i => xs.length - i) 0 ?_ ?_ ?_
    · exact (by repeat' (first | exact Sub.nil | refine Sub.cons rfl ?_ | refine Sub.consi rfl (by omega) ?_))
    · intro w' c'
      exact ⟨⟨by omega, by intro x hx; simp at hx⟩, c'⟩
    · intro i
      refine AT.pr (fun ⟨hi, hn⟩ => ?_)
      repeat' (first
        | (show AT _ _ _ (wpList _ _ _ (_ :: _)); first
           | (show AT _ _ _ (wpList _ _ _ (⟨_, Op.move _, _, _, _, _⟩ :: _)); refine st_y (y_move rfl) rfl ?_)
           | (show AT _ _ _ (wpList _ _ _ (⟨_, Op.assign _, _, _, _, _⟩ :: _)); refine st_y (y_assign rfl) rfl ?_)
           | (show AT _ _ _ (wpList _ _ _ (⟨_, Op.load _ _, _, _, _, _⟩ :: _)); refine st_y (y_load tabs rfl rfl (hc_w0 (hget _ (by omega)))) rfl ?_)
           | (show AT _ _ _ (wpList _ _ _ (⟨_, Op.indexAddr _ _ _, _, _, _, _⟩ :: _)); refine st_y (y_ix1 tabs rfl rfl rfl (by first | assumption | exact .mk) rfl (by omega)) rfl ?_)
           | (show AT _ _ _ (wpList _ _ _ (⟨_, Op.binOp _ _ _ _ _, _, _, _, _⟩ :: _)); first | refine st_y (y_add rfl rfl (by omega)) rfl ?_ | refine st_y (y_sub rfl rfl (by omega)) rfl ?_ | refine st_y (y_lss rfl rfl) rfl ?_)
           | (show AT _ _ _ (wpList _ _ _ (⟨_, Op.unOp _ _ _, _, _, _, _⟩ :: _)); refine st_y (y_notd rfl) rfl ?_)
           | (show AT _ _ _ (wpList _ _ _ (⟨_, Op.call _, _, _, _, _⟩ :: _)); first | (refine m_call (ent_of Try.func88 (by kernel_rfl) rfl) rfl rfl (fun w c => l1In_ok _ _ _) ?_; rintro v H' ⟨rfl, rfl⟩) | refine st_y (y_len tabs rfl rfl) rfl ?_))
        | (show AT _ _ _ (wpList _ _ _ []); refine c_nil (x_then ?_))
        | (show AT _ _ _ (Code.wp _ _ _); first | refine c_seq ?_ | refine c_region ?_ | refine c_skip (x_then ?_) | refine c_skip (x_blk ?_) | refine c_block ?_ | refine c_ret ?_ | refine c_exit ?_ | refine c_ifnd rfl (fun h => ?_) (fun h => ?_) | refine c_if rfl (fun h => ?_) (fun h => ?_))
        | (show AT _ _ _ _; first | refine x_then ?_ | refine x_then_ret ?_ | refine x_blk_ret ?_ | refine x_then_exit ?_ | refine x_blk_exit rfl ?_))
      · refine x_ret1 Try.results80 (res_tmp rfl) (fun w c => ⟨_, _, rfl, ⟨congrArg Value.bool ?_, rfl⟩, c⟩)
        have : ¬ VecP p xs := fun hv => inP_not (by omega) h hv.2.2
        simp [this]
      · refine x_next (i + 1) (by repeat' (first | exact Sub.nil | refine Sub.cons rfl ?_ | refine Sub.consi rfl (by omega) ?_)) (fun w' c' => ⟨⟨by omega, inP_take hn (by omega) (by simpa using h)⟩, c'⟩) (by omega)
      · refine x_ret1 Try.results80 (res_tmp rfl) (fun w c => ⟨_, _, rfl, ⟨congrArg Value.bool ?_, rfl⟩, c⟩)
        rw [take_end (by omega)] at hn
        have : VecP p xs := ⟨hF, by omega, hn⟩
        simp [this]

theorem impl_IsVector_ok {w : World} {p : Int} {v : Value} {xs : List Int} (hr : Rd w (iT xs) v) : Does Try.prog 71 [iV p, v] w (fun v H => v = .bool (decide (VecP p xs)) ∧ H = []) := by
  obtain ⟨a, c, rfl, hs, hc1, hc2, hget⟩ := hr.ints
  unfold maxLen at hc2
  have hF : FieldP p → p ≤ 5 ∧ 2 ≤ p := by unfold FieldP; omega
  refine fn_enter Try.func71 rfl Try.ntmps71 rfl ?_
  repeat' (first
    | (show AT _ _ _ (wpList _ _ _ (_ :: _)); first
       | (show AT _ _ _ (wpList _ _ _ (⟨_, Op.move _, _, _, _, _⟩ :: _)); refine st_y (y_move rfl) rfl ?_)
       | (show AT _ _ _ (wpList _ _ _ (⟨_, Op.assign _, _, _, _, _⟩ :: _)); refine st_y (y_assign rfl) rfl ?_)
       | (show AT _ _ _ (wpList _ _ _ (⟨_, Op.binOp _ _ _ _ _, _, _, _, _⟩ :: _)); first | refine st_y (y_sub rfl rfl (by have := hF (by assumption); omega)) rfl ?_ | refine st_y (y_leq rfl rfl) rfl ?_)
       | (show AT _ _ _ (wpList _ _ _ (⟨_, Op.call _, _, _, _, _⟩ :: _)); first | (refine m_call (ent_of Try.func106 (by kernel_rfl) rfl) rfl rfl (fun w c => impl_IsField_ok p) ?_; rintro v H' ⟨rfl, rfl⟩) | (refine m_call (ent_of Try.func107 (by kernel_rfl) rfl) rfl rfl (fun w c => allWithin_ok (c.rd hr)) ?_; rintro v H' ⟨rfl, rfl⟩) | refine st_y (y_len tabs rfl rfl) rfl ?_)
       | (show AT _ _ _ (wpList _ _ _ (⟨_, Op.pick _ _ _, _, _, _, _⟩ :: _)); first | refine st_y (y_pickt rfl (by assumption) rfl) rfl ?_ | refine st_y (y_pickf rfl (by assumption) rfl) rfl ?_ | refine st_y (y_pick rfl rfl rfl) rfl ?_)
       | refine st_gn rfl rfl rfl ?_ | refine st_gdy rfl rfl (by assumption) ?_ | refine st_gdn rfl rfl (by assumption) rfl ?_ | refine st_gd rfl rfl (fun h => ?_) (fun h => ?_))
    | (show AT _ _ _ (wpList _ _ _ []); refine c_nil (x_then ?_))
    | (show AT _ _ _ (Code.wp _ _ _); first | refine c_seq ?_ | refine c_region ?_ | refine c_ret ?_))
  all_goals refine x_ret1 Try.results71 (res_tmp rfl) (fun w c => ⟨_, _, rfl, ⟨congrArg Value.bool ?_, rfl⟩, c⟩)
  all_goals first | (simp_all [VecP]; done) | (simp_all [VecP]; omega)

theorem spec_IsMatrix_ok {w : World} {p : Int} {m : Mat} {u : Value} (hr : Rd w (iT m.2.2) u) : Does Try.prog 65 [iV p, .agg #[iV m.1, iV m.2.1, u]] w (fun v H => v = .bool (decide (MatP p m)) ∧ H = []) := by
  obtain ⟨r, k, xs⟩ := m
  simp only at hr ⊢
  obtain ⟨a, c, rfl, hs, hc1, hc2, hget⟩ := hr.ints
  have hm : (0 ≤ r ∧ r ≤ 8) → (0 ≤ k ∧ k ≤ 8) → 0 ≤ r * k ∧ r * k ≤ 64 := fun h1 h2 => ⟨Int.mul_nonneg h1.1 h2.1, by have := Int.mul_le_mul h1.2 h2.2 h2.1 (by omega); omega⟩
  refine fn_enter Try.func65 rfl Try.ntmps65 rfl ?_
  repeat' (first
    | (show AT _ _ _ (wpList _ _ _ (_ :: _)); first
       | (show AT _ _ _ (wpList _ _ _ (⟨_, Op.move _, _, _, _, _⟩ :: _)); refine st_y (y_move rfl) rfl ?_)
       | (show AT _ _ _ (wpList _ _ _ (⟨_, Op.assign _, _, _, _, _⟩ :: _)); refine st_y (y_assign rfl) rfl ?_)
       | (show AT _ _ _ (wpList _ _ _ (⟨_, Op.fieldAddr _ _ _, _, _, _, _⟩ :: _)); refine st_y (y_field tabs rfl rfl rfl) rfl ?_)
       | (show AT _ _ _ (wpList _ _ _ (⟨_, Op.load _ _, _, _, _, _⟩ :: _)); refine st_y (y_load tabs rfl rfl (hc_blk 0 rfl rfl)) rfl ?_)
       | (show AT _ _ _ (wpList _ _ _ (⟨_, Op.binOp _ _ _ _ _, _, _, _, _⟩ :: _)); first | refine st_y (y_mul rfl rfl (by have := hm (by assumption) (by assumption); omega)) rfl ?_ | refine st_y (y_eql rfl rfl) rfl ?_)
       | (show AT _ _ _ (wpList _ _ _ (⟨_, Op.call _, _, _, _, _⟩ :: _)); first | (refine m_call (ent_of Try.func88 (by kernel_rfl) rfl) rfl rfl (fun w c => l1In_ok _ _ _) ?_; rintro v H' ⟨rfl, rfl⟩) | (refine m_call (ent_of Try.func80 (by kernel_rfl) rfl) rfl rfl (fun w c => spec_IsVector_ok (c.rd hr)) ?_; rintro v H' ⟨rfl, rfl⟩) | refine st_y (y_len tabs rfl rfl) rfl ?_)
       | (show AT _ _ _ (wpList _ _ _ (⟨_, Op.pick _ _ _, _, _, _, _⟩ :: _)); first | refine st_y (y_pickt rfl (by assumption) rfl) rfl ?_ | refine st_y (y_pickf rfl (by assumption) rfl) rfl ?_ | refine st_y (y_pick rfl rfl rfl) rfl ?_)
       | (show AT _ _ _ (wpList _ _ _ (⟨_, Op.box _ _, _, _, _, _⟩ :: _)); refine m_box rfl rfl (fun b hb => ?_))
       | refine st_gn rfl rfl rfl ?_ | refine st_gdy rfl rfl (by assumption) ?_ | refine st_gdn rfl rfl (by assumption) rfl ?_ | refine st_gd rfl rfl (fun h => ?_) (fun h => ?_))
    | (show AT _ _ _ (wpList _ _ _ []); refine c_nil (x_then ?_))
    | (show AT _ _ _ (Code.wp _ _ _); first | refine c_seq ?_ | refine c_region ?_ | refine c_ret ?_))
  all_goals refine x_ret1 Try.results65 (res_tmp rfl) (fun w c => ⟨_, _, rfl, ⟨congrArg Value.bool ?_, rfl⟩, c.sub (List.nil_sublist _)⟩)
  all_goals first | (simp_all [MatP]; done) | (simp_all [MatP]; omega) | (have hM : ¬ MatP p (r, k, xs) := fun hv => absurd hv.1 (by assumption); simp [hM])
theorem impl_IsMatrix_ok {w : World} {p : Int} {m : Mat} {u : Value} (hr : Rd w (iT m.2.2) u) : Does Try.prog 63 [iV p, .agg #[iV m.1, iV m.2.1, u]] w (fun v H => v = .bool (decide (MatP p m)) ∧ H = []) := by
  obtain ⟨r, k, xs⟩ := m
  simp only at hr ⊢
  obtain ⟨a, c, rfl, hs, hc1, hc2, hget⟩ := hr.ints
  have hm : (0 ≤ r ∧ r ≤ 8) → (0 ≤ k ∧ k ≤ 8) → 0 ≤ r * k ∧ r * k ≤ 64 := fun h1 h2 => ⟨Int.mul_nonneg h1.1 h2.1, by have := Int.mul_le_mul h1.2 h2.2 h2.1 (by omega); omega⟩
  refine fn_enter Try.func63 rfl Try.ntmps63 rfl ?_
  repeat' (first
    | (show AT _ _ _ (wpList _ _ _ (_ :: _)); first
       | (show AT _ _ _ (wpList _ _ _ (⟨_, Op.move _, _, _, _, _⟩ :: _)); refine st_y (y_move rfl) rfl ?_)
       | (show AT _ _ _ (wpList _ _ _ (⟨_, Op.assign _, _, _, _, _⟩ :: _)); refine st_y (y_assign rfl) rfl ?_)
       | (show AT _ _ _ (wpList _ _ _ (⟨_, Op.fieldAddr _ _ _, _, _, _, _⟩ :: _)); refine st_y (y_field tabs rfl rfl rfl) rfl ?_)
       | (show AT _ _ _ (wpList _ _ _ (⟨_, Op.load _ _, _, _, _, _⟩ :: _)); refine st_y (y_load tabs rfl rfl (hc_blk 0 rfl rfl)) rfl ?_)
       | (show AT _ _ _ (wpList _ _ _ (⟨_, Op.binOp _ _ _ _ _, _, _, _, _⟩ :: _)); first | refine st_y (y_mul rfl rfl (by have := hm (by assumption) (by assumption); omega)) rfl ?_ | refine st_y (y_eql rfl rfl) rfl ?_)
       | (show AT _ _ _ (wpList _ _ _ (⟨_, Op.call _, _, _, _, _⟩ :: _)); first | (refine m_call (ent_of Try.func91 (by kernel_rfl) rfl) rfl rfl (fun w c => within_ok _ _ _) ?_; rintro v H' ⟨rfl, rfl⟩) | (refine m_call (ent_of Try.func71 (by kernel_rfl) rfl) rfl rfl (fun w c => impl_IsVector_ok (c.rd hr)) ?_; rintro v H' ⟨rfl, rfl⟩) | refine st_y (y_len tabs rfl rfl) rfl ?_)
       | (show AT _ _ _ (wpList _ _ _ (⟨_, Op.pick _ _ _, _, _, _, _⟩ :: _)); first | refine st_y (y_pickt rfl (by assumption) rfl) rfl ?_ | refine st_y (y_pickf rfl (by assumption) rfl) rfl ?_ | refine st_y (y_pick rfl rfl rfl) rfl ?_)
       | (show AT _ _ _ (wpList _ _ _ (⟨_, Op.box _ _, _, _, _, _⟩ :: _)); refine m_box rfl rfl (fun b hb => ?_))
       | refine st_gn rfl rfl rfl ?_ | refine st_gdy rfl rfl (by assumption) ?_ | refine st_gdn rfl rfl (by assumption) rfl ?_ | refine st_gd rfl rfl (fun h => ?_) (fun h => ?_))
    | (show AT _ _ _ (wpList _ _ _ []); refine c_nil (x_then ?_))
    | (show AT _ _ _ (Code.wp _ _ _); first | refine c_seq ?_ | refine c_region ?_ | refine c_ret ?_))
  all_goals refine x_ret1 Try.results63 (res_tmp rfl) (fun w c => ⟨_, _, rfl, ⟨congrArg Value.bool ?_, rfl⟩, c.sub (List.nil_sublist _)⟩)
  all_goals first | (simp_all [MatP]; done) | (simp_all [MatP]; omega) | (have hM : ¬ MatP p (r, k, xs) := fun hv => absurd hv.1 (by assumption); simp [hM])
end Go.Proofs.Ytljgmmmgnfgbhaa
