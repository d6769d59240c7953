import Derived.Test.YtljgmmmgnfgbhaaRdIqel
namespace Go.Proofs.Ytljgmmmgnfgbhaa
open Go.Lg Go.Proofs Go.RowKit
attribute [local irreducible] Code.wp wpList bodyPost Exit.then Exit.inBlock Hp Again Calls Y AT ResV QT Qn QI wpAny wpAnyQ
set_option maxRecDepth 20000
set_option maxHeartbeats 4000000

/-! ### RowReduce, rank, RankOf -/
def rrM (p : Int) (m : Mat) : Mat := if MatP p m then redM p m else mat0
def rrL (p : Int) (m : Mat) : List Int := if MatP p m then redL p m else []
abbrev GivesRR (m : Mat) (l : List Int) (b : Bool) (v : Value) (H : List HE) : Prop := ∃ a c a' c', v = .tuple #[.agg #[iV m.1, iV m.2.1, .slice a m.2.2.length c], .slice a' l.length c', .bool b] ∧ SA a m.2.2.length ∧ SA a' l.length ∧ H = [.own (iT l) (.slice a' l.length c'), .own (iT m.2.2) (.slice a m.2.2.length c)]
theorem bld_mat0 (w : World) : (Instr.build 46 #[]).run Try.prog w = .ok (.agg #[iV 0, iV 0, .slice none 0 0]) w := by kernel_rfl

theorem impl_RowReduce_ok {w : World} {p : Int} {m : Mat} {u : Value} (hr : Rd w (iT m.2.2) u) :
    Does Try.prog 41 [iV p, .agg #[iV m.1, iV m.2.1, u]] w (GivesRR (rrM p m) (rrL p m) (decide (MatP p m))) := by
  refine fn_enter Try.func41 rfl Try.ntmps41 rfl ?_
  repeat' (first
    | (show AT _ _ _ (wpList _ _ _ (_ :: _)); first
       | (show AT _ _ _ (wpList _ _ _ (⟨_, Op.move _, _, _, _, _⟩ :: _)); refine st_y (y_move rfl) rfl ?_)
       | (show AT _ _ _ (wpList _ _ _ (⟨_, Op.assign _, _, _, _, _⟩ :: _)); refine st_y (y_assign rfl) rfl ?_)
       | (show AT _ _ _ (wpList _ _ _ (⟨_, Op.load _ _, _, _, _, _⟩ :: _)); first | refine st_y (y_loadb 0 tabs rfl rfl rfl rfl) rfl ?_ | refine st_y (y_loadb 1 tabs rfl rfl rfl rfl) rfl ?_)
       | (show AT _ _ _ (wpList _ _ _ (⟨_, Op.unOp _ _ _, _, _, _, _⟩ :: _)); refine st_y (y_notd rfl) rfl ?_)
       | (show AT _ _ _ (wpList _ _ _ (⟨_, Op.call _, _, _, _, _⟩ :: _)); first | (refine m_call (ent_of Try.func63 (by kernel_rfl) rfl) rfl rfl (fun w c => impl_IsMatrix_ok (m := m) (c.rd hr)) ?_; rintro v H' ⟨rfl, rfl⟩) | (refine m_call (ent_of Try.func68 (by kernel_rfl) rfl) rfl rfl (fun w c => reduce_ok (m := m) (c.rd hr) (MatP.g h)) ?_; rintro v H' ⟨a, c, a', c', rfl, hs, hs', rfl⟩))
       | (show AT _ _ _ (wpList _ _ _ (⟨_, Op.extract _ _, _, _, _, _⟩ :: _)); refine st_y (y_ext rfl rfl) rfl ?_)
       | (show AT _ _ _ (wpList _ _ _ (⟨_, Op.store _ _ _, _, _, _, _⟩ :: _)); first | refine m_storeb 0 tabs rfl rfl rfl rfl rfl rfl rfl ?_ | refine m_storeb 3 tabs rfl rfl rfl rfl rfl rfl rfl ?_)
       | (show AT _ _ _ (wpList _ _ _ (⟨_, Op.box _ _, _, _, _, _⟩ :: _)); refine m_box rfl rfl (fun bq hbq => ?_))
       | (show AT _ _ _ (wpList _ _ _ (⟨_, Op.alloc _, _, _, _, _⟩ :: _)); refine m_alloc tabs rfl rfl (fun bq hbq => ?_))
       | (show AT _ _ _ (wpList _ _ _ (⟨_, Op.build _ _, _, _, _, _⟩ :: _)); refine st_y (y_bld0 bld_mat0) rfl ?_))
    | (show AT _ _ _ (wpList _ _ _ []); refine c_nil (x_then ?_))
    | (show AT _ _ _ (Code.wp _ _ _); first | refine c_seq ?_ | refine c_region ?_ | refine c_skip (x_then ?_) | refine c_ret ?_ | refine c_ifnd rfl (fun h => ?_) (fun h => ?_))
    | (show AT _ _ _ _; refine x_then_ret ?_))
  · rw [rrM, rrL, if_neg h, if_neg h]
    refine x_ret3 Try.results41 (res_cellb 0 tabs rfl rfl rfl rfl) (res_tmp rfl) (res_tmp rfl) (fun w' c' => ⟨_, _, rfl, ⟨_, _, _, _, by rw [decide_eq_false h]; rfl, .inl rfl, .inl rfl, rfl⟩, ?_⟩)
    exact Hp.nilp _ _ (Hp.nilp _ _ (c'.sub (List.nil_sublist _)))
  · rw [rrM, rrL, if_pos h, if_pos h]
    refine x_ret3 Try.results41 (res_cellb 3 tabs rfl rfl rfl rfl) (res_tmp rfl) (res_tmp rfl) (fun w' c' => ⟨_, _, rfl, ⟨_, _, _, _, by rw [decide_eq_true h]; rfl, hs, hs', rfl⟩, ?_⟩)
    exact c'.sub (.cons _ (.cons_cons _ (.cons_cons _ (List.nil_sublist _))))
theorem spec_RowReduce_ok {w : World} {p : Int} {m : Mat} {u : Value} (hr : Rd w (iT m.2.2) u) :
    Does Try.prog 42 [iV p, .agg #[iV m.1, iV m.2.1, u]] w (GivesRR (rrM p m) (rrL p m) (decide (MatP p m))) := by
  refine fn_enter Try.func42 rfl Try.ntmps42 rfl ?_
  repeat' (first
    | (show AT _ _ _ (wpList _ _ _ (_ :: _)); first
       | (show AT _ _ _ (wpList _ _ _ (⟨_, Op.move _, _, _, _, _⟩ :: _)); refine st_y (y_move rfl) rfl ?_)
       | (show AT _ _ _ (wpList _ _ _ (⟨_, Op.assign _, _, _, _, _⟩ :: _)); refine st_y (y_assign rfl) rfl ?_)
       | (show AT _ _ _ (wpList _ _ _ (⟨_, Op.load _ _, _, _, _, _⟩ :: _)); first | refine st_y (y_loadb 0 tabs rfl rfl rfl rfl) rfl ?_ | refine st_y (y_loadb 1 tabs rfl rfl rfl rfl) rfl ?_)
       | (show AT _ _ _ (wpList _ _ _ (⟨_, Op.unOp _ _ _, _, _, _, _⟩ :: _)); refine st_y (y_notd rfl) rfl ?_)
       | (show AT _ _ _ (wpList _ _ _ (⟨_, Op.call _, _, _, _, _⟩ :: _)); first | (refine m_call (ent_of Try.func65 (by kernel_rfl) rfl) rfl rfl (fun w c => spec_IsMatrix_ok (m := m) (c.rd hr)) ?_; rintro v H' ⟨rfl, rfl⟩) | (refine m_call (ent_of Try.func90 (by kernel_rfl) rfl) rfl rfl (fun w c => l4Reduce_ok (m := m) (c.rd hr) (MatP.g h)) ?_; rintro v H' ⟨a, c, a', c', rfl, hs, hs', rfl⟩))
       | (show AT _ _ _ (wpList _ _ _ (⟨_, Op.extract _ _, _, _, _, _⟩ :: _)); refine st_y (y_ext rfl rfl) rfl ?_)
       | (show AT _ _ _ (wpList _ _ _ (⟨_, Op.store _ _ _, _, _, _, _⟩ :: _)); first | refine m_storeb 0 tabs rfl rfl rfl rfl rfl rfl rfl ?_ | refine m_storeb 1 tabs rfl rfl rfl rfl rfl rfl rfl ?_ | refine m_storeb 3 tabs rfl rfl rfl rfl rfl rfl rfl ?_)
       | (show AT _ _ _ (wpList _ _ _ (⟨_, Op.box _ _, _, _, _, _⟩ :: _)); refine m_box rfl rfl (fun bq hbq => ?_))
       | (show AT _ _ _ (wpList _ _ _ (⟨_, Op.alloc _, _, _, _, _⟩ :: _)); refine m_alloc tabs rfl rfl (fun bq hbq => ?_))
       | (show AT _ _ _ (wpList _ _ _ (⟨_, Op.buildSlice _ _ _, _, _, _, _⟩ :: _)); refine m_build0 tabs rfl rfl (fun g hg => ?_))
       | (show AT _ _ _ (wpList _ _ _ (⟨_, Op.build _ _, _, _, _, _⟩ :: _)); refine st_y (y_bld0 bld_mat0) rfl ?_))
    | (show AT _ _ _ (wpList _ _ _ []); refine c_nil (x_then ?_))
    | (show AT _ _ _ (Code.wp _ _ _); first | refine c_seq ?_ | refine c_region ?_ | refine c_skip (x_then ?_) | refine c_ret ?_ | refine c_ifnd rfl (fun h => ?_) (fun h => ?_))
    | (show AT _ _ _ _; refine x_then_ret ?_))
  · rw [rrM, rrL, if_neg h, if_neg h]
    refine x_ret3 Try.results42 (res_cellb 1 tabs rfl rfl rfl rfl) (res_tmp rfl) (res_tmp rfl) (fun w' c' => ⟨_, _, rfl, ⟨_, _, _, _, by rw [decide_eq_false h]; rfl, .inl rfl, .inl rfl, rfl⟩, ?_⟩)
    exact Hp.swap (Hp.nilp _ _ (c'.sub (.cons_cons _ (List.nil_sublist _))))
  · rw [rrM, rrL, if_pos h, if_pos h]
    refine x_ret3 Try.results42 (res_cellb 3 tabs rfl rfl rfl rfl) (res_tmp rfl) (res_tmp rfl) (fun w' c' => ⟨_, _, rfl, ⟨_, _, _, _, by rw [decide_eq_true h]; rfl, hs, hs', rfl⟩, ?_⟩)
    exact c'.sub (.cons _ (.cons_cons _ (.cons_cons _ (List.nil_sublist _))))
theorem rank_ok {w : World} {p : Int} {m : Mat} {u : Value} (hr : Rd w (iT m.2.2) u) (hm : MatG p m) :
    Does Try.prog 67 [iV p, .agg #[iV m.1, iV m.2.1, u]] w (fun v H => v = iV (redL p m).length ∧ H = []) := by
  refine fn_enter Try.func67 rfl Try.ntmps67 rfl ?_
  repeat' (first
    | (show AT _ _ _ (wpList _ _ _ (_ :: _)); first
       | (show AT _ _ _ (wpList _ _ _ (⟨_, Op.move _, _, _, _, _⟩ :: _)); refine st_y (y_move rfl) rfl ?_)
       | (show AT _ _ _ (wpList _ _ _ (⟨_, Op.assign _, _, _, _, _⟩ :: _)); refine st_y (y_assign rfl) rfl ?_)
       | (show AT _ _ _ (wpList _ _ _ (⟨_, Op.load _ _, _, _, _, _⟩ :: _)); refine st_y (y_loadb 0 tabs rfl rfl rfl rfl) rfl ?_)
       | (show AT _ _ _ (wpList _ _ _ (⟨_, Op.call _, _, _, _, _⟩ :: _)); first | (refine m_call (ent_of Try.func68 (by kernel_rfl) rfl) rfl rfl (fun w c => reduce_ok (m := m) (c.rd hr) hm) ?_; rintro v H' ⟨a, c, a', c', rfl, hs, hs', rfl⟩) | refine st_y (y_len tabs rfl rfl) rfl ?_)
       | (show AT _ _ _ (wpList _ _ _ (⟨_, Op.extract _ _, _, _, _, _⟩ :: _)); refine st_y (y_ext rfl rfl) rfl ?_)
       | (show AT _ _ _ (wpList _ _ _ (⟨_, Op.store _ _ _, _, _, _, _⟩ :: _)); refine m_storeb 0 tabs rfl rfl rfl rfl rfl rfl rfl ?_)
       | (show AT _ _ _ (wpList _ _ _ (⟨_, Op.box _ _, _, _, _, _⟩ :: _)); refine m_box rfl rfl (fun bq hbq => ?_))
       | (show AT _ _ _ (wpList _ _ _ (⟨_, Op.alloc _, _, _, _, _⟩ :: _)); refine m_alloc tabs rfl rfl (fun bq hbq => ?_)))
    | (show AT _ _ _ (wpList _ _ _ []); refine c_nil (x_then ?_))
    | (show AT _ _ _ (Code.wp _ _ _); first | refine c_seq ?_ | refine c_region ?_ | refine c_ret ?_))
  exact x_ret1 Try.results67 (res_tmp rfl) (fun w' c' => ⟨_, _, rfl, ⟨rfl, rfl⟩, c'.sub (List.nil_sublist _)⟩)
def rankF (p : Int) (m : Mat) : Int := if MatP p m then (redL p m).length else -1
theorem impl_RankOf_ok {w : World} {p : Int} {m : Mat} {u : Value} (hr : Rd w (iT m.2.2) u) :
    Does Try.prog 20 [iV p, .agg #[iV m.1, iV m.2.1, u]] w (fun v H => v = iV (rankF p m) ∧ H = []) := by
  refine fn_enter Try.func20 rfl Try.ntmps20 rfl ?_
  repeat' (first
    | (show AT _ _ _ (wpList _ _ _ (_ :: _)); first
       | (show AT _ _ _ (wpList _ _ _ (⟨_, Op.move _, _, _, _, _⟩ :: _)); refine st_y (y_move rfl) rfl ?_)
       | (show AT _ _ _ (wpList _ _ _ (⟨_, Op.assign _, _, _, _, _⟩ :: _)); refine st_y (y_assign rfl) rfl ?_)
       | (show AT _ _ _ (wpList _ _ _ (⟨_, Op.load _ _, _, _, _, _⟩ :: _)); refine st_y (y_loadb 0 tabs rfl rfl rfl rfl) rfl ?_)
       | (show AT _ _ _ (wpList _ _ _ (⟨_, Op.unOp _ _ _, _, _, _, _⟩ :: _)); refine st_y (y_notd rfl) rfl ?_)
       | (show AT _ _ _ (wpList _ _ _ (⟨_, Op.call _, _, _, _, _⟩ :: _)); first | (refine m_call (ent_of Try.func63 (by kernel_rfl) rfl) rfl rfl (fun w c => impl_IsMatrix_ok (m := m) (c.rd hr)) ?_; rintro v H' ⟨rfl, rfl⟩) | (refine m_call (ent_of Try.func67 (by kernel_rfl) rfl) rfl rfl (fun w c => rank_ok (m := m) (c.rd hr) (MatP.g h)) ?_; rintro v H' ⟨rfl, rfl⟩))
       | (show AT _ _ _ (wpList _ _ _ (⟨_, Op.box _ _, _, _, _, _⟩ :: _)); refine m_box rfl rfl (fun bq hbq => ?_)))
    | (show AT _ _ _ (wpList _ _ _ []); refine c_nil (x_then ?_))
    | (show AT _ _ _ (Code.wp _ _ _); first | refine c_seq ?_ | refine c_region ?_ | refine c_skip (x_then ?_) | refine c_ret ?_ | refine c_ifnd rfl (fun h => ?_) (fun h => ?_))
    | (show AT _ _ _ _; refine x_then_ret ?_))
  · rw [rankF, if_neg h]
    exact x_ret1 Try.results20 (res_tmp rfl) (fun w' c' => ⟨_, _, rfl, ⟨rfl, rfl⟩, c'.sub (List.nil_sublist _)⟩)
  · rw [rankF, if_pos h]
    exact x_ret1 Try.results20 (res_tmp rfl) (fun w' c' => ⟨_, _, rfl, ⟨rfl, rfl⟩, c'.sub (List.nil_sublist _)⟩)
theorem spec_RankOf_ok {w : World} {p : Int} {m : Mat} {u : Value} (hr : Rd w (iT m.2.2) u) :
    Does Try.prog 24 [iV p, .agg #[iV m.1, iV m.2.1, u]] w (fun v H => v = iV (rankF p m) ∧ H = []) := by
  refine fn_enter Try.func24 rfl Try.ntmps24 rfl ?_
  repeat' (first
    | (show AT _ _ _ (wpList _ _ _ (_ :: _)); first
       | (show AT _ _ _ (wpList _ _ _ (⟨_, Op.move _, _, _, _, _⟩ :: _)); refine st_y (y_move rfl) rfl ?_)
       | (show AT _ _ _ (wpList _ _ _ (⟨_, Op.assign _, _, _, _, _⟩ :: _)); refine st_y (y_assign rfl) rfl ?_)
       | (show AT _ _ _ (wpList _ _ _ (⟨_, Op.load _ _, _, _, _, _⟩ :: _)); refine st_y (y_loadb 0 tabs rfl rfl rfl rfl) rfl ?_)
       | (show AT _ _ _ (wpList _ _ _ (⟨_, Op.unOp _ _ _, _, _, _, _⟩ :: _)); refine st_y (y_notd rfl) rfl ?_)
       | (show AT _ _ _ (wpList _ _ _ (⟨_, Op.call _, _, _, _, _⟩ :: _)); first | (refine m_call (ent_of Try.func42 (by kernel_rfl) rfl) rfl rfl (fun w c => spec_RowReduce_ok (m := m) (c.rd hr)) ?_; rintro v H' ⟨a, c, a', c', rfl, hs, hs', rfl⟩) | refine st_y (y_len tabs rfl rfl) rfl ?_)
       | (show AT _ _ _ (wpList _ _ _ (⟨_, Op.extract _ _, _, _, _, _⟩ :: _)); refine st_y (y_ext rfl rfl) rfl ?_)
       | (show AT _ _ _ (wpList _ _ _ (⟨_, Op.store _ _ _, _, _, _, _⟩ :: _)); refine m_storeb 0 tabs rfl rfl rfl rfl rfl rfl rfl ?_)
       | (show AT _ _ _ (wpList _ _ _ (⟨_, Op.box _ _, _, _, _, _⟩ :: _)); refine m_box rfl rfl (fun bq hbq => ?_))
       | (show AT _ _ _ (wpList _ _ _ (⟨_, Op.alloc _, _, _, _, _⟩ :: _)); refine m_alloc tabs rfl rfl (fun bq hbq => ?_)))
    | (show AT _ _ _ (wpList _ _ _ []); refine c_nil (x_then ?_))
    | (show AT _ _ _ (Code.wp _ _ _); first | refine c_seq ?_ | refine c_region ?_ | refine c_skip (x_then ?_) | refine c_ret ?_ | refine c_ifnd rfl (fun h => ?_) (fun h => ?_))
    | (show AT _ _ _ _; refine x_then_ret ?_))
  · rw [rankF, if_neg h]
    exact x_ret1 Try.results24 (res_tmp rfl) (fun w' c' => ⟨_, _, rfl, ⟨rfl, rfl⟩, c'.sub (List.nil_sublist _)⟩)
  · rw [rankF, if_pos h]
    refine x_ret1 Try.results24 (res_tmp rfl) (fun w' c' => ⟨_, _, rfl, ⟨?_, rfl⟩, c'.sub (List.nil_sublist _)⟩)
    simp [rrL, h]
end Go.Proofs.Ytljgmmmgnfgbhaa
