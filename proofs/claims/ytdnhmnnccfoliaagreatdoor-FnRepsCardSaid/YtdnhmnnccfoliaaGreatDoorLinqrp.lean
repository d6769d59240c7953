import Derived.Test.YtdnhmnnccfoliaaGreatDoorRdIqrp
namespace Go.Proofs.YtdnhmnnccfoliaaGreatDoor
open Go.Lg Go.Proofs Go.RowKit
attribute [local irreducible] Code.wp wpList bodyPost Exit.then Exit.inBlock Hp Again Calls Y AT ResV QT Qn QI wpAny wpAnyQ
set_option maxRecDepth 20000
set_option maxHeartbeats 4000000

def rrM (p : Int) (m : Mat) : Mat := if MatP p m then redM p m else mat0
def rrL (p : Int) (m : Mat) : List Int := if MatP p m then redL p m else []
abbrev GivesRR (m : Mat) (l : List Int) (b : Bool) (v : Value) (H : List HE) : Prop := ∃ a c a' c', v = .tuple #[.agg #[iV m.1, iV m.2.1, .slice a m.2.2.length c], .slice a' l.length c', .bool b] ∧ SA a m.2.2.length ∧ SA a' l.length ∧ H = [.own (iT l) (.slice a' l.length c'), .own (iT m.2.2) (.slice a m.2.2.length c)]
theorem bld_mat0 (w : World) : (Instr.build 41 #[]).run Tryz.prog w = .ok (.agg #[iV 0, iV 0, .slice none 0 0]) w := by kernel_rfl

theorem spec_RowReduce_ok {w : World} {p : Int} {m : Mat} {u : Value} (hr : Rd w (iT m.2.2) u) :
    Does Tryz.prog 172 [iV p, .agg #[iV m.1, iV m.2.1, u]] w (GivesRR (rrM p m) (rrL p m) (decide (MatP p m))) := by
  refine fn_enter Tryz.func172 rfl Tryz.ntmps172 rfl ?_
  repeat' (first | (show oL; first | refine sMv rfl rfl ?_ | refine sAs rfl rfl ?_ | (show oA (.load _ _); first | refine sLb 0 tabs rfl rfl rfl rfl rfl ?_ | refine sLb 1 tabs rfl rfl rfl rfl rfl ?_) | (show oA (.unOp _ _ _); refine st_y (y_notd rfl) rfl ?_) | (show oA (.call _); first | (refine m_call (ent_of Tryz.func22 kr rfl) rfl rfl (fun w c => spec_IsMatrix_ok (m := m) (c.rd hr)) ?_; rintro v H' ⟨rfl, rfl⟩) | (refine m_call (ent_of Tryz.func192 kr rfl) rfl rfl (fun w c => l4Reduce_ok (m := m) (c.rd hr) (MatP.g h)) ?_; rintro v H' ⟨a, c, a', c', rfl, hs, hs', rfl⟩)) | (show oA (.extract _ _); refine st_y (y_ext rfl rfl) rfl ?_) | (show oA (.store _ _ _); first | refine m_storeb 0 tabs rfl rfl rfl rfl rfl rfl rfl ?_ | refine m_storeb 1 tabs rfl rfl rfl rfl rfl rfl rfl ?_ | refine m_storeb 3 tabs rfl rfl rfl rfl rfl rfl rfl ?_) | (show oA (.box _ _); refine m_box rfl rfl (fun bq hbq => ?_)) | (show oA (.alloc _); refine m_alloc tabs rfl rfl (fun bq hbq => ?_)) | (show oA (.buildSlice _ _ _); refine m_build0 tabs rfl rfl (fun g hg => ?_)) | (show oA (.build _ _); refine st_y (y_bld0 bld_mat0) rfl ?_)) | refine xNt ?_ | (show oC; first | refine c_seq ?_ | refine c_region ?_ | refine c_skip (x_then ?_) | refine c_ret ?_ | refine c_ifnd rfl (fun h => ?_) (fun h => ?_)) | (show AT _ _ _ _; refine x_then_ret ?_))
  · rw [rrM, rrL, if_neg h, if_neg h]
    refine x_ret3 Tryz.results172 (res_cellb 1 tabs rfl rfl rfl rfl) (res_tmp rfl) (res_tmp rfl) (fun w' c' => ⟨_, _, rfl, ⟨_, _, _, _, by rw [decide_eq_false h]; rfl, .inl rfl, .inl rfl, rfl⟩, ?_⟩)
    exact Hp.swap (Hp.nilp _ _ (c'.sub (.cons_cons _ (List.nil_sublist _))))
  · rw [rrM, rrL, if_pos h, if_pos h]
    refine x_ret3 Tryz.results172 (res_cellb 3 tabs rfl rfl rfl rfl) (res_tmp rfl) (res_tmp rfl) (fun w' c' => ⟨_, _, rfl, ⟨_, _, _, _, by rw [decide_eq_true h]; rfl, hs, hs', rfl⟩, ?_⟩)
    exact c'.sub (.cons _ (.cons_cons _ (.cons_cons _ (List.nil_sublist _))))
theorem rank_ok {w : World} {p : Int} {m : Mat} {u : Value} (hr : Rd w (iT m.2.2) u) (hm : MatG p m) :
    Does Tryz.prog 135 [iV p, .agg #[iV m.1, iV m.2.1, u]] w (fun v H => v = iV (redL p m).length ∧ H = []) := by
  refine fn_enter Tryz.func135 rfl Tryz.ntmps135 rfl ?_
  repeat' (first | (show oL; first | refine sMv rfl rfl ?_ | refine sAs rfl rfl ?_ | refine sLb 0 tabs rfl rfl rfl rfl rfl ?_ | (show oA (.call _); first | (refine m_call (ent_of Tryz.func171 kr rfl) rfl rfl (fun w c => reduce_ok (m := m) (c.rd hr) hm) ?_; rintro v H' ⟨a, c, a', c', rfl, hs, hs', rfl⟩) | refine sLn tabs rfl rfl rfl ?_) | (show oA (.extract _ _); refine st_y (y_ext rfl rfl) rfl ?_) | (show oA (.store _ _ _); refine m_storeb 0 tabs rfl rfl rfl rfl rfl rfl rfl ?_) | (show oA (.box _ _); refine m_box rfl rfl (fun bq hbq => ?_)) | (show oA (.alloc _); refine m_alloc tabs rfl rfl (fun bq hbq => ?_))) | refine xNt ?_ | (show oC; first | refine c_seq ?_ | refine c_region ?_ | refine c_ret ?_))
  exact x_ret1 Tryz.results135 (res_tmp rfl) (fun w' c' => ⟨_, _, rfl, ⟨rfl, rfl⟩, c'.sub (List.nil_sublist _)⟩)
def rankF (p : Int) (m : Mat) : Int := if MatP p m then (redL p m).length else -1
theorem spec_RankOf_ok {w : World} {p : Int} {m : Mat} {u : Value} (hr : Rd w (iT m.2.2) u) :
    Does Tryz.prog 136 [iV p, .agg #[iV m.1, iV m.2.1, u]] w (fun v H => v = iV (rankF p m) ∧ H = []) := by
  refine fn_enter Tryz.func136 rfl Tryz.ntmps136 rfl ?_
  repeat' (first | (show oL; first | refine sMv rfl rfl ?_ | refine sAs rfl rfl ?_ | refine sLb 0 tabs rfl rfl rfl rfl rfl ?_ | (show oA (.unOp _ _ _); refine st_y (y_notd rfl) rfl ?_) | (show oA (.call _); first | (refine m_call (ent_of Tryz.func172 kr rfl) rfl rfl (fun w c => spec_RowReduce_ok (m := m) (c.rd hr)) ?_; rintro v H' ⟨a, c, a', c', rfl, hs, hs', rfl⟩) | refine sLn tabs rfl rfl rfl ?_) | (show oA (.extract _ _); refine st_y (y_ext rfl rfl) rfl ?_) | (show oA (.store _ _ _); refine m_storeb 0 tabs rfl rfl rfl rfl rfl rfl rfl ?_) | (show oA (.box _ _); refine m_box rfl rfl (fun bq hbq => ?_)) | (show oA (.alloc _); refine m_alloc tabs rfl rfl (fun bq hbq => ?_))) | refine xNt ?_ | (show oC; first | refine c_seq ?_ | refine c_region ?_ | refine c_skip (x_then ?_) | refine c_ret ?_ | refine c_ifnd rfl (fun h => ?_) (fun h => ?_)) | (show AT _ _ _ _; refine x_then_ret ?_))
  · rw [rankF, if_neg h]
    exact x_ret1 Tryz.results136 (res_tmp rfl) (fun w' c' => ⟨_, _, rfl, ⟨rfl, rfl⟩, c'.sub (List.nil_sublist _)⟩)
  · rw [rankF, if_pos h]
    refine x_ret1 Tryz.results136 (res_tmp rfl) (fun w' c' => ⟨_, _, rfl, ⟨?_, rfl⟩, c'.sub (List.nil_sublist _)⟩)
    simp [rrL, h]
end Go.Proofs.YtdnhmnnccfoliaaGreatDoor
