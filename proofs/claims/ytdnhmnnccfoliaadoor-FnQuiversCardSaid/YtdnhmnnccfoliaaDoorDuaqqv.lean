import Derived.Test.YtdnhmnnccfoliaaDoorInvqqv
import Derived.Test.YtdnhmnnccfoliaaDoorLCqqv
import Derived.Test.YtdnhmnnccfoliaaDoorPatqqv
import Derived.Test.YtdnhmnnccfoliaaDoorQupqqv
import Derived.Test.YtdnhmnnccfoliaaDoorRdPqqv
import Derived.Test.YtdnhmnnccfoliaaDoorSpbqqv
import Derived.Test.YtdnhmnnccfoliaaDoorZsbqqv
namespace Go.Proofs.YtdnhmnnccfoliaaDoor
open Go.Lg Go.Proofs Go.RowKit
attribute [local irreducible] Code.wp wpList bodyPost Exit.then Exit.inBlock Hp Again Calls Y AT ResV QT Qn QI wpAny wpAnyQ
set_option maxRecDepth 20000
set_option maxHeartbeats 4000000

def opQ (q : Qv) : Qv := (q.1, q.2.2, q.2.1)
def GivesQB (q : Qv) (b : Bool) (r : Value) (H : List HE) : Prop := ∃ a c a' c', r = .tuple #[.agg #[iV q.1, .slice a q.2.1.length c, .slice a' q.2.2.length c'], .bool b] ∧ SA a q.2.1.length ∧ SA a' q.2.2.length ∧ H = [.own (iT q.2.2) (.slice a' q.2.2.length c'), .own (iT q.2.1) (.slice a q.2.1.length c)]
theorem impl_OppositeOf_yes {w : World} {q : Qv} {u u' : Value} (hu : Rd w (iT q.2.1) u) (hu' : Rd w (iT q.2.2) u') (hQ : QuivP q) : Does Tryd.prog 14 [.agg #[iV q.1, u, u']] w (GivesQB (opQ q) true) := by
  obtain ⟨n, xs, ys⟩ := q
  have hx := hQ.2.1
  have hy := hQ.2.2.1
  simp only [opQ] at hu hu' hx hy ⊢
  refine fn_enter Tryd.func14 rfl Tryd.ntmps14 rfl ?_
  repeat' (first | (show oL; first | refine sAs rfl rfl ?_ | refine sLb 1 tabs rfl rfl rfl rfl rfl ?_ | (show oA (.unOp _ _ _); refine st_y (y_notd rfl) rfl ?_) | (show oA (.call _); (refine m_call (ent_of Tryd.func13 kr rfl) rfl rfl (fun w c => impl_IsQuiver_ok (q := (n, xs, ys)) (c.rd hu) (c.rd hu')) ?_; rintro v H' ⟨rfl, rfl⟩)) | (show oA (.box _ _); refine m_box rfl rfl (fun b1 hb1 => ?_)) | (show oA (.alloc _); refine m_alloc tabs rfl rfl (fun b2 hb2 => ?_))) | refine xNt ?_ | (show oC; first | refine c_seq ?_ | refine c_region ?_ | refine c_skip (x_then ?_) | refine c_iff rfl nN ?_))
  all_goals first | exact absurd hQ aS | skip
  refine c_mixR (Hp [] w [.blk b1 #[iV n, u, u'] 26]) 9 kr kr kr kr kr (fun _ c => Hp.drew c) ?_
  refine h_take 0 rfl kr kr kr (by exact y_field tabs rfl rfl rfl) rfl (fun w c => by exact c.drop) ?_
  refine h_take 1 rfl kr kr kr (by exact y_load tabs rfl rfl (hc_blk 0 rfl rfl)) rfl (fun w c => by exact c.drop) ?_
  refine h_take 2 rfl kr kr kr (by exact y_field tabs rfl rfl rfl) rfl (fun w c => by exact c.drop) ?_
  refine h_take 3 rfl kr kr kr (by exact y_load tabs rfl rfl (hc_blk 0 rfl rfl)) rfl (fun w c => by exact c.drop) ?_
  refine h_take 5 rfl kr kr kr (by exact y_field tabs rfl rfl rfl) rfl (fun w c => by exact c.drop) ?_
  refine h_take 6 rfl kr kr kr (by exact y_load tabs rfl rfl (hc_blk 0 rfl rfl)) rfl (fun w c => by exact c.drop) ?_
  refine h_only 4 rfl kr ?_
  first | (refine m_call (ent_of Tryd.func47 kr rfl) rfl rfl (fun w c => Clone_ok (c.rd hu') om) ?_; rintro v H' ⟨a2, c2, rfl, hs2, rfl⟩) | (refine m_call (ent_of Tryd.func47 kr rfl) rfl rfl (fun w c => Clone_ok (c.rd hu) om) ?_; rintro v H' ⟨a3, c3, rfl, hs3, rfl⟩)
  refine c_nil (x_one (h_keep (fun w c => by exact c.drop.drop) ?_))
  refine h_only 7 rfl kr ?_
  first | (refine m_call (ent_of Tryd.func47 kr rfl) rfl rfl (fun w c => Clone_ok (c.rd hu') om) ?_; rintro v H' ⟨a2, c2, rfl, hs2, rfl⟩) | (refine m_call (ent_of Tryd.func47 kr rfl) rfl rfl (fun w c => Clone_ok (c.rd hu) om) ?_; rintro v H' ⟨a3, c3, rfl, hs3, rfl⟩)
  refine c_nil (x_one (h_keep sS ?_))
  refine h_take 8 rfl kr kr kr (by exact y_bld3 (bld_qv _ _ _ _ _ _ _) rfl rfl rfl) rfl sS ?_
  refine h_end kr ?_
  repeat' (first | (show oL; first | refine sAs rfl rfl ?_ | (show oA (.store _ _ _); refine m_storeb 2 tabs rfl rfl rfl rfl rfl rfl rfl ?_)) | refine xNt ?_ | (show oC; refine c_ret ?_))
  exact x_ret2 Tryd.results14 (res_cellb 2 tabs rfl rfl rfl rfl) (res_tmp rfl) (fun w' c' => ⟨_, _, rfl, ⟨a2, c2, a3, c3, rfl, hs2, hs3, rfl⟩, c'.sub (.cons_cons _ (.cons_cons _ (List.nil_sublist _)))⟩)
theorem spec_OppositeOf_yes {w : World} {q : Qv} {u u' : Value} (hu : Rd w (iT q.2.1) u) (hu' : Rd w (iT q.2.2) u') (hQ : QuivP q) : Does Tryd.prog 15 [.agg #[iV q.1, u, u']] w (GivesQB (opQ q) true) := by
  obtain ⟨n, xs, ys⟩ := q
  have hx := hQ.2.1
  have hy := hQ.2.2.1
  simp only [opQ] at hu hu' hx hy ⊢
  obtain ⟨a0, c0, rfl, hs0, _⟩ := hu.ints
  obtain ⟨a1, c1, rfl, hs1, _⟩ := hu'.ints
  refine fn_enter Tryd.func15 rfl Tryd.ntmps15 rfl ?_
  repeat' (first | (show oL; first | refine sAs rfl rfl ?_ | refine sLb 1 tabs rfl rfl rfl rfl rfl ?_ | (show oA (.unOp _ _ _); refine st_y (y_notd rfl) rfl ?_) | (show oA (.call _); (refine m_call (ent_of Tryd.func11 kr rfl) rfl rfl (fun w c => spec_IsQuiver_ok (q := (n, xs, ys)) (c.rd hu) (c.rd hu')) ?_; rintro v H' ⟨rfl, rfl⟩)) | (show oA (.box _ _); refine m_box rfl rfl (fun b1 hb1 => ?_)) | (show oA (.alloc _); refine m_alloc tabs rfl rfl (fun b2 hb2 => ?_))) | refine xNt ?_ | (show oC; first | refine c_seq ?_ | refine c_region ?_ | refine c_skip (x_then ?_) | refine c_iff rfl nN ?_))
  all_goals first | exact absurd hQ aS | skip
  refine c_mixR (Hp [] w [.blk b1 #[iV n, .slice a0 xs.length c0, .slice a1 ys.length c1] 26]) 11 kr kr kr kr kr (fun _ c => Hp.drew c) ?_
  refine h_take 0 rfl kr kr kr (by exact y_field tabs rfl rfl rfl) rfl (fun w c => by exact c.drop) ?_
  refine h_take 1 rfl kr kr kr (by exact y_load tabs rfl rfl (hc_blk 0 rfl rfl)) rfl (fun w c => by exact c.drop) ?_
  refine h_take 3 rfl kr kr kr (by exact y_field tabs rfl rfl rfl) rfl (fun w c => by exact c.drop) ?_
  refine h_take 4 rfl kr kr kr (by exact y_load tabs rfl rfl (hc_blk 0 rfl rfl)) rfl (fun w c => by exact c.drop) ?_
  refine h_take 7 rfl kr kr kr (by exact y_field tabs rfl rfl rfl) rfl (fun w c => by exact c.drop) ?_
  refine h_take 8 rfl kr kr kr (by exact y_load tabs rfl rfl (hc_blk 0 rfl rfl)) rfl (fun w c => by exact c.drop) ?_
  refine h_two 2 6 rfl rfl kr ?_ ?_
  · (refine m_build0 tabs rfl rfl (fun g hg => ?_))
    refine c_nil (x_one (h_keep (fun w c => by exact c.drop.drop) ?_))
    refine h_two 5 6 rfl rfl kr ?_ ?_
    · (refine m_dup 0 tabs rfl rfl rfl rfl rfl om (fun w c => c.rd hu') (fun a2 c2 hs2 => ?_))
      refine c_nil (x_one (h_keep (fun w c => by exact c.drop.drop) ?_))
      refine h_only 6 rfl kr ?_
      first | (refine m_build0 tabs rfl rfl (fun g hg => ?_)) | (refine m_dup 0 tabs rfl rfl rfl rfl rfl om (fun w c => c.rd hu) (fun a3 c3 hs3 => ?_))
      refine c_nil (x_one (h_keep sS ?_))
      refine h_only 9 rfl kr ?_
      first | (refine m_build0 tabs rfl rfl (fun g hg => ?_)) | (refine m_dup 0 tabs rfl rfl rfl rfl rfl om (fun w c => c.rd hu) (fun a3 c3 hs3 => ?_))
      refine c_nil (x_one (h_keep sS ?_))
      refine h_take 10 rfl kr kr kr (by exact y_bld3 (bld_qv _ _ _ _ _ _ _) rfl rfl rfl) rfl sS ?_
      refine h_end kr ?_
      repeat' (first | (show oL; first | refine sAs rfl rfl ?_ | (show oA (.store _ _ _); refine m_storeb 2 tabs rfl rfl rfl rfl rfl rfl rfl ?_)) | refine xNt ?_ | (show oC; refine c_ret ?_))
      exact x_ret2 Tryd.results15 (res_cellb 2 tabs rfl rfl rfl rfl) (res_tmp rfl) (fun w' c' => ⟨_, _, rfl, ⟨a2, c2, a3, c3, rfl, hs2, hs3, rfl⟩, c'.sub (.cons_cons _ (.cons_cons _ (List.nil_sublist _)))⟩)
    · (refine m_build0 tabs rfl rfl (fun g hg => ?_))
      refine c_nil (x_one (h_keep sS ?_))
      refine h_only 5 rfl kr ?_
      first | (refine m_dup 1 tabs rfl rfl rfl rfl rfl om (fun w c => c.rd hu') (fun a2 c2 hs2 => ?_)) | (refine m_dup 1 tabs rfl rfl rfl rfl rfl om (fun w c => c.rd hu) (fun a3 c3 hs3 => ?_))
      refine c_nil (x_one (h_keep sS ?_))
      refine h_only 9 rfl kr ?_
      first | (refine m_dup 1 tabs rfl rfl rfl rfl rfl om (fun w c => c.rd hu') (fun a2 c2 hs2 => ?_)) | (refine m_dup 1 tabs rfl rfl rfl rfl rfl om (fun w c => c.rd hu) (fun a3 c3 hs3 => ?_))
      refine c_nil (x_one (h_keep sS ?_))
      refine h_take 10 rfl kr kr kr (by exact y_bld3 (bld_qv _ _ _ _ _ _ _) rfl rfl rfl) rfl sS ?_
      refine h_end kr ?_
      repeat' (first | (show oL; first | refine sAs rfl rfl ?_ | (show oA (.store _ _ _); refine m_storeb 2 tabs rfl rfl rfl rfl rfl rfl rfl ?_)) | refine xNt ?_ | (show oC; refine c_ret ?_))
      exact x_ret2 Tryd.results15 (res_cellb 2 tabs rfl rfl rfl rfl) (res_tmp rfl) (fun w' c' => ⟨_, _, rfl, ⟨a2, c2, a3, c3, rfl, hs2, hs3, rfl⟩, c'.sub (.cons_cons _ (.cons_cons _ (List.nil_sublist _)))⟩)
  · (refine m_build0 tabs rfl rfl (fun g hg => ?_))
    refine c_nil (x_one (h_keep (fun w c => by exact c.drop.drop) ?_))
    refine h_only 2 rfl kr ?_
    first | (refine m_build0 tabs rfl rfl (fun g hg => ?_)) | (refine m_dup 0 tabs rfl rfl rfl rfl rfl om (fun w c => c.rd hu') (fun a2 c2 hs2 => ?_)) | (refine m_dup 1 tabs rfl rfl rfl rfl rfl om (fun w c => c.rd hu) (fun a3 c3 hs3 => ?_))
    refine c_nil (x_one (h_keep sS ?_))
    refine h_only 5 rfl kr ?_
    first | (refine m_build0 tabs rfl rfl (fun g hg => ?_)) | (refine m_dup 0 tabs rfl rfl rfl rfl rfl om (fun w c => c.rd hu') (fun a2 c2 hs2 => ?_)) | (refine m_dup 1 tabs rfl rfl rfl rfl rfl om (fun w c => c.rd hu) (fun a3 c3 hs3 => ?_))
    refine c_nil (x_one (h_keep sS ?_))
    refine h_only 9 rfl kr ?_
    first | (refine m_build0 tabs rfl rfl (fun g hg => ?_)) | (refine m_dup 0 tabs rfl rfl rfl rfl rfl om (fun w c => c.rd hu') (fun a2 c2 hs2 => ?_)) | (refine m_dup 1 tabs rfl rfl rfl rfl rfl om (fun w c => c.rd hu) (fun a3 c3 hs3 => ?_))
    refine c_nil (x_one (h_keep sS ?_))
    refine h_take 10 rfl kr kr kr (by exact y_bld3 (bld_qv _ _ _ _ _ _ _) rfl rfl rfl) rfl sS ?_
    refine h_end kr ?_
    repeat' (first | (show oL; first | refine sAs rfl rfl ?_ | (show oA (.store _ _ _); refine m_storeb 2 tabs rfl rfl rfl rfl rfl rfl rfl ?_)) | refine xNt ?_ | (show oC; refine c_ret ?_))
    exact x_ret2 Tryd.results15 (res_cellb 2 tabs rfl rfl rfl rfl) (res_tmp rfl) (fun w' c' => ⟨_, _, rfl, ⟨a2, c2, a3, c3, rfl, hs2, hs3, rfl⟩, c'.sub (.cons_cons _ (.cons_cons _ (List.nil_sublist _)))⟩)
end Go.Proofs.YtdnhmnnccfoliaaDoor
