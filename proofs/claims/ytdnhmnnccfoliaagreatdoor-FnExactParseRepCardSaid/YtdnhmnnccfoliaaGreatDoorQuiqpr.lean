import Derived.Test.YtdnhmnnccfoliaaGreatDoorMatqpr
import Derived.Test.YtdnhmnnccfoliaaGreatDoorRowqpr
namespace Go.Proofs.YtdnhmnnccfoliaaGreatDoor
open Go.Lg Go.Proofs Go.RowKit
attribute [local irreducible] Code.wp wpList bodyPost Exit.then Exit.inBlock Hp Again Calls Y AT ResV QT
set_option maxRecDepth 20000
set_option maxHeartbeats 4000000

abbrev Qv := Int × List Int × List Int
abbrev szQ (q : Qv) : Nat := q.2.1.length + q.2.2.length
structure Rp where
  p : Int
  q : Qv
  d : List Int
  m : List Mat
deriving DecidableEq
def GivesQ (q : Qv) (r : Value) (H : List HE) : Prop := ∃ a c a' c', r = .agg #[iV q.1, .slice a q.2.1.length c, .slice a' q.2.2.length c'] ∧ SA a q.2.1.length ∧ SA a' q.2.2.length ∧ H = [.own (iT q.2.2) (.slice a' q.2.2.length c'), .own (iT q.2.1) (.slice a q.2.1.length c)]
theorem szQuiver_ok {w : World} {q : Qv} {u u' : Value} {left : Int} (hu : Rd w (iT q.2.1) u) (hu' : Rd w (iT q.2.2) u') (h0 : 0 ≤ left) (h1 : left ≤ 1048576) :
    Does Tryz.prog 6 [.agg #[iV q.1, u, u'], iV left] w (fun v H => v = iV (if left < szQ q then -1 else left - szQ q) ∧ H = []) := by
  obtain ⟨n, f, t⟩ := q
  simp only at hu hu' ⊢
  refine fn_enter Tryz.func6 rfl Tryz.ntmps6 rfl ?_
  repeat' (first | (show oL; first | refine sMv rfl rfl ?_ | refine sAs rfl rfl ?_ | refine sFd tabs rfl rfl rfl rfl ?_ | refine sLd 0 tabs rfl rfl rfl rfl rfl ?_ | refine sLs rfl rfl rfl ?_ | (show oA (.call _); first | (refine m_call (ent_of Tryz.func74 kr rfl) rfl rfl (fun w c => szIntS_at (c.rd hu) h0 h1) ?_; rintro v H' ⟨rfl, rfl⟩) | (refine m_call (ent_of Tryz.func74 kr rfl) rfl rfl (fun w c => szIntS_at (c.rd hu') (by split at h <;> omega) (by split <;> omega)) ?_; rintro v H' ⟨rfl, rfl⟩)) | (show oA (.box _ _); refine m_box rfl rfl (fun b hb => ?_))) | refine xNt ?_ | (show oC; first | refine c_seq ?_ | refine c_region ?_ | refine c_skip (x_then ?_) | refine c_ret ?_ | refine c_if rfl (fun h => ?_) (fun h => ?_)) | (show AT _ _ _ _; refine x_then_ret ?_))
  all_goals refine x_ret1 Tryz.results6 (res_tmp rfl) (fun w c => ⟨_, _, rfl, ⟨congrArg iV ?_, rfl⟩, c.sub (List.nil_sublist _)⟩)
  all_goals grind

theorem toQuiver_ok {w : World} {q : Qv} {u u' : Value} (hu : Rd w (iT q.2.1) u) (hu' : Rd w (iT q.2.2) u') (hb : szQ q ≤ 1048576) :
    Does Tryz.prog 8 [.agg #[iV q.1, u, u']] w (GivesQ q) := by
  obtain ⟨n, f, t⟩ := q
  simp only [szQ] at hu hu' hb ⊢
  refine fn_enter Tryz.func8 rfl Tryz.ntmps8 rfl ?_
  repeat' (first | (show oL; first | refine sFd tabs rfl rfl rfl rfl ?_ | (show oA (.load _ _); first | refine sLb 2 tabs rfl rfl rfl rfl rfl ?_ | refine sLd 2 tabs rfl rfl rfl rfl rfl ?_ | refine sLd 3 tabs rfl rfl rfl rfl rfl ?_) | (show oA (.call _); first | (refine m_call (ent_of Tryz.func79 kr rfl) rfl rfl (fun w c => toIntS_at (c.rd hu) om) ?_; rintro v H' ⟨a, c', rfl, hs, rfl⟩) | (refine m_call (ent_of Tryz.func79 kr rfl) rfl rfl (fun w c => toIntS_at (c.rd hu') om) ?_; rintro v H' ⟨a2, c2, rfl, hs2, rfl⟩)) | (show oA (.store _ _ _); first | refine m_storef 0 tabs rfl rfl rfl rfl rfl rfl ?_ | refine m_storef 1 tabs rfl rfl rfl rfl rfl rfl ?_ | refine m_storef 2 tabs rfl rfl rfl rfl rfl rfl ?_ | refine m_storeb 3 tabs rfl rfl rfl rfl rfl rfl rfl ?_) | (show oA (.box _ _); refine m_box rfl rfl (fun b1 hb1 => ?_)) | (show oA (.alloc _); refine m_alloc tabs rfl rfl (fun b2 hb2 => ?_))) | refine xNt ?_ | (show oC; first | refine c_seq ?_ | refine c_region ?_ | refine c_ret ?_))
  refine x_ret1 Tryz.results8 (res_cellb 3 tabs rfl rfl rfl rfl) (fun w c => ⟨_, _, rfl, ⟨a, c', a2, c2, rfl, hs, hs2, rfl⟩, ?_⟩)
  exact c.sub (.cons_cons _ (.cons_cons _ (List.nil_sublist _)))

theorem eqQuiver_ok (w : World) (q q' : Qv) (u u' v v' : Value) (hu : Rd w (iT q.2.1) u) (hu' : Rd w (iT q.2.2) u') (hv : Rd w (iT q'.2.1) v) (hv' : Rd w (iT q'.2.2) v') :
    Does Tryz.prog 11 [.agg #[iV q.1, u, u'], .agg #[iV q'.1, v, v']] w (fun v H => v = .bool (decide (q = q')) ∧ H = []) := by
  obtain ⟨n, f, t⟩ := q
  obtain ⟨n', f', t'⟩ := q'
  simp only at hu hu' hv hv' ⊢
  refine fn_enter Tryz.func11 rfl Tryz.ntmps11 rfl ?_
  repeat' (first | (show oL; first | refine sAs rfl rfl ?_ | refine sFd tabs rfl rfl rfl rfl ?_ | (show oA (.load _ _); first | refine sLd 0 tabs rfl rfl rfl rfl rfl ?_ | refine sLd 1 tabs rfl rfl rfl rfl rfl ?_) | (show oA (.binOp _ _ _ _ _); refine st_y (y_neq rfl rfl) rfl ?_) | (show oA (.unOp _ _ _); refine st_y (y_notd rfl) rfl ?_) | (show oA (.call _); first | (refine m_call (ent_of Tryz.func83 kr rfl) rfl rfl (fun w c => eqIntS_at w f f' _ _ (c.rd hu) (c.rd hv)) ?_; rintro v H' ⟨rfl, rfl⟩) | (refine m_call (ent_of Tryz.func83 kr rfl) rfl rfl (fun w c => eqIntS_at w t t' _ _ (c.rd hu') (c.rd hv')) ?_; rintro v H' ⟨rfl, rfl⟩)) | (show oA (.box _ _); refine m_box rfl rfl (fun b hb => ?_))) | refine xNt ?_ | (show oC; first | refine c_seq ?_ | refine c_region ?_ | refine c_skip (x_then ?_) | refine c_ret ?_ | refine c_ifnd rfl (fun h => ?_) (fun h => ?_)) | (show AT _ _ _ _; refine x_then_ret ?_))
  all_goals refine x_ret1 Tryz.results11 (res_tmp rfl) (fun w c => ⟨_, _, rfl, ⟨?_, rfl⟩, c.sub (List.nil_sublist _)⟩)
  all_goals simp_all

theorem eqRep_ok (w : World) (r r' : Rp) (e e' : Nat) (u0 u1 u2 u3 v0 v1 v2 v3 : Value) (h0 : Rd w (iT r.q.2.1) u0) (h1 : Rd w (iT r.q.2.2) u1) (h2 : Rd w (iT r.d) u2) (h3 : Rd w (matsT e r.m) u3) (k0 : Rd w (iT r'.q.2.1) v0) (k1 : Rd w (iT r'.q.2.2) v1) (k2 : Rd w (iT r'.d) v2) (k3 : Rd w (matsT e' r'.m) v3) :
    Does Tryz.prog 10 [.agg #[iV r.p, iV r.q.1, u0, u1, u2, u3], .agg #[iV r'.p, iV r'.q.1, v0, v1, v2, v3]] w (fun v H => v = .bool (decide (r = r')) ∧ H = []) := by
  obtain ⟨p, q, d, m⟩ := r
  obtain ⟨p', q', d', m'⟩ := r'
  simp only at h0 h1 h2 h3 k0 k1 k2 k3 ⊢
  refine fn_enter Tryz.func10 rfl Tryz.ntmps10 rfl ?_
  repeat' (first | (show oL; first | refine sAs rfl rfl ?_ | refine sFd tabs rfl rfl rfl rfl ?_ | (show oA (.load _ _); first | refine st_y (y_load3 tabs rfl rfl (hc_blk 0 rfl rfl) (hc_blk 0 rfl rfl) (hc_blk 0 rfl rfl)) rfl ?_ | refine st_y (y_load3 tabs rfl rfl (hc_blk 1 rfl rfl) (hc_blk 1 rfl rfl) (hc_blk 1 rfl rfl)) rfl ?_ | refine sLd 0 tabs rfl rfl rfl rfl rfl ?_ | refine sLd 1 tabs rfl rfl rfl rfl rfl ?_) | (show oA (.binOp _ _ _ _ _); refine st_y (y_neq rfl rfl) rfl ?_) | (show oA (.unOp _ _ _); refine st_y (y_notd rfl) rfl ?_) | (show oA (.call _); first | (refine m_call (ent_of Tryz.func11 kr rfl) rfl rfl (fun w c => eqQuiver_ok w q q' _ _ _ _ (c.rd h0) (c.rd h1) (c.rd k0) (c.rd k1)) ?_; rintro v H' ⟨rfl, rfl⟩) | (refine m_call (ent_of Tryz.func83 kr rfl) rfl rfl (fun w c => eqIntS_at w d d' _ _ (c.rd h2) (c.rd k2)) ?_; rintro v H' ⟨rfl, rfl⟩) | (refine m_call (ent_of Tryz.func84 kr rfl) rfl rfl (fun w c => eqMatrixS_ok w _ _ m m' _ _ (c.rd h3) (c.rd k3)) ?_; rintro v H' ⟨rfl, rfl⟩)) | (show oA (.box _ _); refine m_box rfl rfl (fun b hb => ?_))) | refine xNt ?_ | (show oC; first | refine c_seq ?_ | refine c_region ?_ | refine c_skip (x_then ?_) | refine c_ret ?_ | refine c_ifnd rfl (fun h => ?_) (fun h => ?_)) | (show AT _ _ _ _; refine x_then_ret ?_))
  all_goals refine x_ret1 Tryz.results10 (res_tmp rfl) (fun w c => ⟨_, _, rfl, ⟨?_, rfl⟩, c.sub (List.nil_sublist _)⟩)
  all_goals simp_all
end Go.Proofs.YtdnhmnnccfoliaaGreatDoor
