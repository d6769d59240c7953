import Derived.Test.YtljgmmmgnfgbhaaDoorMasqfr
import Derived.Test.YtljgmmmgnfgbhaaDoorRowqfr
namespace Go.Proofs.YtljgmmmgnfgbhaaDoor
open Go.Lg Go.Proofs Go.RowKit
attribute [local irreducible] Code.wp wpList bodyPost Exit.then Exit.inBlock Hp Again Calls Y AT ResV QT
set_option maxRecDepth 20000
set_option maxHeartbeats 4000000

/-- a quiver: its vertices, where its arrows begin and end -/
abbrev Qv := Int × List Int × List Int
abbrev szQ (q : Qv) : Nat := q.2.1.length + q.2.2.length
/-- a representation: its field's number, its quiver, its dimensions, its maps -/
structure Rp where
  p : Int
  q : Qv
  d : List Int
  m : List Mat
deriving DecidableEq
abbrev szR (r : Rp) : Nat := szQ r.q + r.d.length + szMs r.m
def GivesQ (q : Qv) (r : Value) (H : List HE) : Prop := ∃ a c a' c', r = .agg #[iV q.1, .slice a q.2.1.length c, .slice a' q.2.2.length c'] ∧ SA a q.2.1.length ∧ SA a' q.2.2.length ∧ H = [.own (iT q.2.2) (.slice a' q.2.2.length c'), .own (iT q.2.1) (.slice a q.2.1.length c)]
def GivesR (r : Rp) (v : Value) (H : List HE) : Prop := ∃ a0 c0 a1 c1 a2 c2 a3 c3, v = .agg #[iV r.p, iV r.q.1, .slice a0 r.q.2.1.length c0, .slice a1 r.q.2.2.length c1, .slice a2 r.d.length c2, .slice a3 r.m.length c3] ∧
  SA a0 r.q.2.1.length ∧ SA a1 r.q.2.2.length ∧ SA a2 r.d.length ∧ SA a3 r.m.length ∧
  H = [.own (matsT 44 r.m) (.slice a3 r.m.length c3), .own (iT r.d) (.slice a2 r.d.length c2), .own (iT r.q.2.2) (.slice a1 r.q.2.2.length c1), .own (iT r.q.2.1) (.slice a0 r.q.2.1.length c0)]

theorem szQuiver_ok {w : World} {q : Qv} {u u' : Value} {left : Int} (hu : Rd w (iT q.2.1) u) (hu' : Rd w (iT q.2.2) u') (h0 : 0 ≤ left) (h1 : left ≤ 1048576) :
    Does Tryd.prog 9 [.agg #[iV q.1, u, u'], iV left] w (fun v H => v = iV (if left < szQ q then -1 else left - szQ q) ∧ H = []) := by
  obtain ⟨n, f, t⟩ := q
  simp only at hu hu' ⊢
  refine fn_enter Tryd.func9 rfl Tryd.ntmps9 rfl ?_
  repeat' (first
    | (show AT _ _ _ (wpList _ _ _ (_ :: _)); first
       | (show AT _ _ _ (wpList _ _ _ (⟨_, Op.move _, _, _, _, _⟩ :: _)); refine st_y (y_move rfl) rfl ?_)
       | (show AT _ _ _ (wpList _ _ _ (⟨_, Op.assign _, _, _, _, _⟩ :: _)); refine st_y (y_assign rfl) rfl ?_)
       | (show AT _ _ _ (wpList _ _ _ (⟨_, Op.fieldAddr _ _ _, _, _, _, _⟩ :: _)); refine st_y (y_field tabs rfl rfl rfl) rfl ?_)
       | (show AT _ _ _ (wpList _ _ _ (⟨_, Op.load _ _, _, _, _, _⟩ :: _)); refine st_y (y_load tabs rfl rfl (hc_blk 0 rfl rfl)) rfl ?_)
       | (show AT _ _ _ (wpList _ _ _ (⟨_, Op.binOp _ _ _ _ _, _, _, _, _⟩ :: _)); refine st_y (y_lss rfl rfl) rfl ?_)
       | (show AT _ _ _ (wpList _ _ _ (⟨_, Op.call _, _, _, _, _⟩ :: _)); first | (refine m_call (ent_of Tryd.func10 (by kernel_rfl) rfl) rfl rfl (fun w c => szIntS_at (c.rd hu) h0 h1) ?_; rintro v H' ⟨rfl, rfl⟩) | (refine m_call (ent_of Tryd.func10 (by kernel_rfl) rfl) rfl rfl (fun w c => szIntS_at (c.rd hu') (by split at h <;> omega) (by split <;> omega)) ?_; rintro v H' ⟨rfl, rfl⟩))
       | (show AT _ _ _ (wpList _ _ _ (⟨_, Op.box _ _, _, _, _, _⟩ :: _)); refine m_box rfl rfl (fun b hb => ?_)))
    | (show AT _ _ _ (wpList _ _ _ []); refine c_nil (x_then ?_))
    | (show AT _ _ _ (Code.wp _ _ _); first | refine c_seq ?_ | refine c_region ?_ | refine c_skip (x_then ?_) | refine c_ret ?_ | refine c_if rfl (fun h => ?_) (fun h => ?_))
    | (show AT _ _ _ _; refine x_then_ret ?_))
  all_goals refine x_ret1 Tryd.results9 (res_tmp rfl) (fun w c => ⟨_, _, rfl, ⟨congrArg iV ?_, rfl⟩, c.sub (List.nil_sublist _)⟩)
  all_goals grind

theorem toQuiver_ok {w : World} {q : Qv} {u u' : Value} (hu : Rd w (iT q.2.1) u) (hu' : Rd w (iT q.2.2) u') (hb : szQ q ≤ 1048576) :
    Does Tryd.prog 15 [.agg #[iV q.1, u, u']] w (GivesQ q) := by
  obtain ⟨n, f, t⟩ := q
  simp only [szQ] at hu hu' hb ⊢
  refine fn_enter Tryd.func15 rfl Tryd.ntmps15 rfl ?_
  repeat' (first
    | (show AT _ _ _ (wpList _ _ _ (_ :: _)); first
       | (show AT _ _ _ (wpList _ _ _ (⟨_, Op.fieldAddr _ _ _, _, _, _, _⟩ :: _)); refine st_y (y_field tabs rfl rfl rfl) rfl ?_)
       | (show AT _ _ _ (wpList _ _ _ (⟨_, Op.load _ _, _, _, _, _⟩ :: _)); first | refine st_y (y_loadb 2 tabs rfl rfl rfl rfl) rfl ?_ | refine st_y (y_load tabs rfl rfl (hc_blk 2 rfl rfl)) rfl ?_ | refine st_y (y_load tabs rfl rfl (hc_blk 3 rfl rfl)) rfl ?_)
       | (show AT _ _ _ (wpList _ _ _ (⟨_, Op.call _, _, _, _, _⟩ :: _)); first | (refine m_call (ent_of Tryd.func16 (by kernel_rfl) rfl) rfl rfl (fun w c => toIntS_at (c.rd hu) (by omega)) ?_; rintro v H' ⟨a, c', rfl, hs, rfl⟩) | (refine m_call (ent_of Tryd.func16 (by kernel_rfl) rfl) rfl rfl (fun w c => toIntS_at (c.rd hu') (by omega)) ?_; rintro v H' ⟨a2, c2, rfl, hs2, rfl⟩))
       | (show AT _ _ _ (wpList _ _ _ (⟨_, Op.store _ _ _, _, _, _, _⟩ :: _)); first | refine m_storef 0 tabs rfl rfl rfl rfl rfl rfl ?_ | refine m_storef 1 tabs rfl rfl rfl rfl rfl rfl ?_ | refine m_storef 2 tabs rfl rfl rfl rfl rfl rfl ?_ | refine m_storeb 3 tabs rfl rfl rfl rfl rfl rfl rfl ?_)
       | (show AT _ _ _ (wpList _ _ _ (⟨_, Op.box _ _, _, _, _, _⟩ :: _)); refine m_box rfl rfl (fun b1 hb1 => ?_))
       | (show AT _ _ _ (wpList _ _ _ (⟨_, Op.alloc _, _, _, _, _⟩ :: _)); refine m_alloc tabs rfl rfl (fun b2 hb2 => ?_)))
    | (show AT _ _ _ (wpList _ _ _ []); refine c_nil (x_then ?_))
    | (show AT _ _ _ (Code.wp _ _ _); first | refine c_seq ?_ | refine c_region ?_ | refine c_ret ?_))
  refine x_ret1 Tryd.results15 (res_cellb 3 tabs rfl rfl rfl rfl) (fun w c => ⟨_, _, rfl, ⟨a, c', a2, c2, rfl, hs, hs2, rfl⟩, ?_⟩)
  exact c.sub (.cons_cons _ (.cons_cons _ (List.nil_sublist _)))

theorem eqQuiver_ok (w : World) (q q' : Qv) (u u' v v' : Value) (hu : Rd w (iT q.2.1) u) (hu' : Rd w (iT q.2.2) u') (hv : Rd w (iT q'.2.1) v) (hv' : Rd w (iT q'.2.2) v') :
    Does Tryd.prog 21 [.agg #[iV q.1, u, u'], .agg #[iV q'.1, v, v']] w (fun v H => v = .bool (decide (q = q')) ∧ H = []) := by
  obtain ⟨n, f, t⟩ := q
  obtain ⟨n', f', t'⟩ := q'
  simp only at hu hu' hv hv' ⊢
  refine fn_enter Tryd.func21 rfl Tryd.ntmps21 rfl ?_
  repeat' (first
    | (show AT _ _ _ (wpList _ _ _ (_ :: _)); first
       | (show AT _ _ _ (wpList _ _ _ (⟨_, Op.assign _, _, _, _, _⟩ :: _)); refine st_y (y_assign rfl) rfl ?_)
       | (show AT _ _ _ (wpList _ _ _ (⟨_, Op.fieldAddr _ _ _, _, _, _, _⟩ :: _)); refine st_y (y_field tabs rfl rfl rfl) rfl ?_)
       | (show AT _ _ _ (wpList _ _ _ (⟨_, Op.load _ _, _, _, _, _⟩ :: _)); first | refine st_y (y_load tabs rfl rfl (hc_blk 0 rfl rfl)) rfl ?_ | refine st_y (y_load tabs rfl rfl (hc_blk 1 rfl rfl)) rfl ?_)
       | (show AT _ _ _ (wpList _ _ _ (⟨_, Op.binOp _ _ _ _ _, _, _, _, _⟩ :: _)); refine st_y (y_neq rfl rfl) rfl ?_)
       | (show AT _ _ _ (wpList _ _ _ (⟨_, Op.unOp _ _ _, _, _, _, _⟩ :: _)); refine st_y (y_notd rfl) rfl ?_)
       | (show AT _ _ _ (wpList _ _ _ (⟨_, Op.call _, _, _, _, _⟩ :: _)); first | (refine m_call (ent_of Tryd.func22 (by kernel_rfl) rfl) rfl rfl (fun w c => eqIntS_at w f f' _ _ (c.rd hu) (c.rd hv)) ?_; rintro v H' ⟨rfl, rfl⟩) | (refine m_call (ent_of Tryd.func22 (by kernel_rfl) rfl) rfl rfl (fun w c => eqIntS_at w t t' _ _ (c.rd hu') (c.rd hv')) ?_; rintro v H' ⟨rfl, rfl⟩))
       | (show AT _ _ _ (wpList _ _ _ (⟨_, Op.box _ _, _, _, _, _⟩ :: _)); refine m_box rfl rfl (fun b hb => ?_)))
    | (show AT _ _ _ (wpList _ _ _ []); refine c_nil (x_then ?_))
    | (show AT _ _ _ (Code.wp _ _ _); first | refine c_seq ?_ | refine c_region ?_ | refine c_skip (x_then ?_) | refine c_ret ?_ | refine c_ifnd rfl (fun h => ?_) (fun h => ?_))
    | (show AT _ _ _ _; refine x_then_ret ?_))
  all_goals refine x_ret1 Tryd.results21 (res_tmp rfl) (fun w c => ⟨_, _, rfl, ⟨?_, rfl⟩, c.sub (List.nil_sublist _)⟩)
  all_goals simp_all

theorem szRep_ok {w : World} {r : Rp} {e : Nat} {u0 u1 u2 u3 : Value} {left : Int} (h0 : Rd w (iT r.q.2.1) u0) (h1 : Rd w (iT r.q.2.2) u1) (h2 : Rd w (iT r.d) u2) (h3 : Rd w (matsT e r.m) u3) (hl : 0 ≤ left) (hl' : left ≤ 1048576) :
    Does Tryd.prog 4 [.agg #[iV r.p, iV r.q.1, u0, u1, u2, u3], iV left] w (fun v H => v = iV (if left < szR r then -1 else left - szR r) ∧ H = []) := by
  obtain ⟨p, q, d, m⟩ := r
  simp only at h0 h1 h2 h3 ⊢
  refine fn_enter Tryd.func4 rfl Tryd.ntmps4 rfl ?_
  repeat' (first
    | (show AT _ _ _ (wpList _ _ _ (_ :: _)); first
       | (show AT _ _ _ (wpList _ _ _ (⟨_, Op.move _, _, _, _, _⟩ :: _)); refine st_y (y_move rfl) rfl ?_)
       | (show AT _ _ _ (wpList _ _ _ (⟨_, Op.assign _, _, _, _, _⟩ :: _)); refine st_y (y_assign rfl) rfl ?_)
       | (show AT _ _ _ (wpList _ _ _ (⟨_, Op.fieldAddr _ _ _, _, _, _, _⟩ :: _)); refine st_y (y_field tabs rfl rfl rfl) rfl ?_)
       | (show AT _ _ _ (wpList _ _ _ (⟨_, Op.load _ _, _, _, _, _⟩ :: _)); first | refine st_y (y_load3 tabs rfl rfl (hc_blk 0 rfl rfl) (hc_blk 0 rfl rfl) (hc_blk 0 rfl rfl)) rfl ?_ | refine st_y (y_load tabs rfl rfl (hc_blk 0 rfl rfl)) rfl ?_)
       | (show AT _ _ _ (wpList _ _ _ (⟨_, Op.binOp _ _ _ _ _, _, _, _, _⟩ :: _)); refine st_y (y_lss rfl rfl) rfl ?_)
       | (show AT _ _ _ (wpList _ _ _ (⟨_, Op.call _, _, _, _, _⟩ :: _)); first | (refine m_call (ent_of Tryd.func9 (by kernel_rfl) rfl) rfl rfl (fun w c => szQuiver_ok (q := q) (c.rd h0) (c.rd h1) hl hl') ?_; rintro v H' ⟨rfl, rfl⟩) | (refine m_call (ent_of Tryd.func10 (by kernel_rfl) rfl) rfl rfl (fun w c => szIntS_at (c.rd h2) (by split at h <;> omega) (by split <;> omega)) ?_; rintro v H' ⟨rfl, rfl⟩) | (refine m_call (ent_of Tryd.func11 (by kernel_rfl) rfl) rfl rfl (fun w c => szMatrixS_ok w _ _ _ _ (c.rd h3) (by grind) (by grind)) ?_; rintro v H' ⟨rfl, rfl⟩))
       | (show AT _ _ _ (wpList _ _ _ (⟨_, Op.box _ _, _, _, _, _⟩ :: _)); refine m_box rfl rfl (fun b hb => ?_)))
    | (show AT _ _ _ (wpList _ _ _ []); refine c_nil (x_then ?_))
    | (show AT _ _ _ (Code.wp _ _ _); first | refine c_seq ?_ | refine c_region ?_ | refine c_skip (x_then ?_) | refine c_ret ?_ | refine c_if rfl (fun h => ?_) (fun h => ?_))
    | (show AT _ _ _ _; refine x_then_ret ?_))
  all_goals refine x_ret1 Tryd.results4 (res_tmp rfl) (fun w c => ⟨_, _, rfl, ⟨congrArg iV ?_, rfl⟩, c.sub (List.nil_sublist _)⟩)
  all_goals grind

theorem toRep_ok {w : World} {r : Rp} {e : Nat} {u0 u1 u2 u3 : Value} (h0 : Rd w (iT r.q.2.1) u0) (h1 : Rd w (iT r.q.2.2) u1) (h2 : Rd w (iT r.d) u2) (h3 : Rd w (matsT e r.m) u3) (hb : szR r ≤ 1048576) :
    Does Tryd.prog 6 [.agg #[iV r.p, iV r.q.1, u0, u1, u2, u3]] w (GivesR r) := by
  obtain ⟨p, ⟨n, f, t⟩, d, m⟩ := r
  simp only [szR, szQ] at h0 h1 h2 h3 hb ⊢
  refine fn_enter Tryd.func6 rfl Tryd.ntmps6 rfl ?_
  repeat' (first
    | (show AT _ _ _ (wpList _ _ _ (_ :: _)); first
       | (show AT _ _ _ (wpList _ _ _ (⟨_, Op.fieldAddr _ _ _, _, _, _, _⟩ :: _)); refine st_y (y_field tabs rfl rfl rfl) rfl ?_)
       | (show AT _ _ _ (wpList _ _ _ (⟨_, Op.load _ _, _, _, _, _⟩ :: _)); first | refine st_y (y_load3 tabs rfl rfl (hc_blk 2 rfl rfl) (hc_blk 2 rfl rfl) (hc_blk 2 rfl rfl)) rfl ?_ | refine st_y (y_loadb 4 tabs rfl rfl rfl rfl) rfl ?_ | refine st_y (y_load tabs rfl rfl (hc_blk 2 rfl rfl)) rfl ?_ | refine st_y (y_load tabs rfl rfl (hc_blk 4 rfl rfl)) rfl ?_ | refine st_y (y_load tabs rfl rfl (hc_blk 5 rfl rfl)) rfl ?_)
       | (show AT _ _ _ (wpList _ _ _ (⟨_, Op.call _, _, _, _, _⟩ :: _)); first | (refine m_call (ent_of Tryd.func15 (by kernel_rfl) rfl) rfl rfl (fun w c => toQuiver_ok (q := (n, f, t)) (c.rd h0) (c.rd h1) (show f.length + t.length ≤ 1048576 by omega)) ?_; rintro v H' ⟨a, c0, a1, c1, rfl, hs, hs1, rfl⟩) | (refine m_call (ent_of Tryd.func16 (by kernel_rfl) rfl) rfl rfl (fun w c => toIntS_at (c.rd h2) (by omega)) ?_; rintro v H' ⟨a2, c2, rfl, hs2, rfl⟩) | (refine m_call (ent_of Tryd.func17 (by kernel_rfl) rfl) rfl rfl (fun w c => toMatrixS_ok w _ _ _ (c.rd h3) (by omega)) ?_; rintro v H' ⟨a3, c3, rfl, hs3, rfl⟩))
       | (show AT _ _ _ (wpList _ _ _ (⟨_, Op.store _ _ _, _, _, _, _⟩ :: _)); first | refine m_storef 0 tabs rfl rfl rfl rfl rfl rfl ?_ | refine m_storep3 2 tabs rfl rfl rfl rfl rfl rfl ?_ | refine m_storef 3 tabs rfl rfl rfl rfl rfl rfl ?_ | refine m_storef 4 tabs rfl rfl rfl rfl rfl rfl ?_ | refine m_storeb 5 tabs rfl rfl rfl rfl rfl rfl rfl ?_)
       | (show AT _ _ _ (wpList _ _ _ (⟨_, Op.box _ _, _, _, _, _⟩ :: _)); refine m_box rfl rfl (fun b1 hb1 => ?_))
       | (show AT _ _ _ (wpList _ _ _ (⟨_, Op.alloc _, _, _, _, _⟩ :: _)); refine m_alloc tabs rfl rfl (fun b2 hb2 => ?_)))
    | (show AT _ _ _ (wpList _ _ _ []); refine c_nil (x_then ?_))
    | (show AT _ _ _ (Code.wp _ _ _); first | refine c_seq ?_ | refine c_region ?_ | refine c_ret ?_))
  refine x_ret1 Tryd.results6 (res_cellb 5 tabs rfl rfl rfl rfl) (fun w c => ⟨_, _, rfl, ⟨a, c0, a1, c1, a2, c2, a3, c3, rfl, hs, hs1, hs2, hs3, rfl⟩, ?_⟩)
  exact c.sub (.cons_cons _ (.cons_cons _ (.cons_cons _ (.cons_cons _ (List.nil_sublist _)))))

theorem eqRep_ok (w : World) (r r' : Rp) (e e' : Nat) (u0 u1 u2 u3 v0 v1 v2 v3 : Value) (h0 : Rd w (iT r.q.2.1) u0) (h1 : Rd w (iT r.q.2.2) u1) (h2 : Rd w (iT r.d) u2) (h3 : Rd w (matsT e r.m) u3) (k0 : Rd w (iT r'.q.2.1) v0) (k1 : Rd w (iT r'.q.2.2) v1) (k2 : Rd w (iT r'.d) v2) (k3 : Rd w (matsT e' r'.m) v3) :
    Does Tryd.prog 8 [.agg #[iV r.p, iV r.q.1, u0, u1, u2, u3], .agg #[iV r'.p, iV r'.q.1, v0, v1, v2, v3]] w (fun v H => v = .bool (decide (r = r')) ∧ H = []) := by
  obtain ⟨p, q, d, m⟩ := r
  obtain ⟨p', q', d', m'⟩ := r'
  simp only at h0 h1 h2 h3 k0 k1 k2 k3 ⊢
  refine fn_enter Tryd.func8 rfl Tryd.ntmps8 rfl ?_
  repeat' (first
    | (show AT _ _ _ (wpList _ _ _ (_ :: _)); first
       | (show AT _ _ _ (wpList _ _ _ (⟨_, Op.assign _, _, _, _, _⟩ :: _)); refine st_y (y_assign rfl) rfl ?_)
       | (show AT _ _ _ (wpList _ _ _ (⟨_, Op.fieldAddr _ _ _, _, _, _, _⟩ :: _)); refine st_y (y_field tabs rfl rfl rfl) rfl ?_)
       | (show AT _ _ _ (wpList _ _ _ (⟨_, Op.load _ _, _, _, _, _⟩ :: _)); first | refine st_y (y_load3 tabs rfl rfl (hc_blk 0 rfl rfl) (hc_blk 0 rfl rfl) (hc_blk 0 rfl rfl)) rfl ?_ | refine st_y (y_load3 tabs rfl rfl (hc_blk 1 rfl rfl) (hc_blk 1 rfl rfl) (hc_blk 1 rfl rfl)) rfl ?_ | refine st_y (y_load tabs rfl rfl (hc_blk 0 rfl rfl)) rfl ?_ | refine st_y (y_load tabs rfl rfl (hc_blk 1 rfl rfl)) rfl ?_)
       | (show AT _ _ _ (wpList _ _ _ (⟨_, Op.binOp _ _ _ _ _, _, _, _, _⟩ :: _)); refine st_y (y_neq rfl rfl) rfl ?_)
       | (show AT _ _ _ (wpList _ _ _ (⟨_, Op.unOp _ _ _, _, _, _, _⟩ :: _)); refine st_y (y_notd rfl) rfl ?_)
       | (show AT _ _ _ (wpList _ _ _ (⟨_, Op.call _, _, _, _, _⟩ :: _)); first | (refine m_call (ent_of Tryd.func21 (by kernel_rfl) rfl) rfl rfl (fun w c => eqQuiver_ok w q q' _ _ _ _ (c.rd h0) (c.rd h1) (c.rd k0) (c.rd k1)) ?_; rintro v H' ⟨rfl, rfl⟩) | (refine m_call (ent_of Tryd.func22 (by kernel_rfl) rfl) rfl rfl (fun w c => eqIntS_at w d d' _ _ (c.rd h2) (c.rd k2)) ?_; rintro v H' ⟨rfl, rfl⟩) | (refine m_call (ent_of Tryd.func23 (by kernel_rfl) rfl) rfl rfl (fun w c => eqMatrixS_ok w _ _ m m' _ _ (c.rd h3) (c.rd k3)) ?_; rintro v H' ⟨rfl, rfl⟩))
       | (show AT _ _ _ (wpList _ _ _ (⟨_, Op.box _ _, _, _, _, _⟩ :: _)); refine m_box rfl rfl (fun b hb => ?_)))
    | (show AT _ _ _ (wpList _ _ _ []); refine c_nil (x_then ?_))
    | (show AT _ _ _ (Code.wp _ _ _); first | refine c_seq ?_ | refine c_region ?_ | refine c_skip (x_then ?_) | refine c_ret ?_ | refine c_ifnd rfl (fun h => ?_) (fun h => ?_))
    | (show AT _ _ _ _; refine x_then_ret ?_))
  all_goals refine x_ret1 Tryd.results8 (res_tmp rfl) (fun w c => ⟨_, _, rfl, ⟨?_, rfl⟩, c.sub (List.nil_sublist _)⟩)
  all_goals simp_all
end Go.Proofs.YtljgmmmgnfgbhaaDoor
