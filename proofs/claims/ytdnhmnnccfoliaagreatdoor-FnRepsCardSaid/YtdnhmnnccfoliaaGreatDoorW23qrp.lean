/- The law FnReps returns true for all arguments, and its arguments read behind the call as they read before; there are no conditions. -/
import Derived.Test.YtdnhmnnccfoliaaGreatDoorCards
import Derived.Test.YtdnhmnnccfoliaaGreatDoorTie
import Derived.LaidMore
import Derived.Lay
import Derived.SevenTiedAt
import Derived.Stop.Joined
import Derived.OpenShut
import Derived.ShutString
import Derived.Below
import Derived.Test.YtdnhmnnccfoliaaGreatDoorEqgqrp
import Derived.Test.YtdnhmnnccfoliaaGreatDoorFinqrp
import Derived.Test.YtdnhmnnccfoliaaGreatDoorLBqrp
import Derived.Test.YtdnhmnnccfoliaaGreatDoorLwsqrp
import Derived.Test.YtdnhmnnccfoliaaGreatDoorOpnqrp
import Derived.Test.YtdnhmnnccfoliaaGreatDoorPrdqrp
import Derived.Test.YtdnhmnnccfoliaaGreatDoorPriqrp
import Derived.Test.YtdnhmnnccfoliaaGreatDoorRdrqrp
import Derived.Test.YtdnhmnnccfoliaaGreatDoorReeqrp
import Derived.Test.YtdnhmnnccfoliaaGreatDoorRemqrp
import Derived.Test.YtdnhmnnccfoliaaGreatDoorSupqrp
namespace Go.Proofs.YtdnhmnnccfoliaaGreatDoor.wFnReps
open Go.Lg Go.Proofs Go.RowKit Go.ChangeShapes Go.WideShapes Go.ChangeAt
attribute [local irreducible] Code.wp wpList bodyPost Exit.then Exit.inBlock Hp Again Calls Y AT ResV QT
set_option maxRecDepth 20000
set_option maxHeartbeats 4000000
set_option maxRecDepth 20000
set_option maxHeartbeats 40000000
set_option linter.unusedVariables false

theorem law_ok (w : World) {x0 : List Int} {u0 : Value} (h0 : Rd w (byT x0) u0) (g0 : Byt x0) (hG : Glb w) : Does Tryz.prog 5 [u0] w (fun r H => r = .bool true ∧ H = []) := by
  by_cases hbig : (x0.length : Int) > 1048576
  · obtain ⟨a, c, rfl⟩ := bytes_sl h0
    refine fn_enter Tryz.func5 rfl Tryz.ntmps5 rfl ?_
    repeat' (first | (show oL; first | refine sMv rfl rfl ?_ | refine sAs rfl rfl ?_ | (show oA (.call _); (refine m_call (ent_of Tryz.func15 kr rfl) rfl rfl (fun w c => big_yes hbig) ?_; rintro v H' ⟨rfl, rfl⟩))) | refine xNt ?_ | (show oC; first | refine c_seq ?_ | refine c_region ?_ | refine c_ret ?_ | refine c_true rfl ?_) | (show AT _ _ _ _; refine x_then_ret ?_))
    exact x_ret1 Tryz.results5 (res_tmp rfl) (fun w' c' => ⟨_, _, rfl, ⟨rfl, rfl⟩, c'⟩)
  have hc := codeF_of h0 g0 om
  have tok0 : True := trivial
  have tok1 : True := trivial
  have tok2 : True := trivial
  have tok3 : True := trivial
  have tok4 : True := trivial
  refine fn_enter Tryz.func5 rfl Tryz.ntmps5 rfl ?_
  repeat' (first | (show oL; first | refine sMv rfl rfl ?_ | refine sAs rfl rfl ?_ | refine sFd tabs rfl rfl rfl rfl ?_ | (show oA (.load _ _); first | refine sLb 0 tabs rfl rfl rfl rfl rfl ?_ | refine st_y (y_load3 tabs rfl rfl (hc_blk 0 rfl rfl) (hc_blk 0 rfl rfl) (hc_blk 0 rfl rfl)) rfl ?_ | refine sLd 0 tabs rfl rfl rfl rfl rfl ?_ | refine sLb 0 tabs rfl rfl rfl rfl rfl ?_ | refine sLb 5 tabs rfl rfl rfl rfl rfl ?_) | (show oA (.call _); first | (refine m_call (ent_of Tryz.func15 kr rfl) rfl rfl (fun w c => big_ok (hp_code c hc)) ?_; rintro v H' ⟨rfl, rfl⟩) | (refine m_call (ent_of Tryz.func48 kr rfl) rfl rfl (fun w c => DrawFormatRep_ok (hp_code c hc)) ?_; rintro v H' ⟨r, hr, x0, x0', x1, x1', x2, x2', x3, x3', rfl, sx0, sx1, sx2, sx3, rfl⟩; refine AT.base (fun w1 c1 => ?_); have hR := rr_own 0 c1 rfl rfl rfl rfl; have hc1 := hp_code c1 hc; have hG1 := hG.mono c1; have hfl := fmtR_len r) | (refine m_call (ent_of Tryz.func49 kr rfl) rfl rfl (fun w c => impl_FormatRep_ok (r := r) (c.rd hR.r0) (c.rd hR.r1) (c.rd hR.r2) (c.rd hR.r3)) ?_; rintro v H' ⟨rfl, rfl⟩) | (refine m_call (ent_of Tryz.func9 kr rfl) rfl rfl (fun w c => impl_ParseRep_ok (p := r.p) (q := r.q) (s := fmtR r) (hG1.mono c) om (c.rd hR.r0) (c.rd hR.r1)) ?_; rw [parR_dec]; rintro v H' ⟨y0, y0', y1, y1', y2, y2', y3, y3', rfl, sy0, sy1, sy2, sy3, rfl⟩) | (refine m_call (ent_of Tryz.func50 kr rfl) rfl rfl (fun w c => DrawParseRep_ok (hp_code c hc1)) ?_; rintro v H' ⟨p, q, aq, cq, aq', cq', s, rfl, ⟨hsl, _, _⟩, rfl⟩) | (refine m_call (ent_of Tryz.func9 kr rfl) rfl rfl (fun w c => impl_ParseRep_ok (p := p) (q := q) (s := s) (hG1.mono c) om (c.own_rd (i := 2) rfl) (c.own_rd (i := 1) rfl)) ?_; rintro v H' ⟨z0, z0', z1, z1', z2, z2', z3, z3', rfl, sz0, sz1, sz2, sz3, rfl⟩) | (refine m_call (ent_of Tryz.func7 kr rfl) rfl rfl (fun w c => spec_ParseRep_ok (p := p) (q := q) (s := s) om (c.own_rd (i := 7) rfl) (c.own_rd (i := 6) rfl)) ?_; rintro v H' ⟨t0, t0', t1, t1', t2, t2', t3, t3', rfl, st0, st1, st2, st3, rfl⟩)) | (show oA (.extract _ _); refine st_y (y_ext rfl rfl) rfl ?_) | (show oA (.store _ _ _); refine m_storeb 0 tabs rfl rfl rfl rfl rfl rfl rfl ?_) | (show oA (.alloc _); first | (have _t := tok0; refine m_alloc tabs rfl rfl (fun b3 hb3 => ?_); clear _t tok0) | (have _t := tok1; refine m_alloc tabs rfl rfl (fun b5 hb5 => ?_); clear _t tok1) | (have _t := tok2; refine m_alloc tabs rfl rfl (fun b8 hb8 => ?_); clear _t tok2) | (have _t := tok3; refine m_alloc tabs rfl rfl (fun b10 hb10 => ?_); clear _t tok3) | (have _t := tok4; refine m_alloc tabs rfl rfl (fun b12 hb12 => ?_); clear _t tok4))) | refine xNt ?_ | (show oC; first | refine c_seq ?_ | refine c_region ?_ | refine c_skip (x_then ?_) | refine c_false rfl ?_))
  refine AT.base (fun w2 c2 => ?_)
  have hR2 := hp_rr c2 hR
  have hY := rr_own 14 c2 rfl rfl rfl rfl
  have k3 := c2.box (i := 18) rfl
  have k5 := c2.box (i := 13) rfl
  have hc2 := hp_code c2 hc1
  refine c_cutr 9 [(0, u0), (3, .pointer (some ⟨b3, 0, none⟩)), (126, .bool false)] (Hp [] w2 []) ?_ ?_
  · refine hold ?_
    by_cases hP : RepP r
    · rw [parRL_same hP] at hY k5
      rw [decide_eq_true hP]
      refine c_all (Hp [] w2 []) kr (fun _ c => Hp.drew c) ?_
      refine h_take 0 rfl kr kr kr (by exact y_move rfl) rfl (fun _ c => c) ?_
      refine h_take 1 rfl kr kr kr (by exact y_loadz tabs rfl rfl aS rfl) rfl (fun _ c => c) ?_
      refine h_only 2 rfl kr ?_
      first | (refine m_call (ent_of Tryz.func51 kr rfl) rfl rfl (fun w c => spec_FormatRep_ok (r := r) (c.rd hR2.r0) (c.rd hR2.r1) (c.rd hR2.r2) (c.rd hR2.r3)) ?_; rintro v H' ⟨rfl, rfl⟩) | (refine m_call (ent_of Tryz.func52 kr rfl) rfl rfl (fun w c => impl_IsRep_ok (r := r) (c.rd hR2.r0) (c.rd hR2.r1) (c.rd hR2.r2) (c.rd hR2.r3)) ?_; rw [decide_eq_true hP]; rintro v H' ⟨rfl, rfl⟩) | (refine m_call (ent_of Tryz.func53 kr rfl) rfl rfl (fun w c => spec_IsRep_ok (r := r) (c.rd hR2.r0) (c.rd hR2.r1) (c.rd hR2.r2) (c.rd hR2.r3)) ?_; rw [decide_eq_true hP]; rintro v H' ⟨rfl, rfl⟩) | (refine m_call (ent_of Tryz.func54 kr rfl) rfl rfl (fun w c => eqr_same (r := r) (c.rd hY.r0) (c.rd hY.r1) (c.rd hY.r2) (c.rd hY.r3) (c.rd hR2.r0) (c.rd hR2.r1) (c.rd hR2.r2) (c.rd hR2.r3)) ?_; rintro v H' ⟨rfl, rfl⟩) | (refine m_call (ent_of Tryz.func55 kr rfl) rfl rfl (fun w c => impl_TotalOf_ok (r := r) (c.rd hR2.r0) (c.rd hR2.r1) (c.rd hR2.r2) (c.rd hR2.r3)) ?_; rintro v H' ⟨rfl, rfl⟩) | (refine m_call (ent_of Tryz.func56 kr rfl) rfl rfl (fun w c => spec_TotalOf_ok (r := r) (c.rd hR2.r0) (c.rd hR2.r1) (c.rd hR2.r2) (c.rd hR2.r3)) ?_; rintro v H' ⟨rfl, rfl⟩) | (refine m_call (ent_of Tryz.func57 kr rfl) rfl rfl (fun w c => impl_RanksOf_ok (r := r) (c.rd hR2.r0) (c.rd hR2.r1) (c.rd hR2.r2) (c.rd hR2.r3)) ?_; rintro v H' ⟨ai, ci, rfl, hsi, rfl⟩) | (refine m_call (ent_of Tryz.func58 kr rfl) rfl rfl (fun w c => spec_RanksOf_ok (r := r) (c.rd hR2.r0) (c.rd hR2.r1) (c.rd hR2.r2) (c.rd hR2.r3)) ?_; rintro v H' ⟨aj, cj, rfl, hsj, rfl⟩) | (refine m_call (ent_of Tryz.func46 kr rfl) rfl rfl (fun w c => sameInts_at (c.own_rd (i := 1) rfl) (c.own_rd (i := 0) rfl)) ?_; rintro v H' ⟨rfl, rfl⟩)
      refine c_nil (x_one (h_keep (fun _ c => c) ?_))
      refine h_take 3 rfl kr kr kr (by exact y_neqsf rfl rfl) rfl (fun _ c => c) ?_
      refine h_take 4 rfl kr kr kr (by exact y_move rfl) rfl (fun _ c => c) ?_
      refine h_takey 5 rfl kr kr kr rfl rfl (by exact y_loadz tabs rfl rfl aS rfl) rfl (fun _ c => c) ?_
      refine h_takey 7 rfl kr kr kr rfl rfl (by exact y_loadz tabs rfl rfl aS rfl) rfl (fun _ c => c) ?_
      refine h_only 6 rfl kr (st_gy rfl rfl ?_)
      first | (refine m_call (ent_of Tryz.func51 kr rfl) rfl rfl (fun w c => spec_FormatRep_ok (r := r) (c.rd hR2.r0) (c.rd hR2.r1) (c.rd hR2.r2) (c.rd hR2.r3)) ?_; rintro v H' ⟨rfl, rfl⟩) | (refine m_call (ent_of Tryz.func52 kr rfl) rfl rfl (fun w c => impl_IsRep_ok (r := r) (c.rd hR2.r0) (c.rd hR2.r1) (c.rd hR2.r2) (c.rd hR2.r3)) ?_; rw [decide_eq_true hP]; rintro v H' ⟨rfl, rfl⟩) | (refine m_call (ent_of Tryz.func53 kr rfl) rfl rfl (fun w c => spec_IsRep_ok (r := r) (c.rd hR2.r0) (c.rd hR2.r1) (c.rd hR2.r2) (c.rd hR2.r3)) ?_; rw [decide_eq_true hP]; rintro v H' ⟨rfl, rfl⟩) | (refine m_call (ent_of Tryz.func54 kr rfl) rfl rfl (fun w c => eqr_same (r := r) (c.rd hY.r0) (c.rd hY.r1) (c.rd hY.r2) (c.rd hY.r3) (c.rd hR2.r0) (c.rd hR2.r1) (c.rd hR2.r2) (c.rd hR2.r3)) ?_; rintro v H' ⟨rfl, rfl⟩) | (refine m_call (ent_of Tryz.func55 kr rfl) rfl rfl (fun w c => impl_TotalOf_ok (r := r) (c.rd hR2.r0) (c.rd hR2.r1) (c.rd hR2.r2) (c.rd hR2.r3)) ?_; rintro v H' ⟨rfl, rfl⟩) | (refine m_call (ent_of Tryz.func56 kr rfl) rfl rfl (fun w c => spec_TotalOf_ok (r := r) (c.rd hR2.r0) (c.rd hR2.r1) (c.rd hR2.r2) (c.rd hR2.r3)) ?_; rintro v H' ⟨rfl, rfl⟩) | (refine m_call (ent_of Tryz.func57 kr rfl) rfl rfl (fun w c => impl_RanksOf_ok (r := r) (c.rd hR2.r0) (c.rd hR2.r1) (c.rd hR2.r2) (c.rd hR2.r3)) ?_; rintro v H' ⟨ai, ci, rfl, hsi, rfl⟩) | (refine m_call (ent_of Tryz.func58 kr rfl) rfl rfl (fun w c => spec_RanksOf_ok (r := r) (c.rd hR2.r0) (c.rd hR2.r1) (c.rd hR2.r2) (c.rd hR2.r3)) ?_; rintro v H' ⟨aj, cj, rfl, hsj, rfl⟩) | (refine m_call (ent_of Tryz.func46 kr rfl) rfl rfl (fun w c => sameInts_at (c.own_rd (i := 1) rfl) (c.own_rd (i := 0) rfl)) ?_; rintro v H' ⟨rfl, rfl⟩)
      refine c_nil (x_one (h_keep (fun _ c => c) ?_))
      refine h_only 8 rfl kr (st_gy rfl rfl ?_)
      first | (refine m_call (ent_of Tryz.func51 kr rfl) rfl rfl (fun w c => spec_FormatRep_ok (r := r) (c.rd hR2.r0) (c.rd hR2.r1) (c.rd hR2.r2) (c.rd hR2.r3)) ?_; rintro v H' ⟨rfl, rfl⟩) | (refine m_call (ent_of Tryz.func52 kr rfl) rfl rfl (fun w c => impl_IsRep_ok (r := r) (c.rd hR2.r0) (c.rd hR2.r1) (c.rd hR2.r2) (c.rd hR2.r3)) ?_; rw [decide_eq_true hP]; rintro v H' ⟨rfl, rfl⟩) | (refine m_call (ent_of Tryz.func53 kr rfl) rfl rfl (fun w c => spec_IsRep_ok (r := r) (c.rd hR2.r0) (c.rd hR2.r1) (c.rd hR2.r2) (c.rd hR2.r3)) ?_; rw [decide_eq_true hP]; rintro v H' ⟨rfl, rfl⟩) | (refine m_call (ent_of Tryz.func54 kr rfl) rfl rfl (fun w c => eqr_same (r := r) (c.rd hY.r0) (c.rd hY.r1) (c.rd hY.r2) (c.rd hY.r3) (c.rd hR2.r0) (c.rd hR2.r1) (c.rd hR2.r2) (c.rd hR2.r3)) ?_; rintro v H' ⟨rfl, rfl⟩) | (refine m_call (ent_of Tryz.func55 kr rfl) rfl rfl (fun w c => impl_TotalOf_ok (r := r) (c.rd hR2.r0) (c.rd hR2.r1) (c.rd hR2.r2) (c.rd hR2.r3)) ?_; rintro v H' ⟨rfl, rfl⟩) | (refine m_call (ent_of Tryz.func56 kr rfl) rfl rfl (fun w c => spec_TotalOf_ok (r := r) (c.rd hR2.r0) (c.rd hR2.r1) (c.rd hR2.r2) (c.rd hR2.r3)) ?_; rintro v H' ⟨rfl, rfl⟩) | (refine m_call (ent_of Tryz.func57 kr rfl) rfl rfl (fun w c => impl_RanksOf_ok (r := r) (c.rd hR2.r0) (c.rd hR2.r1) (c.rd hR2.r2) (c.rd hR2.r3)) ?_; rintro v H' ⟨ai, ci, rfl, hsi, rfl⟩) | (refine m_call (ent_of Tryz.func58 kr rfl) rfl rfl (fun w c => spec_RanksOf_ok (r := r) (c.rd hR2.r0) (c.rd hR2.r1) (c.rd hR2.r2) (c.rd hR2.r3)) ?_; rintro v H' ⟨aj, cj, rfl, hsj, rfl⟩) | (refine m_call (ent_of Tryz.func46 kr rfl) rfl rfl (fun w c => sameInts_at (c.own_rd (i := 1) rfl) (c.own_rd (i := 0) rfl)) ?_; rintro v H' ⟨rfl, rfl⟩)
      refine c_nil (x_one (h_keep (fun _ c => c) ?_))
      refine h_takey 9 rfl kr kr kr rfl rfl (by exact y_neqb_same Tryz.underlying4 rfl rfl) rfl (fun _ c => c) ?_
      refine h_take 10 rfl kr kr kr (by exact y_pick rfl rfl rfl) rfl (fun _ c => c) ?_
      refine h_take 11 rfl kr kr kr (by exact y_move rfl) rfl (fun _ c => c) ?_
      refine h_takey 12 rfl kr kr kr rfl rfl (by exact y_move rfl) rfl (fun _ c => c) ?_
      refine h_takey 13 rfl kr kr kr rfl rfl (by exact y_loadz tabs rfl rfl aS rfl) rfl (fun _ c => c) ?_
      refine h_only 14 rfl kr (st_gy rfl rfl ?_)
      first | (refine m_call (ent_of Tryz.func51 kr rfl) rfl rfl (fun w c => spec_FormatRep_ok (r := r) (c.rd hR2.r0) (c.rd hR2.r1) (c.rd hR2.r2) (c.rd hR2.r3)) ?_; rintro v H' ⟨rfl, rfl⟩) | (refine m_call (ent_of Tryz.func52 kr rfl) rfl rfl (fun w c => impl_IsRep_ok (r := r) (c.rd hR2.r0) (c.rd hR2.r1) (c.rd hR2.r2) (c.rd hR2.r3)) ?_; rw [decide_eq_true hP]; rintro v H' ⟨rfl, rfl⟩) | (refine m_call (ent_of Tryz.func53 kr rfl) rfl rfl (fun w c => spec_IsRep_ok (r := r) (c.rd hR2.r0) (c.rd hR2.r1) (c.rd hR2.r2) (c.rd hR2.r3)) ?_; rw [decide_eq_true hP]; rintro v H' ⟨rfl, rfl⟩) | (refine m_call (ent_of Tryz.func54 kr rfl) rfl rfl (fun w c => eqr_same (r := r) (c.rd hY.r0) (c.rd hY.r1) (c.rd hY.r2) (c.rd hY.r3) (c.rd hR2.r0) (c.rd hR2.r1) (c.rd hR2.r2) (c.rd hR2.r3)) ?_; rintro v H' ⟨rfl, rfl⟩) | (refine m_call (ent_of Tryz.func55 kr rfl) rfl rfl (fun w c => impl_TotalOf_ok (r := r) (c.rd hR2.r0) (c.rd hR2.r1) (c.rd hR2.r2) (c.rd hR2.r3)) ?_; rintro v H' ⟨rfl, rfl⟩) | (refine m_call (ent_of Tryz.func56 kr rfl) rfl rfl (fun w c => spec_TotalOf_ok (r := r) (c.rd hR2.r0) (c.rd hR2.r1) (c.rd hR2.r2) (c.rd hR2.r3)) ?_; rintro v H' ⟨rfl, rfl⟩) | (refine m_call (ent_of Tryz.func57 kr rfl) rfl rfl (fun w c => impl_RanksOf_ok (r := r) (c.rd hR2.r0) (c.rd hR2.r1) (c.rd hR2.r2) (c.rd hR2.r3)) ?_; rintro v H' ⟨ai, ci, rfl, hsi, rfl⟩) | (refine m_call (ent_of Tryz.func58 kr rfl) rfl rfl (fun w c => spec_RanksOf_ok (r := r) (c.rd hR2.r0) (c.rd hR2.r1) (c.rd hR2.r2) (c.rd hR2.r3)) ?_; rintro v H' ⟨aj, cj, rfl, hsj, rfl⟩) | (refine m_call (ent_of Tryz.func46 kr rfl) rfl rfl (fun w c => sameInts_at (c.own_rd (i := 1) rfl) (c.own_rd (i := 0) rfl)) ?_; rintro v H' ⟨rfl, rfl⟩)
      refine c_nil (x_one (h_keep (fun _ c => c) ?_))
      refine h_takey 15 rfl kr kr kr rfl rfl (by exact y_neqb_same Tryz.underlying4 rfl rfl) rfl (fun _ c => c) ?_
      refine h_take 16 rfl kr kr kr (by exact y_pick rfl rfl rfl) rfl (fun _ c => c) ?_
      refine h_take 17 rfl kr kr kr (by exact y_move rfl) rfl (fun _ c => c) ?_
      refine h_takey 18 rfl kr kr kr rfl rfl (by exact y_move rfl) rfl (fun _ c => c) ?_
      refine h_takey 19 rfl kr kr kr rfl rfl (by exact y_move rfl) rfl (fun _ c => c) ?_
      refine h_takey 20 rfl kr kr kr rfl rfl (by exact y_loadz tabs rfl rfl aS rfl) rfl (fun _ c => c) ?_
      refine h_takey 21 rfl kr kr kr rfl rfl (by exact y_loadz tabs rfl rfl aS rfl) rfl (fun _ c => c) ?_
      refine h_only 22 rfl kr (st_gy rfl rfl ?_)
      first | (refine m_call (ent_of Tryz.func51 kr rfl) rfl rfl (fun w c => spec_FormatRep_ok (r := r) (c.rd hR2.r0) (c.rd hR2.r1) (c.rd hR2.r2) (c.rd hR2.r3)) ?_; rintro v H' ⟨rfl, rfl⟩) | (refine m_call (ent_of Tryz.func52 kr rfl) rfl rfl (fun w c => impl_IsRep_ok (r := r) (c.rd hR2.r0) (c.rd hR2.r1) (c.rd hR2.r2) (c.rd hR2.r3)) ?_; rw [decide_eq_true hP]; rintro v H' ⟨rfl, rfl⟩) | (refine m_call (ent_of Tryz.func53 kr rfl) rfl rfl (fun w c => spec_IsRep_ok (r := r) (c.rd hR2.r0) (c.rd hR2.r1) (c.rd hR2.r2) (c.rd hR2.r3)) ?_; rw [decide_eq_true hP]; rintro v H' ⟨rfl, rfl⟩) | (refine m_call (ent_of Tryz.func54 kr rfl) rfl rfl (fun w c => eqr_same (r := r) (c.rd hY.r0) (c.rd hY.r1) (c.rd hY.r2) (c.rd hY.r3) (c.rd hR2.r0) (c.rd hR2.r1) (c.rd hR2.r2) (c.rd hR2.r3)) ?_; rintro v H' ⟨rfl, rfl⟩) | (refine m_call (ent_of Tryz.func55 kr rfl) rfl rfl (fun w c => impl_TotalOf_ok (r := r) (c.rd hR2.r0) (c.rd hR2.r1) (c.rd hR2.r2) (c.rd hR2.r3)) ?_; rintro v H' ⟨rfl, rfl⟩) | (refine m_call (ent_of Tryz.func56 kr rfl) rfl rfl (fun w c => spec_TotalOf_ok (r := r) (c.rd hR2.r0) (c.rd hR2.r1) (c.rd hR2.r2) (c.rd hR2.r3)) ?_; rintro v H' ⟨rfl, rfl⟩) | (refine m_call (ent_of Tryz.func57 kr rfl) rfl rfl (fun w c => impl_RanksOf_ok (r := r) (c.rd hR2.r0) (c.rd hR2.r1) (c.rd hR2.r2) (c.rd hR2.r3)) ?_; rintro v H' ⟨ai, ci, rfl, hsi, rfl⟩) | (refine m_call (ent_of Tryz.func58 kr rfl) rfl rfl (fun w c => spec_RanksOf_ok (r := r) (c.rd hR2.r0) (c.rd hR2.r1) (c.rd hR2.r2) (c.rd hR2.r3)) ?_; rintro v H' ⟨aj, cj, rfl, hsj, rfl⟩) | (refine m_call (ent_of Tryz.func46 kr rfl) rfl rfl (fun w c => sameInts_at (c.own_rd (i := 1) rfl) (c.own_rd (i := 0) rfl)) ?_; rintro v H' ⟨rfl, rfl⟩)
      refine c_nil (x_one (h_keep (fun _ c => c) ?_))
      refine h_takey 23 rfl kr kr kr rfl rfl (by exact y_not rfl) rfl (fun _ c => c) ?_
      refine h_takey 24 rfl kr kr kr rfl rfl (by exact y_pick rfl rfl rfl) rfl (fun _ c => c) ?_
      refine h_take 25 rfl kr kr kr (by exact y_pick rfl rfl rfl) rfl (fun _ c => c) ?_
      refine h_take 26 rfl kr kr kr (by exact y_move rfl) rfl (fun _ c => c) ?_
      refine h_takey 27 rfl kr kr kr rfl rfl (by exact y_move rfl) rfl (fun _ c => c) ?_
      refine h_takey 28 rfl kr kr kr rfl rfl (by exact y_move rfl) rfl (fun _ c => c) ?_
      refine h_takey 29 rfl kr kr kr rfl rfl (by exact y_neqb_same Tryz.underlying4 rfl rfl) rfl (fun _ c => c) ?_
      refine h_take 30 rfl kr kr kr (by exact y_pick rfl rfl rfl) rfl (fun _ c => c) ?_
      refine h_take 31 rfl kr kr kr (by exact y_move rfl) rfl (fun _ c => c) ?_
      refine h_takey 32 rfl kr kr kr rfl rfl (by exact y_loadz tabs rfl rfl aS rfl) rfl (fun _ c => c) ?_
      refine h_takey 34 rfl kr kr kr rfl rfl (by exact y_loadz tabs rfl rfl aS rfl) rfl (fun _ c => c) ?_
      refine h_only 33 rfl kr (st_gy rfl rfl ?_)
      first | (refine m_call (ent_of Tryz.func51 kr rfl) rfl rfl (fun w c => spec_FormatRep_ok (r := r) (c.rd hR2.r0) (c.rd hR2.r1) (c.rd hR2.r2) (c.rd hR2.r3)) ?_; rintro v H' ⟨rfl, rfl⟩) | (refine m_call (ent_of Tryz.func52 kr rfl) rfl rfl (fun w c => impl_IsRep_ok (r := r) (c.rd hR2.r0) (c.rd hR2.r1) (c.rd hR2.r2) (c.rd hR2.r3)) ?_; rw [decide_eq_true hP]; rintro v H' ⟨rfl, rfl⟩) | (refine m_call (ent_of Tryz.func53 kr rfl) rfl rfl (fun w c => spec_IsRep_ok (r := r) (c.rd hR2.r0) (c.rd hR2.r1) (c.rd hR2.r2) (c.rd hR2.r3)) ?_; rw [decide_eq_true hP]; rintro v H' ⟨rfl, rfl⟩) | (refine m_call (ent_of Tryz.func54 kr rfl) rfl rfl (fun w c => eqr_same (r := r) (c.rd hY.r0) (c.rd hY.r1) (c.rd hY.r2) (c.rd hY.r3) (c.rd hR2.r0) (c.rd hR2.r1) (c.rd hR2.r2) (c.rd hR2.r3)) ?_; rintro v H' ⟨rfl, rfl⟩) | (refine m_call (ent_of Tryz.func55 kr rfl) rfl rfl (fun w c => impl_TotalOf_ok (r := r) (c.rd hR2.r0) (c.rd hR2.r1) (c.rd hR2.r2) (c.rd hR2.r3)) ?_; rintro v H' ⟨rfl, rfl⟩) | (refine m_call (ent_of Tryz.func56 kr rfl) rfl rfl (fun w c => spec_TotalOf_ok (r := r) (c.rd hR2.r0) (c.rd hR2.r1) (c.rd hR2.r2) (c.rd hR2.r3)) ?_; rintro v H' ⟨rfl, rfl⟩) | (refine m_call (ent_of Tryz.func57 kr rfl) rfl rfl (fun w c => impl_RanksOf_ok (r := r) (c.rd hR2.r0) (c.rd hR2.r1) (c.rd hR2.r2) (c.rd hR2.r3)) ?_; rintro v H' ⟨ai, ci, rfl, hsi, rfl⟩) | (refine m_call (ent_of Tryz.func58 kr rfl) rfl rfl (fun w c => spec_RanksOf_ok (r := r) (c.rd hR2.r0) (c.rd hR2.r1) (c.rd hR2.r2) (c.rd hR2.r3)) ?_; rintro v H' ⟨aj, cj, rfl, hsj, rfl⟩) | (refine m_call (ent_of Tryz.func46 kr rfl) rfl rfl (fun w c => sameInts_at (c.own_rd (i := 1) rfl) (c.own_rd (i := 0) rfl)) ?_; rintro v H' ⟨rfl, rfl⟩)
      refine c_nil (x_one (h_keep (fun _ c => c) ?_))
      refine h_only 35 rfl kr (st_gy rfl rfl ?_)
      first | (refine m_call (ent_of Tryz.func51 kr rfl) rfl rfl (fun w c => spec_FormatRep_ok (r := r) (c.rd hR2.r0) (c.rd hR2.r1) (c.rd hR2.r2) (c.rd hR2.r3)) ?_; rintro v H' ⟨rfl, rfl⟩) | (refine m_call (ent_of Tryz.func52 kr rfl) rfl rfl (fun w c => impl_IsRep_ok (r := r) (c.rd hR2.r0) (c.rd hR2.r1) (c.rd hR2.r2) (c.rd hR2.r3)) ?_; rw [decide_eq_true hP]; rintro v H' ⟨rfl, rfl⟩) | (refine m_call (ent_of Tryz.func53 kr rfl) rfl rfl (fun w c => spec_IsRep_ok (r := r) (c.rd hR2.r0) (c.rd hR2.r1) (c.rd hR2.r2) (c.rd hR2.r3)) ?_; rw [decide_eq_true hP]; rintro v H' ⟨rfl, rfl⟩) | (refine m_call (ent_of Tryz.func54 kr rfl) rfl rfl (fun w c => eqr_same (r := r) (c.rd hY.r0) (c.rd hY.r1) (c.rd hY.r2) (c.rd hY.r3) (c.rd hR2.r0) (c.rd hR2.r1) (c.rd hR2.r2) (c.rd hR2.r3)) ?_; rintro v H' ⟨rfl, rfl⟩) | (refine m_call (ent_of Tryz.func55 kr rfl) rfl rfl (fun w c => impl_TotalOf_ok (r := r) (c.rd hR2.r0) (c.rd hR2.r1) (c.rd hR2.r2) (c.rd hR2.r3)) ?_; rintro v H' ⟨rfl, rfl⟩) | (refine m_call (ent_of Tryz.func56 kr rfl) rfl rfl (fun w c => spec_TotalOf_ok (r := r) (c.rd hR2.r0) (c.rd hR2.r1) (c.rd hR2.r2) (c.rd hR2.r3)) ?_; rintro v H' ⟨rfl, rfl⟩) | (refine m_call (ent_of Tryz.func57 kr rfl) rfl rfl (fun w c => impl_RanksOf_ok (r := r) (c.rd hR2.r0) (c.rd hR2.r1) (c.rd hR2.r2) (c.rd hR2.r3)) ?_; rintro v H' ⟨ai, ci, rfl, hsi, rfl⟩) | (refine m_call (ent_of Tryz.func58 kr rfl) rfl rfl (fun w c => spec_RanksOf_ok (r := r) (c.rd hR2.r0) (c.rd hR2.r1) (c.rd hR2.r2) (c.rd hR2.r3)) ?_; rintro v H' ⟨aj, cj, rfl, hsj, rfl⟩) | (refine m_call (ent_of Tryz.func46 kr rfl) rfl rfl (fun w c => sameInts_at (c.own_rd (i := 1) rfl) (c.own_rd (i := 0) rfl)) ?_; rintro v H' ⟨rfl, rfl⟩)
      refine c_nil (x_one (h_keep (fun _ c => c) ?_))
      refine h_takey 36 rfl kr kr kr rfl rfl (by exact y_neqi_eq rfl rfl rfl) rfl (fun _ c => c) ?_
      refine h_take 37 rfl kr kr kr (by exact y_pick rfl rfl rfl) rfl (fun _ c => c) ?_
      refine h_take 38 rfl kr kr kr (by exact y_move rfl) rfl (fun _ c => c) ?_
      refine h_takey 39 rfl kr kr kr rfl rfl (by exact y_loadz tabs rfl rfl aS rfl) rfl (fun _ c => c) ?_
      refine h_takey 41 rfl kr kr kr rfl rfl (by exact y_loadz tabs rfl rfl aS rfl) rfl (fun _ c => c) ?_
      refine h_only 40 rfl kr (st_gy rfl rfl ?_)
      first | (refine m_call (ent_of Tryz.func51 kr rfl) rfl rfl (fun w c => spec_FormatRep_ok (r := r) (c.rd hR2.r0) (c.rd hR2.r1) (c.rd hR2.r2) (c.rd hR2.r3)) ?_; rintro v H' ⟨rfl, rfl⟩) | (refine m_call (ent_of Tryz.func52 kr rfl) rfl rfl (fun w c => impl_IsRep_ok (r := r) (c.rd hR2.r0) (c.rd hR2.r1) (c.rd hR2.r2) (c.rd hR2.r3)) ?_; rw [decide_eq_true hP]; rintro v H' ⟨rfl, rfl⟩) | (refine m_call (ent_of Tryz.func53 kr rfl) rfl rfl (fun w c => spec_IsRep_ok (r := r) (c.rd hR2.r0) (c.rd hR2.r1) (c.rd hR2.r2) (c.rd hR2.r3)) ?_; rw [decide_eq_true hP]; rintro v H' ⟨rfl, rfl⟩) | (refine m_call (ent_of Tryz.func54 kr rfl) rfl rfl (fun w c => eqr_same (r := r) (c.rd hY.r0) (c.rd hY.r1) (c.rd hY.r2) (c.rd hY.r3) (c.rd hR2.r0) (c.rd hR2.r1) (c.rd hR2.r2) (c.rd hR2.r3)) ?_; rintro v H' ⟨rfl, rfl⟩) | (refine m_call (ent_of Tryz.func55 kr rfl) rfl rfl (fun w c => impl_TotalOf_ok (r := r) (c.rd hR2.r0) (c.rd hR2.r1) (c.rd hR2.r2) (c.rd hR2.r3)) ?_; rintro v H' ⟨rfl, rfl⟩) | (refine m_call (ent_of Tryz.func56 kr rfl) rfl rfl (fun w c => spec_TotalOf_ok (r := r) (c.rd hR2.r0) (c.rd hR2.r1) (c.rd hR2.r2) (c.rd hR2.r3)) ?_; rintro v H' ⟨rfl, rfl⟩) | (refine m_call (ent_of Tryz.func57 kr rfl) rfl rfl (fun w c => impl_RanksOf_ok (r := r) (c.rd hR2.r0) (c.rd hR2.r1) (c.rd hR2.r2) (c.rd hR2.r3)) ?_; rintro v H' ⟨ai, ci, rfl, hsi, rfl⟩) | (refine m_call (ent_of Tryz.func58 kr rfl) rfl rfl (fun w c => spec_RanksOf_ok (r := r) (c.rd hR2.r0) (c.rd hR2.r1) (c.rd hR2.r2) (c.rd hR2.r3)) ?_; rintro v H' ⟨aj, cj, rfl, hsj, rfl⟩) | (refine m_call (ent_of Tryz.func46 kr rfl) rfl rfl (fun w c => sameInts_at (c.own_rd (i := 1) rfl) (c.own_rd (i := 0) rfl)) ?_; rintro v H' ⟨rfl, rfl⟩)
      refine c_nil (x_one (h_keep (fun w c => by exact c.drop) ?_))
      refine h_only 42 rfl kr (st_gy rfl rfl ?_)
      first | (refine m_call (ent_of Tryz.func51 kr rfl) rfl rfl (fun w c => spec_FormatRep_ok (r := r) (c.rd hR2.r0) (c.rd hR2.r1) (c.rd hR2.r2) (c.rd hR2.r3)) ?_; rintro v H' ⟨rfl, rfl⟩) | (refine m_call (ent_of Tryz.func52 kr rfl) rfl rfl (fun w c => impl_IsRep_ok (r := r) (c.rd hR2.r0) (c.rd hR2.r1) (c.rd hR2.r2) (c.rd hR2.r3)) ?_; rw [decide_eq_true hP]; rintro v H' ⟨rfl, rfl⟩) | (refine m_call (ent_of Tryz.func53 kr rfl) rfl rfl (fun w c => spec_IsRep_ok (r := r) (c.rd hR2.r0) (c.rd hR2.r1) (c.rd hR2.r2) (c.rd hR2.r3)) ?_; rw [decide_eq_true hP]; rintro v H' ⟨rfl, rfl⟩) | (refine m_call (ent_of Tryz.func54 kr rfl) rfl rfl (fun w c => eqr_same (r := r) (c.rd hY.r0) (c.rd hY.r1) (c.rd hY.r2) (c.rd hY.r3) (c.rd hR2.r0) (c.rd hR2.r1) (c.rd hR2.r2) (c.rd hR2.r3)) ?_; rintro v H' ⟨rfl, rfl⟩) | (refine m_call (ent_of Tryz.func55 kr rfl) rfl rfl (fun w c => impl_TotalOf_ok (r := r) (c.rd hR2.r0) (c.rd hR2.r1) (c.rd hR2.r2) (c.rd hR2.r3)) ?_; rintro v H' ⟨rfl, rfl⟩) | (refine m_call (ent_of Tryz.func56 kr rfl) rfl rfl (fun w c => spec_TotalOf_ok (r := r) (c.rd hR2.r0) (c.rd hR2.r1) (c.rd hR2.r2) (c.rd hR2.r3)) ?_; rintro v H' ⟨rfl, rfl⟩) | (refine m_call (ent_of Tryz.func57 kr rfl) rfl rfl (fun w c => impl_RanksOf_ok (r := r) (c.rd hR2.r0) (c.rd hR2.r1) (c.rd hR2.r2) (c.rd hR2.r3)) ?_; rintro v H' ⟨ai, ci, rfl, hsi, rfl⟩) | (refine m_call (ent_of Tryz.func58 kr rfl) rfl rfl (fun w c => spec_RanksOf_ok (r := r) (c.rd hR2.r0) (c.rd hR2.r1) (c.rd hR2.r2) (c.rd hR2.r3)) ?_; rintro v H' ⟨aj, cj, rfl, hsj, rfl⟩) | (refine m_call (ent_of Tryz.func46 kr rfl) rfl rfl (fun w c => sameInts_at (c.own_rd (i := 1) rfl) (c.own_rd (i := 0) rfl)) ?_; rintro v H' ⟨rfl, rfl⟩)
      refine c_nil (x_one (h_keep (fun w c => by exact c.drop.drop) ?_))
      refine h_only 43 rfl kr (st_gy rfl rfl ?_)
      first | (refine m_call (ent_of Tryz.func51 kr rfl) rfl rfl (fun w c => spec_FormatRep_ok (r := r) (c.rd hR2.r0) (c.rd hR2.r1) (c.rd hR2.r2) (c.rd hR2.r3)) ?_; rintro v H' ⟨rfl, rfl⟩) | (refine m_call (ent_of Tryz.func52 kr rfl) rfl rfl (fun w c => impl_IsRep_ok (r := r) (c.rd hR2.r0) (c.rd hR2.r1) (c.rd hR2.r2) (c.rd hR2.r3)) ?_; rw [decide_eq_true hP]; rintro v H' ⟨rfl, rfl⟩) | (refine m_call (ent_of Tryz.func53 kr rfl) rfl rfl (fun w c => spec_IsRep_ok (r := r) (c.rd hR2.r0) (c.rd hR2.r1) (c.rd hR2.r2) (c.rd hR2.r3)) ?_; rw [decide_eq_true hP]; rintro v H' ⟨rfl, rfl⟩) | (refine m_call (ent_of Tryz.func54 kr rfl) rfl rfl (fun w c => eqr_same (r := r) (c.rd hY.r0) (c.rd hY.r1) (c.rd hY.r2) (c.rd hY.r3) (c.rd hR2.r0) (c.rd hR2.r1) (c.rd hR2.r2) (c.rd hR2.r3)) ?_; rintro v H' ⟨rfl, rfl⟩) | (refine m_call (ent_of Tryz.func55 kr rfl) rfl rfl (fun w c => impl_TotalOf_ok (r := r) (c.rd hR2.r0) (c.rd hR2.r1) (c.rd hR2.r2) (c.rd hR2.r3)) ?_; rintro v H' ⟨rfl, rfl⟩) | (refine m_call (ent_of Tryz.func56 kr rfl) rfl rfl (fun w c => spec_TotalOf_ok (r := r) (c.rd hR2.r0) (c.rd hR2.r1) (c.rd hR2.r2) (c.rd hR2.r3)) ?_; rintro v H' ⟨rfl, rfl⟩) | (refine m_call (ent_of Tryz.func57 kr rfl) rfl rfl (fun w c => impl_RanksOf_ok (r := r) (c.rd hR2.r0) (c.rd hR2.r1) (c.rd hR2.r2) (c.rd hR2.r3)) ?_; rintro v H' ⟨ai, ci, rfl, hsi, rfl⟩) | (refine m_call (ent_of Tryz.func58 kr rfl) rfl rfl (fun w c => spec_RanksOf_ok (r := r) (c.rd hR2.r0) (c.rd hR2.r1) (c.rd hR2.r2) (c.rd hR2.r3)) ?_; rintro v H' ⟨aj, cj, rfl, hsj, rfl⟩) | (refine m_call (ent_of Tryz.func46 kr rfl) rfl rfl (fun w c => sameInts_at (c.own_rd (i := 1) rfl) (c.own_rd (i := 0) rfl)) ?_; rintro v H' ⟨rfl, rfl⟩)
      refine c_nil (x_one (h_keep (fun w c => by exact c.drop.drop) ?_))
      refine h_takey 44 rfl kr kr kr rfl rfl (by exact y_not rfl) rfl (fun w c => by exact c.drop.drop) ?_
      refine h_take 45 rfl kr kr kr (by exact y_pick rfl rfl rfl) rfl (fun w c => by exact c.drop.drop) ?_
      refine h_end kr ?_
      skip
      exact x_mid sB (fun w' c' => c'.sub (List.nil_sublist _))
    · rw [decide_eq_false hP]
      refine c_all (Hp [] w2 []) kr (fun _ c => Hp.drew c) ?_
      refine h_take 0 rfl kr kr kr (by exact y_move rfl) rfl (fun _ c => c) ?_
      refine h_take 1 rfl kr kr kr (by exact y_loadz tabs rfl rfl aS rfl) rfl (fun _ c => c) ?_
      refine h_only 2 rfl kr ?_
      first | (refine m_call (ent_of Tryz.func51 kr rfl) rfl rfl (fun w c => spec_FormatRep_ok (r := r) (c.rd hR2.r0) (c.rd hR2.r1) (c.rd hR2.r2) (c.rd hR2.r3)) ?_; rintro v H' ⟨rfl, rfl⟩) | (refine m_call (ent_of Tryz.func52 kr rfl) rfl rfl (fun w c => impl_IsRep_ok (r := r) (c.rd hR2.r0) (c.rd hR2.r1) (c.rd hR2.r2) (c.rd hR2.r3)) ?_; rw [decide_eq_false hP]; rintro v H' ⟨rfl, rfl⟩) | (refine m_call (ent_of Tryz.func53 kr rfl) rfl rfl (fun w c => spec_IsRep_ok (r := r) (c.rd hR2.r0) (c.rd hR2.r1) (c.rd hR2.r2) (c.rd hR2.r3)) ?_; rw [decide_eq_false hP]; rintro v H' ⟨rfl, rfl⟩) | (refine m_call (ent_of Tryz.func55 kr rfl) rfl rfl (fun w c => impl_TotalOf_ok (r := r) (c.rd hR2.r0) (c.rd hR2.r1) (c.rd hR2.r2) (c.rd hR2.r3)) ?_; rintro v H' ⟨rfl, rfl⟩) | (refine m_call (ent_of Tryz.func56 kr rfl) rfl rfl (fun w c => spec_TotalOf_ok (r := r) (c.rd hR2.r0) (c.rd hR2.r1) (c.rd hR2.r2) (c.rd hR2.r3)) ?_; rintro v H' ⟨rfl, rfl⟩) | (refine m_call (ent_of Tryz.func57 kr rfl) rfl rfl (fun w c => impl_RanksOf_ok (r := r) (c.rd hR2.r0) (c.rd hR2.r1) (c.rd hR2.r2) (c.rd hR2.r3)) ?_; rintro v H' ⟨ai, ci, rfl, hsi, rfl⟩) | (refine m_call (ent_of Tryz.func58 kr rfl) rfl rfl (fun w c => spec_RanksOf_ok (r := r) (c.rd hR2.r0) (c.rd hR2.r1) (c.rd hR2.r2) (c.rd hR2.r3)) ?_; rintro v H' ⟨aj, cj, rfl, hsj, rfl⟩) | (refine m_call (ent_of Tryz.func46 kr rfl) rfl rfl (fun w c => sameInts_at (c.own_rd (i := 1) rfl) (c.own_rd (i := 0) rfl)) ?_; rintro v H' ⟨rfl, rfl⟩)
      refine c_nil (x_one (h_keep (fun _ c => c) ?_))
      refine h_take 3 rfl kr kr kr (by exact y_neqsf rfl rfl) rfl (fun _ c => c) ?_
      refine h_take 4 rfl kr kr kr (by exact y_move rfl) rfl (fun _ c => c) ?_
      refine h_takey 5 rfl kr kr kr rfl rfl (by exact y_loadz tabs rfl rfl aS rfl) rfl (fun _ c => c) ?_
      refine h_takey 7 rfl kr kr kr rfl rfl (by exact y_loadz tabs rfl rfl aS rfl) rfl (fun _ c => c) ?_
      refine h_only 6 rfl kr (st_gy rfl rfl ?_)
      first | (refine m_call (ent_of Tryz.func51 kr rfl) rfl rfl (fun w c => spec_FormatRep_ok (r := r) (c.rd hR2.r0) (c.rd hR2.r1) (c.rd hR2.r2) (c.rd hR2.r3)) ?_; rintro v H' ⟨rfl, rfl⟩) | (refine m_call (ent_of Tryz.func52 kr rfl) rfl rfl (fun w c => impl_IsRep_ok (r := r) (c.rd hR2.r0) (c.rd hR2.r1) (c.rd hR2.r2) (c.rd hR2.r3)) ?_; rw [decide_eq_false hP]; rintro v H' ⟨rfl, rfl⟩) | (refine m_call (ent_of Tryz.func53 kr rfl) rfl rfl (fun w c => spec_IsRep_ok (r := r) (c.rd hR2.r0) (c.rd hR2.r1) (c.rd hR2.r2) (c.rd hR2.r3)) ?_; rw [decide_eq_false hP]; rintro v H' ⟨rfl, rfl⟩) | (refine m_call (ent_of Tryz.func55 kr rfl) rfl rfl (fun w c => impl_TotalOf_ok (r := r) (c.rd hR2.r0) (c.rd hR2.r1) (c.rd hR2.r2) (c.rd hR2.r3)) ?_; rintro v H' ⟨rfl, rfl⟩) | (refine m_call (ent_of Tryz.func56 kr rfl) rfl rfl (fun w c => spec_TotalOf_ok (r := r) (c.rd hR2.r0) (c.rd hR2.r1) (c.rd hR2.r2) (c.rd hR2.r3)) ?_; rintro v H' ⟨rfl, rfl⟩) | (refine m_call (ent_of Tryz.func57 kr rfl) rfl rfl (fun w c => impl_RanksOf_ok (r := r) (c.rd hR2.r0) (c.rd hR2.r1) (c.rd hR2.r2) (c.rd hR2.r3)) ?_; rintro v H' ⟨ai, ci, rfl, hsi, rfl⟩) | (refine m_call (ent_of Tryz.func58 kr rfl) rfl rfl (fun w c => spec_RanksOf_ok (r := r) (c.rd hR2.r0) (c.rd hR2.r1) (c.rd hR2.r2) (c.rd hR2.r3)) ?_; rintro v H' ⟨aj, cj, rfl, hsj, rfl⟩) | (refine m_call (ent_of Tryz.func46 kr rfl) rfl rfl (fun w c => sameInts_at (c.own_rd (i := 1) rfl) (c.own_rd (i := 0) rfl)) ?_; rintro v H' ⟨rfl, rfl⟩)
      refine c_nil (x_one (h_keep (fun _ c => c) ?_))
      refine h_only 8 rfl kr (st_gy rfl rfl ?_)
      first | (refine m_call (ent_of Tryz.func51 kr rfl) rfl rfl (fun w c => spec_FormatRep_ok (r := r) (c.rd hR2.r0) (c.rd hR2.r1) (c.rd hR2.r2) (c.rd hR2.r3)) ?_; rintro v H' ⟨rfl, rfl⟩) | (refine m_call (ent_of Tryz.func52 kr rfl) rfl rfl (fun w c => impl_IsRep_ok (r := r) (c.rd hR2.r0) (c.rd hR2.r1) (c.rd hR2.r2) (c.rd hR2.r3)) ?_; rw [decide_eq_false hP]; rintro v H' ⟨rfl, rfl⟩) | (refine m_call (ent_of Tryz.func53 kr rfl) rfl rfl (fun w c => spec_IsRep_ok (r := r) (c.rd hR2.r0) (c.rd hR2.r1) (c.rd hR2.r2) (c.rd hR2.r3)) ?_; rw [decide_eq_false hP]; rintro v H' ⟨rfl, rfl⟩) | (refine m_call (ent_of Tryz.func55 kr rfl) rfl rfl (fun w c => impl_TotalOf_ok (r := r) (c.rd hR2.r0) (c.rd hR2.r1) (c.rd hR2.r2) (c.rd hR2.r3)) ?_; rintro v H' ⟨rfl, rfl⟩) | (refine m_call (ent_of Tryz.func56 kr rfl) rfl rfl (fun w c => spec_TotalOf_ok (r := r) (c.rd hR2.r0) (c.rd hR2.r1) (c.rd hR2.r2) (c.rd hR2.r3)) ?_; rintro v H' ⟨rfl, rfl⟩) | (refine m_call (ent_of Tryz.func57 kr rfl) rfl rfl (fun w c => impl_RanksOf_ok (r := r) (c.rd hR2.r0) (c.rd hR2.r1) (c.rd hR2.r2) (c.rd hR2.r3)) ?_; rintro v H' ⟨ai, ci, rfl, hsi, rfl⟩) | (refine m_call (ent_of Tryz.func58 kr rfl) rfl rfl (fun w c => spec_RanksOf_ok (r := r) (c.rd hR2.r0) (c.rd hR2.r1) (c.rd hR2.r2) (c.rd hR2.r3)) ?_; rintro v H' ⟨aj, cj, rfl, hsj, rfl⟩) | (refine m_call (ent_of Tryz.func46 kr rfl) rfl rfl (fun w c => sameInts_at (c.own_rd (i := 1) rfl) (c.own_rd (i := 0) rfl)) ?_; rintro v H' ⟨rfl, rfl⟩)
      refine c_nil (x_one (h_keep (fun _ c => c) ?_))
      refine h_takey 9 rfl kr kr kr rfl rfl (by exact y_neqb_same Tryz.underlying4 rfl rfl) rfl (fun _ c => c) ?_
      refine h_take 10 rfl kr kr kr (by exact y_pick rfl rfl rfl) rfl (fun _ c => c) ?_
      refine h_take 11 rfl kr kr kr (by exact y_move rfl) rfl (fun _ c => c) ?_
      refine h_takey 12 rfl kr kr kr rfl rfl (by exact y_move rfl) rfl (fun _ c => c) ?_
      refine h_takey 13 rfl kr kr kr rfl rfl (by exact y_loadz tabs rfl rfl aS rfl) rfl (fun _ c => c) ?_
      refine h_only 14 rfl kr (st_gy rfl rfl ?_)
      first | (refine m_call (ent_of Tryz.func51 kr rfl) rfl rfl (fun w c => spec_FormatRep_ok (r := r) (c.rd hR2.r0) (c.rd hR2.r1) (c.rd hR2.r2) (c.rd hR2.r3)) ?_; rintro v H' ⟨rfl, rfl⟩) | (refine m_call (ent_of Tryz.func52 kr rfl) rfl rfl (fun w c => impl_IsRep_ok (r := r) (c.rd hR2.r0) (c.rd hR2.r1) (c.rd hR2.r2) (c.rd hR2.r3)) ?_; rw [decide_eq_false hP]; rintro v H' ⟨rfl, rfl⟩) | (refine m_call (ent_of Tryz.func53 kr rfl) rfl rfl (fun w c => spec_IsRep_ok (r := r) (c.rd hR2.r0) (c.rd hR2.r1) (c.rd hR2.r2) (c.rd hR2.r3)) ?_; rw [decide_eq_false hP]; rintro v H' ⟨rfl, rfl⟩) | (refine m_call (ent_of Tryz.func55 kr rfl) rfl rfl (fun w c => impl_TotalOf_ok (r := r) (c.rd hR2.r0) (c.rd hR2.r1) (c.rd hR2.r2) (c.rd hR2.r3)) ?_; rintro v H' ⟨rfl, rfl⟩) | (refine m_call (ent_of Tryz.func56 kr rfl) rfl rfl (fun w c => spec_TotalOf_ok (r := r) (c.rd hR2.r0) (c.rd hR2.r1) (c.rd hR2.r2) (c.rd hR2.r3)) ?_; rintro v H' ⟨rfl, rfl⟩) | (refine m_call (ent_of Tryz.func57 kr rfl) rfl rfl (fun w c => impl_RanksOf_ok (r := r) (c.rd hR2.r0) (c.rd hR2.r1) (c.rd hR2.r2) (c.rd hR2.r3)) ?_; rintro v H' ⟨ai, ci, rfl, hsi, rfl⟩) | (refine m_call (ent_of Tryz.func58 kr rfl) rfl rfl (fun w c => spec_RanksOf_ok (r := r) (c.rd hR2.r0) (c.rd hR2.r1) (c.rd hR2.r2) (c.rd hR2.r3)) ?_; rintro v H' ⟨aj, cj, rfl, hsj, rfl⟩) | (refine m_call (ent_of Tryz.func46 kr rfl) rfl rfl (fun w c => sameInts_at (c.own_rd (i := 1) rfl) (c.own_rd (i := 0) rfl)) ?_; rintro v H' ⟨rfl, rfl⟩)
      refine c_nil (x_one (h_keep (fun _ c => c) ?_))
      refine h_takey 15 rfl kr kr kr rfl rfl (by exact y_neqb_same Tryz.underlying4 rfl rfl) rfl (fun _ c => c) ?_
      refine h_take 16 rfl kr kr kr (by exact y_pick rfl rfl rfl) rfl (fun _ c => c) ?_
      refine h_take 17 rfl kr kr kr (by exact y_move rfl) rfl (fun _ c => c) ?_
      refine h_takey 18 rfl kr kr kr rfl rfl (by exact y_move rfl) rfl (fun _ c => c) ?_
      refine h_takey 19 rfl kr kr kr rfl rfl (by exact y_move rfl) rfl (fun _ c => c) ?_
      refine h_taken 20 rfl kr kr kr rfl rfl rfl (fun _ c => c) ?_
      refine h_taken 21 rfl kr kr kr rfl rfl rfl (fun _ c => c) ?_
      refine h_only 22 rfl kr (st_gn rfl rfl rfl ?_)
      refine c_nil (x_one (h_keep (fun _ c => c) ?_))
      refine h_taken 23 rfl kr kr kr rfl rfl rfl (fun _ c => c) ?_
      refine h_takey 24 rfl kr kr kr rfl rfl (by exact y_pick rfl rfl rfl) rfl (fun _ c => c) ?_
      refine h_take 25 rfl kr kr kr (by exact y_pick rfl rfl rfl) rfl (fun _ c => c) ?_
      refine h_take 26 rfl kr kr kr (by exact y_move rfl) rfl (fun _ c => c) ?_
      refine h_takey 27 rfl kr kr kr rfl rfl (by exact y_move rfl) rfl (fun _ c => c) ?_
      refine h_takey 28 rfl kr kr kr rfl rfl (by exact y_move rfl) rfl (fun _ c => c) ?_
      refine h_takey 29 rfl kr kr kr rfl rfl (by exact y_neqb_same Tryz.underlying4 rfl rfl) rfl (fun _ c => c) ?_
      refine h_take 30 rfl kr kr kr (by exact y_pick rfl rfl rfl) rfl (fun _ c => c) ?_
      refine h_take 31 rfl kr kr kr (by exact y_move rfl) rfl (fun _ c => c) ?_
      refine h_takey 32 rfl kr kr kr rfl rfl (by exact y_loadz tabs rfl rfl aS rfl) rfl (fun _ c => c) ?_
      refine h_takey 34 rfl kr kr kr rfl rfl (by exact y_loadz tabs rfl rfl aS rfl) rfl (fun _ c => c) ?_
      refine h_only 33 rfl kr (st_gy rfl rfl ?_)
      first | (refine m_call (ent_of Tryz.func51 kr rfl) rfl rfl (fun w c => spec_FormatRep_ok (r := r) (c.rd hR2.r0) (c.rd hR2.r1) (c.rd hR2.r2) (c.rd hR2.r3)) ?_; rintro v H' ⟨rfl, rfl⟩) | (refine m_call (ent_of Tryz.func52 kr rfl) rfl rfl (fun w c => impl_IsRep_ok (r := r) (c.rd hR2.r0) (c.rd hR2.r1) (c.rd hR2.r2) (c.rd hR2.r3)) ?_; rw [decide_eq_false hP]; rintro v H' ⟨rfl, rfl⟩) | (refine m_call (ent_of Tryz.func53 kr rfl) rfl rfl (fun w c => spec_IsRep_ok (r := r) (c.rd hR2.r0) (c.rd hR2.r1) (c.rd hR2.r2) (c.rd hR2.r3)) ?_; rw [decide_eq_false hP]; rintro v H' ⟨rfl, rfl⟩) | (refine m_call (ent_of Tryz.func55 kr rfl) rfl rfl (fun w c => impl_TotalOf_ok (r := r) (c.rd hR2.r0) (c.rd hR2.r1) (c.rd hR2.r2) (c.rd hR2.r3)) ?_; rintro v H' ⟨rfl, rfl⟩) | (refine m_call (ent_of Tryz.func56 kr rfl) rfl rfl (fun w c => spec_TotalOf_ok (r := r) (c.rd hR2.r0) (c.rd hR2.r1) (c.rd hR2.r2) (c.rd hR2.r3)) ?_; rintro v H' ⟨rfl, rfl⟩) | (refine m_call (ent_of Tryz.func57 kr rfl) rfl rfl (fun w c => impl_RanksOf_ok (r := r) (c.rd hR2.r0) (c.rd hR2.r1) (c.rd hR2.r2) (c.rd hR2.r3)) ?_; rintro v H' ⟨ai, ci, rfl, hsi, rfl⟩) | (refine m_call (ent_of Tryz.func58 kr rfl) rfl rfl (fun w c => spec_RanksOf_ok (r := r) (c.rd hR2.r0) (c.rd hR2.r1) (c.rd hR2.r2) (c.rd hR2.r3)) ?_; rintro v H' ⟨aj, cj, rfl, hsj, rfl⟩) | (refine m_call (ent_of Tryz.func46 kr rfl) rfl rfl (fun w c => sameInts_at (c.own_rd (i := 1) rfl) (c.own_rd (i := 0) rfl)) ?_; rintro v H' ⟨rfl, rfl⟩)
      refine c_nil (x_one (h_keep (fun _ c => c) ?_))
      refine h_only 35 rfl kr (st_gy rfl rfl ?_)
      first | (refine m_call (ent_of Tryz.func51 kr rfl) rfl rfl (fun w c => spec_FormatRep_ok (r := r) (c.rd hR2.r0) (c.rd hR2.r1) (c.rd hR2.r2) (c.rd hR2.r3)) ?_; rintro v H' ⟨rfl, rfl⟩) | (refine m_call (ent_of Tryz.func52 kr rfl) rfl rfl (fun w c => impl_IsRep_ok (r := r) (c.rd hR2.r0) (c.rd hR2.r1) (c.rd hR2.r2) (c.rd hR2.r3)) ?_; rw [decide_eq_false hP]; rintro v H' ⟨rfl, rfl⟩) | (refine m_call (ent_of Tryz.func53 kr rfl) rfl rfl (fun w c => spec_IsRep_ok (r := r) (c.rd hR2.r0) (c.rd hR2.r1) (c.rd hR2.r2) (c.rd hR2.r3)) ?_; rw [decide_eq_false hP]; rintro v H' ⟨rfl, rfl⟩) | (refine m_call (ent_of Tryz.func55 kr rfl) rfl rfl (fun w c => impl_TotalOf_ok (r := r) (c.rd hR2.r0) (c.rd hR2.r1) (c.rd hR2.r2) (c.rd hR2.r3)) ?_; rintro v H' ⟨rfl, rfl⟩) | (refine m_call (ent_of Tryz.func56 kr rfl) rfl rfl (fun w c => spec_TotalOf_ok (r := r) (c.rd hR2.r0) (c.rd hR2.r1) (c.rd hR2.r2) (c.rd hR2.r3)) ?_; rintro v H' ⟨rfl, rfl⟩) | (refine m_call (ent_of Tryz.func57 kr rfl) rfl rfl (fun w c => impl_RanksOf_ok (r := r) (c.rd hR2.r0) (c.rd hR2.r1) (c.rd hR2.r2) (c.rd hR2.r3)) ?_; rintro v H' ⟨ai, ci, rfl, hsi, rfl⟩) | (refine m_call (ent_of Tryz.func58 kr rfl) rfl rfl (fun w c => spec_RanksOf_ok (r := r) (c.rd hR2.r0) (c.rd hR2.r1) (c.rd hR2.r2) (c.rd hR2.r3)) ?_; rintro v H' ⟨aj, cj, rfl, hsj, rfl⟩) | (refine m_call (ent_of Tryz.func46 kr rfl) rfl rfl (fun w c => sameInts_at (c.own_rd (i := 1) rfl) (c.own_rd (i := 0) rfl)) ?_; rintro v H' ⟨rfl, rfl⟩)
      refine c_nil (x_one (h_keep (fun _ c => c) ?_))
      refine h_takey 36 rfl kr kr kr rfl rfl (by exact y_neqi_eq rfl rfl rfl) rfl (fun _ c => c) ?_
      refine h_take 37 rfl kr kr kr (by exact y_pick rfl rfl rfl) rfl (fun _ c => c) ?_
      refine h_take 38 rfl kr kr kr (by exact y_move rfl) rfl (fun _ c => c) ?_
      refine h_takey 39 rfl kr kr kr rfl rfl (by exact y_loadz tabs rfl rfl aS rfl) rfl (fun _ c => c) ?_
      refine h_takey 41 rfl kr kr kr rfl rfl (by exact y_loadz tabs rfl rfl aS rfl) rfl (fun _ c => c) ?_
      refine h_only 40 rfl kr (st_gy rfl rfl ?_)
      first | (refine m_call (ent_of Tryz.func51 kr rfl) rfl rfl (fun w c => spec_FormatRep_ok (r := r) (c.rd hR2.r0) (c.rd hR2.r1) (c.rd hR2.r2) (c.rd hR2.r3)) ?_; rintro v H' ⟨rfl, rfl⟩) | (refine m_call (ent_of Tryz.func52 kr rfl) rfl rfl (fun w c => impl_IsRep_ok (r := r) (c.rd hR2.r0) (c.rd hR2.r1) (c.rd hR2.r2) (c.rd hR2.r3)) ?_; rw [decide_eq_false hP]; rintro v H' ⟨rfl, rfl⟩) | (refine m_call (ent_of Tryz.func53 kr rfl) rfl rfl (fun w c => spec_IsRep_ok (r := r) (c.rd hR2.r0) (c.rd hR2.r1) (c.rd hR2.r2) (c.rd hR2.r3)) ?_; rw [decide_eq_false hP]; rintro v H' ⟨rfl, rfl⟩) | (refine m_call (ent_of Tryz.func55 kr rfl) rfl rfl (fun w c => impl_TotalOf_ok (r := r) (c.rd hR2.r0) (c.rd hR2.r1) (c.rd hR2.r2) (c.rd hR2.r3)) ?_; rintro v H' ⟨rfl, rfl⟩) | (refine m_call (ent_of Tryz.func56 kr rfl) rfl rfl (fun w c => spec_TotalOf_ok (r := r) (c.rd hR2.r0) (c.rd hR2.r1) (c.rd hR2.r2) (c.rd hR2.r3)) ?_; rintro v H' ⟨rfl, rfl⟩) | (refine m_call (ent_of Tryz.func57 kr rfl) rfl rfl (fun w c => impl_RanksOf_ok (r := r) (c.rd hR2.r0) (c.rd hR2.r1) (c.rd hR2.r2) (c.rd hR2.r3)) ?_; rintro v H' ⟨ai, ci, rfl, hsi, rfl⟩) | (refine m_call (ent_of Tryz.func58 kr rfl) rfl rfl (fun w c => spec_RanksOf_ok (r := r) (c.rd hR2.r0) (c.rd hR2.r1) (c.rd hR2.r2) (c.rd hR2.r3)) ?_; rintro v H' ⟨aj, cj, rfl, hsj, rfl⟩) | (refine m_call (ent_of Tryz.func46 kr rfl) rfl rfl (fun w c => sameInts_at (c.own_rd (i := 1) rfl) (c.own_rd (i := 0) rfl)) ?_; rintro v H' ⟨rfl, rfl⟩)
      refine c_nil (x_one (h_keep (fun w c => by exact c.drop) ?_))
      refine h_only 42 rfl kr (st_gy rfl rfl ?_)
      first | (refine m_call (ent_of Tryz.func51 kr rfl) rfl rfl (fun w c => spec_FormatRep_ok (r := r) (c.rd hR2.r0) (c.rd hR2.r1) (c.rd hR2.r2) (c.rd hR2.r3)) ?_; rintro v H' ⟨rfl, rfl⟩) | (refine m_call (ent_of Tryz.func52 kr rfl) rfl rfl (fun w c => impl_IsRep_ok (r := r) (c.rd hR2.r0) (c.rd hR2.r1) (c.rd hR2.r2) (c.rd hR2.r3)) ?_; rw [decide_eq_false hP]; rintro v H' ⟨rfl, rfl⟩) | (refine m_call (ent_of Tryz.func53 kr rfl) rfl rfl (fun w c => spec_IsRep_ok (r := r) (c.rd hR2.r0) (c.rd hR2.r1) (c.rd hR2.r2) (c.rd hR2.r3)) ?_; rw [decide_eq_false hP]; rintro v H' ⟨rfl, rfl⟩) | (refine m_call (ent_of Tryz.func55 kr rfl) rfl rfl (fun w c => impl_TotalOf_ok (r := r) (c.rd hR2.r0) (c.rd hR2.r1) (c.rd hR2.r2) (c.rd hR2.r3)) ?_; rintro v H' ⟨rfl, rfl⟩) | (refine m_call (ent_of Tryz.func56 kr rfl) rfl rfl (fun w c => spec_TotalOf_ok (r := r) (c.rd hR2.r0) (c.rd hR2.r1) (c.rd hR2.r2) (c.rd hR2.r3)) ?_; rintro v H' ⟨rfl, rfl⟩) | (refine m_call (ent_of Tryz.func57 kr rfl) rfl rfl (fun w c => impl_RanksOf_ok (r := r) (c.rd hR2.r0) (c.rd hR2.r1) (c.rd hR2.r2) (c.rd hR2.r3)) ?_; rintro v H' ⟨ai, ci, rfl, hsi, rfl⟩) | (refine m_call (ent_of Tryz.func58 kr rfl) rfl rfl (fun w c => spec_RanksOf_ok (r := r) (c.rd hR2.r0) (c.rd hR2.r1) (c.rd hR2.r2) (c.rd hR2.r3)) ?_; rintro v H' ⟨aj, cj, rfl, hsj, rfl⟩) | (refine m_call (ent_of Tryz.func46 kr rfl) rfl rfl (fun w c => sameInts_at (c.own_rd (i := 1) rfl) (c.own_rd (i := 0) rfl)) ?_; rintro v H' ⟨rfl, rfl⟩)
      refine c_nil (x_one (h_keep (fun w c => by exact c.drop.drop) ?_))
      refine h_only 43 rfl kr (st_gy rfl rfl ?_)
      first | (refine m_call (ent_of Tryz.func51 kr rfl) rfl rfl (fun w c => spec_FormatRep_ok (r := r) (c.rd hR2.r0) (c.rd hR2.r1) (c.rd hR2.r2) (c.rd hR2.r3)) ?_; rintro v H' ⟨rfl, rfl⟩) | (refine m_call (ent_of Tryz.func52 kr rfl) rfl rfl (fun w c => impl_IsRep_ok (r := r) (c.rd hR2.r0) (c.rd hR2.r1) (c.rd hR2.r2) (c.rd hR2.r3)) ?_; rw [decide_eq_false hP]; rintro v H' ⟨rfl, rfl⟩) | (refine m_call (ent_of Tryz.func53 kr rfl) rfl rfl (fun w c => spec_IsRep_ok (r := r) (c.rd hR2.r0) (c.rd hR2.r1) (c.rd hR2.r2) (c.rd hR2.r3)) ?_; rw [decide_eq_false hP]; rintro v H' ⟨rfl, rfl⟩) | (refine m_call (ent_of Tryz.func55 kr rfl) rfl rfl (fun w c => impl_TotalOf_ok (r := r) (c.rd hR2.r0) (c.rd hR2.r1) (c.rd hR2.r2) (c.rd hR2.r3)) ?_; rintro v H' ⟨rfl, rfl⟩) | (refine m_call (ent_of Tryz.func56 kr rfl) rfl rfl (fun w c => spec_TotalOf_ok (r := r) (c.rd hR2.r0) (c.rd hR2.r1) (c.rd hR2.r2) (c.rd hR2.r3)) ?_; rintro v H' ⟨rfl, rfl⟩) | (refine m_call (ent_of Tryz.func57 kr rfl) rfl rfl (fun w c => impl_RanksOf_ok (r := r) (c.rd hR2.r0) (c.rd hR2.r1) (c.rd hR2.r2) (c.rd hR2.r3)) ?_; rintro v H' ⟨ai, ci, rfl, hsi, rfl⟩) | (refine m_call (ent_of Tryz.func58 kr rfl) rfl rfl (fun w c => spec_RanksOf_ok (r := r) (c.rd hR2.r0) (c.rd hR2.r1) (c.rd hR2.r2) (c.rd hR2.r3)) ?_; rintro v H' ⟨aj, cj, rfl, hsj, rfl⟩) | (refine m_call (ent_of Tryz.func46 kr rfl) rfl rfl (fun w c => sameInts_at (c.own_rd (i := 1) rfl) (c.own_rd (i := 0) rfl)) ?_; rintro v H' ⟨rfl, rfl⟩)
      refine c_nil (x_one (h_keep (fun w c => by exact c.drop.drop) ?_))
      refine h_takey 44 rfl kr kr kr rfl rfl (by exact y_not rfl) rfl (fun w c => by exact c.drop.drop) ?_
      refine h_take 45 rfl kr kr kr (by exact y_pick rfl rfl rfl) rfl (fun w c => by exact c.drop.drop) ?_
      refine h_end kr ?_
      skip
      exact x_mid sB (fun w' c' => c'.sub (List.nil_sublist _))
  · skip
    as_aux_lemma =>
    have tok10 : True := trivial
    have tok11 : True := trivial
    have tok12 : True := trivial
    repeat' (first | (show oL; first | refine sMv rfl rfl ?_ | refine sAs rfl rfl ?_ | (show oA (.load _ _); first | refine st_y (y_loadz tabs rfl rfl aS rfl) rfl ?_ | refine sLb 5 tabs rfl rfl rfl rfl rfl ?_ | refine sLb 0 tabs rfl rfl rfl rfl rfl ?_) | (show oA (.binOp _ _ _ _ _); refine st_y (y_neqb_same Tryz.underlying4 rfl rfl) rfl ?_) | (show oA (.unOp _ _ _); refine st_y (y_not rfl) rfl ?_) | (show oA (.call _); first | (refine m_call (ent_of Tryz.func59 kr rfl) rfl rfl (fun w c => impl_DualRep_ok (r := r) (c.rd hR2.r0) (c.rd hR2.r1) (c.rd hR2.r2) (c.rd hR2.r3)) ?_; rintro v H' ⟨d0, d0', d1, d1', d2, d2', d3, d3', rfl, sd0, sd1, sd2, sd3, rfl⟩) | (refine m_call (ent_of Tryz.func60 kr rfl) rfl rfl (fun w c => spec_DualRep_ok (r := r) (c.rd hR2.r0) (c.rd hR2.r1) (c.rd hR2.r2) (c.rd hR2.r3)) ?_; rintro v H' ⟨e0, e0', e1, e1', e2, e2', e3, e3', rfl, se0, se1, se2, se3, rfl⟩) | (refine m_call (ent_of Tryz.func54 kr rfl) rfl rfl (fun w c => eqr_same (r := dualR r) (c.own_rd (i := 9) rfl) (c.own_rd (i := 8) rfl) (c.own_rd (i := 7) rfl) (c.own_rd (i := 6) rfl) (c.own_rd (i := 4) rfl) (c.own_rd (i := 3) rfl) (c.own_rd (i := 2) rfl) (c.own_rd (i := 1) rfl)) ?_; rintro v H' ⟨rfl, rfl⟩)) | (show oA (.extract _ _); refine st_y (y_ext rfl rfl) rfl ?_) | (show oA (.pick _ _ _); refine st_y (y_pick rfl rfl rfl) rfl ?_) | (show oA (.store _ _ _); refine m_storeb 0 tabs rfl rfl rfl rfl rfl rfl rfl ?_) | (show oA (.alloc _); first | (have _t := tok10; refine m_alloc tabs rfl rfl (fun b14 hb14 => ?_); clear _t tok10) | (have _t := tok11; refine m_alloc tabs rfl rfl (fun b16 hb16 => ?_); clear _t tok11)) | refine st_gy rfl rfl ?_) | refine xNt ?_ | (show oC; first | refine c_cutc 146 [(0, u0)] (Hp [] w2 []) ?_ ?_ | refine c_seq ?_ | refine c_region ?_ | refine c_skip (x_then ?_) | refine c_false rfl ?_))
    · refine hold ?_
      refine AT.sel [0, 1, 2, 3, 4] rfl ?_
      repeat' (first | (show oL; first | refine sMv rfl rfl ?_ | refine sAs rfl rfl ?_ | refine sLb 0 tabs rfl rfl rfl rfl rfl ?_ | (show oA (.call _); (refine m_call (ent_of Tryz.func59 kr rfl) rfl rfl (fun w c => impl_DualRep_ok (r := dualR r) (c.own_rd (i := 4) rfl) (c.own_rd (i := 3) rfl) (c.own_rd (i := 2) rfl) (c.own_rd (i := 1) rfl)) ?_; rw [(dual_law (of_decide_eq_true hS)).2.1]; rintro v H' ⟨f0, f0', f1, f1', f2, f2', f3, f3', rfl, sf0, sf1, sf2, sf3, rfl⟩)) | (show oA (.extract _ _); refine st_y (y_ext rfl rfl) rfl ?_) | (show oA (.store _ _ _); refine m_storeb 0 tabs rfl rfl rfl rfl rfl rfl rfl ?_) | (show oA (.alloc _); (have _t := tok12; refine m_alloc tabs rfl rfl (fun b18 hb18 => ?_); clear _t tok12))) | refine xNt ?_ | (show oC; first | refine c_ifb (x := .tmp 146) rfl (fun hS => ?_) (fun hS => ?_) | refine c_seq ?_ | refine c_region ?_ | refine c_skip ?_))
      · skip
        refine c_all (Hp [] w2 [.blk b18 #[iV r.p, iV r.q.1, .slice f0 r.q.2.1.length f0', .slice f1 r.q.2.2.length f1', .slice f2 r.d.length f2', .slice f3 r.m.length f3'] 29, .blk b16 #[iV (dualR r).p, iV (dualR r).q.1, .slice e0 (dualR r).q.2.1.length e0', .slice e1 (dualR r).q.2.2.length e1', .slice e2 (dualR r).d.length e2', .slice e3 (dualR r).m.length e3'] 29]) kr (fun _ c => Hp.drew c) ?_
        refine h_take 0 rfl kr kr kr (by first | exact y_loadb 0 tabs rfl rfl rfl rfl | exact y_loadb 0 tabs rfl rfl rfl rfl) rfl sS ?_
        refine h_take 1 rfl kr kr kr (by exact y_loadz tabs rfl rfl aS rfl) rfl sS ?_
        refine h_only 2 rfl kr ?_
        first | (refine m_call (ent_of Tryz.func54 kr rfl) rfl rfl (fun w c => eqr_same (r := r) (c.own_rd (i := 4) rfl) (c.own_rd (i := 3) rfl) (c.own_rd (i := 2) rfl) (c.own_rd (i := 1) rfl) (c.rd hR2.r0) (c.rd hR2.r1) (c.rd hR2.r2) (c.rd hR2.r3)) ?_; rintro v H' ⟨rfl, rfl⟩) | (refine m_call (ent_of Tryz.func57 kr rfl) rfl rfl (fun w c => impl_RanksOf_ok (r := dualR r) (c.own_rd (i := 9) rfl) (c.own_rd (i := 8) rfl) (c.own_rd (i := 7) rfl) (c.own_rd (i := 6) rfl)) ?_; rw [(dual_law (of_decide_eq_true hS)).2.2]; rintro v H' ⟨ai, ci, rfl, hsi, rfl⟩) | (refine m_call (ent_of Tryz.func57 kr rfl) rfl rfl (fun w c => impl_RanksOf_ok (r := r) (c.rd hR2.r0) (c.rd hR2.r1) (c.rd hR2.r2) (c.rd hR2.r3)) ?_; rintro v H' ⟨aj, cj, rfl, hsj, rfl⟩) | (refine m_call (ent_of Tryz.func46 kr rfl) rfl rfl (fun w c => sameInts_at (c.own_rd (i := 1) rfl) (c.own_rd (i := 0) rfl)) ?_; rintro v H' ⟨rfl, rfl⟩)
        refine c_nil (x_one (h_keep sS ?_))
        refine h_take 3 rfl kr kr kr (by exact y_not rfl) rfl sS ?_
        refine h_take 4 rfl kr kr kr (by exact y_move rfl) rfl sS ?_
        refine h_takey 5 rfl kr kr kr rfl rfl (by first | exact y_loadb 1 tabs rfl rfl rfl rfl | exact y_loadb 1 tabs rfl rfl rfl rfl) rfl sS ?_
        refine h_takey 7 rfl kr kr kr rfl rfl (by exact y_loadz tabs rfl rfl aS rfl) rfl sS ?_
        refine h_only 6 rfl kr (st_gy rfl rfl ?_)
        first | (refine m_call (ent_of Tryz.func54 kr rfl) rfl rfl (fun w c => eqr_same (r := r) (c.own_rd (i := 4) rfl) (c.own_rd (i := 3) rfl) (c.own_rd (i := 2) rfl) (c.own_rd (i := 1) rfl) (c.rd hR2.r0) (c.rd hR2.r1) (c.rd hR2.r2) (c.rd hR2.r3)) ?_; rintro v H' ⟨rfl, rfl⟩) | (refine m_call (ent_of Tryz.func57 kr rfl) rfl rfl (fun w c => impl_RanksOf_ok (r := dualR r) (c.own_rd (i := 9) rfl) (c.own_rd (i := 8) rfl) (c.own_rd (i := 7) rfl) (c.own_rd (i := 6) rfl)) ?_; rw [(dual_law (of_decide_eq_true hS)).2.2]; rintro v H' ⟨ai, ci, rfl, hsi, rfl⟩) | (refine m_call (ent_of Tryz.func57 kr rfl) rfl rfl (fun w c => impl_RanksOf_ok (r := r) (c.rd hR2.r0) (c.rd hR2.r1) (c.rd hR2.r2) (c.rd hR2.r3)) ?_; rintro v H' ⟨aj, cj, rfl, hsj, rfl⟩) | (refine m_call (ent_of Tryz.func46 kr rfl) rfl rfl (fun w c => sameInts_at (c.own_rd (i := 1) rfl) (c.own_rd (i := 0) rfl)) ?_; rintro v H' ⟨rfl, rfl⟩)
        refine c_nil (x_one (h_keep sS ?_))
        refine h_only 8 rfl kr (st_gy rfl rfl ?_)
        first | (refine m_call (ent_of Tryz.func54 kr rfl) rfl rfl (fun w c => eqr_same (r := r) (c.own_rd (i := 4) rfl) (c.own_rd (i := 3) rfl) (c.own_rd (i := 2) rfl) (c.own_rd (i := 1) rfl) (c.rd hR2.r0) (c.rd hR2.r1) (c.rd hR2.r2) (c.rd hR2.r3)) ?_; rintro v H' ⟨rfl, rfl⟩) | (refine m_call (ent_of Tryz.func57 kr rfl) rfl rfl (fun w c => impl_RanksOf_ok (r := dualR r) (c.own_rd (i := 9) rfl) (c.own_rd (i := 8) rfl) (c.own_rd (i := 7) rfl) (c.own_rd (i := 6) rfl)) ?_; rw [(dual_law (of_decide_eq_true hS)).2.2]; rintro v H' ⟨ai, ci, rfl, hsi, rfl⟩) | (refine m_call (ent_of Tryz.func57 kr rfl) rfl rfl (fun w c => impl_RanksOf_ok (r := r) (c.rd hR2.r0) (c.rd hR2.r1) (c.rd hR2.r2) (c.rd hR2.r3)) ?_; rintro v H' ⟨aj, cj, rfl, hsj, rfl⟩) | (refine m_call (ent_of Tryz.func46 kr rfl) rfl rfl (fun w c => sameInts_at (c.own_rd (i := 1) rfl) (c.own_rd (i := 0) rfl)) ?_; rintro v H' ⟨rfl, rfl⟩)
        refine c_nil (x_one (h_keep sS ?_))
        refine h_only 9 rfl kr (st_gy rfl rfl ?_)
        first | (refine m_call (ent_of Tryz.func54 kr rfl) rfl rfl (fun w c => eqr_same (r := r) (c.own_rd (i := 4) rfl) (c.own_rd (i := 3) rfl) (c.own_rd (i := 2) rfl) (c.own_rd (i := 1) rfl) (c.rd hR2.r0) (c.rd hR2.r1) (c.rd hR2.r2) (c.rd hR2.r3)) ?_; rintro v H' ⟨rfl, rfl⟩) | (refine m_call (ent_of Tryz.func57 kr rfl) rfl rfl (fun w c => impl_RanksOf_ok (r := dualR r) (c.own_rd (i := 9) rfl) (c.own_rd (i := 8) rfl) (c.own_rd (i := 7) rfl) (c.own_rd (i := 6) rfl)) ?_; rw [(dual_law (of_decide_eq_true hS)).2.2]; rintro v H' ⟨ai, ci, rfl, hsi, rfl⟩) | (refine m_call (ent_of Tryz.func57 kr rfl) rfl rfl (fun w c => impl_RanksOf_ok (r := r) (c.rd hR2.r0) (c.rd hR2.r1) (c.rd hR2.r2) (c.rd hR2.r3)) ?_; rintro v H' ⟨aj, cj, rfl, hsj, rfl⟩) | (refine m_call (ent_of Tryz.func46 kr rfl) rfl rfl (fun w c => sameInts_at (c.own_rd (i := 1) rfl) (c.own_rd (i := 0) rfl)) ?_; rintro v H' ⟨rfl, rfl⟩)
        refine c_nil (x_one (h_keep sS ?_))
        refine h_takey 10 rfl kr kr kr rfl rfl (by exact y_not rfl) rfl sS ?_
        refine h_take 11 rfl kr kr kr (by exact y_pick rfl rfl rfl) rfl sS ?_
        refine h_end kr ?_
        repeat' (first | (show oC; first | refine c_skip ?_ | refine c_false rfl ?_) | (show AT _ _ _ _; refine x_then ?_))
        all_goals exact x_mid sB (fun w' c' => c'.sub (List.nil_sublist _))
      · exact x_mid sB (fun w' c' => c'.sub (List.nil_sublist _))
    · skip
      as_aux_lemma =>
      have tok20 : True := trivial
      have tok21 : True := trivial
      have tok22 : True := trivial
      have tok23 : True := trivial
      repeat' (first | (show oL; first | refine sMv rfl rfl ?_ | refine sAs rfl rfl ?_ | (show oA (.load _ _); first | refine sLb 0 tabs rfl rfl rfl rfl rfl ?_ | refine sLb 1 tabs rfl rfl rfl rfl rfl ?_ | refine sLb 2 tabs rfl rfl rfl rfl rfl ?_ | refine sLb 3 tabs rfl rfl rfl rfl rfl ?_) | (show oA (.binOp _ _ _ _ _); refine st_y (y_neqb_same Tryz.underlying4 rfl rfl) rfl ?_) | (show oA (.unOp _ _ _); refine st_y (y_not rfl) rfl ?_) | (show oA (.call _); first | (refine m_call (ent_of Tryz.func61 kr rfl) rfl rfl (fun w c => DrawMapAlong_ok (hp_code c hc2)) ?_; rintro v H' ⟨ra, y, x0, x0', x1, x1', x2, x2', x3, x3', ay, cy, rfl, hyl, hf⟩; refine AT.base (fun w4 c4 => ?_); obtain ⟨hA, hY⟩ := hf _ _ (c4.sub (List.sublist_append_left _ _)); have hc4 := hp_code c4 hc2) | (refine m_call (ent_of Tryz.func62 kr rfl) rfl rfl (fun w c => impl_MapAlong_ok (r := ra) (x := y) (c.rd hA.r0) (c.rd hA.r1) (c.rd hA.r2) (c.rd hA.r3) (c.rd hY)) ?_; rintro v H' ⟨am, cm, rfl, hsm, rfl⟩) | (refine m_call (ent_of Tryz.func63 kr rfl) rfl rfl (fun w c => spec_MapAlong_ok (r := ra) (x := y) (c.rd hA.r0) (c.rd hA.r1) (c.rd hA.r2) (c.rd hA.r3) (c.rd hY)) ?_; rintro v H' ⟨an, cn, rfl, hsn, rfl⟩) | (refine m_call (ent_of Tryz.func23 kr rfl) rfl rfl (fun w c => spec_EqM_same (m := alM ra y) (c.own_rd (i := 3) rfl) (c.own_rd (i := 1) rfl)) ?_; rintro v H' ⟨rfl, rfl⟩)) | (show oA (.extract _ _); refine st_y (y_ext rfl rfl) rfl ?_) | (show oA (.pick _ _ _); refine st_y (y_pick rfl rfl rfl) rfl ?_) | (show oA (.store _ _ _); first | refine m_storeb 0 tabs rfl rfl rfl rfl rfl rfl rfl ?_ | refine m_storeb 1 tabs rfl rfl rfl rfl rfl rfl rfl ?_) | (show oA (.alloc _); first | (have _t := tok20; refine m_alloc tabs rfl rfl (fun b20 hb20 => ?_); clear _t tok20) | (have _t := tok21; refine m_alloc tabs rfl rfl (fun b21 hb21 => ?_); clear _t tok21) | (have _t := tok22; refine m_alloc tabs rfl rfl (fun b22 hb22 => ?_); clear _t tok22) | (have _t := tok23; refine m_alloc tabs rfl rfl (fun b24 hb24 => ?_); clear _t tok23)) | refine st_gy rfl rfl ?_) | refine xNt ?_ | (show oC; first | refine c_cutr 24 [(0, u0), (20, .pointer (some ⟨b20, 0, none⟩)), (21, .pointer (some ⟨b21, 0, none⟩)), (24, .pointer (some ⟨b24, 0, none⟩)), (196, .bool (decide (alP ra y ∧ 0 < y.2.length)))] (Hp [] w4 [.blk b24 #[iV (alM ra y).1, iV (alM ra y).2.1, .slice an (alM ra y).2.2.length cn] 41, .own (iT (alM ra y).2.2) (.slice an (alM ra y).2.2.length cn), .blk b21 #[iV y.1, .slice ay y.2.length cy] 78, .blk b20 #[iV ra.p, iV ra.q.1, .slice x0 ra.q.2.1.length x0', .slice x1 ra.q.2.2.length x1', .slice x2 ra.d.length x2', .slice x3 ra.m.length x3'] 29]) ?_ ?_ | refine c_cutc 196 [(0, u0)] (Hp [] w4 []) ?_ ?_ | refine c_seq ?_ | refine c_region ?_ | refine c_skip (x_then ?_) | refine c_false rfl ?_))
      · refine hold ?_
        by_cases hS : alP ra y
        · by_cases hL : 0 < y.2.length
          · rw [decide_eq_true (show alP ra y ∧ 0 < y.2.length from ⟨hS, hL⟩), decide_eq_true hS]
            repeat' (first | (show oL; first | refine sMv rfl rfl ?_ | refine sFd tabs rfl rfl rfl rfl ?_ | refine sLd 4 tabs rfl rfl rfl rfl rfl ?_ | (show oA (.binOp _ _ _ _ _); refine st_y (y_gtr rfl rfl) rfl ?_) | refine sLn tabs rfl rfl rfl ?_ | (show oA (.pick _ _ _); refine st_y (y_pick rfl rfl rfl) rfl ?_) | refine st_gy rfl rfl ?_) | (show oN; refine c_nil ?_) | (show oC; refine c_region ?_))
            rw [decide_eq_true (show ((y.2.length : Nat) : Int) > 0 by omega)]
            exact x_mid sB (fun w' c' => c'.sel [0, 1, 4, 5] rfl)
          · rw [decide_eq_false (show ¬ (alP ra y ∧ 0 < y.2.length) from fun k => hL k.2), decide_eq_true hS]
            repeat' (first | (show oL; first | refine sMv rfl rfl ?_ | refine sFd tabs rfl rfl rfl rfl ?_ | refine sLd 4 tabs rfl rfl rfl rfl rfl ?_ | (show oA (.binOp _ _ _ _ _); refine st_y (y_gtr rfl rfl) rfl ?_) | refine sLn tabs rfl rfl rfl ?_ | (show oA (.pick _ _ _); refine st_y (y_pick rfl rfl rfl) rfl ?_) | refine st_gy rfl rfl ?_) | (show oN; refine c_nil ?_) | (show oC; refine c_region ?_))
            rw [decide_eq_false (show ¬ ((y.2.length : Nat) : Int) > 0 by omega)]
            exact x_mid sB (fun w' c' => c'.sel [0, 1, 4, 5] rfl)
        · rw [decide_eq_false (show ¬ (alP ra y ∧ 0 < y.2.length) from fun k => hS k.1), decide_eq_false hS]
          repeat' (first | (show oL; first | refine sMv rfl rfl ?_ | (show oA (.pick _ _ _); refine st_y (y_pick rfl rfl rfl) rfl ?_) | refine st_gn rfl rfl rfl ?_) | (show oN; refine c_nil ?_) | (show oC; refine c_region ?_))
          exact x_mid sB (fun w' c' => c'.sel [0, 1, 4, 5] rfl)
      · refine hold ?_
        refine AT.base (fun w5 c5 => ?_)
        have k24 := c5.box (i := 0) rfl
        have hN := c5.own_rd (i := 1) rfl
        have k21 := c5.box (i := 2) rfl
        have k20 := c5.box (i := 3) rfl
        have hA5 := hp_rr c5 hA
        have hY5 := c5.rd hY
        have hc5 := hp_code c5 hc4
        refine c_ifb (x := .tmp 196) rfl (fun hS => ?_) (fun hS => ?_)
        · obtain ⟨hS1, hL⟩ := of_decide_eq_true hS
          have tok30 : True := trivial
          have tok31 : True := trivial
          have tok32 : True := trivial
          repeat' (first | (show oC; refine c_seq ?_))
          refine c_all (Hp [] w5 []) kr (fun _ c => Hp.drew c) ?_
          refine h_take 0 rfl kr kr kr (by exact y_move rfl) rfl (fun _ c => c) ?_
          refine h_take 2 rfl kr kr kr (by exact y_field tabs rfl rfl rfl) rfl (fun _ c => c) ?_
          refine h_take 3 rfl kr kr kr (by exact y_load tabs rfl rfl (hc_box k21 rfl)) rfl (fun _ c => c) ?_
          refine h_take 4 rfl kr kr kr (by exact y_len tabs rfl rfl) rfl (fun _ c => c) ?_
          refine h_only 1 rfl kr ?_
          (refine m_call (ent_of Tryz.func64 kr rfl) rfl rfl (fun w c => laws_at_ok (hp_code c hc5)) ?_; rintro v H' ⟨k, rfl, rfl⟩)
          refine c_nil (x_one (h_keep (fun _ c => c) ?_))
          refine h_take 5 rfl kr kr kr (by exact y_rem rfl rfl om) rfl (fun _ c => c) ?_
          refine h_take 6 rfl kr kr kr (by exact y_assign rfl) rfl (fun _ c => c) ?_
          refine h_end kr ?_
          have hkl : k % y.2.length < y.2.length := Nat.mod_lt _ hL
          have ekl : ((k : Int).tmod ((y.2.length : Nat) : Int)) = ((k % y.2.length : Nat) : Int) := rfl
          rw [ekl]
          generalize k % y.2.length = t at hkl
          obtain ⟨ay', cy', e1, hsy, hy1, _, _⟩ := hY5.ints
          injection e1 with e2 e3 e4
          have hcy : y.2.length ≤ cy := by omega
          obtain ⟨j1, j2, j3, j4⟩ := along_join hS1 (Nat.le_of_lt hkl)
          have hX1 : Rd w5 (iT (ptF y t).2) (.slice (subA ay 1 0 cy) t cy) := rd_head hY5 (Nat.le_of_lt hkl)
          have hX2 : Rd w5 (iT (ptR ra.q y t).2) (.slice (subA ay 1 t cy) (y.2.length - t) (cy - t)) := rd_rest hY5 rfl (Nat.le_of_lt hkl)
          have hlt : (ptF y t).2.length = t := by simp only [ptF, List.length_take]; omega
          repeat' (first | (show oC; refine c_seq ?_) | (show AT _ _ _ _; refine x_then ?_))
          refine c_all (Hp [] w5 []) kr (fun _ c => Hp.drew c) ?_
          refine fl_begin 7 rfl tabs rfl rfl ?_
          refine fl_take 0 rfl kr kr kr kr kr kr (by exact y_field tabs rfl rfl rfl) rfl (fun _ c => c) ?_
          refine fl_take 1 rfl kr kr kr kr kr kr (by exact y_load tabs rfl rfl (hc_box k21 rfl)) rfl (fun _ c => c) ?_
          refine fl_take 2 rfl kr kr kr kr kr kr (by exact y_field tabs rfl rfl rfl) rfl (fun _ c => c) ?_
          refine fl_take 3 rfl kr kr kr kr kr kr (by exact y_load tabs rfl rfl (hc_box k21 rfl)) rfl (fun _ c => c) ?_
          refine fl_take 4 rfl kr kr kr kr kr kr (by exact y_move rfl) rfl (fun _ c => c) ?_
          refine fl_take 5 rfl kr kr kr kr kr kr (by exact y_slh tabs (hi := t) rfl rfl rfl rfl om) rfl (fun _ c => c) ?_
          refine fl_take 6 rfl kr kr kr kr kr kr (by exact y_bld2 (bld_pa _ _ _ _) rfl rfl) rfl (fun _ c => c) ?_
          refine fl_end rfl tabs rfl rfl rfl kr (fun _ c => c) (fun bf hbf => ?_)
          refine h_only 8 rfl kr ?_
          (refine m_storeb 0 tabs rfl rfl rfl rfl rfl rfl rfl ?_)
          refine c_nil (x_one (h_keep (fun w c => by exact c.drop) ?_))
          refine h_end kr ?_
          refine AT.base (fun w6 c6 => ?_)
          have k27 := c6.box (i := 0) rfl
          have k24_6 := c6.boxk k24
          have k21_6 := c6.boxk k21
          have k20_6 := c6.boxk k20
          have hN_6 := c6.rd hN
          have hX1_6 := c6.rd hX1
          have hX2_6 := c6.rd hX2
          have hA5_6 := hp_rr c6 hA5
          repeat' (first | (show oC; refine c_seq ?_) | (show AT _ _ _ _; refine x_then ?_))
          refine c_all (Hp [] w6 []) kr (fun _ c => Hp.drew c) ?_
          refine fl_begin 9 rfl tabs rfl rfl ?_
          refine fl_take 0 rfl kr kr kr kr kr kr (by exact y_field tabs rfl rfl rfl) rfl (fun _ c => c) ?_
          refine fl_take 1 rfl kr kr kr kr kr kr (by exact y_load3 tabs rfl rfl (hc_box k20_6 rfl) (hc_box k20_6 rfl) (hc_box k20_6 rfl)) rfl (fun _ c => c) ?_
          refine fl_take 2 rfl kr kr kr kr kr kr (by exact y_loadz tabs rfl rfl aS rfl) rfl (fun _ c => c) ?_
          refine fl_take 4 rfl kr kr kr kr kr kr (by exact y_field tabs rfl rfl rfl) rfl (fun _ c => c) ?_
          refine fl_take 5 rfl kr kr kr kr kr kr (by exact y_load tabs rfl rfl (hc_box k21_6 rfl)) rfl (fun _ c => c) ?_
          refine fl_take 6 rfl kr kr kr kr kr kr (by exact y_move rfl) rfl (fun _ c => c) ?_
          refine fl_take 7 rfl kr kr kr kr kr kr (by exact y_slo tabs (lo := t) rfl rfl rfl rfl om) rfl (fun _ c => c) ?_
          (refine fl_call 3 rfl rfl kr tabs rfl rfl rfl kr kr kr (ent_of Tryz.func65 kr rfl) rfl rfl (fun w c => spec_EndOf_ok (q := ra.q) (x := ptF y t) (c.rd hA5_6.r0) (c.rd hA5_6.r1) (c.rd hX1_6) j1.2) sC ?_; rintro v H' ⟨e9, rfl⟩; rw [hlt, atP_front t (Nat.le_refl _)] at e9; subst e9)
          refine fl_take 8 rfl kr kr kr kr kr kr (by exact y_bld2 (bld_pa _ _ _ _) rfl rfl) rfl (fun _ c => c) ?_
          refine fl_end rfl tabs rfl rfl rfl kr (fun _ c => c) (fun bf hbf => ?_)
          refine h_only 10 rfl kr ?_
          (refine m_storeb 0 tabs rfl rfl rfl rfl rfl rfl rfl ?_)
          refine c_nil (x_one (h_keep (fun w c => by exact c.drop) ?_))
          refine h_end kr ?_
          refine AT.base (fun w7 c7 => ?_)
          have k28 := c7.box (i := 0) rfl
          have k27_7 := c7.boxk k27
          have k24_7 := c7.boxk k24_6
          have k20_7 := c7.boxk k20_6
          have hN_7 := c7.rd hN_6
          have hX1_7 := c7.rd hX1_6
          have hX2_7 := c7.rd hX2_6
          have hA5_7 := hp_rr c7 hA5_6
          repeat' (first | (show oL; first | refine sMv rfl rfl ?_ | refine sAs rfl rfl ?_ | refine sFd tabs rfl rfl rfl rfl ?_ | (show oA (.load _ _); first | refine st_y (y_loadz tabs rfl rfl aS rfl) rfl ?_ | refine st_y (y_load tabs rfl rfl (hc_box k20_7 rfl)) rfl ?_ | refine sLb 0 tabs rfl rfl rfl rfl rfl ?_ | refine sLb 2 tabs rfl rfl rfl rfl rfl ?_) | (show oA (.unOp _ _ _); refine st_y (y_not rfl) rfl ?_) | (show oA (.call _); first | (refine m_call (ent_of Tryz.func62 kr rfl) rfl rfl (fun w c => impl_MapAlong_ok (r := ra) (x := ptF y t) (c.rd hA5_7.r0) (c.rd hA5_7.r1) (c.rd hA5_7.r2) (c.rd hA5_7.r3) (c.rd hX1_7)) ?_; rintro v H' ⟨ag, cg, rfl, hsg, rfl⟩) | (refine m_call (ent_of Tryz.func62 kr rfl) rfl rfl (fun w c => impl_MapAlong_ok (r := ra) (x := ptR ra.q y t) (c.rd hA5_7.r0) (c.rd hA5_7.r1) (c.rd hA5_7.r2) (c.rd hA5_7.r3) (c.rd hX2_7)) ?_; rintro v H' ⟨ah, ch, rfl, hsh, rfl⟩) | (refine m_call (ent_of Tryz.func27 kr rfl) rfl rfl (fun w c => spec_MultiplyMatrices_ok (a := alM ra (ptR ra.q y t)) (b := alM ra (ptF y t)) (c.own_rd (i := 1) rfl) (c.own_rd (i := 3) rfl)) ?_; rw [j4]; rintro v H' ⟨ai, ci, rfl, hsi, rfl⟩) | (refine m_call (ent_of Tryz.func23 kr rfl) rfl rfl (fun w c => spec_EqM_same (m := alM ra y) (c.own_rd (i := 1) rfl) (c.rd hN_7)) ?_; rintro v H' ⟨rfl, rfl⟩)) | (show oA (.extract _ _); refine st_y (y_ext rfl rfl) rfl ?_) | (show oA (.store _ _ _); refine m_storeb 0 tabs rfl rfl rfl rfl rfl rfl rfl ?_) | (show oA (.alloc _); first | (have _t := tok30; refine m_alloc tabs rfl rfl (fun b29 hb29 => ?_); clear _t tok30) | (have _t := tok31; refine m_alloc tabs rfl rfl (fun b31 hb31 => ?_); clear _t tok31) | (have _t := tok32; refine m_alloc tabs rfl rfl (fun b33 hb33 => ?_); clear _t tok32))) | refine xNt ?_ | (show oC; first | refine c_seq ?_ | refine c_region ?_ | refine c_skip ?_ | refine c_false rfl ?_) | (show AT _ _ _ _; refine x_then ?_))
          all_goals exact x_mid sB (fun w' c' => c5.after (c6.after (c7.after (c'.sub (List.nil_sublist _)))))
        · skip
          repeat' (first | (show oC; refine c_skip ?_))
          exact x_mid sB (fun w' c' => c5.after (c'.sub (List.nil_sublist _)))
      · skip
        as_aux_lemma =>
        have tok40 : True := trivial
        have tok41 : True := trivial
        have tok42 : True := trivial
        have tok43 : True := trivial
        have tok44 : True := trivial
        have tok45 : True := trivial
        repeat' (first | (show oL; first | refine sMv rfl rfl ?_ | refine sAs rfl rfl ?_ | (show oA (.load _ _); first | refine sLb 0 tabs rfl rfl rfl rfl rfl ?_ | refine sLb 5 tabs rfl rfl rfl rfl rfl ?_) | (show oA (.call _); first | (refine m_call (ent_of Tryz.func66 kr rfl) rfl rfl (fun w c => DrawAreDims_ok (hp_code c hc4)) ?_; rintro v H' ⟨q5, aF, cF, aT, cT, ds, ad, cd, rfl, rfl⟩) | (refine m_call (ent_of Tryz.func67 kr rfl) rfl rfl (fun w c => DrawZeroRep_ok (hp_code c hc4)) ?_; rintro v H' ⟨pz, q6, bF, eF, bT, eT, dz, bd, ed, rfl, rfl⟩) | (refine m_call (ent_of Tryz.func68 kr rfl) rfl rfl (fun w c => impl_ZeroRep_ok (q := q6) (d := dz) (c.own_rd (i := 3) rfl) (c.own_rd (i := 2) rfl) (c.own_rd (i := 1) rfl)) ?_; rintro v H' ⟨i0, i0', i1, i1', i2, i2', i3, i3', rfl, si0, si1, si2, si3, rfl⟩) | (refine m_call (ent_of Tryz.func69 kr rfl) rfl rfl (fun w c => spec_ZeroRep_ok (q := q6) (d := dz) (c.own_rd (i := 8) rfl) (c.own_rd (i := 7) rfl) (c.own_rd (i := 6) rfl)) ?_; rintro v H' ⟨j0, j0', j1, j1', j2, j2', j3, j3', rfl, sj0, sj1, sj2, sj3, rfl⟩) | (refine m_call (ent_of Tryz.func70 kr rfl) rfl rfl (fun w c => DrawEqualReps_ok (hp_code c hc4)) ?_; rintro v H' ⟨rl, rk, l0, l0', l1, l1', l2, l2', l3, l3', k0, k0', k1, k1', k2, k2', k3, k3', rfl, rfl⟩; refine AT.base (fun w8 c8 => ?_); have hL8 := rr_own 4 c8 rfl rfl rfl rfl; have hK8 := rr_own 0 c8 rfl rfl rfl rfl; have hI8 := rr_own 14 c8 rfl rfl rfl rfl; have hJ8 := rr_own 9 c8 rfl rfl rfl rfl; have k40 := c8.box (i := 13) rfl; have k42 := c8.box (i := 8) rfl; have k35 := c8.box (i := 22) rfl; have hds := c8.own_rd (i := 23) rfl; have hdT := c8.own_rd (i := 24) rfl; have hdF := c8.own_rd (i := 25) rfl)) | (show oA (.extract _ _); refine st_y (y_ext rfl rfl) rfl ?_) | (show oA (.store _ _ _); first | refine m_storeb 0 tabs rfl rfl rfl rfl rfl rfl rfl ?_ | refine m_storeb 1 tabs rfl rfl rfl rfl rfl rfl rfl ?_) | (show oA (.alloc _); first | (have _t := tok40; refine m_alloc tabs rfl rfl (fun b35 hb35 => ?_); clear _t tok40) | (have _t := tok41; refine m_alloc tabs rfl rfl (fun b38 hb38 => ?_); clear _t tok41) | (have _t := tok42; refine m_alloc tabs rfl rfl (fun b40 hb40 => ?_); clear _t tok42) | (have _t := tok43; refine m_alloc tabs rfl rfl (fun b42 hb42 => ?_); clear _t tok43) | (have _t := tok44; refine m_alloc tabs rfl rfl (fun b44 hb44 => ?_); clear _t tok44) | (have _t := tok45; refine m_alloc tabs rfl rfl (fun b45 hb45 => ?_); clear _t tok45))) | refine xNt ?_ | (show oC; first | refine c_seq ?_ | refine c_region ?_))
        refine c_all (Hp [] w8 [.blk b45 #[iV rk.p, iV rk.q.1, .slice k0 rk.q.2.1.length k0', .slice k1 rk.q.2.2.length k1', .slice k2 rk.d.length k2', .slice k3 rk.m.length k3'] 29, .blk b44 #[iV rl.p, iV rl.q.1, .slice l0 rl.q.2.1.length l0', .slice l1 rl.q.2.2.length l1', .slice l2 rl.d.length l2', .slice l3 rl.m.length l3'] 29]) kr (fun _ c => Hp.drew c) ?_
        refine h_take 0 rfl kr kr kr (by exact y_loadz tabs rfl rfl aS rfl) rfl (fun _ c => c) ?_
        refine h_take 1 rfl kr kr kr (by exact y_move rfl) rfl (fun _ c => c) ?_
        refine h_take 3 rfl kr kr kr (by exact y_loadz tabs rfl rfl aS rfl) rfl (fun _ c => c) ?_
        refine h_take 4 rfl kr kr kr (by exact y_move rfl) rfl (fun _ c => c) ?_
        refine h_only 2 rfl kr ?_
        first | (refine m_call (ent_of Tryz.func71 kr rfl) rfl rfl (fun w c => impl_AreDims_ok (q := q5) (ds := ds) (c.rd hdF) (c.rd hdT) (c.rd hds)) ?_; rintro v H' ⟨rfl, rfl⟩) | (refine m_call (ent_of Tryz.func72 kr rfl) rfl rfl (fun w c => spec_AreDims_ok (q := q5) (ds := ds) (c.rd hdF) (c.rd hdT) (c.rd hds)) ?_; rintro v H' ⟨rfl, rfl⟩) | (refine m_call (ent_of Tryz.func54 kr rfl) rfl rfl (fun w c => eqr_same (r := zeroRb pz q6 dz) (c.rd hI8.r0) (c.rd hI8.r1) (c.rd hI8.r2) (c.rd hI8.r3) (c.rd hJ8.r0) (c.rd hJ8.r1) (c.rd hJ8.r2) (c.rd hJ8.r3)) ?_; rintro v H' ⟨rfl, rfl⟩) | (refine m_call (ent_of Tryz.func73 kr rfl) rfl rfl (fun w c => impl_EqualReps_ok (a := rl) (b := rk) (c.rd hL8.r0) (c.rd hL8.r1) (c.rd hL8.r2) (c.rd hL8.r3) (c.rd hK8.r0) (c.rd hK8.r1) (c.rd hK8.r2) (c.rd hK8.r3)) ?_; rintro v H' ⟨rfl, rfl⟩) | (refine m_call (ent_of Tryz.func54 kr rfl) rfl rfl (fun w c => spec_EqualReps_ok (a := rl) (b := rk) (c.rd hL8.r0) (c.rd hL8.r1) (c.rd hL8.r2) (c.rd hL8.r3) (c.rd hK8.r0) (c.rd hK8.r1) (c.rd hK8.r2) (c.rd hK8.r3)) ?_; rintro v H' ⟨rfl, rfl⟩)
        refine c_nil (x_one (h_keep (fun _ c => c) ?_))
        refine h_only 5 rfl kr ?_
        first | (refine m_call (ent_of Tryz.func71 kr rfl) rfl rfl (fun w c => impl_AreDims_ok (q := q5) (ds := ds) (c.rd hdF) (c.rd hdT) (c.rd hds)) ?_; rintro v H' ⟨rfl, rfl⟩) | (refine m_call (ent_of Tryz.func72 kr rfl) rfl rfl (fun w c => spec_AreDims_ok (q := q5) (ds := ds) (c.rd hdF) (c.rd hdT) (c.rd hds)) ?_; rintro v H' ⟨rfl, rfl⟩) | (refine m_call (ent_of Tryz.func54 kr rfl) rfl rfl (fun w c => eqr_same (r := zeroRb pz q6 dz) (c.rd hI8.r0) (c.rd hI8.r1) (c.rd hI8.r2) (c.rd hI8.r3) (c.rd hJ8.r0) (c.rd hJ8.r1) (c.rd hJ8.r2) (c.rd hJ8.r3)) ?_; rintro v H' ⟨rfl, rfl⟩) | (refine m_call (ent_of Tryz.func73 kr rfl) rfl rfl (fun w c => impl_EqualReps_ok (a := rl) (b := rk) (c.rd hL8.r0) (c.rd hL8.r1) (c.rd hL8.r2) (c.rd hL8.r3) (c.rd hK8.r0) (c.rd hK8.r1) (c.rd hK8.r2) (c.rd hK8.r3)) ?_; rintro v H' ⟨rfl, rfl⟩) | (refine m_call (ent_of Tryz.func54 kr rfl) rfl rfl (fun w c => spec_EqualReps_ok (a := rl) (b := rk) (c.rd hL8.r0) (c.rd hL8.r1) (c.rd hL8.r2) (c.rd hL8.r3) (c.rd hK8.r0) (c.rd hK8.r1) (c.rd hK8.r2) (c.rd hK8.r3)) ?_; rintro v H' ⟨rfl, rfl⟩)
        refine c_nil (x_one (h_keep (fun _ c => c) ?_))
        refine h_take 6 rfl kr kr kr (by exact y_eqlb_same Tryz.underlying4 rfl rfl) rfl (fun _ c => c) ?_
        refine h_take 7 rfl kr kr kr (by exact y_move rfl) rfl (fun _ c => c) ?_
        refine h_takey 8 rfl kr kr kr rfl rfl (by exact y_move rfl) rfl (fun _ c => c) ?_
        refine h_takey 9 rfl kr kr kr rfl rfl (by exact y_move rfl) rfl (fun _ c => c) ?_
        refine h_takey 10 rfl kr kr kr rfl rfl (by exact y_eqlb_same Tryz.underlying4 rfl rfl) rfl (fun _ c => c) ?_
        refine h_take 11 rfl kr kr kr (by exact y_pick rfl rfl rfl) rfl (fun _ c => c) ?_
        refine h_take 12 rfl kr kr kr (by exact y_move rfl) rfl (fun _ c => c) ?_
        refine h_takey 13 rfl kr kr kr rfl rfl (by exact y_loadz tabs rfl rfl aS rfl) rfl (fun _ c => c) ?_
        refine h_takey 14 rfl kr kr kr rfl rfl (by exact y_loadz tabs rfl rfl aS rfl) rfl (fun _ c => c) ?_
        refine h_only 15 rfl kr (st_gy rfl rfl ?_)
        first | (refine m_call (ent_of Tryz.func71 kr rfl) rfl rfl (fun w c => impl_AreDims_ok (q := q5) (ds := ds) (c.rd hdF) (c.rd hdT) (c.rd hds)) ?_; rintro v H' ⟨rfl, rfl⟩) | (refine m_call (ent_of Tryz.func72 kr rfl) rfl rfl (fun w c => spec_AreDims_ok (q := q5) (ds := ds) (c.rd hdF) (c.rd hdT) (c.rd hds)) ?_; rintro v H' ⟨rfl, rfl⟩) | (refine m_call (ent_of Tryz.func54 kr rfl) rfl rfl (fun w c => eqr_same (r := zeroRb pz q6 dz) (c.rd hI8.r0) (c.rd hI8.r1) (c.rd hI8.r2) (c.rd hI8.r3) (c.rd hJ8.r0) (c.rd hJ8.r1) (c.rd hJ8.r2) (c.rd hJ8.r3)) ?_; rintro v H' ⟨rfl, rfl⟩) | (refine m_call (ent_of Tryz.func73 kr rfl) rfl rfl (fun w c => impl_EqualReps_ok (a := rl) (b := rk) (c.rd hL8.r0) (c.rd hL8.r1) (c.rd hL8.r2) (c.rd hL8.r3) (c.rd hK8.r0) (c.rd hK8.r1) (c.rd hK8.r2) (c.rd hK8.r3)) ?_; rintro v H' ⟨rfl, rfl⟩) | (refine m_call (ent_of Tryz.func54 kr rfl) rfl rfl (fun w c => spec_EqualReps_ok (a := rl) (b := rk) (c.rd hL8.r0) (c.rd hL8.r1) (c.rd hL8.r2) (c.rd hL8.r3) (c.rd hK8.r0) (c.rd hK8.r1) (c.rd hK8.r2) (c.rd hK8.r3)) ?_; rintro v H' ⟨rfl, rfl⟩)
        refine c_nil (x_one (h_keep (fun _ c => c) ?_))
        refine h_take 16 rfl kr kr kr (by exact y_pick rfl rfl rfl) rfl (fun _ c => c) ?_
        refine h_take 17 rfl kr kr kr (by exact y_move rfl) rfl (fun _ c => c) ?_
        refine h_takey 18 rfl kr kr kr rfl rfl (by first | exact y_loadb 1 tabs rfl rfl rfl rfl | exact y_loadb 1 tabs rfl rfl rfl rfl) rfl (fun _ c => c) ?_
        refine h_takey 19 rfl kr kr kr rfl rfl (by first | exact y_loadb 0 tabs rfl rfl rfl rfl | exact y_loadb 0 tabs rfl rfl rfl rfl) rfl (fun _ c => c) ?_
        refine h_takey 21 rfl kr kr kr rfl rfl (by first | exact y_loadb 1 tabs rfl rfl rfl rfl | exact y_loadb 1 tabs rfl rfl rfl rfl) rfl (fun _ c => c) ?_
        refine h_takey 22 rfl kr kr kr rfl rfl (by first | exact y_loadb 0 tabs rfl rfl rfl rfl | exact y_loadb 0 tabs rfl rfl rfl rfl) rfl (fun _ c => c) ?_
        refine h_only 20 rfl kr (st_gy rfl rfl ?_)
        first | (refine m_call (ent_of Tryz.func71 kr rfl) rfl rfl (fun w c => impl_AreDims_ok (q := q5) (ds := ds) (c.rd hdF) (c.rd hdT) (c.rd hds)) ?_; rintro v H' ⟨rfl, rfl⟩) | (refine m_call (ent_of Tryz.func72 kr rfl) rfl rfl (fun w c => spec_AreDims_ok (q := q5) (ds := ds) (c.rd hdF) (c.rd hdT) (c.rd hds)) ?_; rintro v H' ⟨rfl, rfl⟩) | (refine m_call (ent_of Tryz.func54 kr rfl) rfl rfl (fun w c => eqr_same (r := zeroRb pz q6 dz) (c.rd hI8.r0) (c.rd hI8.r1) (c.rd hI8.r2) (c.rd hI8.r3) (c.rd hJ8.r0) (c.rd hJ8.r1) (c.rd hJ8.r2) (c.rd hJ8.r3)) ?_; rintro v H' ⟨rfl, rfl⟩) | (refine m_call (ent_of Tryz.func73 kr rfl) rfl rfl (fun w c => impl_EqualReps_ok (a := rl) (b := rk) (c.rd hL8.r0) (c.rd hL8.r1) (c.rd hL8.r2) (c.rd hL8.r3) (c.rd hK8.r0) (c.rd hK8.r1) (c.rd hK8.r2) (c.rd hK8.r3)) ?_; rintro v H' ⟨rfl, rfl⟩) | (refine m_call (ent_of Tryz.func54 kr rfl) rfl rfl (fun w c => spec_EqualReps_ok (a := rl) (b := rk) (c.rd hL8.r0) (c.rd hL8.r1) (c.rd hL8.r2) (c.rd hL8.r3) (c.rd hK8.r0) (c.rd hK8.r1) (c.rd hK8.r2) (c.rd hK8.r3)) ?_; rintro v H' ⟨rfl, rfl⟩)
        refine c_nil (x_one (h_keep (fun _ c => c) ?_))
        refine h_only 23 rfl kr (st_gy rfl rfl ?_)
        first | (refine m_call (ent_of Tryz.func71 kr rfl) rfl rfl (fun w c => impl_AreDims_ok (q := q5) (ds := ds) (c.rd hdF) (c.rd hdT) (c.rd hds)) ?_; rintro v H' ⟨rfl, rfl⟩) | (refine m_call (ent_of Tryz.func72 kr rfl) rfl rfl (fun w c => spec_AreDims_ok (q := q5) (ds := ds) (c.rd hdF) (c.rd hdT) (c.rd hds)) ?_; rintro v H' ⟨rfl, rfl⟩) | (refine m_call (ent_of Tryz.func54 kr rfl) rfl rfl (fun w c => eqr_same (r := zeroRb pz q6 dz) (c.rd hI8.r0) (c.rd hI8.r1) (c.rd hI8.r2) (c.rd hI8.r3) (c.rd hJ8.r0) (c.rd hJ8.r1) (c.rd hJ8.r2) (c.rd hJ8.r3)) ?_; rintro v H' ⟨rfl, rfl⟩) | (refine m_call (ent_of Tryz.func73 kr rfl) rfl rfl (fun w c => impl_EqualReps_ok (a := rl) (b := rk) (c.rd hL8.r0) (c.rd hL8.r1) (c.rd hL8.r2) (c.rd hL8.r3) (c.rd hK8.r0) (c.rd hK8.r1) (c.rd hK8.r2) (c.rd hK8.r3)) ?_; rintro v H' ⟨rfl, rfl⟩) | (refine m_call (ent_of Tryz.func54 kr rfl) rfl rfl (fun w c => spec_EqualReps_ok (a := rl) (b := rk) (c.rd hL8.r0) (c.rd hL8.r1) (c.rd hL8.r2) (c.rd hL8.r3) (c.rd hK8.r0) (c.rd hK8.r1) (c.rd hK8.r2) (c.rd hK8.r3)) ?_; rintro v H' ⟨rfl, rfl⟩)
        refine c_nil (x_one (h_keep (fun _ c => c) ?_))
        refine h_takey 24 rfl kr kr kr rfl rfl (by exact y_eqlb_same Tryz.underlying4 rfl rfl) rfl (fun _ c => c) ?_
        refine h_take 25 rfl kr kr kr (by exact y_pick rfl rfl rfl) rfl (fun _ c => c) ?_
        refine h_take 26 rfl kr kr kr (by exact y_assign rfl) rfl (fun _ c => c) ?_
        refine h_end kr ?_
        repeat' (first | (show oC; refine c_ret ?_) | (show AT _ _ _ _; refine x_then ?_))
        exact x_ret1 Tryz.results5 (res_tmp rfl) (fun wz cz => ⟨_, _, rfl, ⟨rfl, rfl⟩, c1.after (c2.after (c4.after (c8.after (cz.sub (List.nil_sublist _)))))⟩)
set_option maxRecDepth 100000 in
theorem lifted (os : Os) (started : os.Started) (H : Type) (enc : TypeId × Value → H) :
    ReturnsInHanded {} Tryz.checked os 5 .any (fun w args => (Rows.fnRepsSpec.pre enc Tryz.prog Tryz.f5 Rows.fnRepsRow.domain false w args ∧ laidMetH Tryz.prog Rows.fnRepsRow.laid w) ∧ sizedMet enc Tryz.prog Tryz.f5 (OpenSpec.ofChange Rows.fnRepsSpec) false w args) (Rows.fnRepsSpec.post enc Tryz.prog Tryz.f5 false true false false) := by
  refine handed_both (C := Tryz.checked) (X := fun w _ => laidMetH Tryz.prog Rows.fnRepsRow.laid w) (fun _ _ _ hh h => h.of_heap hh) Tryz.own started kr Tryz.func5
    (ChangeSpec.witness_shaped (enc := enc) (C := Tryz.checked) (os := os) (X := fun w _ => laidMetH Tryz.prog Rows.fnRepsRow.laid w) false (World.laidAll Tryz.prog os Rows.fnRepsRow.laid) #[.slice none 0 0] 16 (World.laidAll_os _ _ _) (World.shaped_of_ZipB kr kr) kr kr kr (by rw [MakeChecks.laidMetH_plain _ _ _ kr]; exact laidMet_laidAll _ kr kr)) ?_
  intro W base args ds gs before hval0 hW hcnd _ hL hsh _
  have hG := glb_ofR hL hsh
  have hval : ∀ (j : Nat) t v, Tryz.f5.params[j]? = some t → args[j]? = some v → Value.okWide Tryz.prog W .any base t v := hval0
  have hW' := hW
  obtain ⟨p, q, hA0, hV, rfl, hfz, hnd⟩ := hW
  have hA : DataW.TrodAll enc Tryz.prog W 0 (fun _ => true) true Tryz.f5.params.toList args.toList ds p := hA0
  rw [Tryz.params5] at hA hval
  obtain ⟨v0, vs0, d0, ds0, p0, q0, hargs, rfl, rfl, k0, r0⟩ := trodAll_cons hA
  obtain ⟨rfl, rfl, rfl⟩ := trodAll_nil r0
  obtain rfl : args = #[v0] := by cases args; simp_all
  obtain ⟨rfl, rfl⟩ := trodVars_none hV
  have lt0 : ∀ x ∈ p0, x.block < W.heap.size := by obtain ⟨m, hm⟩ := k0; exact DataW.trod_lt m _ _ _ hm
  obtain ⟨x0, h0, g0⟩ := opn_bytes (hval 0 38 v0 rfl rfl) k0
  clear hA0 hval0
  refine (law_ok W h0 g0 hG).mono fun e W' ⟨v, H', he, ⟨hv, _⟩, hp⟩ => ?_
  subst he; subst hv
  have bel := hp.below
  exact ⟨_, rfl, _, _, _, [], _, [], hW', trodAll_mk1 (shut_bool Tryz.underlying4 _), (trodAll_cons_mk (Below.trod Tryz.laidOut kr (of_decide_eq_true kr) k0 bel lt0) trodAll_mk0), rfl, bel.frame _, fun h => by cases h⟩

theorem closed : joinedFacts Tryz.pinned.checked.prog 5 Tryz.f5 Rows.fnRepsSpec Rows.fnRepsRow = true := by
  unfold joinedFacts
  repeat' (with_reducible refine band ?_ ?_)
  all_goals first | (with_reducible exact fin_enter) | ((with_reducible refine fin_lifted ?_); rfl) | ((with_reducible refine fin_make ?_); rfl) | (as_aux_lemma => kernel_rfl)
/-- the row -/
theorem rowed : Rows.FnRepsSaid :=
  OpenClaim.holds_of_wide 5 Tryz.f5 rfl rfl rfl rfl rfl rfl rfl ⟨rfl, rfl, rfl, rfl, rfl⟩ rfl rfl rfl rfl rfl kr Tryz.func5 closed
    (of_decide_eq_true kr) (by unfold Func.isWrapper; first | (rw [if_pos (by decide +kernel)]; kernel_rfl) | (rw [if_neg (by decide +kernel)]; exact ⟨rfl, rfl⟩))
    (fun os started H enc _ => lifted os started H enc)
/-- the given statement -/
theorem proved : Rows.FnRepsCardSaid :=
  Claim7.holds_tied_plain_at .later [] [.data, .data, .data, .data, .sentinel, .sentinel, .pinned] true (true, "087f56d0a5693e9d561eecd025ca21a5123f4825c21fa0492194b810e092d5bb") true rowed (fun _ h => by cases h) kr (fun _ h => by cases h) fnReps_row_tie rfl ⟨rfl, rfl⟩ kr rfl
    (fun f fn hf hfn => by
      obtain rfl : f = 5 := Option.some.inj ((show Tryz.prog.funcNamed "loop.example/g03404/laws.FnReps" = some 5 by kernel_rfl).symm.trans hf) |>.symm
      obtain rfl : fn = Tryz.f5 := (Option.some.inj (Tryz.func5.symm.trans hfn)).symm
      exact ⟨by kernel_rfl, fun j t ht => by
        rw [Tryz.params5] at ht
        have hm : t ∈ [38] := by simpa using Array.mem_of_getElem? ht
        have hall : ([38].all fun u => !Tryz.prog.wantsStandIn u) = true := by kernel_rfl
        exact (show Tryz.prog.wantsStandIn t = false by simpa using List.all_eq_true.1 hall t hm)⟩)
    kr
#print axioms proved
end Go.Proofs.YtdnhmnnccfoliaaGreatDoor.wFnReps
