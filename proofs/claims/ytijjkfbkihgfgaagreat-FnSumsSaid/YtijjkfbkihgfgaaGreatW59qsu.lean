/- The law FnSums returns true for all arguments, and its arguments read behind the call as they read before; there are no conditions. -/
import Derived.OpenShut
import Derived.ShutString
import Derived.Below
import Derived.Test.YtijjkfbkihgfgaaGreatCgsqsu
import Derived.Test.YtijjkfbkihgfgaaGreatChgqsu
import Derived.Test.YtijjkfbkihgfgaaGreatDagqsu
import Derived.Test.YtijjkfbkihgfgaaGreatDssqsu
import Derived.Test.YtijjkfbkihgfgaaGreatDsuqsu
import Derived.Test.YtijjkfbkihgfgaaGreatDuaqsu
import Derived.Test.YtijjkfbkihgfgaaGreatFinqsu
import Derived.Test.YtijjkfbkihgfgaaGreatLBqsu
import Derived.Test.YtijjkfbkihgfgaaGreatLwsqsu
import Derived.Test.YtijjkfbkihgfgaaGreatOpnqsu
import Derived.Test.YtijjkfbkihgfgaaGreatPrdqsu
import Derived.Test.YtijjkfbkihgfgaaGreatPwsqsu
import Derived.Test.YtijjkfbkihgfgaaGreatRksqsu
import Derived.Test.YtijjkfbkihgfgaaGreatRsiqsu
import Derived.Test.YtijjkfbkihgfgaaGreatRvcqsu
import Derived.Test.YtijjkfbkihgfgaaGreatSmsqsu
namespace Go.Proofs.YtijjkfbkihgfgaaGreat.wFnSums
open Go.Lg Go.Proofs Go.RowKit Go.ChangeShapes Go.WideShapes Go.ChangeAt
attribute [local irreducible] Code.wp wpList bodyPost Exit.then Exit.inBlock Hp Again Calls Y AT ResV QT
set_option maxRecDepth 20000
set_option maxHeartbeats 4000000
set_option maxRecDepth 20000
set_option maxHeartbeats 40000000
set_option linter.unusedVariables false

theorem hdV_bd (a b : Rp) : -1 ≤ hdV a b ∧ hdV a b ≤ 32 := by
  rw [hdV]
  split
  · rename_i h
    have := homN_le h
    omega
  · omega
theorem iso_b {r : Rp} {g : List Mat} (h : ChgP r g) : IsoP r (cgRb r g) g := by
  rw [cgRb, if_pos h]; exact cg_iso h
theorem law_ok (w : World) {x0 : List Int} {u0 : Value} (h0 : Rd w (byT x0) u0) (g0 : Byt x0) : Does Tryz.prog 5 [u0] w (fun r H => r = .bool true ∧ H = []) := by
  by_cases hbig : (x0.length : Int) > 1048576
  · obtain ⟨a, c, rfl⟩ := bytes_sl h0
    refine fn_enter Tryz.func5 rfl Tryz.ntmps5 rfl ?_
    repeat' (first | (show oL; first | refine sMv rfl rfl ?_ | refine sAs rfl rfl ?_ | (show oA (.call _); (refine m_call (ent_of Tryz.func7 kr rfl) rfl rfl (fun w c => big_yes hbig) ?_; rintro v H' ⟨rfl, rfl⟩))) | refine xNt ?_ | (show oC; first | refine c_seq ?_ | refine c_region ?_ | refine c_ret ?_ | refine c_true rfl ?_) | (show AT _ _ _ _; refine x_then_ret ?_))
    exact x_ret1 Tryz.results5 (res_tmp rfl) (fun w' c' => ⟨_, _, rfl, ⟨rfl, rfl⟩, c'⟩)
  have hc := codeF_of h0 g0 om
  have tok0 : True := trivial
  have tok1 : True := trivial
  have tok2 : True := trivial
  refine fn_enter Tryz.func5 rfl Tryz.ntmps5 rfl ?_
  repeat' (first | (show oL; first | refine sMv rfl rfl ?_ | refine sAs rfl rfl ?_ | (show oA (.load _ _); first | refine sLb 0 tabs rfl rfl rfl rfl rfl ?_ | refine sLb 1 tabs rfl rfl rfl rfl rfl ?_ | refine sLb 5 tabs rfl rfl rfl rfl rfl ?_ | refine sLb 6 tabs rfl rfl rfl rfl rfl ?_) | (show oA (.call _); first | (refine m_call (ent_of Tryz.func7 kr rfl) rfl rfl (fun w c => big_ok (hp_code c hc)) ?_; rintro v H' ⟨rfl, rfl⟩) | (refine m_call (ent_of Tryz.func64 kr rfl) rfl rfl (fun w c => DrawDirectSum_ok (hp_code c hc)) ?_; rintro v H' ⟨ra, rb, _, _, _, _, rfl, hPP, ⟨x0, x0', x1, x1', x2, x2', x3, x3', rfl, sx0, sx1, sx2, sx3, rfl⟩, ⟨y0, y0', y1, y1', y2, y2', y3, y3', rfl, sy0, sy1, sy2, sy3, rfl⟩, rfl⟩; refine AT.base (fun w1 c1 => ?_); have hA := rr_own 4 c1 rfl rfl rfl rfl; have hB := rr_own 0 c1 rfl rfl rfl rfl; have hc1 := hp_code c1 hc) | (refine m_call (ent_of Tryz.func65 kr rfl) rfl rfl (fun w c => impl_DirectSum_ok (a := ra) (b := rb) (c.rd hA.r0) (c.rd hA.r1) (c.rd hA.r2) (c.rd hA.r3) (c.rd hB.r0) (c.rd hB.r1) (c.rd hB.r2) (c.rd hB.r3)) ?_; rintro v H' ⟨z0, z0', z1, z1', z2, z2', z3, z3', rfl, sz0, sz1, sz2, sz3, rfl⟩) | (refine m_call (ent_of Tryz.func66 kr rfl) rfl rfl (fun w c => spec_DirectSum_ok (a := ra) (b := rb) (c.rd hA.r0) (c.rd hA.r1) (c.rd hA.r2) (c.rd hA.r3) (c.rd hB.r0) (c.rd hB.r1) (c.rd hB.r2) (c.rd hB.r3)) ?_; rintro v H' ⟨t0, t0', t1, t1', t2, t2', t3, t3', rfl, st0, st1, st2, st3, rfl⟩)) | (show oA (.extract _ _); refine st_y (y_ext rfl rfl) rfl ?_) | (show oA (.store _ _ _); first | refine m_storeb 1 tabs rfl rfl rfl rfl rfl rfl rfl ?_ | refine m_storeb 0 tabs rfl rfl rfl rfl rfl rfl rfl ?_) | (show oA (.alloc _); first | (have _t := tok0; refine m_alloc tabs rfl rfl (fun ba hba => ?_); clear _t tok0) | (have _t := tok1; refine m_alloc tabs rfl rfl (fun bb hbb => ?_); clear _t tok1) | (have _t := tok2; refine m_alloc tabs rfl rfl (fun bs hbs => ?_); clear _t tok2) | refine m_alloc tabs rfl rfl (fun bt hbt => ?_))) | refine xNt ?_ | (show oC; first | refine c_seq ?_ | refine c_region ?_ | refine c_skip (x_then ?_) | refine c_false rfl ?_))
  refine AT.base (fun w2 c2 => ?_)
  have hT := rr_own 1 c2 rfl rfl rfl rfl
  have hSS := rr_own 6 c2 rfl rfl rfl rfl
  have kt := c2.box (i := 0) rfl
  have ks := c2.box (i := 5) rfl
  have kb := c2.box (i := 10) rfl
  have ka := c2.box (i := 11) rfl
  have hA2 := hp_rr c2 hA
  have hB2 := hp_rr c2 hB
  have hc2 := hp_code c2 hc1
  refine c_cutr 6 [(0, u0), (88, .bool false)] (Hp [] w2 []) ?_ ?_
  · refine hold ?_
    have b1 := hdV_bd ra ra
    have b2 := hdV_bd rb ra
    have b3 := hdV_bd rb rb
    by_cases hD : DsP ra rb
    · have d1 : hdV (dsL ra rb) ra = hdV ra ra + hdV rb ra := by rw [dsL, if_pos hD]; exact (ds_homs hD).1
      have d2 : hdV rb (dsL ra rb) = hdV rb ra + hdV rb rb := by rw [dsL, if_pos hD]; exact (ds_homs hD).2
      repeat' (first | (show oC; refine c_draw kr kr (fun _ c => Hp.drew c) ?_) | (show QT _ _ _ _ _ _ (_ :: _); first | refine qMv rfl rfl ?_ | (show qA (.load _ _); refine q_y (y_loadz tabs rfl rfl aS rfl) rfl ?_) | (show qA (.binOp _ _ _ _ _); first | refine q_y (y_neqb_same Tryz.underlying4 rfl rfl) rfl ?_ | refine q_y (y_neqi_eq rfl rfl om) rfl ?_ | refine qAd rfl rfl om rfl ?_) | (show qA (.unOp _ _ _); refine q_y (y_not rfl) rfl ?_) | (show qA (.call _); first | refine q_call (ent_of Tryz.func67 kr rfl) rfl rfl (fun w c => eqr_same (r := dsL ra rb) (c.rd hSS.r0) (c.rd hSS.r1) (c.rd hSS.r2) (c.rd hSS.r3) (c.rd hT.r0) (c.rd hT.r1) (c.rd hT.r2) (c.rd hT.r3)) (fun u H' h => h.1) ?_ | refine q_call (ent_of Tryz.func68 kr rfl) rfl rfl (fun w c => impl_HomDim_ok (a := dsL ra rb) (b := ra) (c.rd hT.r0) (c.rd hT.r1) (c.rd hT.r2) (c.rd hT.r3) (c.rd hA2.r0) (c.rd hA2.r1) (c.rd hA2.r2) (c.rd hA2.r3)) (fun u H' h => h.1) ?_ | refine q_call (ent_of Tryz.func68 kr rfl) rfl rfl (fun w c => impl_HomDim_ok (a := ra) (b := ra) (c.rd hA2.r0) (c.rd hA2.r1) (c.rd hA2.r2) (c.rd hA2.r3) (c.rd hA2.r0) (c.rd hA2.r1) (c.rd hA2.r2) (c.rd hA2.r3)) (fun u H' h => h.1) ?_ | refine q_call (ent_of Tryz.func68 kr rfl) rfl rfl (fun w c => impl_HomDim_ok (a := rb) (b := ra) (c.rd hB2.r0) (c.rd hB2.r1) (c.rd hB2.r2) (c.rd hB2.r3) (c.rd hA2.r0) (c.rd hA2.r1) (c.rd hA2.r2) (c.rd hA2.r3)) (fun u H' h => h.1) ?_ | refine q_call (ent_of Tryz.func68 kr rfl) rfl rfl (fun w c => impl_HomDim_ok (a := rb) (b := dsL ra rb) (c.rd hB2.r0) (c.rd hB2.r1) (c.rd hB2.r2) (c.rd hB2.r3) (c.rd hT.r0) (c.rd hT.r1) (c.rd hT.r2) (c.rd hT.r3)) (fun u H' h => h.1) ?_ | refine q_call (ent_of Tryz.func68 kr rfl) rfl rfl (fun w c => impl_HomDim_ok (a := rb) (b := rb) (c.rd hB2.r0) (c.rd hB2.r1) (c.rd hB2.r2) (c.rd hB2.r3) (c.rd hB2.r0) (c.rd hB2.r1) (c.rd hB2.r2) (c.rd hB2.r3)) (fun u H' h => h.1) ?_) | (show qA (.pick _ _ _); first | refine q_y (y_pickt rfl aO rfl) rfl ?_ | refine q_y (y_pick rfl rfl rfl) rfl ?_) | refine q_gy rfl rfl ?_ | refine q_gdy rfl rfl aO ?_) | (show QT _ _ _ _ _ _ []; refine q_nil ?_))
      all_goals exact x_mid sB (fun w' c' => c'.sub (List.nil_sublist _))
    · skip
      repeat' (first | (show oC; refine c_draw kr kr (fun _ c => Hp.drew c) ?_) | (show QT _ _ _ _ _ _ (_ :: _); first | refine qMv rfl rfl ?_ | (show qA (.load _ _); refine q_y (y_loadz tabs rfl rfl aS rfl) rfl ?_) | (show qA (.binOp _ _ _ _ _); refine q_y (y_neqb_same Tryz.underlying4 rfl rfl) rfl ?_) | (show qA (.unOp _ _ _); refine q_y (y_not rfl) rfl ?_) | (show qA (.call _); refine q_call (ent_of Tryz.func67 kr rfl) rfl rfl (fun w c => eqr_same (r := dsL ra rb) (c.rd hSS.r0) (c.rd hSS.r1) (c.rd hSS.r2) (c.rd hSS.r3) (c.rd hT.r0) (c.rd hT.r1) (c.rd hT.r2) (c.rd hT.r3)) (fun u H' h => h.1) ?_) | (show qA (.pick _ _ _); first | refine q_y (y_pickf rfl aO rfl) rfl ?_ | refine q_y (y_pick rfl rfl rfl) rfl ?_) | refine q_gy rfl rfl ?_ | refine q_gdn rfl rfl aO rfl ?_ | refine q_gu rfl rfl rfl ?_) | (show QT _ _ _ _ _ _ []; refine q_nil ?_))
      all_goals exact x_mid sB (fun w' c' => c'.sub (List.nil_sublist _))
  · skip
    as_aux_lemma =>
    have tok0 : True := trivial
    have tok1 : True := trivial
    repeat' (first | (show oL; first | refine sMv rfl rfl ?_ | refine sAs rfl rfl ?_ | (show oA (.load _ _); first | refine sLb 0 tabs rfl rfl rfl rfl rfl ?_ | refine sLb 5 tabs rfl rfl rfl rfl rfl ?_) | (show oA (.call _); first | (refine m_call (ent_of Tryz.func69 kr rfl) rfl rfl (fun w c => DrawChangeBasis_ok (hp_code c hc2)) ?_; rintro v H' ⟨rr, gs, _, ag, cg, _, rfl, ⟨x0, x0', x1, x1', x2, x2', x3, x3', rfl, sx0, sx1, sx2, sx3, rfl⟩, hsg, rfl⟩; refine AT.base (fun w3 c3 => ?_); have hR := rr_own 1 c3 rfl rfl rfl rfl; have hg := c3.own_rd (i := 0) rfl; have hc3 := hp_code c3 hc2) | (refine m_call (ent_of Tryz.func70 kr rfl) rfl rfl (fun w c => impl_ChangeBasis_ok (r := rr) (gs := gs) (c.rd hR.r0) (c.rd hR.r1) (c.rd hR.r2) (c.rd hR.r3) (c.rd hg)) ?_; rintro v H' ⟨y0, y0', y1, y1', y2, y2', y3, y3', rfl, sy0, sy1, sy2, sy3, rfl⟩) | (refine m_call (ent_of Tryz.func71 kr rfl) rfl rfl (fun w c => spec_ChangeBasis_ok (r := rr) (gs := gs) (c.rd hR.r0) (c.rd hR.r1) (c.rd hR.r2) (c.rd hR.r3) (c.rd hg)) ?_; rintro v H' ⟨z0, z0', z1, z1', z2, z2', z3, z3', rfl, sz0, sz1, sz2, sz3, rfl⟩)) | (show oA (.extract _ _); refine st_y (y_ext rfl rfl) rfl ?_) | (show oA (.store _ _ _); refine m_storeb 0 tabs rfl rfl rfl rfl rfl rfl rfl ?_) | (show oA (.alloc _); first | (have _t := tok0; refine m_alloc tabs rfl rfl (fun br hbr => ?_); clear _t tok0) | (have _t := tok1; refine m_alloc tabs rfl rfl (fun bx hbx => ?_); clear _t tok1) | refine m_alloc tabs rfl rfl (fun b_ hb_ => ?_))) | refine xNt ?_ | (show oC; first | refine c_cutr 11 [(0, u0), (131, .bool false)] (Hp [] w3 []) ?_ ?_ | refine c_seq ?_ | refine c_region ?_ | refine c_skip (x_then ?_) | refine c_false rfl ?_))
    · refine hold ?_
      by_cases hC : ChgP rr gs
      · skip
        repeat' (first | (show oL; first | refine sMv rfl rfl ?_ | (show oA (.load _ _); first | refine sLb 5 tabs rfl rfl rfl rfl rfl ?_ | refine sLb 0 tabs rfl rfl rfl rfl rfl ?_ | refine sLb 10 tabs rfl rfl rfl rfl rfl ?_) | (show oA (.binOp _ _ _ _ _); refine st_y (y_neqb_same Tryz.underlying4 rfl rfl) rfl ?_) | (show oA (.unOp _ _ _); refine st_y (y_not rfl) rfl ?_) | (show oA (.call _); first | (refine m_call (ent_of Tryz.func67 kr rfl) rfl rfl (fun w c => eqr_same (r := cgRb rr gs) (c.own_rd (i := 9) rfl) (c.own_rd (i := 8) rfl) (c.own_rd (i := 7) rfl) (c.own_rd (i := 6) rfl) (c.own_rd (i := 4) rfl) (c.own_rd (i := 3) rfl) (c.own_rd (i := 2) rfl) (c.own_rd (i := 1) rfl)) ?_; rintro v H' ⟨rfl, rfl⟩) | (refine m_call (ent_of Tryz.func72 kr rfl) rfl rfl (fun w c => impl_AreChanges_ok (r := rr) (c.rd hR.r0) (c.rd hR.r1) (c.rd hR.r2) (c.rd hR.r3) (ms := gs) (c.rd hg)) ?_; rintro v H' ⟨rfl, rfl⟩) | (refine m_call (ent_of Tryz.func45 kr rfl) rfl rfl (fun w c => impl_IsIsomorphism_ok (a := rr) (b := cgRb rr gs) (ms := gs) (c.rd hR.r0) (c.rd hR.r1) (c.rd hR.r2) (c.rd hR.r3) (c.own_rd (i := 4) rfl) (c.own_rd (i := 3) rfl) (c.own_rd (i := 2) rfl) (c.own_rd (i := 1) rfl) (c.rd hg)) ?_; rw [decide_eq_true (iso_b hC)]; rintro v H' ⟨rfl, rfl⟩)) | (show oA (.pick _ _ _); first | refine st_y (y_pickt rfl aO rfl) rfl ?_ | refine st_y (y_pick rfl rfl rfl) rfl ?_) | refine st_gy rfl rfl ?_ | refine st_gdy rfl rfl aO ?_) | (show oN; refine c_nil ?_) | (show oC; refine c_region ?_))
        all_goals exact x_mid sB (fun w' c' => c'.sub (List.nil_sublist _))
      · skip
        repeat' (first | (show oL; first | refine sMv rfl rfl ?_ | (show oA (.load _ _); first | refine sLb 5 tabs rfl rfl rfl rfl rfl ?_ | refine sLb 0 tabs rfl rfl rfl rfl rfl ?_ | refine sLb 10 tabs rfl rfl rfl rfl rfl ?_) | (show oA (.binOp _ _ _ _ _); refine st_y (y_neqb_same Tryz.underlying4 rfl rfl) rfl ?_) | (show oA (.unOp _ _ _); refine st_y (y_not rfl) rfl ?_) | (show oA (.call _); first | (refine m_call (ent_of Tryz.func67 kr rfl) rfl rfl (fun w c => eqr_same (r := cgRb rr gs) (c.own_rd (i := 9) rfl) (c.own_rd (i := 8) rfl) (c.own_rd (i := 7) rfl) (c.own_rd (i := 6) rfl) (c.own_rd (i := 4) rfl) (c.own_rd (i := 3) rfl) (c.own_rd (i := 2) rfl) (c.own_rd (i := 1) rfl)) ?_; rintro v H' ⟨rfl, rfl⟩) | (refine m_call (ent_of Tryz.func72 kr rfl) rfl rfl (fun w c => impl_AreChanges_ok (r := rr) (c.rd hR.r0) (c.rd hR.r1) (c.rd hR.r2) (c.rd hR.r3) (ms := gs) (c.rd hg)) ?_; rintro v H' ⟨rfl, rfl⟩)) | (show oA (.pick _ _ _); first | refine st_y (y_pickf rfl aO rfl) rfl ?_ | refine st_y (y_pick rfl rfl rfl) rfl ?_) | refine st_gy rfl rfl ?_ | refine st_gdn rfl rfl aO rfl ?_) | (show oN; refine c_nil ?_) | (show oC; refine c_region ?_))
        all_goals exact x_mid sB (fun w' c' => c'.sub (List.nil_sublist _))
    · skip
      as_aux_lemma =>
      have tok0 : True := trivial
      have tok1 : True := trivial
      have tok2 : True := trivial
      have tok3 : True := trivial
      have tok4 : True := trivial
      have tok5 : True := trivial
      have tok6 : True := trivial
      repeat' (first | (show oL; first | refine sMv rfl rfl ?_ | refine sAs rfl rfl ?_ | (show oA (.load _ _); first | refine sLb 0 tabs rfl rfl rfl rfl rfl ?_ | refine sLb 5 tabs rfl rfl rfl rfl rfl ?_) | (show oA (.call _); first | (refine m_call (ent_of Tryz.func73 kr rfl) rfl rfl (fun w c => DrawSumOf_ok (hp_code c hc3)) ?_; rintro v H' ⟨l, hl⟩; refine AT.base (fun w4 c4 => ?_); have hL := hl _ _ (c4.sub (List.sublist_append_left _ _)); have hc4 := hp_code c4 hc3) | (refine m_call (ent_of Tryz.func74 kr rfl) rfl rfl (fun w c => impl_SumOf_ok (l := l) (c.rd hL)) ?_; rintro v H' ⟨x0, x0', x1, x1', x2, x2', x3, x3', rfl, sx0, sx1, sx2, sx3, rfl⟩) | (refine m_call (ent_of Tryz.func75 kr rfl) rfl rfl (fun w c => spec_SumOf_ok (l := l) (c.rd hL)) ?_; rintro v H' ⟨y0, y0', y1, y1', y2, y2', y3, y3', rfl, sy0, sy1, sy2, sy3, rfl⟩) | (refine m_call (ent_of Tryz.func76 kr rfl) rfl rfl (fun w c => DrawPowerOfRep_ok (hp_code c hc4)) ?_; rintro v H' ⟨n, rc, _, rfl, z0, z0', z1, z1', z2, z2', z3, z3', rfl, sz0, sz1, sz2, sz3, rfl⟩; refine AT.base (fun w5 c5 => ?_); have hE := rr_own 0 c5 rfl rfl rfl rfl; have hV := rr_own 5 c5 rfl rfl rfl rfl; have hU := rr_own 10 c5 rfl rfl rfl rfl; have kv := c5.box (i := 4) rfl; have ku := c5.box (i := 9) rfl; have hc5 := hp_code c5 hc4; by_cases hS : SoP (pwL rc n)) | (refine m_call (ent_of Tryz.func77 kr rfl) rfl rfl (fun w c => impl_PowerOfRep_ok (r := rc) (n := n) (c.rd hE.r0) (c.rd hE.r1) (c.rd hE.r2) (c.rd hE.r3)) ?_; (first | rw [decide_eq_true hS] | rw [decide_eq_false hS]); rintro v H' ⟨p0, p0', p1, p1', p2, p2', p3, p3', rfl, sp0, sp1, sp2, sp3, rfl⟩) | (refine m_call (ent_of Tryz.func78 kr rfl) rfl rfl (fun w c => spec_PowerOfRep_ok (r := rc) (n := n) (c.rd hE.r0) (c.rd hE.r1) (c.rd hE.r2) (c.rd hE.r3)) ?_; (first | rw [decide_eq_true hS] | rw [decide_eq_false hS]); rintro v H' ⟨q0, q0', q1, q1', q2, q2', q3, q3', rfl, sq0, sq1, sq2, sq3, rfl⟩) | (refine m_call (ent_of Tryz.func79 kr rfl) rfl rfl (fun w c => DrawRestrictRep_ok (hp_code c hc5)) ?_; rintro v H' ⟨rf, ks, _, ak, ck, _, rfl, hks, ⟨f0, f0', f1, f1', f2, f2', f3, f3', rfl, sf0, sf1, sf2, sf3, rfl⟩, rfl⟩; refine AT.base (fun w6 c6 => ?_); have hK := c6.own_rd (i := 0) rfl; have hF := rr_own 1 c6 rfl rfl rfl rfl; have ke := c6.box (i := 5) rfl; have hG := rr_own 6 c6 rfl rfl rfl rfl; have kd := c6.box (i := 10) rfl; have hI := rr_own 11 c6 rfl rfl rfl rfl; have kc := c6.box (i := 15) rfl; have hE2 := hp_rr c6 hE; have hV2 := hp_rr c6 hV; have hU2 := hp_rr c6 hU; have kv2 := c6.boxk kv; have ku2 := c6.boxk ku) | (refine m_call (ent_of Tryz.func80 kr rfl) rfl rfl (fun w c => impl_RestrictRep_ok (r := rf) (ks := ks) hks (c.rd hF.r0) (c.rd hF.r1) (c.rd hF.r2) (c.rd hF.r3) (c.rd hK)) ?_; rintro v H' ⟨h0, h0', h1, h1', h2, h2', h3, h3', rfl, sh0, sh1, sh2, sh3, rfl⟩) | (refine m_call (ent_of Tryz.func81 kr rfl) rfl rfl (fun w c => spec_RestrictRep_ok (r := rf) (ks := ks) (c.rd hF.r0) (c.rd hF.r1) (c.rd hF.r2) (c.rd hF.r3) (c.rd hK)) ?_; rintro v H' ⟨i0, i0', i1, i1', i2, i2', i3, i3', rfl, si0, si1, si2, si3, rfl⟩)) | (show oA (.extract _ _); refine st_y (y_ext rfl rfl) rfl ?_) | (show oA (.store _ _ _); refine m_storeb 0 tabs rfl rfl rfl rfl rfl rfl rfl ?_) | (show oA (.alloc _); first | (have _t := tok0; refine m_alloc tabs rfl rfl (fun bu hbu => ?_); clear _t tok0) | (have _t := tok1; refine m_alloc tabs rfl rfl (fun bv hbv => ?_); clear _t tok1) | (have _t := tok2; refine m_alloc tabs rfl rfl (fun bc hbc => ?_); clear _t tok2) | (have _t := tok3; refine m_alloc tabs rfl rfl (fun bd hbd => ?_); clear _t tok3) | (have _t := tok4; refine m_alloc tabs rfl rfl (fun be hbe => ?_); clear _t tok4) | (have _t := tok5; refine m_alloc tabs rfl rfl (fun bf hbf => ?_); clear _t tok5) | (have _t := tok6; refine m_alloc tabs rfl rfl (fun bh hbh => ?_); clear _t tok6) | refine m_alloc tabs rfl rfl (fun bi hbi => ?_))) | refine xNt ?_ | (show oC; first | refine c_seq ?_ | refine c_region ?_))
      · obtain ⟨s1, s2, s3, s4, s5⟩ := so_sum hS
        have s6 := sum_in s1.2.1.2.2.1
        have s7 := s1.2.1.2.2.2
        have smb : -9223372036854775808 ≤ n * rc.d.sum ∧ n * rc.d.sum ≤ 9223372036854775807 := by
          have h1 := Int.mul_nonneg (show 0 ≤ n by omega) s6.1
          have h2 : n * rc.d.sum ≤ 8 * 8 := Int.mul_le_mul s5 s7 s6.1 om
          omega
        refine c_all (Hp [] w6 [.blk bi #[iV (restR rf ks).p, iV (restR rf ks).q.1, .slice i0 (restR rf ks).q.2.1.length i0', .slice i1 (restR rf ks).q.2.2.length i1', .slice i2 (restR rf ks).d.length i2', .slice i3 (restR rf ks).m.length i3'] 60, .blk bh #[iV (restR rf ks).p, iV (restR rf ks).q.1, .slice h0 (restR rf ks).q.2.1.length h0', .slice h1 (restR rf ks).q.2.2.length h1', .slice h2 (restR rf ks).d.length h2', .slice h3 (restR rf ks).m.length h3'] 60, .blk bf #[iV rf.p, iV rf.q.1, .slice f0 rf.q.2.1.length f0', .slice f1 rf.q.2.2.length f1', .slice f2 rf.d.length f2', .slice f3 rf.m.length f3'] 60]) kr (fun _ c => Hp.drew c) ?_
        refine h_take 0 rfl kr kr kr (by exact y_move rfl) rfl sS ?_
        refine h_take 1 rfl kr kr kr (by exact y_move rfl) rfl sS ?_
        refine h_take 2 rfl kr kr kr (by exact y_eqlb_same Tryz.underlying4 rfl rfl) rfl sS ?_
        refine h_take 3 rfl kr kr kr (by exact y_move rfl) rfl sS ?_
        refine h_takey 4 rfl kr kr kr rfl rfl (by exact y_loadz tabs rfl rfl aS rfl) rfl sS ?_
        refine h_takey 5 rfl kr kr kr rfl rfl (by exact y_loadz tabs rfl rfl aS rfl) rfl sS ?_
        refine h_only 6 rfl kr (st_gy rfl rfl ?_)
        first | (refine m_call (ent_of Tryz.func67 kr rfl) rfl rfl (fun w c => eqr_same (r := soR l) (c.rd hU2.r0) (c.rd hU2.r1) (c.rd hU2.r2) (c.rd hU2.r3) (c.rd hV2.r0) (c.rd hV2.r1) (c.rd hV2.r2) (c.rd hV2.r3)) ?_; rintro v H' ⟨rfl, rfl⟩) | (refine m_call (ent_of Tryz.func67 kr rfl) rfl rfl (fun w c => eqr_same (r := soR (pwL rc n)) (c.rd hI.r0) (c.rd hI.r1) (c.rd hI.r2) (c.rd hI.r3) (c.rd hG.r0) (c.rd hG.r1) (c.rd hG.r2) (c.rd hG.r3)) ?_; rintro v H' ⟨rfl, rfl⟩) | (refine m_call (ent_of Tryz.func67 kr rfl) rfl rfl (fun w c => eqr_same (r := restR rf ks) (c.own_rd (i := 9) rfl) (c.own_rd (i := 8) rfl) (c.own_rd (i := 7) rfl) (c.own_rd (i := 6) rfl) (c.own_rd (i := 4) rfl) (c.own_rd (i := 3) rfl) (c.own_rd (i := 2) rfl) (c.own_rd (i := 1) rfl)) ?_; rintro v H' ⟨rfl, rfl⟩) | (refine m_call (ent_of Tryz.func83 kr rfl) rfl rfl (fun w c => impl_SupportOf_ok (r := rf) (c.rd hF.r0) (c.rd hF.r1) (c.rd hF.r2) (c.rd hF.r3)) ?_; rintro v H' ⟨a7, e7, rfl, hs7, rfl⟩) | (refine m_call (ent_of Tryz.func84 kr rfl) rfl rfl (fun w c => spec_SupportOf_ok (r := rf) (c.rd hF.r0) (c.rd hF.r1) (c.rd hF.r2) (c.rd hF.r3)) ?_; rintro v H' ⟨a8, e8, rfl, hs8, rfl⟩) | (refine m_call (ent_of Tryz.func51 kr rfl) rfl rfl (fun w c => sameInts_at (c.own_rd (i := 1) rfl) (c.own_rd (i := 0) rfl)) ?_; rintro v H' ⟨rfl, rfl⟩) | (refine m_call (ent_of Tryz.func82 kr rfl) rfl rfl (fun w c => impl_TotalOf_ok (r := soR (pwL rc n)) (c.rd hG.r0) (c.rd hG.r1) (c.rd hG.r2) (c.rd hG.r3)) ?_; rw [if_pos s2]; rintro v H' ⟨rfl, rfl⟩) | (refine m_call (ent_of Tryz.func82 kr rfl) rfl rfl (fun w c => impl_TotalOf_ok (r := rc) (c.rd hE2.r0) (c.rd hE2.r1) (c.rd hE2.r2) (c.rd hE2.r3)) ?_; rw [if_pos s1]; rintro v H' ⟨rfl, rfl⟩)
        refine c_nil (x_one (h_keep sS ?_))
        refine h_take 7 rfl kr kr kr (by exact y_pick rfl rfl rfl) rfl sS ?_
        refine h_take 8 rfl kr kr kr (by exact y_move rfl) rfl sS ?_
        refine h_takey 9 rfl kr kr kr rfl rfl (by exact y_move rfl) rfl sS ?_
        refine h_takey 10 rfl kr kr kr rfl rfl (by exact y_move rfl) rfl sS ?_
        refine h_takey 11 rfl kr kr kr rfl rfl (by exact y_eqlb_same Tryz.underlying4 rfl rfl) rfl sS ?_
        refine h_take 12 rfl kr kr kr (by exact y_pick rfl rfl rfl) rfl sS ?_
        refine h_take 13 rfl kr kr kr (by exact y_move rfl) rfl sS ?_
        refine h_takey 14 rfl kr kr kr rfl rfl (by exact y_loadz tabs rfl rfl aS rfl) rfl sS ?_
        refine h_takey 15 rfl kr kr kr rfl rfl (by exact y_loadz tabs rfl rfl aS rfl) rfl sS ?_
        refine h_only 16 rfl kr (st_gy rfl rfl ?_)
        first | (refine m_call (ent_of Tryz.func67 kr rfl) rfl rfl (fun w c => eqr_same (r := soR l) (c.rd hU2.r0) (c.rd hU2.r1) (c.rd hU2.r2) (c.rd hU2.r3) (c.rd hV2.r0) (c.rd hV2.r1) (c.rd hV2.r2) (c.rd hV2.r3)) ?_; rintro v H' ⟨rfl, rfl⟩) | (refine m_call (ent_of Tryz.func67 kr rfl) rfl rfl (fun w c => eqr_same (r := soR (pwL rc n)) (c.rd hI.r0) (c.rd hI.r1) (c.rd hI.r2) (c.rd hI.r3) (c.rd hG.r0) (c.rd hG.r1) (c.rd hG.r2) (c.rd hG.r3)) ?_; rintro v H' ⟨rfl, rfl⟩) | (refine m_call (ent_of Tryz.func67 kr rfl) rfl rfl (fun w c => eqr_same (r := restR rf ks) (c.own_rd (i := 9) rfl) (c.own_rd (i := 8) rfl) (c.own_rd (i := 7) rfl) (c.own_rd (i := 6) rfl) (c.own_rd (i := 4) rfl) (c.own_rd (i := 3) rfl) (c.own_rd (i := 2) rfl) (c.own_rd (i := 1) rfl)) ?_; rintro v H' ⟨rfl, rfl⟩) | (refine m_call (ent_of Tryz.func83 kr rfl) rfl rfl (fun w c => impl_SupportOf_ok (r := rf) (c.rd hF.r0) (c.rd hF.r1) (c.rd hF.r2) (c.rd hF.r3)) ?_; rintro v H' ⟨a7, e7, rfl, hs7, rfl⟩) | (refine m_call (ent_of Tryz.func84 kr rfl) rfl rfl (fun w c => spec_SupportOf_ok (r := rf) (c.rd hF.r0) (c.rd hF.r1) (c.rd hF.r2) (c.rd hF.r3)) ?_; rintro v H' ⟨a8, e8, rfl, hs8, rfl⟩) | (refine m_call (ent_of Tryz.func51 kr rfl) rfl rfl (fun w c => sameInts_at (c.own_rd (i := 1) rfl) (c.own_rd (i := 0) rfl)) ?_; rintro v H' ⟨rfl, rfl⟩) | (refine m_call (ent_of Tryz.func82 kr rfl) rfl rfl (fun w c => impl_TotalOf_ok (r := soR (pwL rc n)) (c.rd hG.r0) (c.rd hG.r1) (c.rd hG.r2) (c.rd hG.r3)) ?_; rw [if_pos s2]; rintro v H' ⟨rfl, rfl⟩) | (refine m_call (ent_of Tryz.func82 kr rfl) rfl rfl (fun w c => impl_TotalOf_ok (r := rc) (c.rd hE2.r0) (c.rd hE2.r1) (c.rd hE2.r2) (c.rd hE2.r3)) ?_; rw [if_pos s1]; rintro v H' ⟨rfl, rfl⟩)
        refine c_nil (x_one (h_keep sS ?_))
        refine h_take 17 rfl kr kr kr (by exact y_pick rfl rfl rfl) rfl sS ?_
        refine h_take 18 rfl kr kr kr (by exact y_move rfl) rfl sS ?_
        refine h_takey 19 rfl kr kr kr rfl rfl (by exact y_move rfl) rfl sS ?_
        refine h_takey 20 rfl kr kr kr rfl rfl (by exact y_not rfl) rfl sS ?_
        refine h_takey 21 rfl kr kr kr rfl rfl (by exact y_move rfl) rfl sS ?_
        refine h_takey 22 rfl kr kr kr rfl rfl (by exact y_loadz tabs rfl rfl aS rfl) rfl sS ?_
        refine h_takey 24 rfl kr kr kr rfl rfl (by exact y_move rfl) rfl sS ?_
        refine h_takey 25 rfl kr kr kr rfl rfl (by exact y_loadz tabs rfl rfl aS rfl) rfl sS ?_
        refine h_only 23 rfl kr (st_gy rfl rfl ?_)
        first | (refine m_call (ent_of Tryz.func67 kr rfl) rfl rfl (fun w c => eqr_same (r := soR l) (c.rd hU2.r0) (c.rd hU2.r1) (c.rd hU2.r2) (c.rd hU2.r3) (c.rd hV2.r0) (c.rd hV2.r1) (c.rd hV2.r2) (c.rd hV2.r3)) ?_; rintro v H' ⟨rfl, rfl⟩) | (refine m_call (ent_of Tryz.func67 kr rfl) rfl rfl (fun w c => eqr_same (r := soR (pwL rc n)) (c.rd hI.r0) (c.rd hI.r1) (c.rd hI.r2) (c.rd hI.r3) (c.rd hG.r0) (c.rd hG.r1) (c.rd hG.r2) (c.rd hG.r3)) ?_; rintro v H' ⟨rfl, rfl⟩) | (refine m_call (ent_of Tryz.func67 kr rfl) rfl rfl (fun w c => eqr_same (r := restR rf ks) (c.own_rd (i := 9) rfl) (c.own_rd (i := 8) rfl) (c.own_rd (i := 7) rfl) (c.own_rd (i := 6) rfl) (c.own_rd (i := 4) rfl) (c.own_rd (i := 3) rfl) (c.own_rd (i := 2) rfl) (c.own_rd (i := 1) rfl)) ?_; rintro v H' ⟨rfl, rfl⟩) | (refine m_call (ent_of Tryz.func83 kr rfl) rfl rfl (fun w c => impl_SupportOf_ok (r := rf) (c.rd hF.r0) (c.rd hF.r1) (c.rd hF.r2) (c.rd hF.r3)) ?_; rintro v H' ⟨a7, e7, rfl, hs7, rfl⟩) | (refine m_call (ent_of Tryz.func84 kr rfl) rfl rfl (fun w c => spec_SupportOf_ok (r := rf) (c.rd hF.r0) (c.rd hF.r1) (c.rd hF.r2) (c.rd hF.r3)) ?_; rintro v H' ⟨a8, e8, rfl, hs8, rfl⟩) | (refine m_call (ent_of Tryz.func51 kr rfl) rfl rfl (fun w c => sameInts_at (c.own_rd (i := 1) rfl) (c.own_rd (i := 0) rfl)) ?_; rintro v H' ⟨rfl, rfl⟩) | (refine m_call (ent_of Tryz.func82 kr rfl) rfl rfl (fun w c => impl_TotalOf_ok (r := soR (pwL rc n)) (c.rd hG.r0) (c.rd hG.r1) (c.rd hG.r2) (c.rd hG.r3)) ?_; rw [if_pos s2]; rintro v H' ⟨rfl, rfl⟩) | (refine m_call (ent_of Tryz.func82 kr rfl) rfl rfl (fun w c => impl_TotalOf_ok (r := rc) (c.rd hE2.r0) (c.rd hE2.r1) (c.rd hE2.r2) (c.rd hE2.r3)) ?_; rw [if_pos s1]; rintro v H' ⟨rfl, rfl⟩)
        refine c_nil (x_one (h_keep sS ?_))
        refine h_only 26 rfl kr (st_gy rfl rfl ?_)
        first | (refine m_call (ent_of Tryz.func67 kr rfl) rfl rfl (fun w c => eqr_same (r := soR l) (c.rd hU2.r0) (c.rd hU2.r1) (c.rd hU2.r2) (c.rd hU2.r3) (c.rd hV2.r0) (c.rd hV2.r1) (c.rd hV2.r2) (c.rd hV2.r3)) ?_; rintro v H' ⟨rfl, rfl⟩) | (refine m_call (ent_of Tryz.func67 kr rfl) rfl rfl (fun w c => eqr_same (r := soR (pwL rc n)) (c.rd hI.r0) (c.rd hI.r1) (c.rd hI.r2) (c.rd hI.r3) (c.rd hG.r0) (c.rd hG.r1) (c.rd hG.r2) (c.rd hG.r3)) ?_; rintro v H' ⟨rfl, rfl⟩) | (refine m_call (ent_of Tryz.func67 kr rfl) rfl rfl (fun w c => eqr_same (r := restR rf ks) (c.own_rd (i := 9) rfl) (c.own_rd (i := 8) rfl) (c.own_rd (i := 7) rfl) (c.own_rd (i := 6) rfl) (c.own_rd (i := 4) rfl) (c.own_rd (i := 3) rfl) (c.own_rd (i := 2) rfl) (c.own_rd (i := 1) rfl)) ?_; rintro v H' ⟨rfl, rfl⟩) | (refine m_call (ent_of Tryz.func83 kr rfl) rfl rfl (fun w c => impl_SupportOf_ok (r := rf) (c.rd hF.r0) (c.rd hF.r1) (c.rd hF.r2) (c.rd hF.r3)) ?_; rintro v H' ⟨a7, e7, rfl, hs7, rfl⟩) | (refine m_call (ent_of Tryz.func84 kr rfl) rfl rfl (fun w c => spec_SupportOf_ok (r := rf) (c.rd hF.r0) (c.rd hF.r1) (c.rd hF.r2) (c.rd hF.r3)) ?_; rintro v H' ⟨a8, e8, rfl, hs8, rfl⟩) | (refine m_call (ent_of Tryz.func51 kr rfl) rfl rfl (fun w c => sameInts_at (c.own_rd (i := 1) rfl) (c.own_rd (i := 0) rfl)) ?_; rintro v H' ⟨rfl, rfl⟩) | (refine m_call (ent_of Tryz.func82 kr rfl) rfl rfl (fun w c => impl_TotalOf_ok (r := soR (pwL rc n)) (c.rd hG.r0) (c.rd hG.r1) (c.rd hG.r2) (c.rd hG.r3)) ?_; rw [if_pos s2]; rintro v H' ⟨rfl, rfl⟩) | (refine m_call (ent_of Tryz.func82 kr rfl) rfl rfl (fun w c => impl_TotalOf_ok (r := rc) (c.rd hE2.r0) (c.rd hE2.r1) (c.rd hE2.r2) (c.rd hE2.r3)) ?_; rw [if_pos s1]; rintro v H' ⟨rfl, rfl⟩)
        refine c_nil (x_one (h_keep sS ?_))
        refine h_takey 27 rfl kr kr kr rfl rfl (by exact y_mul rfl rfl smb) rfl sS ?_
        refine h_takey 28 rfl kr kr kr rfl rfl (by exact y_eqli_eq rfl rfl s3) rfl sS ?_
        refine h_takey 29 rfl kr kr kr rfl rfl (by exact y_pick rfl rfl rfl) rfl sS ?_
        refine h_take 30 rfl kr kr kr (by exact y_pick rfl rfl rfl) rfl sS ?_
        refine h_take 31 rfl kr kr kr (by exact y_move rfl) rfl sS ?_
        refine h_takey 32 rfl kr kr kr rfl rfl (by exact y_move rfl) rfl sS ?_
        refine h_takey 33 rfl kr kr kr rfl rfl (by exact y_move rfl) rfl sS ?_
        refine h_takey 34 rfl kr kr kr rfl rfl (by exact y_eqlb_same Tryz.underlying4 rfl rfl) rfl sS ?_
        refine h_take 35 rfl kr kr kr (by exact y_pick rfl rfl rfl) rfl sS ?_
        refine h_take 36 rfl kr kr kr (by exact y_move rfl) rfl sS ?_
        refine h_takey 37 rfl kr kr kr rfl rfl (by first | exact y_loadb 1 tabs rfl rfl rfl rfl | exact y_loadb 1 tabs rfl rfl rfl rfl) rfl sS ?_
        refine h_takey 38 rfl kr kr kr rfl rfl (by first | exact y_loadb 0 tabs rfl rfl rfl rfl | exact y_loadb 0 tabs rfl rfl rfl rfl) rfl sS ?_
        refine h_only 39 rfl kr (st_gy rfl rfl ?_)
        first | (refine m_call (ent_of Tryz.func67 kr rfl) rfl rfl (fun w c => eqr_same (r := soR l) (c.rd hU2.r0) (c.rd hU2.r1) (c.rd hU2.r2) (c.rd hU2.r3) (c.rd hV2.r0) (c.rd hV2.r1) (c.rd hV2.r2) (c.rd hV2.r3)) ?_; rintro v H' ⟨rfl, rfl⟩) | (refine m_call (ent_of Tryz.func67 kr rfl) rfl rfl (fun w c => eqr_same (r := soR (pwL rc n)) (c.rd hI.r0) (c.rd hI.r1) (c.rd hI.r2) (c.rd hI.r3) (c.rd hG.r0) (c.rd hG.r1) (c.rd hG.r2) (c.rd hG.r3)) ?_; rintro v H' ⟨rfl, rfl⟩) | (refine m_call (ent_of Tryz.func67 kr rfl) rfl rfl (fun w c => eqr_same (r := restR rf ks) (c.own_rd (i := 9) rfl) (c.own_rd (i := 8) rfl) (c.own_rd (i := 7) rfl) (c.own_rd (i := 6) rfl) (c.own_rd (i := 4) rfl) (c.own_rd (i := 3) rfl) (c.own_rd (i := 2) rfl) (c.own_rd (i := 1) rfl)) ?_; rintro v H' ⟨rfl, rfl⟩) | (refine m_call (ent_of Tryz.func83 kr rfl) rfl rfl (fun w c => impl_SupportOf_ok (r := rf) (c.rd hF.r0) (c.rd hF.r1) (c.rd hF.r2) (c.rd hF.r3)) ?_; rintro v H' ⟨a7, e7, rfl, hs7, rfl⟩) | (refine m_call (ent_of Tryz.func84 kr rfl) rfl rfl (fun w c => spec_SupportOf_ok (r := rf) (c.rd hF.r0) (c.rd hF.r1) (c.rd hF.r2) (c.rd hF.r3)) ?_; rintro v H' ⟨a8, e8, rfl, hs8, rfl⟩) | (refine m_call (ent_of Tryz.func51 kr rfl) rfl rfl (fun w c => sameInts_at (c.own_rd (i := 1) rfl) (c.own_rd (i := 0) rfl)) ?_; rintro v H' ⟨rfl, rfl⟩) | (refine m_call (ent_of Tryz.func82 kr rfl) rfl rfl (fun w c => impl_TotalOf_ok (r := soR (pwL rc n)) (c.rd hG.r0) (c.rd hG.r1) (c.rd hG.r2) (c.rd hG.r3)) ?_; rw [if_pos s2]; rintro v H' ⟨rfl, rfl⟩) | (refine m_call (ent_of Tryz.func82 kr rfl) rfl rfl (fun w c => impl_TotalOf_ok (r := rc) (c.rd hE2.r0) (c.rd hE2.r1) (c.rd hE2.r2) (c.rd hE2.r3)) ?_; rw [if_pos s1]; rintro v H' ⟨rfl, rfl⟩)
        refine c_nil (x_one (h_keep sS ?_))
        refine h_take 40 rfl kr kr kr (by exact y_pick rfl rfl rfl) rfl sS ?_
        refine h_take 41 rfl kr kr kr (by exact y_move rfl) rfl sS ?_
        refine h_takey 42 rfl kr kr kr rfl rfl (by first | exact y_loadb 2 tabs rfl rfl rfl rfl | exact y_loadb 2 tabs rfl rfl rfl rfl) rfl sS ?_
        refine h_takey 44 rfl kr kr kr rfl rfl (by first | exact y_loadb 2 tabs rfl rfl rfl rfl | exact y_loadb 2 tabs rfl rfl rfl rfl) rfl sS ?_
        refine h_only 43 rfl kr (st_gy rfl rfl ?_)
        first | (refine m_call (ent_of Tryz.func67 kr rfl) rfl rfl (fun w c => eqr_same (r := soR l) (c.rd hU2.r0) (c.rd hU2.r1) (c.rd hU2.r2) (c.rd hU2.r3) (c.rd hV2.r0) (c.rd hV2.r1) (c.rd hV2.r2) (c.rd hV2.r3)) ?_; rintro v H' ⟨rfl, rfl⟩) | (refine m_call (ent_of Tryz.func67 kr rfl) rfl rfl (fun w c => eqr_same (r := soR (pwL rc n)) (c.rd hI.r0) (c.rd hI.r1) (c.rd hI.r2) (c.rd hI.r3) (c.rd hG.r0) (c.rd hG.r1) (c.rd hG.r2) (c.rd hG.r3)) ?_; rintro v H' ⟨rfl, rfl⟩) | (refine m_call (ent_of Tryz.func67 kr rfl) rfl rfl (fun w c => eqr_same (r := restR rf ks) (c.own_rd (i := 9) rfl) (c.own_rd (i := 8) rfl) (c.own_rd (i := 7) rfl) (c.own_rd (i := 6) rfl) (c.own_rd (i := 4) rfl) (c.own_rd (i := 3) rfl) (c.own_rd (i := 2) rfl) (c.own_rd (i := 1) rfl)) ?_; rintro v H' ⟨rfl, rfl⟩) | (refine m_call (ent_of Tryz.func83 kr rfl) rfl rfl (fun w c => impl_SupportOf_ok (r := rf) (c.rd hF.r0) (c.rd hF.r1) (c.rd hF.r2) (c.rd hF.r3)) ?_; rintro v H' ⟨a7, e7, rfl, hs7, rfl⟩) | (refine m_call (ent_of Tryz.func84 kr rfl) rfl rfl (fun w c => spec_SupportOf_ok (r := rf) (c.rd hF.r0) (c.rd hF.r1) (c.rd hF.r2) (c.rd hF.r3)) ?_; rintro v H' ⟨a8, e8, rfl, hs8, rfl⟩) | (refine m_call (ent_of Tryz.func51 kr rfl) rfl rfl (fun w c => sameInts_at (c.own_rd (i := 1) rfl) (c.own_rd (i := 0) rfl)) ?_; rintro v H' ⟨rfl, rfl⟩) | (refine m_call (ent_of Tryz.func82 kr rfl) rfl rfl (fun w c => impl_TotalOf_ok (r := soR (pwL rc n)) (c.rd hG.r0) (c.rd hG.r1) (c.rd hG.r2) (c.rd hG.r3)) ?_; rw [if_pos s2]; rintro v H' ⟨rfl, rfl⟩) | (refine m_call (ent_of Tryz.func82 kr rfl) rfl rfl (fun w c => impl_TotalOf_ok (r := rc) (c.rd hE2.r0) (c.rd hE2.r1) (c.rd hE2.r2) (c.rd hE2.r3)) ?_; rw [if_pos s1]; rintro v H' ⟨rfl, rfl⟩)
        refine c_nil (x_one (h_keep sS ?_))
        refine h_only 45 rfl kr (st_gy rfl rfl ?_)
        first | (refine m_call (ent_of Tryz.func67 kr rfl) rfl rfl (fun w c => eqr_same (r := soR l) (c.rd hU2.r0) (c.rd hU2.r1) (c.rd hU2.r2) (c.rd hU2.r3) (c.rd hV2.r0) (c.rd hV2.r1) (c.rd hV2.r2) (c.rd hV2.r3)) ?_; rintro v H' ⟨rfl, rfl⟩) | (refine m_call (ent_of Tryz.func67 kr rfl) rfl rfl (fun w c => eqr_same (r := soR (pwL rc n)) (c.rd hI.r0) (c.rd hI.r1) (c.rd hI.r2) (c.rd hI.r3) (c.rd hG.r0) (c.rd hG.r1) (c.rd hG.r2) (c.rd hG.r3)) ?_; rintro v H' ⟨rfl, rfl⟩) | (refine m_call (ent_of Tryz.func67 kr rfl) rfl rfl (fun w c => eqr_same (r := restR rf ks) (c.own_rd (i := 9) rfl) (c.own_rd (i := 8) rfl) (c.own_rd (i := 7) rfl) (c.own_rd (i := 6) rfl) (c.own_rd (i := 4) rfl) (c.own_rd (i := 3) rfl) (c.own_rd (i := 2) rfl) (c.own_rd (i := 1) rfl)) ?_; rintro v H' ⟨rfl, rfl⟩) | (refine m_call (ent_of Tryz.func83 kr rfl) rfl rfl (fun w c => impl_SupportOf_ok (r := rf) (c.rd hF.r0) (c.rd hF.r1) (c.rd hF.r2) (c.rd hF.r3)) ?_; rintro v H' ⟨a7, e7, rfl, hs7, rfl⟩) | (refine m_call (ent_of Tryz.func84 kr rfl) rfl rfl (fun w c => spec_SupportOf_ok (r := rf) (c.rd hF.r0) (c.rd hF.r1) (c.rd hF.r2) (c.rd hF.r3)) ?_; rintro v H' ⟨a8, e8, rfl, hs8, rfl⟩) | (refine m_call (ent_of Tryz.func51 kr rfl) rfl rfl (fun w c => sameInts_at (c.own_rd (i := 1) rfl) (c.own_rd (i := 0) rfl)) ?_; rintro v H' ⟨rfl, rfl⟩) | (refine m_call (ent_of Tryz.func82 kr rfl) rfl rfl (fun w c => impl_TotalOf_ok (r := soR (pwL rc n)) (c.rd hG.r0) (c.rd hG.r1) (c.rd hG.r2) (c.rd hG.r3)) ?_; rw [if_pos s2]; rintro v H' ⟨rfl, rfl⟩) | (refine m_call (ent_of Tryz.func82 kr rfl) rfl rfl (fun w c => impl_TotalOf_ok (r := rc) (c.rd hE2.r0) (c.rd hE2.r1) (c.rd hE2.r2) (c.rd hE2.r3)) ?_; rw [if_pos s1]; rintro v H' ⟨rfl, rfl⟩)
        refine c_nil (x_one (h_keep sS ?_))
        refine h_only 46 rfl kr (st_gy rfl rfl ?_)
        first | (refine m_call (ent_of Tryz.func67 kr rfl) rfl rfl (fun w c => eqr_same (r := soR l) (c.rd hU2.r0) (c.rd hU2.r1) (c.rd hU2.r2) (c.rd hU2.r3) (c.rd hV2.r0) (c.rd hV2.r1) (c.rd hV2.r2) (c.rd hV2.r3)) ?_; rintro v H' ⟨rfl, rfl⟩) | (refine m_call (ent_of Tryz.func67 kr rfl) rfl rfl (fun w c => eqr_same (r := soR (pwL rc n)) (c.rd hI.r0) (c.rd hI.r1) (c.rd hI.r2) (c.rd hI.r3) (c.rd hG.r0) (c.rd hG.r1) (c.rd hG.r2) (c.rd hG.r3)) ?_; rintro v H' ⟨rfl, rfl⟩) | (refine m_call (ent_of Tryz.func67 kr rfl) rfl rfl (fun w c => eqr_same (r := restR rf ks) (c.own_rd (i := 9) rfl) (c.own_rd (i := 8) rfl) (c.own_rd (i := 7) rfl) (c.own_rd (i := 6) rfl) (c.own_rd (i := 4) rfl) (c.own_rd (i := 3) rfl) (c.own_rd (i := 2) rfl) (c.own_rd (i := 1) rfl)) ?_; rintro v H' ⟨rfl, rfl⟩) | (refine m_call (ent_of Tryz.func83 kr rfl) rfl rfl (fun w c => impl_SupportOf_ok (r := rf) (c.rd hF.r0) (c.rd hF.r1) (c.rd hF.r2) (c.rd hF.r3)) ?_; rintro v H' ⟨a7, e7, rfl, hs7, rfl⟩) | (refine m_call (ent_of Tryz.func84 kr rfl) rfl rfl (fun w c => spec_SupportOf_ok (r := rf) (c.rd hF.r0) (c.rd hF.r1) (c.rd hF.r2) (c.rd hF.r3)) ?_; rintro v H' ⟨a8, e8, rfl, hs8, rfl⟩) | (refine m_call (ent_of Tryz.func51 kr rfl) rfl rfl (fun w c => sameInts_at (c.own_rd (i := 1) rfl) (c.own_rd (i := 0) rfl)) ?_; rintro v H' ⟨rfl, rfl⟩) | (refine m_call (ent_of Tryz.func82 kr rfl) rfl rfl (fun w c => impl_TotalOf_ok (r := soR (pwL rc n)) (c.rd hG.r0) (c.rd hG.r1) (c.rd hG.r2) (c.rd hG.r3)) ?_; rw [if_pos s2]; rintro v H' ⟨rfl, rfl⟩) | (refine m_call (ent_of Tryz.func82 kr rfl) rfl rfl (fun w c => impl_TotalOf_ok (r := rc) (c.rd hE2.r0) (c.rd hE2.r1) (c.rd hE2.r2) (c.rd hE2.r3)) ?_; rw [if_pos s1]; rintro v H' ⟨rfl, rfl⟩)
        refine c_nil (x_one (h_keep sS ?_))
        refine h_take 47 rfl kr kr kr (by exact y_pick rfl rfl rfl) rfl sS ?_
        refine h_take 48 rfl kr kr kr (by exact y_assign rfl) rfl sS ?_
        refine h_end kr ?_
        repeat' (first | (show oC; refine c_ret ?_) | (show AT _ _ _ _; refine x_then ?_))
        exact x_ret1 Tryz.results5 (res_tmp rfl) (fun wz cz => ⟨_, _, rfl, ⟨rfl, rfl⟩, c1.after (c2.after (c3.after (c4.after (c5.after (c6.after (cz.sub (List.nil_sublist _)))))))⟩)
      · skip
        refine c_all (Hp [] w6 [.blk bi #[iV (restR rf ks).p, iV (restR rf ks).q.1, .slice i0 (restR rf ks).q.2.1.length i0', .slice i1 (restR rf ks).q.2.2.length i1', .slice i2 (restR rf ks).d.length i2', .slice i3 (restR rf ks).m.length i3'] 60, .blk bh #[iV (restR rf ks).p, iV (restR rf ks).q.1, .slice h0 (restR rf ks).q.2.1.length h0', .slice h1 (restR rf ks).q.2.2.length h1', .slice h2 (restR rf ks).d.length h2', .slice h3 (restR rf ks).m.length h3'] 60, .blk bf #[iV rf.p, iV rf.q.1, .slice f0 rf.q.2.1.length f0', .slice f1 rf.q.2.2.length f1', .slice f2 rf.d.length f2', .slice f3 rf.m.length f3'] 60]) kr (fun _ c => Hp.drew c) ?_
        refine h_take 0 rfl kr kr kr (by exact y_move rfl) rfl sS ?_
        refine h_take 1 rfl kr kr kr (by exact y_move rfl) rfl sS ?_
        refine h_take 2 rfl kr kr kr (by exact y_eqlb_same Tryz.underlying4 rfl rfl) rfl sS ?_
        refine h_take 3 rfl kr kr kr (by exact y_move rfl) rfl sS ?_
        refine h_takey 4 rfl kr kr kr rfl rfl (by exact y_loadz tabs rfl rfl aS rfl) rfl sS ?_
        refine h_takey 5 rfl kr kr kr rfl rfl (by exact y_loadz tabs rfl rfl aS rfl) rfl sS ?_
        refine h_only 6 rfl kr (st_gy rfl rfl ?_)
        first | (refine m_call (ent_of Tryz.func67 kr rfl) rfl rfl (fun w c => eqr_same (r := soR l) (c.rd hU2.r0) (c.rd hU2.r1) (c.rd hU2.r2) (c.rd hU2.r3) (c.rd hV2.r0) (c.rd hV2.r1) (c.rd hV2.r2) (c.rd hV2.r3)) ?_; rintro v H' ⟨rfl, rfl⟩) | (refine m_call (ent_of Tryz.func67 kr rfl) rfl rfl (fun w c => eqr_same (r := soR (pwL rc n)) (c.rd hI.r0) (c.rd hI.r1) (c.rd hI.r2) (c.rd hI.r3) (c.rd hG.r0) (c.rd hG.r1) (c.rd hG.r2) (c.rd hG.r3)) ?_; rintro v H' ⟨rfl, rfl⟩) | (refine m_call (ent_of Tryz.func67 kr rfl) rfl rfl (fun w c => eqr_same (r := restR rf ks) (c.own_rd (i := 9) rfl) (c.own_rd (i := 8) rfl) (c.own_rd (i := 7) rfl) (c.own_rd (i := 6) rfl) (c.own_rd (i := 4) rfl) (c.own_rd (i := 3) rfl) (c.own_rd (i := 2) rfl) (c.own_rd (i := 1) rfl)) ?_; rintro v H' ⟨rfl, rfl⟩) | (refine m_call (ent_of Tryz.func83 kr rfl) rfl rfl (fun w c => impl_SupportOf_ok (r := rf) (c.rd hF.r0) (c.rd hF.r1) (c.rd hF.r2) (c.rd hF.r3)) ?_; rintro v H' ⟨a7, e7, rfl, hs7, rfl⟩) | (refine m_call (ent_of Tryz.func84 kr rfl) rfl rfl (fun w c => spec_SupportOf_ok (r := rf) (c.rd hF.r0) (c.rd hF.r1) (c.rd hF.r2) (c.rd hF.r3)) ?_; rintro v H' ⟨a8, e8, rfl, hs8, rfl⟩) | (refine m_call (ent_of Tryz.func51 kr rfl) rfl rfl (fun w c => sameInts_at (c.own_rd (i := 1) rfl) (c.own_rd (i := 0) rfl)) ?_; rintro v H' ⟨rfl, rfl⟩)
        refine c_nil (x_one (h_keep sS ?_))
        refine h_take 7 rfl kr kr kr (by exact y_pick rfl rfl rfl) rfl sS ?_
        refine h_take 8 rfl kr kr kr (by exact y_move rfl) rfl sS ?_
        refine h_takey 9 rfl kr kr kr rfl rfl (by exact y_move rfl) rfl sS ?_
        refine h_takey 10 rfl kr kr kr rfl rfl (by exact y_move rfl) rfl sS ?_
        refine h_takey 11 rfl kr kr kr rfl rfl (by exact y_eqlb_same Tryz.underlying4 rfl rfl) rfl sS ?_
        refine h_take 12 rfl kr kr kr (by exact y_pick rfl rfl rfl) rfl sS ?_
        refine h_take 13 rfl kr kr kr (by exact y_move rfl) rfl sS ?_
        refine h_takey 14 rfl kr kr kr rfl rfl (by exact y_loadz tabs rfl rfl aS rfl) rfl sS ?_
        refine h_takey 15 rfl kr kr kr rfl rfl (by exact y_loadz tabs rfl rfl aS rfl) rfl sS ?_
        refine h_only 16 rfl kr (st_gy rfl rfl ?_)
        first | (refine m_call (ent_of Tryz.func67 kr rfl) rfl rfl (fun w c => eqr_same (r := soR l) (c.rd hU2.r0) (c.rd hU2.r1) (c.rd hU2.r2) (c.rd hU2.r3) (c.rd hV2.r0) (c.rd hV2.r1) (c.rd hV2.r2) (c.rd hV2.r3)) ?_; rintro v H' ⟨rfl, rfl⟩) | (refine m_call (ent_of Tryz.func67 kr rfl) rfl rfl (fun w c => eqr_same (r := soR (pwL rc n)) (c.rd hI.r0) (c.rd hI.r1) (c.rd hI.r2) (c.rd hI.r3) (c.rd hG.r0) (c.rd hG.r1) (c.rd hG.r2) (c.rd hG.r3)) ?_; rintro v H' ⟨rfl, rfl⟩) | (refine m_call (ent_of Tryz.func67 kr rfl) rfl rfl (fun w c => eqr_same (r := restR rf ks) (c.own_rd (i := 9) rfl) (c.own_rd (i := 8) rfl) (c.own_rd (i := 7) rfl) (c.own_rd (i := 6) rfl) (c.own_rd (i := 4) rfl) (c.own_rd (i := 3) rfl) (c.own_rd (i := 2) rfl) (c.own_rd (i := 1) rfl)) ?_; rintro v H' ⟨rfl, rfl⟩) | (refine m_call (ent_of Tryz.func83 kr rfl) rfl rfl (fun w c => impl_SupportOf_ok (r := rf) (c.rd hF.r0) (c.rd hF.r1) (c.rd hF.r2) (c.rd hF.r3)) ?_; rintro v H' ⟨a7, e7, rfl, hs7, rfl⟩) | (refine m_call (ent_of Tryz.func84 kr rfl) rfl rfl (fun w c => spec_SupportOf_ok (r := rf) (c.rd hF.r0) (c.rd hF.r1) (c.rd hF.r2) (c.rd hF.r3)) ?_; rintro v H' ⟨a8, e8, rfl, hs8, rfl⟩) | (refine m_call (ent_of Tryz.func51 kr rfl) rfl rfl (fun w c => sameInts_at (c.own_rd (i := 1) rfl) (c.own_rd (i := 0) rfl)) ?_; rintro v H' ⟨rfl, rfl⟩)
        refine c_nil (x_one (h_keep sS ?_))
        refine h_take 17 rfl kr kr kr (by exact y_pick rfl rfl rfl) rfl sS ?_
        refine h_take 18 rfl kr kr kr (by exact y_move rfl) rfl sS ?_
        refine h_takey 19 rfl kr kr kr rfl rfl (by exact y_move rfl) rfl sS ?_
        refine h_takey 20 rfl kr kr kr rfl rfl (by exact y_not rfl) rfl sS ?_
        refine h_takey 21 rfl kr kr kr rfl rfl (by exact y_move rfl) rfl sS ?_
        refine h_taken 22 rfl kr kr kr rfl rfl rfl sS ?_
        refine h_taken 24 rfl kr kr kr rfl rfl rfl sS ?_
        refine h_taken 25 rfl kr kr kr rfl rfl rfl sS ?_
        refine h_only 23 rfl kr (st_gn rfl rfl rfl ?_)
        refine c_nil (x_one (h_keep sS ?_))
        refine h_only 26 rfl kr (st_gn rfl rfl rfl ?_)
        refine c_nil (x_one (h_keep sS ?_))
        refine h_taken 27 rfl kr kr kr rfl rfl rfl sS ?_
        refine h_taken 28 rfl kr kr kr rfl rfl rfl sS ?_
        refine h_takey 29 rfl kr kr kr rfl rfl (by exact y_pick rfl rfl rfl) rfl sS ?_
        refine h_take 30 rfl kr kr kr (by exact y_pick rfl rfl rfl) rfl sS ?_
        refine h_take 31 rfl kr kr kr (by exact y_move rfl) rfl sS ?_
        refine h_takey 32 rfl kr kr kr rfl rfl (by exact y_move rfl) rfl sS ?_
        refine h_takey 33 rfl kr kr kr rfl rfl (by exact y_move rfl) rfl sS ?_
        refine h_takey 34 rfl kr kr kr rfl rfl (by exact y_eqlb_same Tryz.underlying4 rfl rfl) rfl sS ?_
        refine h_take 35 rfl kr kr kr (by exact y_pick rfl rfl rfl) rfl sS ?_
        refine h_take 36 rfl kr kr kr (by exact y_move rfl) rfl sS ?_
        refine h_takey 37 rfl kr kr kr rfl rfl (by first | exact y_loadb 1 tabs rfl rfl rfl rfl | exact y_loadb 1 tabs rfl rfl rfl rfl) rfl sS ?_
        refine h_takey 38 rfl kr kr kr rfl rfl (by first | exact y_loadb 0 tabs rfl rfl rfl rfl | exact y_loadb 0 tabs rfl rfl rfl rfl) rfl sS ?_
        refine h_only 39 rfl kr (st_gy rfl rfl ?_)
        first | (refine m_call (ent_of Tryz.func67 kr rfl) rfl rfl (fun w c => eqr_same (r := soR l) (c.rd hU2.r0) (c.rd hU2.r1) (c.rd hU2.r2) (c.rd hU2.r3) (c.rd hV2.r0) (c.rd hV2.r1) (c.rd hV2.r2) (c.rd hV2.r3)) ?_; rintro v H' ⟨rfl, rfl⟩) | (refine m_call (ent_of Tryz.func67 kr rfl) rfl rfl (fun w c => eqr_same (r := soR (pwL rc n)) (c.rd hI.r0) (c.rd hI.r1) (c.rd hI.r2) (c.rd hI.r3) (c.rd hG.r0) (c.rd hG.r1) (c.rd hG.r2) (c.rd hG.r3)) ?_; rintro v H' ⟨rfl, rfl⟩) | (refine m_call (ent_of Tryz.func67 kr rfl) rfl rfl (fun w c => eqr_same (r := restR rf ks) (c.own_rd (i := 9) rfl) (c.own_rd (i := 8) rfl) (c.own_rd (i := 7) rfl) (c.own_rd (i := 6) rfl) (c.own_rd (i := 4) rfl) (c.own_rd (i := 3) rfl) (c.own_rd (i := 2) rfl) (c.own_rd (i := 1) rfl)) ?_; rintro v H' ⟨rfl, rfl⟩) | (refine m_call (ent_of Tryz.func83 kr rfl) rfl rfl (fun w c => impl_SupportOf_ok (r := rf) (c.rd hF.r0) (c.rd hF.r1) (c.rd hF.r2) (c.rd hF.r3)) ?_; rintro v H' ⟨a7, e7, rfl, hs7, rfl⟩) | (refine m_call (ent_of Tryz.func84 kr rfl) rfl rfl (fun w c => spec_SupportOf_ok (r := rf) (c.rd hF.r0) (c.rd hF.r1) (c.rd hF.r2) (c.rd hF.r3)) ?_; rintro v H' ⟨a8, e8, rfl, hs8, rfl⟩) | (refine m_call (ent_of Tryz.func51 kr rfl) rfl rfl (fun w c => sameInts_at (c.own_rd (i := 1) rfl) (c.own_rd (i := 0) rfl)) ?_; rintro v H' ⟨rfl, rfl⟩)
        refine c_nil (x_one (h_keep sS ?_))
        refine h_take 40 rfl kr kr kr (by exact y_pick rfl rfl rfl) rfl sS ?_
        refine h_take 41 rfl kr kr kr (by exact y_move rfl) rfl sS ?_
        refine h_takey 42 rfl kr kr kr rfl rfl (by first | exact y_loadb 2 tabs rfl rfl rfl rfl | exact y_loadb 2 tabs rfl rfl rfl rfl) rfl sS ?_
        refine h_takey 44 rfl kr kr kr rfl rfl (by first | exact y_loadb 2 tabs rfl rfl rfl rfl | exact y_loadb 2 tabs rfl rfl rfl rfl) rfl sS ?_
        refine h_only 43 rfl kr (st_gy rfl rfl ?_)
        first | (refine m_call (ent_of Tryz.func67 kr rfl) rfl rfl (fun w c => eqr_same (r := soR l) (c.rd hU2.r0) (c.rd hU2.r1) (c.rd hU2.r2) (c.rd hU2.r3) (c.rd hV2.r0) (c.rd hV2.r1) (c.rd hV2.r2) (c.rd hV2.r3)) ?_; rintro v H' ⟨rfl, rfl⟩) | (refine m_call (ent_of Tryz.func67 kr rfl) rfl rfl (fun w c => eqr_same (r := soR (pwL rc n)) (c.rd hI.r0) (c.rd hI.r1) (c.rd hI.r2) (c.rd hI.r3) (c.rd hG.r0) (c.rd hG.r1) (c.rd hG.r2) (c.rd hG.r3)) ?_; rintro v H' ⟨rfl, rfl⟩) | (refine m_call (ent_of Tryz.func67 kr rfl) rfl rfl (fun w c => eqr_same (r := restR rf ks) (c.own_rd (i := 9) rfl) (c.own_rd (i := 8) rfl) (c.own_rd (i := 7) rfl) (c.own_rd (i := 6) rfl) (c.own_rd (i := 4) rfl) (c.own_rd (i := 3) rfl) (c.own_rd (i := 2) rfl) (c.own_rd (i := 1) rfl)) ?_; rintro v H' ⟨rfl, rfl⟩) | (refine m_call (ent_of Tryz.func83 kr rfl) rfl rfl (fun w c => impl_SupportOf_ok (r := rf) (c.rd hF.r0) (c.rd hF.r1) (c.rd hF.r2) (c.rd hF.r3)) ?_; rintro v H' ⟨a7, e7, rfl, hs7, rfl⟩) | (refine m_call (ent_of Tryz.func84 kr rfl) rfl rfl (fun w c => spec_SupportOf_ok (r := rf) (c.rd hF.r0) (c.rd hF.r1) (c.rd hF.r2) (c.rd hF.r3)) ?_; rintro v H' ⟨a8, e8, rfl, hs8, rfl⟩) | (refine m_call (ent_of Tryz.func51 kr rfl) rfl rfl (fun w c => sameInts_at (c.own_rd (i := 1) rfl) (c.own_rd (i := 0) rfl)) ?_; rintro v H' ⟨rfl, rfl⟩)
        refine c_nil (x_one (h_keep sS ?_))
        refine h_only 45 rfl kr (st_gy rfl rfl ?_)
        first | (refine m_call (ent_of Tryz.func67 kr rfl) rfl rfl (fun w c => eqr_same (r := soR l) (c.rd hU2.r0) (c.rd hU2.r1) (c.rd hU2.r2) (c.rd hU2.r3) (c.rd hV2.r0) (c.rd hV2.r1) (c.rd hV2.r2) (c.rd hV2.r3)) ?_; rintro v H' ⟨rfl, rfl⟩) | (refine m_call (ent_of Tryz.func67 kr rfl) rfl rfl (fun w c => eqr_same (r := soR (pwL rc n)) (c.rd hI.r0) (c.rd hI.r1) (c.rd hI.r2) (c.rd hI.r3) (c.rd hG.r0) (c.rd hG.r1) (c.rd hG.r2) (c.rd hG.r3)) ?_; rintro v H' ⟨rfl, rfl⟩) | (refine m_call (ent_of Tryz.func67 kr rfl) rfl rfl (fun w c => eqr_same (r := restR rf ks) (c.own_rd (i := 9) rfl) (c.own_rd (i := 8) rfl) (c.own_rd (i := 7) rfl) (c.own_rd (i := 6) rfl) (c.own_rd (i := 4) rfl) (c.own_rd (i := 3) rfl) (c.own_rd (i := 2) rfl) (c.own_rd (i := 1) rfl)) ?_; rintro v H' ⟨rfl, rfl⟩) | (refine m_call (ent_of Tryz.func83 kr rfl) rfl rfl (fun w c => impl_SupportOf_ok (r := rf) (c.rd hF.r0) (c.rd hF.r1) (c.rd hF.r2) (c.rd hF.r3)) ?_; rintro v H' ⟨a7, e7, rfl, hs7, rfl⟩) | (refine m_call (ent_of Tryz.func84 kr rfl) rfl rfl (fun w c => spec_SupportOf_ok (r := rf) (c.rd hF.r0) (c.rd hF.r1) (c.rd hF.r2) (c.rd hF.r3)) ?_; rintro v H' ⟨a8, e8, rfl, hs8, rfl⟩) | (refine m_call (ent_of Tryz.func51 kr rfl) rfl rfl (fun w c => sameInts_at (c.own_rd (i := 1) rfl) (c.own_rd (i := 0) rfl)) ?_; rintro v H' ⟨rfl, rfl⟩)
        refine c_nil (x_one (h_keep sS ?_))
        refine h_only 46 rfl kr (st_gy rfl rfl ?_)
        first | (refine m_call (ent_of Tryz.func67 kr rfl) rfl rfl (fun w c => eqr_same (r := soR l) (c.rd hU2.r0) (c.rd hU2.r1) (c.rd hU2.r2) (c.rd hU2.r3) (c.rd hV2.r0) (c.rd hV2.r1) (c.rd hV2.r2) (c.rd hV2.r3)) ?_; rintro v H' ⟨rfl, rfl⟩) | (refine m_call (ent_of Tryz.func67 kr rfl) rfl rfl (fun w c => eqr_same (r := soR (pwL rc n)) (c.rd hI.r0) (c.rd hI.r1) (c.rd hI.r2) (c.rd hI.r3) (c.rd hG.r0) (c.rd hG.r1) (c.rd hG.r2) (c.rd hG.r3)) ?_; rintro v H' ⟨rfl, rfl⟩) | (refine m_call (ent_of Tryz.func67 kr rfl) rfl rfl (fun w c => eqr_same (r := restR rf ks) (c.own_rd (i := 9) rfl) (c.own_rd (i := 8) rfl) (c.own_rd (i := 7) rfl) (c.own_rd (i := 6) rfl) (c.own_rd (i := 4) rfl) (c.own_rd (i := 3) rfl) (c.own_rd (i := 2) rfl) (c.own_rd (i := 1) rfl)) ?_; rintro v H' ⟨rfl, rfl⟩) | (refine m_call (ent_of Tryz.func83 kr rfl) rfl rfl (fun w c => impl_SupportOf_ok (r := rf) (c.rd hF.r0) (c.rd hF.r1) (c.rd hF.r2) (c.rd hF.r3)) ?_; rintro v H' ⟨a7, e7, rfl, hs7, rfl⟩) | (refine m_call (ent_of Tryz.func84 kr rfl) rfl rfl (fun w c => spec_SupportOf_ok (r := rf) (c.rd hF.r0) (c.rd hF.r1) (c.rd hF.r2) (c.rd hF.r3)) ?_; rintro v H' ⟨a8, e8, rfl, hs8, rfl⟩) | (refine m_call (ent_of Tryz.func51 kr rfl) rfl rfl (fun w c => sameInts_at (c.own_rd (i := 1) rfl) (c.own_rd (i := 0) rfl)) ?_; rintro v H' ⟨rfl, rfl⟩)
        refine c_nil (x_one (h_keep sS ?_))
        refine h_take 47 rfl kr kr kr (by exact y_pick rfl rfl rfl) rfl sS ?_
        refine h_take 48 rfl kr kr kr (by exact y_assign rfl) rfl sS ?_
        refine h_end kr ?_
        repeat' (first | (show oC; refine c_ret ?_) | (show AT _ _ _ _; refine x_then ?_))
        exact x_ret1 Tryz.results5 (res_tmp rfl) (fun wz cz => ⟨_, _, rfl, ⟨rfl, rfl⟩, c1.after (c2.after (c3.after (c4.after (c5.after (c6.after (cz.sub (List.nil_sublist _)))))))⟩)
set_option maxRecDepth 100000 in
theorem lifted (os : Os) (started : os.Started) (H : Type) (enc : TypeId × Value → H) :
    ReturnsInHanded {} Tryz.checked os 5 .any (Rows.fnSumsSpec.pre6 enc Tryz.prog Tryz.f5 Rows.fnSumsRow.domain false) (Rows.fnSumsSpec.post enc Tryz.prog Tryz.f5 false true false false) := by
  refine returnsInHanded_of_change (C := Tryz.checked) Tryz.own started kr Tryz.func5
    (ChangeSpec.witness6 (enc := enc) (C := Tryz.checked) false ⟨#[], #[.slice none 0 0], []⟩ 16 kr kr kr kr) ?_
  intro W base args ds gs before hval0 hW hcnd _
  have hval : ∀ (j : Nat) t v, Tryz.f5.params[j]? = some t → args[j]? = some v → Value.okWide Tryz.prog W .any base t v := hval0
  have hW' := hW
  obtain ⟨p, q, hA0, hV, rfl, hfz, hnd⟩ := hW
  have hA : DataW.TrodAll enc Tryz.prog W 0 (fun _ => true) true Tryz.f5.params.toList args.toList ds p := hA0
  rw [Tryz.params5] at hA hval
  obtain ⟨v0, vs0, d0, ds0, p0, q0, hargs, rfl, rfl, k0, r0⟩ := trodAll_cons hA
  obtain ⟨rfl, rfl, rfl⟩ := trodAll_nil r0
  obtain rfl : args = #[v0] := by cases args; simp_all
  obtain ⟨rfl, rfl⟩ := trodVars_none hV
  have lt0 : ∀ x ∈ p0, x.block < W.heap.size := by obtain ⟨m, hm⟩ := k0; exact DataW.trod_lt m _ _ _ hm
  obtain ⟨x0, h0, g0⟩ := opn_bytes (hval 0 22 v0 rfl rfl) k0
  clear hA0 hval0
  refine (law_ok W h0 g0).mono fun e W' ⟨v, H', he, ⟨hv, _⟩, hp⟩ => ?_
  subst he; subst hv
  have bel := hp.below
  exact ⟨_, rfl, _, _, _, [], _, [], hW', trodAll_mk1 (shut_bool Tryz.underlying4 _), (trodAll_cons_mk (Below.trod Tryz.laidOut kr (of_decide_eq_true kr) k0 bel lt0) trodAll_mk0), rfl, bel.frame _, fun h => by cases h⟩

theorem closed : joinedFacts Tryz.pinned.checked.prog 5 Tryz.f5 Rows.fnSumsSpec Rows.fnSumsRow = true := by
  unfold joinedFacts
  repeat' (with_reducible refine band ?_ ?_)
  all_goals first | (with_reducible exact fin_enter) | ((with_reducible refine fin_lifted ?_); rfl) | ((with_reducible refine fin_make ?_); rfl) | (as_aux_lemma => kernel_rfl)
/-- the given statement -/
theorem proved : Rows.FnSumsSaid :=
  OpenClaim.holds_of_wide 5 Tryz.f5 rfl rfl rfl rfl rfl rfl rfl ⟨rfl, rfl, rfl, rfl, rfl⟩ rfl rfl rfl rfl rfl kr Tryz.func5 closed
    (of_decide_eq_true kr) (by unfold Func.isWrapper; first | (rw [if_pos (by decide +kernel)]; kernel_rfl) | (rw [if_neg (by decide +kernel)]; exact ⟨rfl, rfl⟩))
    (fun os started H enc _ => lifted os started H enc)
#print axioms proved
end Go.Proofs.YtijjkfbkihgfgaaGreat.wFnSums
