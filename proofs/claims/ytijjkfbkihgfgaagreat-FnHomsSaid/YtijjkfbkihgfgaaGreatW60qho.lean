/- The law FnHoms returns true for all arguments, and its arguments read behind the call as they read before; there are no conditions. -/
import Derived.OpenShut
import Derived.ShutString
import Derived.Below
import Derived.Test.YtijjkfbkihgfgaaGreatCmiqho
import Derived.Test.YtijjkfbkihgfgaaGreatCmsqho
import Derived.Test.YtijjkfbkihgfgaaGreatCriqho
import Derived.Test.YtijjkfbkihgfgaaGreatCrsqho
import Derived.Test.YtijjkfbkihgfgaaGreatDrzqho
import Derived.Test.YtijjkfbkihgfgaaGreatEqmqho
import Derived.Test.YtijjkfbkihgfgaaGreatFinqho
import Derived.Test.YtijjkfbkihgfgaaGreatFndqho
import Derived.Test.YtijjkfbkihgfgaaGreatHbsqho
import Derived.Test.YtijjkfbkihgfgaaGreatHdsqho
import Derived.Test.YtijjkfbkihgfgaaGreatHlwqho
import Derived.Test.YtijjkfbkihgfgaaGreatHspqho
import Derived.Test.YtijjkfbkihgfgaaGreatLBqho
import Derived.Test.YtijjkfbkihgfgaaGreatLwsqho
import Derived.Test.YtijjkfbkihgfgaaGreatMnbqho
import Derived.Test.YtijjkfbkihgfgaaGreatMniqho
import Derived.Test.YtijjkfbkihgfgaaGreatMphqho
import Derived.Test.YtijjkfbkihgfgaaGreatOpnqho
import Derived.Test.YtijjkfbkihgfgaaGreatPrdqho
namespace Go.Proofs.YtijjkfbkihgfgaaGreat.wFnHoms
open Go.Lg Go.Proofs Go.RowKit Go.ChangeShapes Go.WideShapes Go.ChangeAt
attribute [local irreducible] Code.wp wpList bodyPost Exit.then Exit.inBlock Hp Again Calls Y AT ResV QT
set_option maxRecDepth 20000
set_option maxHeartbeats 4000000
set_option maxRecDepth 20000
set_option maxHeartbeats 40000000
set_option linter.unusedVariables false

theorem y_neqi_same {P : Program} {n : Nat} {C : World → Prop} {s : List (Nat × Value)} {x y : Operand} {p : Int} {t t' ty : Nat} (hx : ev s x = some (.int .i64 p)) (hy : ev s y = some (.int .i64 p)) : Y P n C s (.binOp .neq t x y t') ty (.bool false) := by
  have := y_neq (P := P) (n := n) (C := C) (t := t) (t' := t') (ty := ty) hx hy
  simpa using this
theorem law_ok (w : World) {x0 : List Int} {u0 : Value} (h0 : Rd w (byT x0) u0) (g0 : Byt x0) : Does Tryz.prog 6 [u0] w (fun r H => r = .bool true ∧ H = []) := by
  by_cases hbig : (x0.length : Int) > 1048576
  · obtain ⟨a, c, rfl⟩ := bytes_sl h0
    refine fn_enter Tryz.func6 rfl Tryz.ntmps6 rfl ?_
    repeat' (first | (show oL; first | refine sMv rfl rfl ?_ | refine sAs rfl rfl ?_ | (show oA (.call _); (refine m_call (ent_of Tryz.func7 kr rfl) rfl rfl (fun w c => big_yes hbig) ?_; rintro v H' ⟨rfl, rfl⟩))) | refine xNt ?_ | (show oC; first | refine c_seq ?_ | refine c_region ?_ | refine c_ret ?_ | refine c_true rfl ?_) | (show AT _ _ _ _; refine x_then_ret ?_))
    exact x_ret1 Tryz.results6 (res_tmp rfl) (fun w' c' => ⟨_, _, rfl, ⟨rfl, rfl⟩, c'⟩)
  have hc := codeF_of h0 g0 om
  have tok0 : True := trivial
  refine fn_enter Tryz.func6 rfl Tryz.ntmps6 rfl ?_
  repeat' (first | (show oL; first | refine sMv rfl rfl ?_ | refine sAs rfl rfl ?_ | (show oA (.load _ _); first | refine sLb 0 tabs rfl rfl rfl rfl rfl ?_ | refine sLb 1 tabs rfl rfl rfl rfl rfl ?_ | refine sLb 2 tabs rfl rfl rfl rfl rfl ?_) | (show oA (.call _); first | (refine m_call (ent_of Tryz.func7 kr rfl) rfl rfl (fun w c => big_ok (hp_code c hc)) ?_; rintro v H' ⟨rfl, rfl⟩) | (refine m_call (ent_of Tryz.func85 kr rfl) rfl rfl (fun w c => DrawHomBasis_ok (hp_code c hc)) ?_; rintro v H' ⟨ra, rb, _, _, _, _, rfl, hPP, ⟨x0, x0', x1, x1', x2, x2', x3, x3', rfl, sx0, sx1, sx2, sx3, rfl⟩, ⟨y0, y0', y1, y1', y2, y2', y3, y3', rfl, sy0, sy1, sy2, sy3, rfl⟩, rfl⟩; refine AT.base (fun w1 c1 => ?_); have hA := rr_own 4 c1 rfl rfl rfl rfl; have hB := rr_own 0 c1 rfl rfl rfl rfl; have hc1 := hp_code c1 hc) | (refine m_call (ent_of Tryz.func86 kr rfl) rfl rfl (fun w c => impl_HomBasis_ok (a := ra) (b := rb) (c.rd hA.r0) (c.rd hA.r1) (c.rd hA.r2) (c.rd hA.r3) (c.rd hB.r0) (c.rd hB.r1) (c.rd hB.r2) (c.rd hB.r3)) ?_; rintro v H' ⟨a1, e1, rfl, hs1, rfl⟩) | (refine m_call (ent_of Tryz.func87 kr rfl) rfl rfl (fun w c => spec_HomBasis_ok (a := ra) (b := rb) (c.rd hA.r0) (c.rd hA.r1) (c.rd hA.r2) (c.rd hA.r3) (c.rd hB.r0) (c.rd hB.r1) (c.rd hB.r2) (c.rd hB.r3)) ?_; rintro v H' ⟨a2, e2, rfl, hs2, rfl⟩)) | (show oA (.extract _ _); refine st_y (y_ext rfl rfl) rfl ?_) | (show oA (.store _ _ _); first | refine m_storeb 1 tabs rfl rfl rfl rfl rfl rfl rfl ?_ | refine m_storeb 0 tabs rfl rfl rfl rfl rfl rfl rfl ?_) | (show oA (.alloc _); first | (have _t := tok0; refine m_alloc tabs rfl rfl (fun ba hba => ?_); clear _t tok0) | refine m_alloc tabs rfl rfl (fun bb hbb => ?_))) | refine xNt ?_ | (show oC; first | refine c_cutr 6 [(0, u0), (3, .pointer (some ⟨ba, 0, none⟩)), (4, .pointer (some ⟨bb, 0, none⟩)), (7, .slice a2 (homB ra rb).length e2), (91, .bool false)] (Hp [] w1 [.own (mssT 58 47 (homB ra rb)) (.slice a2 (homB ra rb).length e2), .blk bb #[iV rb.p, iV rb.q.1, .slice y0 rb.q.2.1.length y0', .slice y1 rb.q.2.2.length y1', .slice y2 rb.d.length y2', .slice y3 rb.m.length y3'] 60, .blk ba #[iV ra.p, iV ra.q.1, .slice x0 ra.q.2.1.length x0', .slice x1 ra.q.2.2.length x1', .slice x2 ra.d.length x2', .slice x3 ra.m.length x3'] 60]) ?_ ?_ | refine c_seq ?_ | refine c_region ?_ | refine c_skip (x_then ?_) | refine c_block ?_ | refine c_false rfl ?_))
  · refine hold ?_
    by_cases hF : FitP ra rb
    · have hd := hd_len hF
      repeat' (first | (show oC; refine c_draw kr kr (fun _ c => Hp.drew c) ?_) | (show QT _ _ _ _ _ _ (_ :: _); first | refine qMv rfl rfl ?_ | (show qA (.load _ _); first | refine qLb 2 tabs rfl rfl rfl rfl rfl ?_ | refine qLb 3 tabs rfl rfl rfl rfl rfl ?_) | (show qA (.binOp _ _ _ _ _); first | refine q_y (y_neqb_same Tryz.underlying4 rfl rfl) rfl ?_ | refine q_y (y_neqi_same rfl rfl) rfl ?_) | (show qA (.unOp _ _ _); refine q_y (y_not rfl) rfl ?_) | (show qA (.call _); first | refine q_call (ent_of Tryz.func88 kr rfl) rfl rfl (fun w c => sameMaps_same (c.own_rd (i := 1) rfl) (c.own_rd (i := 0) rfl)) (fun u H' h => h.1) ?_ | refine q_call (ent_of Tryz.func89 kr rfl) rfl rfl (fun w c => impl_CountMorphisms_ok (a := ra) (b := rb) (c.rd hA.r0) (c.rd hA.r1) (c.rd hA.r2) (c.rd hA.r3) (c.rd hB.r0) (c.rd hB.r1) (c.rd hB.r2) (c.rd hB.r3)) (fun u H' h => h.1) ?_ | refine q_call (ent_of Tryz.func90 kr rfl) rfl rfl (fun w c => spec_CountMorphisms_ok (a := ra) (b := rb) (c.rd hA.r0) (c.rd hA.r1) (c.rd hA.r2) (c.rd hA.r3) (c.rd hB.r0) (c.rd hB.r1) (c.rd hB.r2) (c.rd hB.r3)) (fun u H' h => h.1) ?_ | refine q_call (ent_of Tryz.func68 kr rfl) rfl rfl (fun w c => impl_HomDim_ok (a := ra) (b := rb) (c.rd hA.r0) (c.rd hA.r1) (c.rd hA.r2) (c.rd hA.r3) (c.rd hB.r0) (c.rd hB.r1) (c.rd hB.r2) (c.rd hB.r3)) (fun u H' h => by rw [hd_len hF] at h; exact h.1) ?_ | refine qLn tabs rfl rfl rfl ?_) | (show qA (.pick _ _ _); first | refine q_y (y_pickt rfl aO rfl) rfl ?_ | refine q_y (y_pick rfl rfl rfl) rfl ?_) | refine q_gy rfl rfl ?_ | refine q_gdy rfl rfl aO ?_) | (show QT _ _ _ _ _ _ []; refine q_nil ?_))
      all_goals exact x_mid sB (fun w' c' => c'.sel [0, 2, 3] rfl)
    · skip
      repeat' (first | (show oC; refine c_draw kr kr (fun _ c => Hp.drew c) ?_) | (show QT _ _ _ _ _ _ (_ :: _); first | refine qMv rfl rfl ?_ | (show qA (.load _ _); first | refine qLb 2 tabs rfl rfl rfl rfl rfl ?_ | refine qLb 3 tabs rfl rfl rfl rfl rfl ?_) | (show qA (.binOp _ _ _ _ _); first | refine q_y (y_neqb_same Tryz.underlying4 rfl rfl) rfl ?_ | refine q_y (y_neqi_same rfl rfl) rfl ?_) | (show qA (.unOp _ _ _); refine q_y (y_not rfl) rfl ?_) | (show qA (.call _); first | refine q_call (ent_of Tryz.func88 kr rfl) rfl rfl (fun w c => sameMaps_same (c.own_rd (i := 1) rfl) (c.own_rd (i := 0) rfl)) (fun u H' h => h.1) ?_ | refine q_call (ent_of Tryz.func89 kr rfl) rfl rfl (fun w c => impl_CountMorphisms_ok (a := ra) (b := rb) (c.rd hA.r0) (c.rd hA.r1) (c.rd hA.r2) (c.rd hA.r3) (c.rd hB.r0) (c.rd hB.r1) (c.rd hB.r2) (c.rd hB.r3)) (fun u H' h => h.1) ?_ | refine q_call (ent_of Tryz.func90 kr rfl) rfl rfl (fun w c => spec_CountMorphisms_ok (a := ra) (b := rb) (c.rd hA.r0) (c.rd hA.r1) (c.rd hA.r2) (c.rd hA.r3) (c.rd hB.r0) (c.rd hB.r1) (c.rd hB.r2) (c.rd hB.r3)) (fun u H' h => h.1) ?_) | (show qA (.pick _ _ _); first | refine q_y (y_pickf rfl aO rfl) rfl ?_ | refine q_y (y_pick rfl rfl rfl) rfl ?_) | refine q_gy rfl rfl ?_ | refine q_gdn rfl rfl aO rfl ?_) | (show QT _ _ _ _ _ _ []; refine q_nil ?_))
      all_goals exact x_mid sB (fun w' c' => c'.sel [0, 2, 3] rfl)
  · skip
    as_aux_lemma =>
    refine AT.base (fun w2 c2 => ?_)
    have hA2 := hp_rr c2 hA
    have hB2 := hp_rr c2 hB
    have hc2 := hp_code c2 hc1
    have hm := c2.own_rd (i := 0) rfl
    have hbb2 := c2.box (i := 1) rfl
    have hba2 := c2.box (i := 2) rfl
    obtain ⟨am, cm, he, hsm, _, hcm, hgm⟩ := rd_mss hm
    cases he
    unfold maxLen at hcm
    have hl32 := hom_len32 ra rb
    skip
    refine c_loopH (α := Nat) [0, 3, 4, 7] (fun i => [(9, iV i)]) (fun i => i ≤ (homB ra rb).length) (fun i => []) (fun i => (homB ra rb).length - i) 0 rfl sB ?_ ?_ ?_
    · exact Nat.zero_le _
    · exact fun w' c' => c'
    · intro i hi
      by_cases hin : i < (homB ra rb).length
      · obtain ⟨ms, hms⟩ : ∃ ms, (homB ra rb)[i]? = some ms := ⟨_, List.getElem?_eq_getElem hin⟩
        obtain ⟨a9, e9, p1, p2⟩ := hgm i ms hms
        have hM := hb_mor (List.mem_of_getElem? hms)
        repeat' (first | (show oL; first | refine sMv rfl rfl ?_ | refine sAs rfl rfl ?_ | (show oA (.binOp _ _ _ _ _); first | refine sAd rfl rfl om rfl ?_ | refine sLs rfl rfl rfl ?_) | refine sLn tabs rfl rfl rfl ?_) | refine xNt ?_ | (show oC; first | refine c_seq ?_ | refine c_region ?_ | refine c_skip (x_then ?_) | refine c_skip (x_blk ?_) | refine c_block ?_ | refine c_draw kr kr (fun _ c => Hp.drew c) ?_ | refine c_false rfl ?_ | refine c_ift rfl aO ?_) | (show QT _ _ _ _ _ _ (_ :: _); first | refine qMv rfl rfl ?_ | (show qA (.load _ _); first | refine q_y (y_loadz tabs rfl rfl aS rfl) rfl ?_ | refine q_y (y_load tabs rfl rfl (hc_w0 p1)) rfl ?_) | (show qA (.indexAddr _ _ _); refine q_y (y_ix1 tabs (j := i) rfl rfl rfl hsm rfl hin) rfl ?_) | (show qA (.unOp _ _ _); refine q_y (y_not rfl) rfl ?_) | (show qA (.call _); refine q_call (ent_of Tryz.func41 kr rfl) rfl rfl (fun w c => impl_IsMorphism_ok (ms := ms) (a := ra) (b := rb) (c.rd hA2.r0) (c.rd hA2.r1) (c.rd hA2.r2) (c.rd hA2.r3) (c.rd hB2.r0) (c.rd hB2.r1) (c.rd hB2.r2) (c.rd hB2.r3) (c.rd p2)) (fun u H' h => by rw [decide_eq_true hM] at h; exact h.1) ?_)) | (show QT _ _ _ _ _ _ []; refine q_nil (x_then ?_)) | (show AT _ _ _ _; refine x_then ?_))
        exact x_nx (i + 1) sB om (fun w' c' => c') om
      · clear hgm hm hsm hl32
        have tok0 : True := trivial
        repeat' (first | (show oL; first | refine sMv rfl rfl ?_ | refine sAs rfl rfl ?_ | (show oA (.load _ _); first | refine sLb 0 tabs rfl rfl rfl rfl rfl ?_ | refine sLb 1 tabs rfl rfl rfl rfl rfl ?_ | refine sLb 2 tabs rfl rfl rfl rfl rfl ?_ | refine sLb 3 tabs rfl rfl rfl rfl rfl ?_) | (show oA (.binOp _ _ _ _ _); first | refine st_y (y_neqb_same Tryz.underlying4 rfl rfl) rfl ?_ | refine sLs rfl rfl rfl ?_) | (show oA (.unOp _ _ _); refine st_y (y_not rfl) rfl ?_) | (show oA (.call _); first | (refine m_call (ent_of Tryz.func91 kr rfl) rfl rfl (fun w c => DrawCoordinatesOf_ok (hp_code c hc2)) ?_; rintro v H' ⟨rc, rd, fs, _, _, af, cf, _, _, rfl, _, ⟨z0, z0', z1, z1', z2, z2', z3, z3', rfl, sz0, sz1, sz2, sz3, rfl⟩, ⟨t0, t0', t1, t1', t2, t2', t3, t3', rfl, st0, st1, st2, st3, rfl⟩, _, _, rfl⟩; refine AT.base (fun w3 c3 => ?_); have hC := rr_own 5 c3 rfl rfl rfl rfl; have hD := rr_own 1 c3 rfl rfl rfl rfl; have hfs := c3.own_rd (i := 0) rfl; have hc3 := hp_code c3 hc2) | (refine m_call (ent_of Tryz.func92 kr rfl) rfl rfl (fun w c => impl_CoordinatesOf_ok (ms := fs) (a := rc) (b := rd) (c.rd hC.r0) (c.rd hC.r1) (c.rd hC.r2) (c.rd hC.r3) (c.rd hD.r0) (c.rd hD.r1) (c.rd hD.r2) (c.rd hD.r3) (c.rd hfs)) ?_; rintro v H' ⟨a3, e3, rfl, hs3, rfl⟩) | (refine m_call (ent_of Tryz.func93 kr rfl) rfl rfl (fun w c => spec_CoordinatesOf_ok (ms := fs) (a := rc) (b := rd) (c.rd hC.r0) (c.rd hC.r1) (c.rd hC.r2) (c.rd hC.r3) (c.rd hD.r0) (c.rd hD.r1) (c.rd hD.r2) (c.rd hD.r3) (c.rd hfs)) ?_; rintro v H' ⟨a4, e4, rfl, hs4, rfl⟩) | (refine m_call (ent_of Tryz.func51 kr rfl) rfl rfl (fun w c => sameInts_at (c.own_rd (i := 1) rfl) (c.own_rd (i := 0) rfl)) ?_; rintro v H' ⟨rfl, rfl⟩) | (refine m_call (ent_of Tryz.func46 kr rfl) rfl rfl (fun w c => spec_IsMorphism_ok (ms := fs) (a := rc) (b := rd) (c.rd hC.r0) (c.rd hC.r1) (c.rd hC.r2) (c.rd hC.r3) (c.rd hD.r0) (c.rd hD.r1) (c.rd hD.r2) (c.rd hD.r3) (c.rd hfs)) ?_; rintro v H' ⟨rfl, rfl⟩) | refine sLn tabs rfl rfl rfl ?_) | (show oA (.extract _ _); refine st_y (y_ext rfl rfl) rfl ?_) | (show oA (.pick _ _ _); refine st_y (y_pick rfl rfl rfl) rfl ?_) | (show oA (.store _ _ _); first | refine m_storeb 1 tabs rfl rfl rfl rfl rfl rfl rfl ?_ | refine m_storeb 0 tabs rfl rfl rfl rfl rfl rfl rfl ?_) | (show oA (.alloc _); first | (have _t := tok0; refine m_alloc tabs rfl rfl (fun bc hbc => ?_); clear _t tok0) | refine m_alloc tabs rfl rfl (fun bd hbd => ?_)) | refine st_gy rfl rfl ?_) | refine xNt ?_ | (show oC; first | refine c_cutc 143 [(0, u0)] (Hp [] w3 []) ?_ ?_ | refine c_seq ?_ | refine c_region ?_ | refine c_skip (x_then ?_) | refine c_exit ?_ | refine c_false rfl ?_ | refine c_iff rfl nN ?_) | (show AT _ _ _ _; first | refine x_then ?_ | refine x_then_exit ?_ | refine x_blk_exit rfl ?_))
        · refine hold ?_
          repeat' (first | (show oL; first | refine sMv rfl rfl ?_ | refine sAs rfl rfl ?_ | (show oA (.load _ _); first | refine sLb 2 tabs rfl rfl rfl rfl rfl ?_ | refine sLb 3 tabs rfl rfl rfl rfl rfl ?_ | refine sLb 4 tabs rfl rfl rfl rfl rfl ?_) | (show oA (.unOp _ _ _); refine st_y (y_not rfl) rfl ?_) | (show oA (.call _); first | (refine m_call (ent_of Tryz.func87 kr rfl) rfl rfl (fun w c => spec_HomBasis_ok (a := rc) (b := rd) (c.rd hC.r0) (c.rd hC.r1) (c.rd hC.r2) (c.rd hC.r3) (c.rd hD.r0) (c.rd hD.r1) (c.rd hD.r2) (c.rd hD.r3)) ?_; rintro v H' ⟨a5, e5, rfl, hs5, rfl⟩) | (refine m_call (ent_of Tryz.func94 kr rfl) rfl rfl (fun w c => impl_CombineMorphisms_ok (l := homB rc rd) (ks := crV rc rd fs) (a := rc) (b := rd) (c.rd hC.r0) (c.rd hC.r1) (c.rd hC.r2) (c.rd hC.r3) (c.rd hD.r0) (c.rd hD.r1) (c.rd hD.r2) (c.rd hD.r3) (c.own_rd (i := 0) rfl) (c.own_rd (i := 1) rfl)) ?_; rw [(cb_all hM).2, decide_eq_true (cb_all hM).1]; rintro v H' ⟨a6, e6, rfl, hs6, rfl⟩) | (refine m_call (ent_of Tryz.func40 kr rfl) rfl rfl (fun w c => eqm_sameL (c.own_rd (i := 0) rfl) (c.rd hfs)) ?_; rintro v H' ⟨rfl, rfl⟩)) | (show oA (.extract _ _); refine st_y (y_ext rfl rfl) rfl ?_) | (show oA (.pick _ _ _); refine st_y (y_pick rfl rfl rfl) rfl ?_) | refine st_gy rfl rfl ?_) | refine xNt ?_ | (show oC; first | refine c_if (x := .tmp 143) rfl (fun hM => ?_) (fun hM => ?_) | refine c_seq ?_ | refine c_region ?_ | refine c_skip ?_ | refine c_false rfl ?_))
          all_goals exact x_mid sB (fun w' c' => c'.sub (List.nil_sublist _))
        · skip
          as_aux_lemma =>
          have tok0 : True := trivial
          repeat' (first | (show oL; first | refine sMv rfl rfl ?_ | refine sAs rfl rfl ?_ | (show oA (.load _ _); first | refine sLb 0 tabs rfl rfl rfl rfl rfl ?_ | refine sLb 1 tabs rfl rfl rfl rfl rfl ?_ | refine sLb 2 tabs rfl rfl rfl rfl rfl ?_) | (show oA (.binOp _ _ _ _ _); refine st_y (y_neqb_same Tryz.underlying4 rfl rfl) rfl ?_) | (show oA (.unOp _ _ _); refine st_y (y_not rfl) rfl ?_) | (show oA (.call _); first | (refine m_call (ent_of Tryz.func95 kr rfl) rfl rfl (fun w c => DrawMorphismNumber_ok (hp_code c hc3)) ?_; rintro v H' ⟨n, re, rg, _, _, _, _, rfl, ⟨y0, y0', y1, y1', y2, y2', y3, y3', rfl, sy0, sy1, sy2, sy3, rfl⟩, ⟨z0, z0', z1, z1', z2, z2', z3, z3', rfl, sz0, sz1, sz2, sz3, rfl⟩, rfl⟩; refine AT.base (fun w4 c4 => ?_); have hE := rr_own 4 c4 rfl rfl rfl rfl; have hG := rr_own 0 c4 rfl rfl rfl rfl; have hc4 := hp_code c4 hc3) | (refine m_call (ent_of Tryz.func96 kr rfl) rfl rfl (fun w c => impl_MorphismNumber_ok (c := n) (a := re) (b := rg) (c.rd hE.r0) (c.rd hE.r1) (c.rd hE.r2) (c.rd hE.r3) (c.rd hG.r0) (c.rd hG.r1) (c.rd hG.r2) (c.rd hG.r3)) ?_; rintro v H' ⟨a7, e7, rfl, hs7, rfl⟩) | (refine m_call (ent_of Tryz.func97 kr rfl) rfl rfl (fun w c => spec_MorphismNumber_ok (c := n) (a := re) (b := rg) (c.rd hE.r0) (c.rd hE.r1) (c.rd hE.r2) (c.rd hE.r3) (c.rd hG.r0) (c.rd hG.r1) (c.rd hG.r2) (c.rd hG.r3)) ?_; rintro v H' ⟨a8, e8, rfl, hs8, rfl⟩) | (refine m_call (ent_of Tryz.func40 kr rfl) rfl rfl (fun w c => eqm_sameL (c.own_rd (i := 1) rfl) (c.own_rd (i := 0) rfl)) ?_; rintro v H' ⟨rfl, rfl⟩)) | (show oA (.extract _ _); refine st_y (y_ext rfl rfl) rfl ?_) | (show oA (.pick _ _ _); refine st_y (y_pick rfl rfl rfl) rfl ?_) | (show oA (.store _ _ _); first | refine m_storeb 1 tabs rfl rfl rfl rfl rfl rfl rfl ?_ | refine m_storeb 0 tabs rfl rfl rfl rfl rfl rfl rfl ?_) | (show oA (.alloc _); first | (have _t := tok0; refine m_alloc tabs rfl rfl (fun be hbe => ?_); clear _t tok0) | refine m_alloc tabs rfl rfl (fun bg hbg => ?_)) | refine st_gy rfl rfl ?_) | refine xNt ?_ | (show oC; first | refine c_cutc 195 [(0, u0)] (Hp [] w4 []) ?_ ?_ | refine c_seq ?_ | refine c_region ?_ | refine c_skip (x_then ?_) | refine c_false rfl ?_))
          · refine hold ?_
            by_cases hN : mnP re rg n
            · obtain ⟨hN1, hN2, hN3, hN4⟩ := mn_crd hN
              have hN5 : codN re.p (mkv (homN re rg) (digF re.p n (homN re rg))) (mkv (homN re rg) (digF re.p n (homN re rg))).length = n := by rw [mkv_length]; exact hN3
              have hNN := not_not_intro hN5
              repeat' (first | (show oL; first | refine sMv rfl rfl ?_ | refine sAs rfl rfl ?_ | refine sFd tabs rfl rfl rfl rfl ?_ | (show oA (.load _ _); first | refine sLb 2 tabs rfl rfl rfl rfl rfl ?_ | refine sLb 3 tabs rfl rfl rfl rfl rfl ?_ | refine sLd 4 tabs rfl rfl rfl rfl rfl ?_) | (show oA (.binOp _ _ _ _ _); first | refine st_y (y_leq rfl rfl) rfl ?_ | refine st_y (y_neq rfl rfl) rfl ?_) | (show oA (.call _); first | (refine m_call (ent_of Tryz.func92 kr rfl) rfl rfl (fun w c => impl_CoordinatesOf_ok (ms := mnL re rg n) (a := re) (b := rg) (c.rd hE.r0) (c.rd hE.r1) (c.rd hE.r2) (c.rd hE.r3) (c.rd hG.r0) (c.rd hG.r1) (c.rd hG.r2) (c.rd hG.r3) (c.own_rd (i := 0) rfl)) ?_; rw [hN2]; rintro v H' ⟨a9, e9, rfl, hs9, rfl⟩) | (refine m_call (ent_of Tryz.func98 kr rfl) rfl rfl (fun w c => CodeOf_ok (p := re.p) (v := mkv (homN re rg) (digF re.p n (homN re rg))) (c.own_rd (i := 0) rfl) hN4 om) ?_; rintro v H' ⟨rfl, rfl⟩) | refine sLn tabs rfl rfl rfl ?_) | (show oA (.extract _ _); refine st_y (y_ext rfl rfl) rfl ?_) | (show oA (.pick _ _ _); first | refine st_y (y_pickt rfl aO rfl) rfl ?_ | refine st_y (y_pickf rfl aO rfl) rfl ?_) | refine st_gdy rfl rfl aO ?_ | refine st_gdn rfl rfl aO rfl ?_ | refine st_gd rfl rfl (fun h => ?_) (fun h => ?_)) | refine xNt ?_ | (show oC; first | refine c_ift rfl hN ?_ | refine c_seq ?_ | refine c_region ?_ | refine c_skip ?_ | refine c_false rfl ?_ | refine c_iff rfl nN ?_))
              all_goals exact x_mid sB (fun w' c' => c'.sub (List.nil_sublist _))
            · skip
              repeat' (first | (show oC; first | refine c_iff rfl hN ?_ | refine c_skip ?_))
              all_goals exact x_mid sB (fun w' c' => c'.sub (List.nil_sublist _))
          · skip
            as_aux_lemma =>
            have tok0 : True := trivial
            have tok1 : True := trivial
            have tok2 : True := trivial
            repeat' (first | (show oL; first | refine sMv rfl rfl ?_ | refine sAs rfl rfl ?_ | (show oA (.load _ _); first | refine sLb 0 tabs rfl rfl rfl rfl rfl ?_ | refine sLb 1 tabs rfl rfl rfl rfl rfl ?_ | refine sLb 2 tabs rfl rfl rfl rfl rfl ?_) | (show oA (.binOp _ _ _ _ _); refine st_y (y_eqlb_same Tryz.underlying4 rfl rfl) rfl ?_) | (show oA (.call _); first | (refine m_call (ent_of Tryz.func99 kr rfl) rfl rfl (fun w c => DrawCombineMorphisms_ok (hp_code c hc4)) ?_; rintro v H' ⟨ro, rp, ks, x0, x0', x1, x1', x2, x2', x3, x3', y0, y0', y1, y1', y2, y2', y3, y3', al, cl, ak, ck, rfl, hR⟩; refine AT.base (fun w5 c5 => ?_); obtain ⟨hO, hP, hl, hk⟩ := hR _ _ (c5.sub (List.sublist_append_left _ _)); have hc5 := hp_code c5 hc4) | (refine m_call (ent_of Tryz.func94 kr rfl) rfl rfl (fun w c => impl_CombineMorphisms_ok (l := homB ro rp) (ks := ks) (a := ro) (b := rp) (c.rd hO.r0) (c.rd hO.r1) (c.rd hO.r2) (c.rd hO.r3) (c.rd hP.r0) (c.rd hP.r1) (c.rd hP.r2) (c.rd hP.r3) (c.rd hl) (c.rd hk)) ?_; rintro v H' ⟨a10, e10, rfl, hs10, rfl⟩) | (refine m_call (ent_of Tryz.func100 kr rfl) rfl rfl (fun w c => spec_CombineMorphisms_ok (l := homB ro rp) (ks := ks) (a := ro) (b := rp) (c.rd hO.r0) (c.rd hO.r1) (c.rd hO.r2) (c.rd hO.r3) (c.rd hP.r0) (c.rd hP.r1) (c.rd hP.r2) (c.rd hP.r3) (c.rd hl) (c.rd hk)) ?_; rintro v H' ⟨a11, e11, rfl, hs11, rfl⟩) | (refine m_call (ent_of Tryz.func101 kr rfl) rfl rfl (fun w c => DrawFindMorphism_ok (hp_code c hc5)) ?_; rintro v H' ⟨rt, ru, _, _, _, _, rfl, _, ⟨z0, z0', z1, z1', z2, z2', z3, z3', rfl, sz0, sz1, sz2, sz3, rfl⟩, ⟨t0, t0', t1, t1', t2, t2', t3, t3', rfl, st0, st1, st2, st3, rfl⟩, rfl⟩; refine AT.base (fun w6 c6 => ?_); have hT := rr_own 4 c6 rfl rfl rfl rfl; have hU := rr_own 0 c6 rfl rfl rfl rfl; have h11 := c6.own_rd (i := 8) rfl; have h10 := c6.own_rd (i := 9) rfl) | (refine m_call (ent_of Tryz.func102 kr rfl) rfl rfl (fun w c => impl_FindMorphism_ok (a := rt) (b := ru) (c.rd hT.r0) (c.rd hT.r1) (c.rd hT.r2) (c.rd hT.r3) (c.rd hU.r0) (c.rd hU.r1) (c.rd hU.r2) (c.rd hU.r3)) ?_; rintro v H' ⟨a12, e12, rfl, hs12, rfl⟩) | (refine m_call (ent_of Tryz.func103 kr rfl) rfl rfl (fun w c => spec_FindMorphism_ok (a := rt) (b := ru) (c.rd hT.r0) (c.rd hT.r1) (c.rd hT.r2) (c.rd hT.r3) (c.rd hU.r0) (c.rd hU.r1) (c.rd hU.r2) (c.rd hU.r3)) ?_; rintro v H' ⟨a13, e13, rfl, hs13, rfl⟩) | (refine m_call (ent_of Tryz.func40 kr rfl) rfl rfl (fun w c => eqm_sameL (c.rd h10) (c.rd h11)) ?_; rintro v H' ⟨rfl, rfl⟩) | (refine m_call (ent_of Tryz.func40 kr rfl) rfl rfl (fun w c => eqm_sameL (c.own_rd (i := 1) rfl) (c.own_rd (i := 0) rfl)) ?_; rintro v H' ⟨rfl, rfl⟩)) | (show oA (.extract _ _); refine st_y (y_ext rfl rfl) rfl ?_) | (show oA (.pick _ _ _); refine st_y (y_pick rfl rfl rfl) rfl ?_) | (show oA (.store _ _ _); first | refine m_storeb 1 tabs rfl rfl rfl rfl rfl rfl rfl ?_ | refine m_storeb 0 tabs rfl rfl rfl rfl rfl rfl rfl ?_) | (show oA (.alloc _); first | (have _t := tok0; refine m_alloc tabs rfl rfl (fun bo hbo => ?_); clear _t tok0) | (have _t := tok1; refine m_alloc tabs rfl rfl (fun bp hbp => ?_); clear _t tok1) | (have _t := tok2; refine m_alloc tabs rfl rfl (fun bt hbt => ?_); clear _t tok2) | refine m_alloc tabs rfl rfl (fun bu hbu => ?_)) | refine st_gy rfl rfl ?_) | refine xNt ?_ | (show oC; first | refine c_seq ?_ | refine c_region ?_ | refine c_ret ?_))
            exact x_ret1 Tryz.results6 (res_tmp rfl) (fun wz cz => ⟨_, _, rfl, ⟨rfl, rfl⟩, c1.after (c2.after (c3.after (c4.after (c5.after (c6.after (cz.sub (List.nil_sublist _)))))))⟩)
set_option maxRecDepth 100000 in
theorem lifted (os : Os) (started : os.Started) (H : Type) (enc : TypeId × Value → H) :
    ReturnsInHanded {} Tryz.checked os 6 .any (Rows.fnHomsSpec.pre6 enc Tryz.prog Tryz.f6 Rows.fnHomsRow.domain false) (Rows.fnHomsSpec.post enc Tryz.prog Tryz.f6 false true false false) := by
  refine returnsInHanded_of_change (C := Tryz.checked) Tryz.own started kr Tryz.func6
    (ChangeSpec.witness6 (enc := enc) (C := Tryz.checked) false ⟨#[], #[.slice none 0 0], []⟩ 16 kr kr kr kr) ?_
  intro W base args ds gs before hval0 hW hcnd _
  have hval : ∀ (j : Nat) t v, Tryz.f6.params[j]? = some t → args[j]? = some v → Value.okWide Tryz.prog W .any base t v := hval0
  have hW' := hW
  obtain ⟨p, q, hA0, hV, rfl, hfz, hnd⟩ := hW
  have hA : DataW.TrodAll enc Tryz.prog W 0 (fun _ => true) true Tryz.f6.params.toList args.toList ds p := hA0
  rw [Tryz.params6] at hA hval
  obtain ⟨v0, vs0, d0, ds0, p0, q0, hargs, rfl, rfl, k0, r0⟩ := trodAll_cons hA
  obtain ⟨rfl, rfl, rfl⟩ := trodAll_nil r0
  obtain rfl : args = #[v0] := by cases args; simp_all
  obtain ⟨rfl, rfl⟩ := trodVars_none hV
  have lt0 : ∀ x ∈ p0, x.block < W.heap.size := by obtain ⟨m, hm⟩ := k0; exact DataW.trod_lt m _ _ _ hm
  obtain ⟨x0, h0, g0⟩ := opn_bytes (hval 0 22 v0 rfl rfl) k0
  clear hA0 hval0
  refine (law_ok W h0 g0).mono fun e W' ⟨v, H', he, ⟨hv, _⟩, hp⟩ => ?_
  subst he; subst hv
  have bel := hp.below
  exact ⟨_, rfl, _, _, _, [], _, [], hW', trodAll_mk1 (shut_bool Tryz.underlying4 _), (trodAll_cons_mk (Below.trod Tryz.laidOut kr (of_decide_eq_true kr) k0 bel lt0) trodAll_mk0), rfl, bel.frame _, fun h => by cases h⟩

theorem closed : joinedFacts Tryz.pinned.checked.prog 6 Tryz.f6 Rows.fnHomsSpec Rows.fnHomsRow = true := by
  unfold joinedFacts
  repeat' (with_reducible refine band ?_ ?_)
  all_goals first | (with_reducible exact fin_enter) | ((with_reducible refine fin_lifted ?_); rfl) | ((with_reducible refine fin_make ?_); rfl) | (as_aux_lemma => kernel_rfl)
/-- the given statement -/
theorem proved : Rows.FnHomsSaid :=
  OpenClaim.holds_of_wide 6 Tryz.f6 rfl rfl rfl rfl rfl rfl rfl ⟨rfl, rfl, rfl, rfl, rfl⟩ rfl rfl rfl rfl rfl kr Tryz.func6 closed
    (of_decide_eq_true kr) (by unfold Func.isWrapper; first | (rw [if_pos (by decide +kernel)]; kernel_rfl) | (rw [if_neg (by decide +kernel)]; exact ⟨rfl, rfl⟩))
    (fun os started H enc _ => lifted os started H enc)
#print axioms proved
end Go.Proofs.YtijjkfbkihgfgaaGreat.wFnHoms
