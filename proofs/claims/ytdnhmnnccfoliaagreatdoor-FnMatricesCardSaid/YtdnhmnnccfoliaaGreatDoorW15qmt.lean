/- The law FnMatrices returns true for all arguments, and its arguments read behind the call as they read before; there are no conditions. -/
import Derived.Test.YtdnhmnnccfoliaaGreatDoorCards
import Derived.Test.YtdnhmnnccfoliaaGreatDoorTie
import Derived.LaidMore
import Derived.Lay
import Derived.SevenTiedAt
import Derived.Stop.Joined
import Derived.OpenShut
import Derived.ShutString
import Derived.Below
import Derived.Test.YtdnhmnnccfoliaaGreatDoorEqmqmt
import Derived.Test.YtdnhmnnccfoliaaGreatDoorFinqmt
import Derived.Test.YtdnhmnnccfoliaaGreatDoorGlmqmt
import Derived.Test.YtdnhmnnccfoliaaGreatDoorLBqmt
import Derived.Test.YtdnhmnnccfoliaaGreatDoorLCqmt
import Derived.Test.YtdnhmnnccfoliaaGreatDoorLGqmt
import Derived.Test.YtdnhmnnccfoliaaGreatDoorLwsqmt
import Derived.Test.YtdnhmnnccfoliaaGreatDoorMdrqmt
import Derived.Test.YtdnhmnnccfoliaaGreatDoorMolqmt
import Derived.Test.YtdnhmnnccfoliaaGreatDoorMovqmt
import Derived.Test.YtdnhmnnccfoliaaGreatDoorOpBqmt
import Derived.Test.YtdnhmnnccfoliaaGreatDoorOpnqmt
import Derived.Test.YtdnhmnnccfoliaaGreatDoorPmjqmt
import Derived.Test.YtdnhmnnccfoliaaGreatDoorPmsqmt
import Derived.Test.YtdnhmnnccfoliaaGreatDoorZerqmt
namespace Go.Proofs.YtdnhmnnccfoliaaGreatDoor.wFnMatrices
open Go.Lg Go.Proofs Go.RowKit Go.ChangeShapes Go.WideShapes Go.ChangeAt
attribute [local irreducible] Code.wp wpList bodyPost Exit.then Exit.inBlock Hp Again Calls Y AT ResV QT
set_option maxRecDepth 20000
set_option maxHeartbeats 4000000
set_option maxRecDepth 20000
set_option maxHeartbeats 40000000
set_option linter.unusedVariables false

theorem law_ok (w : World) {x0 : List Int} {u0 : Value} (h0 : Rd w (byT x0) u0) (g0 : Byt x0) (hG : Glb w) : Does Tryz.prog 4 [u0] w (fun r H => r = .bool true ∧ H = []) := by
  by_cases hbig : (x0.length : Int) > 1048576
  · obtain ⟨a, c, rfl⟩ := bytes_sl h0
    refine fn_enter Tryz.func4 rfl Tryz.ntmps4 rfl ?_
    repeat' (first | (show oL; first | refine sMv rfl rfl ?_ | refine sAs rfl rfl ?_ | (show oA (.call _); (refine m_call (ent_of Tryz.func15 kr rfl) rfl rfl (fun w c => big_yes hbig) ?_; rintro v H' ⟨rfl, rfl⟩))) | refine xNt ?_ | (show oC; first | refine c_seq ?_ | refine c_region ?_ | refine c_ret ?_ | refine c_true rfl ?_) | (show AT _ _ _ _; refine x_then_ret ?_))
    exact x_ret1 Tryz.results4 (res_tmp rfl) (fun w' c' => ⟨_, _, rfl, ⟨rfl, rfl⟩, c'⟩)
  have hc := codeF_of h0 g0 om
  have tok0 : True := trivial
  have tok1 : True := trivial
  have tok2 : True := trivial
  have tok3 : True := trivial
  refine fn_enter Tryz.func4 rfl Tryz.ntmps4 rfl ?_
  repeat' (first | (show oL; first | refine sMv rfl rfl ?_ | refine sAs rfl rfl ?_ | refine sLb 0 tabs rfl rfl rfl rfl rfl ?_ | (show oA (.call _); first | (refine m_call (ent_of Tryz.func15 kr rfl) rfl rfl (fun w c => big_ok (hp_code c hc)) ?_; rintro v H' ⟨rfl, rfl⟩) | (refine m_call (ent_of Tryz.func16 kr rfl) rfl rfl (fun w c => DrawFormatMatrix_ok (hp_code c hc)) ?_; rintro v H' ⟨p, m, am, cm, rfl, hm, rfl⟩; have hfl := fmtM_len p m) | (refine m_call (ent_of Tryz.func17 kr rfl) rfl rfl (fun w c => impl_FormatMatrix_ok (m := m) (c.own_rd (i := 1) rfl)) ?_; rintro v H' ⟨rfl, rfl⟩) | (refine m_call (ent_of Tryz.func18 kr rfl) rfl rfl (fun w c => impl_ParseMatrix_ok (p := p) (s := fmtM p m) (hG.mono c) om) ?_; rw [par_dec]; rintro v H' ⟨ax, cx, rfl, hsx, rfl⟩) | (refine m_call (ent_of Tryz.func19 kr rfl) rfl rfl (fun w c => DrawParseMatrix_ok (hp_code c hc)) ?_; rintro v H' ⟨t, s, rfl, hsl, rfl⟩) | (refine m_call (ent_of Tryz.func18 kr rfl) rfl rfl (fun w c => impl_ParseMatrix_ok (p := t) (s := s) (hG.mono c) om) ?_; rintro v H' ⟨ay, cy, rfl, hsy, rfl⟩) | (refine m_call (ent_of Tryz.func20 kr rfl) rfl rfl (fun w c => spec_ParseMatrix_ok (p := t) (s := s) om) ?_; rintro v H' ⟨az, cz, rfl, hsz, rfl⟩)) | (show oA (.extract _ _); refine st_y (y_ext rfl rfl) rfl ?_) | (show oA (.store _ _ _); refine m_storeb 0 tabs rfl rfl rfl rfl rfl rfl rfl ?_) | (show oA (.alloc _); first | (have _t := tok0; refine m_alloc tabs rfl rfl (fun b4 hb4 => ?_); clear _t tok0) | (have _t := tok1; refine m_alloc tabs rfl rfl (fun b6 hb6 => ?_); clear _t tok1) | (have _t := tok2; refine m_alloc tabs rfl rfl (fun b10 hb10 => ?_); clear _t tok2) | (have _t := tok3; refine m_alloc tabs rfl rfl (fun b12 hb12 => ?_); clear _t tok3))) | refine xNt ?_ | (show oC; first | refine c_cutr 9 [(0, u0), (133, .bool false)] (Hp [] w []) ?_ ?_ | refine c_seq ?_ | refine c_region ?_ | refine c_skip (x_then ?_) | refine c_false rfl ?_))
  · refine hold ?_
    refine AT.sel [4, 5, 6, 7] rfl ?_
    by_cases hM : MatP p m
    · rw [par_same hM, decide_eq_true hM]
      repeat' (first | (show oL; first | refine sMv rfl rfl ?_ | (show oA (.load _ _); first | refine sLb 0 tabs rfl rfl rfl rfl rfl ?_ | refine sLb 2 tabs rfl rfl rfl rfl rfl ?_) | (show oA (.binOp _ _ _ _ _); first | refine st_y (y_neqb_same Tryz.underlying4 rfl rfl) rfl ?_ | refine st_y (y_neqsf rfl rfl) rfl ?_) | (show oA (.unOp _ _ _); refine st_y (y_not rfl) rfl ?_) | (show oA (.call _); first | (refine m_call (ent_of Tryz.func21 kr rfl) rfl rfl (fun w c => spec_FormatMatrix_ok (m := m) (c.own_rd (i := 3) rfl)) ?_; rintro v H' ⟨rfl, rfl⟩) | (refine m_call (ent_of Tryz.func22 kr rfl) rfl rfl (fun w c => spec_IsMatrix_ok (m := m) (c.own_rd (i := 3) rfl)) ?_; rw [decide_eq_true hM]; rintro v H' ⟨rfl, rfl⟩) | (refine m_call (ent_of Tryz.func24 kr rfl) rfl rfl (fun w c => impl_IsMatrix_ok (m := m) (c.own_rd (i := 3) rfl)) ?_; rw [decide_eq_true hM]; rintro v H' ⟨rfl, rfl⟩) | (refine m_call (ent_of Tryz.func23 kr rfl) rfl rfl (fun w c => spec_EqM_same (m := m) (c.own_rd (i := 1) rfl) (c.own_rd (i := 3) rfl)) ?_; rintro v H' ⟨rfl, rfl⟩)) | (show oA (.pick _ _ _); refine st_y (y_pick rfl rfl rfl) rfl ?_) | refine st_gy rfl rfl ?_) | (show oN; refine c_nil ?_) | (show oC; refine c_region ?_))
      all_goals exact x_mid sB (fun w' c' => c'.sub (List.nil_sublist _))
    · rw [decide_eq_false hM]
      repeat' (first | (show oL; first | refine sMv rfl rfl ?_ | refine sLb 2 tabs rfl rfl rfl rfl rfl ?_ | (show oA (.binOp _ _ _ _ _); first | refine st_y (y_neqb_same Tryz.underlying4 rfl rfl) rfl ?_ | refine st_y (y_neqsf rfl rfl) rfl ?_) | (show oA (.call _); first | (refine m_call (ent_of Tryz.func21 kr rfl) rfl rfl (fun w c => spec_FormatMatrix_ok (m := m) (c.own_rd (i := 3) rfl)) ?_; rintro v H' ⟨rfl, rfl⟩) | (refine m_call (ent_of Tryz.func22 kr rfl) rfl rfl (fun w c => spec_IsMatrix_ok (m := m) (c.own_rd (i := 3) rfl)) ?_; rw [decide_eq_false hM]; rintro v H' ⟨rfl, rfl⟩) | (refine m_call (ent_of Tryz.func24 kr rfl) rfl rfl (fun w c => impl_IsMatrix_ok (m := m) (c.own_rd (i := 3) rfl)) ?_; rw [decide_eq_false hM]; rintro v H' ⟨rfl, rfl⟩)) | (show oA (.pick _ _ _); refine st_y (y_pick rfl rfl rfl) rfl ?_) | refine st_gy rfl rfl ?_ | refine st_gn rfl rfl rfl ?_) | (show oN; refine c_nil ?_) | (show oC; refine c_region ?_))
      all_goals exact x_mid sB (fun w' c' => c'.sub (List.nil_sublist _))
  · skip
    as_aux_lemma =>
    have tok0 : True := trivial
    have tok1 : True := trivial
    have tok2 : True := trivial
    have tok3 : True := trivial
    have tok4 : True := trivial
    have tok5 : True := trivial
    have tok6 : True := trivial
    have tok7 : True := trivial
    repeat' (first | (show oL; first | refine sMv rfl rfl ?_ | refine sAs rfl rfl ?_ | (show oA (.load _ _); first | refine sLb 1 tabs rfl rfl rfl rfl rfl ?_ | refine sLb 0 tabs rfl rfl rfl rfl rfl ?_ | refine sLb 3 tabs rfl rfl rfl rfl rfl ?_ | refine sLb 2 tabs rfl rfl rfl rfl rfl ?_ | refine sLb 2 tabs rfl rfl rfl rfl rfl ?_ | refine sLb 0 tabs rfl rfl rfl rfl rfl ?_) | (show oA (.binOp _ _ _ _ _); refine st_y (y_neqb_same Tryz.underlying4 rfl rfl) rfl ?_) | (show oA (.unOp _ _ _); refine st_y (y_not rfl) rfl ?_) | (show oA (.call _); first | (refine m_call (ent_of Tryz.func25 kr rfl) rfl rfl (fun w c => DrawMultiplyMatrices_ok (hp_code c hc)) ?_; rintro v H' ⟨q, a, aa, ca, b, ab, cb, rfl, rfl⟩) | (refine m_call (ent_of Tryz.func26 kr rfl) rfl rfl (fun w c => impl_MultiplyMatrices_ok (a := a) (b := b) (c.own_rd (i := 3) rfl) (c.own_rd (i := 2) rfl)) ?_; rintro v H' ⟨ac, cc, rfl, hsc, rfl⟩) | (refine m_call (ent_of Tryz.func27 kr rfl) rfl rfl (fun w c => spec_MultiplyMatrices_ok (a := a) (b := b) (c.own_rd (i := 5) rfl) (c.own_rd (i := 4) rfl)) ?_; rintro v H' ⟨ad, cd, rfl, hsd, rfl⟩) | (refine m_call (ent_of Tryz.func23 kr rfl) rfl rfl (fun w c => spec_EqM_same (m := mlM q a b) (c.own_rd (i := 3) rfl) (c.own_rd (i := 1) rfl)) ?_; rintro v H' ⟨rfl, rfl⟩)) | (show oA (.extract _ _); refine st_y (y_ext rfl rfl) rfl ?_) | (show oA (.pick _ _ _); refine st_y (y_pick rfl rfl rfl) rfl ?_) | (show oA (.store _ _ _); first | refine m_storeb 0 tabs rfl rfl rfl rfl rfl rfl rfl ?_ | refine m_storeb 1 tabs rfl rfl rfl rfl rfl rfl rfl ?_) | (show oA (.alloc _); first | (have _t := tok0; refine m_alloc tabs rfl rfl (fun b15 hb15 => ?_); clear _t tok0) | (have _t := tok1; refine m_alloc tabs rfl rfl (fun b16 hb16 => ?_); clear _t tok1) | (have _t := tok2; refine m_alloc tabs rfl rfl (fun b17 hb17 => ?_); clear _t tok2) | (have _t := tok3; refine m_alloc tabs rfl rfl (fun b19 hb19 => ?_); clear _t tok3)) | refine st_gy rfl rfl ?_) | refine xNt ?_ | (show oC; first | refine c_cutc 163 [(0, u0)] (Hp [] w []) ?_ ?_ | refine c_seq ?_ | refine c_region ?_ | refine c_skip (x_then ?_) | refine c_false rfl ?_))
    · refine hold ?_
      refine AT.sel [0, 1, 4, 5, 6, 7] rfl ?_
      repeat' (first | (show oL; first | refine sMv rfl rfl ?_ | refine sAs rfl rfl ?_ | (show oA (.load _ _); first | refine sLb 3 tabs rfl rfl rfl rfl rfl ?_ | refine sLb 4 tabs rfl rfl rfl rfl rfl ?_ | refine sLb 0 tabs rfl rfl rfl rfl rfl ?_ | refine sLb 2 tabs rfl rfl rfl rfl rfl ?_ | refine sLb 6 tabs rfl rfl rfl rfl rfl ?_ | refine sLb 2 tabs rfl rfl rfl rfl rfl ?_ | refine sLb 0 tabs rfl rfl rfl rfl rfl ?_) | (show oA (.unOp _ _ _); refine st_y (y_not rfl) rfl ?_) | (show oA (.call _); first | (refine m_call (ent_of Tryz.func28 kr rfl) rfl rfl (fun w c => impl_TransposeMatrix_ok (a := a) (c.own_rd (i := 5) rfl)) ?_; rintro v H' ⟨ae, ce, rfl, hse, rfl⟩) | (refine m_call (ent_of Tryz.func28 kr rfl) rfl rfl (fun w c => impl_TransposeMatrix_ok (a := b) (c.own_rd (i := 6) rfl)) ?_; rintro v H' ⟨af, cf, rfl, hsf, rfl⟩) | (refine m_call (ent_of Tryz.func26 kr rfl) rfl rfl (fun w c => impl_MultiplyMatrices_ok (a := tpM q b) (b := tpM q a) (c.own_rd (i := 1) rfl) (c.own_rd (i := 3) rfl)) ?_; rw [(mul_tr (of_decide_eq_true hS)).2]; rintro v H' ⟨ag, cg, rfl, hsg, rfl⟩) | (refine m_call (ent_of Tryz.func28 kr rfl) rfl rfl (fun w c => impl_TransposeMatrix_ok (a := mlM q a b) (c.own_rd (i := 7) rfl)) ?_; rintro v H' ⟨ah, ch, rfl, hsh, rfl⟩) | (refine m_call (ent_of Tryz.func23 kr rfl) rfl rfl (fun w c => spec_EqM_same (m := tpM q (mlM q a b)) (c.own_rd (i := 3) rfl) (c.own_rd (i := 1) rfl)) ?_; rintro v H' ⟨rfl, rfl⟩)) | (show oA (.extract _ _); refine st_y (y_ext rfl rfl) rfl ?_) | (show oA (.store _ _ _); refine m_storeb 0 tabs rfl rfl rfl rfl rfl rfl rfl ?_) | (show oA (.alloc _); first | (have _t := tok4; refine m_alloc tabs rfl rfl (fun b21 hb21 => ?_); clear _t tok4) | (have _t := tok5; refine m_alloc tabs rfl rfl (fun b23 hb23 => ?_); clear _t tok5) | (have _t := tok6; refine m_alloc tabs rfl rfl (fun b25 hb25 => ?_); clear _t tok6) | (have _t := tok7; refine m_alloc tabs rfl rfl (fun b27 hb27 => ?_); clear _t tok7))) | refine xNt ?_ | (show oC; first | refine c_ifb (x := .tmp 163) rfl (fun hS => ?_) (fun hS => ?_) | refine c_seq ?_ | refine c_region ?_ | refine c_skip ?_ | refine c_false rfl ?_))
      all_goals exact x_mid sB (fun w' c' => c'.sub (List.nil_sublist _))
    · skip
      as_aux_lemma =>
      have tok20 : True := trivial
      have tok21 : True := trivial
      have tok22 : True := trivial
      have tok23 : True := trivial
      have tok24 : True := trivial
      have tok25 : True := trivial
      have tok26 : True := trivial
      have tok27 : True := trivial
      have tok28 : True := trivial
      have tok29 : True := trivial
      have tok30 : True := trivial
      have tok31 : True := trivial
      have tok32 : True := trivial
      have tok33 : True := trivial
      have tok34 : True := trivial
      have tok35 : True := trivial
      have tok36 : True := trivial
      repeat' (first | (show oL; first | refine sMv rfl rfl ?_ | refine sAs rfl rfl ?_ | (show oA (.load _ _); first | refine sLb 0 tabs rfl rfl rfl rfl rfl ?_ | refine sLb 1 tabs rfl rfl rfl rfl rfl ?_ | refine sLb 2 tabs rfl rfl rfl rfl rfl ?_ | refine sLb 3 tabs rfl rfl rfl rfl rfl ?_ | refine sLb 4 tabs rfl rfl rfl rfl rfl ?_ | refine sLb 5 tabs rfl rfl rfl rfl rfl ?_ | refine sLb 6 tabs rfl rfl rfl rfl rfl ?_ | refine sLb 7 tabs rfl rfl rfl rfl rfl ?_ | refine sLb 8 tabs rfl rfl rfl rfl rfl ?_ | refine sLb 9 tabs rfl rfl rfl rfl rfl ?_) | (show oA (.call _); first | (refine m_call (ent_of Tryz.func29 kr rfl) rfl rfl (fun w c => DrawAddMatrices_ok (hp_code c hc)) ?_; rintro v H' ⟨r, y, ay, cy, z, az, cz, rfl, rfl⟩) | (refine m_call (ent_of Tryz.func30 kr rfl) rfl rfl (fun w c => impl_AddMatrices_ok (a := y) (b := z) (c.own_rd (i := 3) rfl) (c.own_rd (i := 2) rfl)) ?_; rintro v H' ⟨ai, ci, rfl, hsi, rfl⟩) | (refine m_call (ent_of Tryz.func31 kr rfl) rfl rfl (fun w c => spec_AddMatrices_ok (a := y) (b := z) (c.own_rd (i := 5) rfl) (c.own_rd (i := 4) rfl)) ?_; rintro v H' ⟨aj, cj, rfl, hsj, rfl⟩) | (refine m_call (ent_of Tryz.func30 kr rfl) rfl rfl (fun w c => impl_AddMatrices_ok (a := z) (b := y) (c.own_rd (i := 6) rfl) (c.own_rd (i := 7) rfl)) ?_; rw [adM_comm, adP_dec]; rintro v H' ⟨ak, ck, rfl, hsk, rfl⟩) | (refine m_call (ent_of Tryz.func32 kr rfl) rfl rfl (fun w c => impl_BlockSum_ok (a := y) (b := z) (c.own_rd (i := 9) rfl) (c.own_rd (i := 8) rfl)) ?_; rintro v H' ⟨al, cl, rfl, hsl, rfl⟩) | (refine m_call (ent_of Tryz.func33 kr rfl) rfl rfl (fun w c => spec_BlockSum_ok (a := y) (b := z) (c.own_rd (i := 11) rfl) (c.own_rd (i := 10) rfl)) ?_; rintro v H' ⟨an, cn, rfl, hsn, rfl⟩) | (refine m_call (ent_of Tryz.func34 kr rfl) rfl rfl (fun w c => DrawApplyMatrix_ok (hp_code c hc)) ?_; rintro v H' ⟨oo, vm, av, cv, xs, axs, cxs, rfl, rfl⟩) | (refine m_call (ent_of Tryz.func35 kr rfl) rfl rfl (fun w c => impl_ApplyMatrix_ok (m := vm) (v := xs) (c.own_rd (i := 2) rfl) (c.own_rd (i := 1) rfl)) ?_; rintro v H' ⟨as1, cs1, rfl, hss1, rfl⟩) | (refine m_call (ent_of Tryz.func36 kr rfl) rfl rfl (fun w c => spec_ApplyMatrix_ok (m := vm) (v := xs) (c.own_rd (i := 3) rfl) (c.own_rd (i := 2) rfl)) ?_; rintro v H' ⟨at1, ct1, rfl, hst1, rfl⟩) | (refine m_call (ent_of Tryz.func37 kr rfl) rfl rfl (fun w c => DrawScaleMatrix_ok (hp_code c hc)) ?_; rintro v H' ⟨pc, nk, dm, ad, cd, rfl, hnk, rfl⟩) | (refine m_call (ent_of Tryz.func38 kr rfl) rfl rfl (fun w c => impl_ScaleMatrix_ok (k := nk) (a := dm) (c.own_rd (i := 1) rfl)) ?_; rintro v H' ⟨ae, ce, rfl, hse, rfl⟩) | (refine m_call (ent_of Tryz.func39 kr rfl) rfl rfl (fun w c => spec_ScaleMatrix_ok (k := nk) (a := dm) (c.own_rd (i := 3) rfl)) ?_; rintro v H' ⟨af, cf, rfl, hsf, rfl⟩) | (refine m_call (ent_of Tryz.func40 kr rfl) rfl rfl (fun w c => DrawZeroMatrix_ok (hp_code c hc)) ?_; rintro v H' ⟨sz, cl, rfl, rfl⟩) | (refine m_call (ent_of Tryz.func41 kr rfl) rfl rfl (fun w c => impl_ZeroMatrix_ok (r := sz) (c := cl)) ?_; rintro v H' ⟨ag, cg, rfl, hsg, rfl⟩) | (refine m_call (ent_of Tryz.func42 kr rfl) rfl rfl (fun w c => spec_ZeroMatrix_ok (r := sz) (c := cl)) ?_; rintro v H' ⟨ah, ch, rfl, hsh, rfl⟩) | (refine m_call (ent_of Tryz.func43 kr rfl) rfl rfl (fun w c => impl_IdentityMatrix_ok (n := sz)) ?_; rintro v H' ⟨au, cu, rfl, hsu, rfl⟩) | (refine m_call (ent_of Tryz.func44 kr rfl) rfl rfl (fun w c => spec_IdentityMatrix_ok (n := sz)) ?_; rintro v H' ⟨av, cv, rfl, hsv, rfl⟩) | (refine m_call (ent_of Tryz.func45 kr rfl) rfl rfl (fun w c => DrawEqualMatrices_ok (hp_code c hc)) ?_; rintro v H' ⟨lm, al2, cl2, mm, am2, cm2, rfl, rfl⟩; refine AT.base (fun w1 c1 => ?_); have hi := c1.own_rd (i := 30) rfl; have ki := c1.box (i := 29) rfl; have hj := c1.own_rd (i := 28) rfl; have kj := c1.box (i := 27) rfl; have hk := c1.own_rd (i := 26) rfl; have kk := c1.box (i := 25) rfl; have hl := c1.own_rd (i := 24) rfl; have kl := c1.box (i := 23) rfl; have hn := c1.own_rd (i := 22) rfl; have kn := c1.box (i := 21) rfl; have he := c1.own_rd (i := 13) rfl; have ke := c1.box (i := 12) rfl; have hf := c1.own_rd (i := 11) rfl; have kf := c1.box (i := 10) rfl; have hg := c1.own_rd (i := 9) rfl; have kg := c1.box (i := 8) rfl; have hh := c1.own_rd (i := 7) rfl; have kh := c1.box (i := 6) rfl; have hu := c1.own_rd (i := 5) rfl; have ku := c1.box (i := 4) rfl; have hv := c1.own_rd (i := 3) rfl; have kv := c1.box (i := 2) rfl; have hs1 := c1.own_rd (i := 17) rfl; have ht1 := c1.own_rd (i := 16) rfl; have hmm := c1.own_rd (i := 0) rfl; have hlm := c1.own_rd (i := 1) rfl)) | (show oA (.extract _ _); refine st_y (y_ext rfl rfl) rfl ?_) | (show oA (.store _ _ _); first | refine m_storeb 0 tabs rfl rfl rfl rfl rfl rfl rfl ?_ | refine m_storeb 1 tabs rfl rfl rfl rfl rfl rfl rfl ?_) | (show oA (.alloc _); first | (have _t := tok20; refine m_alloc tabs rfl rfl (fun b30 hb30 => ?_); clear _t tok20) | (have _t := tok21; refine m_alloc tabs rfl rfl (fun b31 hb31 => ?_); clear _t tok21) | (have _t := tok22; refine m_alloc tabs rfl rfl (fun b32 hb32 => ?_); clear _t tok22) | (have _t := tok23; refine m_alloc tabs rfl rfl (fun b34 hb34 => ?_); clear _t tok23) | (have _t := tok24; refine m_alloc tabs rfl rfl (fun b36 hb36 => ?_); clear _t tok24) | (have _t := tok25; refine m_alloc tabs rfl rfl (fun b38 hb38 => ?_); clear _t tok25) | (have _t := tok26; refine m_alloc tabs rfl rfl (fun b40 hb40 => ?_); clear _t tok26) | (have _t := tok27; refine m_alloc tabs rfl rfl (fun b43 hb43 => ?_); clear _t tok27) | (have _t := tok28; refine m_alloc tabs rfl rfl (fun b51 hb51 => ?_); clear _t tok28) | (have _t := tok29; refine m_alloc tabs rfl rfl (fun b52 hb52 => ?_); clear _t tok29) | (have _t := tok30; refine m_alloc tabs rfl rfl (fun b54 hb54 => ?_); clear _t tok30) | (have _t := tok31; refine m_alloc tabs rfl rfl (fun b58 hb58 => ?_); clear _t tok31) | (have _t := tok32; refine m_alloc tabs rfl rfl (fun b60 hb60 => ?_); clear _t tok32) | (have _t := tok33; refine m_alloc tabs rfl rfl (fun b62 hb62 => ?_); clear _t tok33) | (have _t := tok34; refine m_alloc tabs rfl rfl (fun b64 hb64 => ?_); clear _t tok34) | (have _t := tok35; refine m_alloc tabs rfl rfl (fun b66 hb66 => ?_); clear _t tok35) | (have _t := tok36; refine m_alloc tabs rfl rfl (fun b67 hb67 => ?_); clear _t tok36))) | refine xNt ?_ | (show oC; first | refine c_seq ?_ | refine c_region ?_))
      refine c_all (Hp [] w1 [.blk b67 #[iV mm.1, iV mm.2.1, .slice am2 mm.2.2.length cm2] 41, .blk b66 #[iV lm.1, iV lm.2.1, .slice al2 lm.2.2.length cl2] 41]) kr (fun _ c => Hp.drew c) ?_
      refine h_take 0 rfl kr kr kr (by exact y_move rfl) rfl (fun _ c => c) ?_
      refine h_take 1 rfl kr kr kr (by exact y_move rfl) rfl (fun _ c => c) ?_
      refine h_take 2 rfl kr kr kr (by exact y_eqlb_same Tryz.underlying4 rfl rfl) rfl (fun _ c => c) ?_
      refine h_take 3 rfl kr kr kr (by exact y_move rfl) rfl (fun _ c => c) ?_
      refine h_takey 4 rfl kr kr kr rfl rfl (by exact y_move rfl) rfl (fun _ c => c) ?_
      refine h_takey 5 rfl kr kr kr rfl rfl (by exact y_move rfl) rfl (fun _ c => c) ?_
      refine h_takey 6 rfl kr kr kr rfl rfl (by exact y_eqlb_same Tryz.underlying4 rfl rfl) rfl (fun _ c => c) ?_
      refine h_take 7 rfl kr kr kr (by exact y_pick rfl rfl rfl) rfl (fun _ c => c) ?_
      refine h_take 8 rfl kr kr kr (by exact y_move rfl) rfl (fun _ c => c) ?_
      refine h_takey 9 rfl kr kr kr rfl rfl (by exact y_loadz tabs rfl rfl aS rfl) rfl (fun _ c => c) ?_
      refine h_takey 10 rfl kr kr kr rfl rfl (by exact y_loadz tabs rfl rfl aS rfl) rfl (fun _ c => c) ?_
      refine h_only 11 rfl kr (st_gy rfl rfl ?_)
      first | (refine m_call (ent_of Tryz.func23 kr rfl) rfl rfl (fun w c => spec_EqM_same (m := adM r y z) (c.rd hi) (c.rd hj)) ?_; rintro v H' ⟨rfl, rfl⟩) | (refine m_call (ent_of Tryz.func23 kr rfl) rfl rfl (fun w c => spec_EqM_same (m := adM r y z) (c.rd hk) (c.rd hj)) ?_; rintro v H' ⟨rfl, rfl⟩) | (refine m_call (ent_of Tryz.func23 kr rfl) rfl rfl (fun w c => spec_EqM_same (m := blM r y z) (c.rd hl) (c.rd hn)) ?_; rintro v H' ⟨rfl, rfl⟩) | (refine m_call (ent_of Tryz.func23 kr rfl) rfl rfl (fun w c => spec_EqM_same (m := scM pc nk dm) (c.rd he) (c.rd hf)) ?_; rintro v H' ⟨rfl, rfl⟩) | (refine m_call (ent_of Tryz.func23 kr rfl) rfl rfl (fun w c => spec_EqM_same (m := zrM sz cl) (c.rd hg) (c.rd hh)) ?_; rintro v H' ⟨rfl, rfl⟩) | (refine m_call (ent_of Tryz.func23 kr rfl) rfl rfl (fun w c => spec_EqM_same (m := idnM sz) (c.rd hu) (c.rd hv)) ?_; rintro v H' ⟨rfl, rfl⟩) | (refine m_call (ent_of Tryz.func46 kr rfl) rfl rfl (fun w c => sameInts_at (c.rd hs1) (c.rd ht1)) ?_; rintro v H' ⟨rfl, rfl⟩) | (refine m_call (ent_of Tryz.func47 kr rfl) rfl rfl (fun w c => impl_EqualMatrices_ok _ lm mm _ _ (c.rd hlm) (c.rd hmm)) ?_; rintro v H' ⟨rfl, rfl⟩) | (refine m_call (ent_of Tryz.func23 kr rfl) rfl rfl (fun w c => spec_EqualMatrices_ok _ lm mm _ _ (c.rd hlm) (c.rd hmm)) ?_; rintro v H' ⟨rfl, rfl⟩)
      refine c_nil (x_one (h_keep (fun _ c => c) ?_))
      refine h_take 12 rfl kr kr kr (by exact y_pick rfl rfl rfl) rfl (fun _ c => c) ?_
      refine h_take 13 rfl kr kr kr (by exact y_move rfl) rfl (fun _ c => c) ?_
      refine h_takey 14 rfl kr kr kr rfl rfl (by exact y_loadz tabs rfl rfl aS rfl) rfl (fun _ c => c) ?_
      refine h_takey 15 rfl kr kr kr rfl rfl (by exact y_loadz tabs rfl rfl aS rfl) rfl (fun _ c => c) ?_
      refine h_only 16 rfl kr (st_gy rfl rfl ?_)
      first | (refine m_call (ent_of Tryz.func23 kr rfl) rfl rfl (fun w c => spec_EqM_same (m := adM r y z) (c.rd hi) (c.rd hj)) ?_; rintro v H' ⟨rfl, rfl⟩) | (refine m_call (ent_of Tryz.func23 kr rfl) rfl rfl (fun w c => spec_EqM_same (m := adM r y z) (c.rd hk) (c.rd hj)) ?_; rintro v H' ⟨rfl, rfl⟩) | (refine m_call (ent_of Tryz.func23 kr rfl) rfl rfl (fun w c => spec_EqM_same (m := blM r y z) (c.rd hl) (c.rd hn)) ?_; rintro v H' ⟨rfl, rfl⟩) | (refine m_call (ent_of Tryz.func23 kr rfl) rfl rfl (fun w c => spec_EqM_same (m := scM pc nk dm) (c.rd he) (c.rd hf)) ?_; rintro v H' ⟨rfl, rfl⟩) | (refine m_call (ent_of Tryz.func23 kr rfl) rfl rfl (fun w c => spec_EqM_same (m := zrM sz cl) (c.rd hg) (c.rd hh)) ?_; rintro v H' ⟨rfl, rfl⟩) | (refine m_call (ent_of Tryz.func23 kr rfl) rfl rfl (fun w c => spec_EqM_same (m := idnM sz) (c.rd hu) (c.rd hv)) ?_; rintro v H' ⟨rfl, rfl⟩) | (refine m_call (ent_of Tryz.func46 kr rfl) rfl rfl (fun w c => sameInts_at (c.rd hs1) (c.rd ht1)) ?_; rintro v H' ⟨rfl, rfl⟩) | (refine m_call (ent_of Tryz.func47 kr rfl) rfl rfl (fun w c => impl_EqualMatrices_ok _ lm mm _ _ (c.rd hlm) (c.rd hmm)) ?_; rintro v H' ⟨rfl, rfl⟩) | (refine m_call (ent_of Tryz.func23 kr rfl) rfl rfl (fun w c => spec_EqualMatrices_ok _ lm mm _ _ (c.rd hlm) (c.rd hmm)) ?_; rintro v H' ⟨rfl, rfl⟩)
      refine c_nil (x_one (h_keep (fun _ c => c) ?_))
      refine h_take 17 rfl kr kr kr (by exact y_pick rfl rfl rfl) rfl (fun _ c => c) ?_
      refine h_take 18 rfl kr kr kr (by exact y_move rfl) rfl (fun _ c => c) ?_
      refine h_takey 19 rfl kr kr kr rfl rfl (by exact y_move rfl) rfl (fun _ c => c) ?_
      refine h_takey 20 rfl kr kr kr rfl rfl (by exact y_move rfl) rfl (fun _ c => c) ?_
      refine h_takey 21 rfl kr kr kr rfl rfl (by exact y_eqlb_same Tryz.underlying4 rfl rfl) rfl (fun _ c => c) ?_
      refine h_take 22 rfl kr kr kr (by exact y_pick rfl rfl rfl) rfl (fun _ c => c) ?_
      refine h_take 23 rfl kr kr kr (by exact y_move rfl) rfl (fun _ c => c) ?_
      refine h_takey 24 rfl kr kr kr rfl rfl (by exact y_loadz tabs rfl rfl aS rfl) rfl (fun _ c => c) ?_
      refine h_takey 25 rfl kr kr kr rfl rfl (by exact y_loadz tabs rfl rfl aS rfl) rfl (fun _ c => c) ?_
      refine h_only 26 rfl kr (st_gy rfl rfl ?_)
      first | (refine m_call (ent_of Tryz.func23 kr rfl) rfl rfl (fun w c => spec_EqM_same (m := adM r y z) (c.rd hi) (c.rd hj)) ?_; rintro v H' ⟨rfl, rfl⟩) | (refine m_call (ent_of Tryz.func23 kr rfl) rfl rfl (fun w c => spec_EqM_same (m := adM r y z) (c.rd hk) (c.rd hj)) ?_; rintro v H' ⟨rfl, rfl⟩) | (refine m_call (ent_of Tryz.func23 kr rfl) rfl rfl (fun w c => spec_EqM_same (m := blM r y z) (c.rd hl) (c.rd hn)) ?_; rintro v H' ⟨rfl, rfl⟩) | (refine m_call (ent_of Tryz.func23 kr rfl) rfl rfl (fun w c => spec_EqM_same (m := scM pc nk dm) (c.rd he) (c.rd hf)) ?_; rintro v H' ⟨rfl, rfl⟩) | (refine m_call (ent_of Tryz.func23 kr rfl) rfl rfl (fun w c => spec_EqM_same (m := zrM sz cl) (c.rd hg) (c.rd hh)) ?_; rintro v H' ⟨rfl, rfl⟩) | (refine m_call (ent_of Tryz.func23 kr rfl) rfl rfl (fun w c => spec_EqM_same (m := idnM sz) (c.rd hu) (c.rd hv)) ?_; rintro v H' ⟨rfl, rfl⟩) | (refine m_call (ent_of Tryz.func46 kr rfl) rfl rfl (fun w c => sameInts_at (c.rd hs1) (c.rd ht1)) ?_; rintro v H' ⟨rfl, rfl⟩) | (refine m_call (ent_of Tryz.func47 kr rfl) rfl rfl (fun w c => impl_EqualMatrices_ok _ lm mm _ _ (c.rd hlm) (c.rd hmm)) ?_; rintro v H' ⟨rfl, rfl⟩) | (refine m_call (ent_of Tryz.func23 kr rfl) rfl rfl (fun w c => spec_EqualMatrices_ok _ lm mm _ _ (c.rd hlm) (c.rd hmm)) ?_; rintro v H' ⟨rfl, rfl⟩)
      refine c_nil (x_one (h_keep (fun _ c => c) ?_))
      refine h_take 27 rfl kr kr kr (by exact y_pick rfl rfl rfl) rfl (fun _ c => c) ?_
      refine h_take 28 rfl kr kr kr (by exact y_move rfl) rfl (fun _ c => c) ?_
      refine h_takey 29 rfl kr kr kr rfl rfl (by exact y_move rfl) rfl (fun _ c => c) ?_
      refine h_takey 30 rfl kr kr kr rfl rfl (by exact y_move rfl) rfl (fun _ c => c) ?_
      refine h_takey 31 rfl kr kr kr rfl rfl (by exact y_eqlb_same Tryz.underlying4 rfl rfl) rfl (fun _ c => c) ?_
      refine h_take 32 rfl kr kr kr (by exact y_pick rfl rfl rfl) rfl (fun _ c => c) ?_
      refine h_take 33 rfl kr kr kr (by exact y_move rfl) rfl (fun _ c => c) ?_
      refine h_takey 34 rfl kr kr kr rfl rfl (by exact y_move rfl) rfl (fun _ c => c) ?_
      refine h_takey 35 rfl kr kr kr rfl rfl (by exact y_move rfl) rfl (fun _ c => c) ?_
      refine h_only 36 rfl kr (st_gy rfl rfl ?_)
      first | (refine m_call (ent_of Tryz.func23 kr rfl) rfl rfl (fun w c => spec_EqM_same (m := adM r y z) (c.rd hi) (c.rd hj)) ?_; rintro v H' ⟨rfl, rfl⟩) | (refine m_call (ent_of Tryz.func23 kr rfl) rfl rfl (fun w c => spec_EqM_same (m := adM r y z) (c.rd hk) (c.rd hj)) ?_; rintro v H' ⟨rfl, rfl⟩) | (refine m_call (ent_of Tryz.func23 kr rfl) rfl rfl (fun w c => spec_EqM_same (m := blM r y z) (c.rd hl) (c.rd hn)) ?_; rintro v H' ⟨rfl, rfl⟩) | (refine m_call (ent_of Tryz.func23 kr rfl) rfl rfl (fun w c => spec_EqM_same (m := scM pc nk dm) (c.rd he) (c.rd hf)) ?_; rintro v H' ⟨rfl, rfl⟩) | (refine m_call (ent_of Tryz.func23 kr rfl) rfl rfl (fun w c => spec_EqM_same (m := zrM sz cl) (c.rd hg) (c.rd hh)) ?_; rintro v H' ⟨rfl, rfl⟩) | (refine m_call (ent_of Tryz.func23 kr rfl) rfl rfl (fun w c => spec_EqM_same (m := idnM sz) (c.rd hu) (c.rd hv)) ?_; rintro v H' ⟨rfl, rfl⟩) | (refine m_call (ent_of Tryz.func46 kr rfl) rfl rfl (fun w c => sameInts_at (c.rd hs1) (c.rd ht1)) ?_; rintro v H' ⟨rfl, rfl⟩) | (refine m_call (ent_of Tryz.func47 kr rfl) rfl rfl (fun w c => impl_EqualMatrices_ok _ lm mm _ _ (c.rd hlm) (c.rd hmm)) ?_; rintro v H' ⟨rfl, rfl⟩) | (refine m_call (ent_of Tryz.func23 kr rfl) rfl rfl (fun w c => spec_EqualMatrices_ok _ lm mm _ _ (c.rd hlm) (c.rd hmm)) ?_; rintro v H' ⟨rfl, rfl⟩)
      refine c_nil (x_one (h_keep (fun _ c => c) ?_))
      refine h_take 37 rfl kr kr kr (by exact y_pick rfl rfl rfl) rfl (fun _ c => c) ?_
      refine h_take 38 rfl kr kr kr (by exact y_move rfl) rfl (fun _ c => c) ?_
      refine h_takey 39 rfl kr kr kr rfl rfl (by exact y_move rfl) rfl (fun _ c => c) ?_
      refine h_takey 40 rfl kr kr kr rfl rfl (by exact y_move rfl) rfl (fun _ c => c) ?_
      refine h_takey 41 rfl kr kr kr rfl rfl (by exact y_eqlb_same Tryz.underlying4 rfl rfl) rfl (fun _ c => c) ?_
      refine h_take 42 rfl kr kr kr (by exact y_pick rfl rfl rfl) rfl (fun _ c => c) ?_
      refine h_take 43 rfl kr kr kr (by exact y_move rfl) rfl (fun _ c => c) ?_
      refine h_takey 44 rfl kr kr kr rfl rfl (by exact y_loadz tabs rfl rfl aS rfl) rfl (fun _ c => c) ?_
      refine h_takey 45 rfl kr kr kr rfl rfl (by exact y_loadz tabs rfl rfl aS rfl) rfl (fun _ c => c) ?_
      refine h_only 46 rfl kr (st_gy rfl rfl ?_)
      first | (refine m_call (ent_of Tryz.func23 kr rfl) rfl rfl (fun w c => spec_EqM_same (m := adM r y z) (c.rd hi) (c.rd hj)) ?_; rintro v H' ⟨rfl, rfl⟩) | (refine m_call (ent_of Tryz.func23 kr rfl) rfl rfl (fun w c => spec_EqM_same (m := adM r y z) (c.rd hk) (c.rd hj)) ?_; rintro v H' ⟨rfl, rfl⟩) | (refine m_call (ent_of Tryz.func23 kr rfl) rfl rfl (fun w c => spec_EqM_same (m := blM r y z) (c.rd hl) (c.rd hn)) ?_; rintro v H' ⟨rfl, rfl⟩) | (refine m_call (ent_of Tryz.func23 kr rfl) rfl rfl (fun w c => spec_EqM_same (m := scM pc nk dm) (c.rd he) (c.rd hf)) ?_; rintro v H' ⟨rfl, rfl⟩) | (refine m_call (ent_of Tryz.func23 kr rfl) rfl rfl (fun w c => spec_EqM_same (m := zrM sz cl) (c.rd hg) (c.rd hh)) ?_; rintro v H' ⟨rfl, rfl⟩) | (refine m_call (ent_of Tryz.func23 kr rfl) rfl rfl (fun w c => spec_EqM_same (m := idnM sz) (c.rd hu) (c.rd hv)) ?_; rintro v H' ⟨rfl, rfl⟩) | (refine m_call (ent_of Tryz.func46 kr rfl) rfl rfl (fun w c => sameInts_at (c.rd hs1) (c.rd ht1)) ?_; rintro v H' ⟨rfl, rfl⟩) | (refine m_call (ent_of Tryz.func47 kr rfl) rfl rfl (fun w c => impl_EqualMatrices_ok _ lm mm _ _ (c.rd hlm) (c.rd hmm)) ?_; rintro v H' ⟨rfl, rfl⟩) | (refine m_call (ent_of Tryz.func23 kr rfl) rfl rfl (fun w c => spec_EqualMatrices_ok _ lm mm _ _ (c.rd hlm) (c.rd hmm)) ?_; rintro v H' ⟨rfl, rfl⟩)
      refine c_nil (x_one (h_keep (fun _ c => c) ?_))
      refine h_take 47 rfl kr kr kr (by exact y_pick rfl rfl rfl) rfl (fun _ c => c) ?_
      refine h_take 48 rfl kr kr kr (by exact y_move rfl) rfl (fun _ c => c) ?_
      refine h_takey 49 rfl kr kr kr rfl rfl (by exact y_move rfl) rfl (fun _ c => c) ?_
      refine h_takey 50 rfl kr kr kr rfl rfl (by exact y_move rfl) rfl (fun _ c => c) ?_
      refine h_takey 51 rfl kr kr kr rfl rfl (by exact y_eqlb_same Tryz.underlying4 rfl rfl) rfl (fun _ c => c) ?_
      refine h_take 52 rfl kr kr kr (by exact y_pick rfl rfl rfl) rfl (fun _ c => c) ?_
      refine h_take 53 rfl kr kr kr (by exact y_move rfl) rfl (fun _ c => c) ?_
      refine h_takey 54 rfl kr kr kr rfl rfl (by exact y_loadz tabs rfl rfl aS rfl) rfl (fun _ c => c) ?_
      refine h_takey 55 rfl kr kr kr rfl rfl (by exact y_loadz tabs rfl rfl aS rfl) rfl (fun _ c => c) ?_
      refine h_only 56 rfl kr (st_gy rfl rfl ?_)
      first | (refine m_call (ent_of Tryz.func23 kr rfl) rfl rfl (fun w c => spec_EqM_same (m := adM r y z) (c.rd hi) (c.rd hj)) ?_; rintro v H' ⟨rfl, rfl⟩) | (refine m_call (ent_of Tryz.func23 kr rfl) rfl rfl (fun w c => spec_EqM_same (m := adM r y z) (c.rd hk) (c.rd hj)) ?_; rintro v H' ⟨rfl, rfl⟩) | (refine m_call (ent_of Tryz.func23 kr rfl) rfl rfl (fun w c => spec_EqM_same (m := blM r y z) (c.rd hl) (c.rd hn)) ?_; rintro v H' ⟨rfl, rfl⟩) | (refine m_call (ent_of Tryz.func23 kr rfl) rfl rfl (fun w c => spec_EqM_same (m := scM pc nk dm) (c.rd he) (c.rd hf)) ?_; rintro v H' ⟨rfl, rfl⟩) | (refine m_call (ent_of Tryz.func23 kr rfl) rfl rfl (fun w c => spec_EqM_same (m := zrM sz cl) (c.rd hg) (c.rd hh)) ?_; rintro v H' ⟨rfl, rfl⟩) | (refine m_call (ent_of Tryz.func23 kr rfl) rfl rfl (fun w c => spec_EqM_same (m := idnM sz) (c.rd hu) (c.rd hv)) ?_; rintro v H' ⟨rfl, rfl⟩) | (refine m_call (ent_of Tryz.func46 kr rfl) rfl rfl (fun w c => sameInts_at (c.rd hs1) (c.rd ht1)) ?_; rintro v H' ⟨rfl, rfl⟩) | (refine m_call (ent_of Tryz.func47 kr rfl) rfl rfl (fun w c => impl_EqualMatrices_ok _ lm mm _ _ (c.rd hlm) (c.rd hmm)) ?_; rintro v H' ⟨rfl, rfl⟩) | (refine m_call (ent_of Tryz.func23 kr rfl) rfl rfl (fun w c => spec_EqualMatrices_ok _ lm mm _ _ (c.rd hlm) (c.rd hmm)) ?_; rintro v H' ⟨rfl, rfl⟩)
      refine c_nil (x_one (h_keep (fun _ c => c) ?_))
      refine h_take 57 rfl kr kr kr (by exact y_pick rfl rfl rfl) rfl (fun _ c => c) ?_
      refine h_take 58 rfl kr kr kr (by exact y_move rfl) rfl (fun _ c => c) ?_
      refine h_takey 59 rfl kr kr kr rfl rfl (by exact y_move rfl) rfl (fun _ c => c) ?_
      refine h_takey 60 rfl kr kr kr rfl rfl (by exact y_move rfl) rfl (fun _ c => c) ?_
      refine h_takey 61 rfl kr kr kr rfl rfl (by exact y_eqlb_same Tryz.underlying4 rfl rfl) rfl (fun _ c => c) ?_
      refine h_take 62 rfl kr kr kr (by exact y_pick rfl rfl rfl) rfl (fun _ c => c) ?_
      refine h_take 63 rfl kr kr kr (by exact y_move rfl) rfl (fun _ c => c) ?_
      refine h_takey 64 rfl kr kr kr rfl rfl (by exact y_loadz tabs rfl rfl aS rfl) rfl (fun _ c => c) ?_
      refine h_takey 65 rfl kr kr kr rfl rfl (by exact y_loadz tabs rfl rfl aS rfl) rfl (fun _ c => c) ?_
      refine h_only 66 rfl kr (st_gy rfl rfl ?_)
      first | (refine m_call (ent_of Tryz.func23 kr rfl) rfl rfl (fun w c => spec_EqM_same (m := adM r y z) (c.rd hi) (c.rd hj)) ?_; rintro v H' ⟨rfl, rfl⟩) | (refine m_call (ent_of Tryz.func23 kr rfl) rfl rfl (fun w c => spec_EqM_same (m := adM r y z) (c.rd hk) (c.rd hj)) ?_; rintro v H' ⟨rfl, rfl⟩) | (refine m_call (ent_of Tryz.func23 kr rfl) rfl rfl (fun w c => spec_EqM_same (m := blM r y z) (c.rd hl) (c.rd hn)) ?_; rintro v H' ⟨rfl, rfl⟩) | (refine m_call (ent_of Tryz.func23 kr rfl) rfl rfl (fun w c => spec_EqM_same (m := scM pc nk dm) (c.rd he) (c.rd hf)) ?_; rintro v H' ⟨rfl, rfl⟩) | (refine m_call (ent_of Tryz.func23 kr rfl) rfl rfl (fun w c => spec_EqM_same (m := zrM sz cl) (c.rd hg) (c.rd hh)) ?_; rintro v H' ⟨rfl, rfl⟩) | (refine m_call (ent_of Tryz.func23 kr rfl) rfl rfl (fun w c => spec_EqM_same (m := idnM sz) (c.rd hu) (c.rd hv)) ?_; rintro v H' ⟨rfl, rfl⟩) | (refine m_call (ent_of Tryz.func46 kr rfl) rfl rfl (fun w c => sameInts_at (c.rd hs1) (c.rd ht1)) ?_; rintro v H' ⟨rfl, rfl⟩) | (refine m_call (ent_of Tryz.func47 kr rfl) rfl rfl (fun w c => impl_EqualMatrices_ok _ lm mm _ _ (c.rd hlm) (c.rd hmm)) ?_; rintro v H' ⟨rfl, rfl⟩) | (refine m_call (ent_of Tryz.func23 kr rfl) rfl rfl (fun w c => spec_EqualMatrices_ok _ lm mm _ _ (c.rd hlm) (c.rd hmm)) ?_; rintro v H' ⟨rfl, rfl⟩)
      refine c_nil (x_one (h_keep (fun _ c => c) ?_))
      refine h_take 67 rfl kr kr kr (by exact y_pick rfl rfl rfl) rfl (fun _ c => c) ?_
      refine h_take 68 rfl kr kr kr (by exact y_move rfl) rfl (fun _ c => c) ?_
      refine h_takey 69 rfl kr kr kr rfl rfl (by first | exact y_loadb 1 tabs rfl rfl rfl rfl | exact y_loadb 1 tabs rfl rfl rfl rfl) rfl (fun _ c => c) ?_
      refine h_takey 70 rfl kr kr kr rfl rfl (by first | exact y_loadb 0 tabs rfl rfl rfl rfl | exact y_loadb 0 tabs rfl rfl rfl rfl) rfl (fun _ c => c) ?_
      refine h_takey 72 rfl kr kr kr rfl rfl (by first | exact y_loadb 1 tabs rfl rfl rfl rfl | exact y_loadb 1 tabs rfl rfl rfl rfl) rfl (fun _ c => c) ?_
      refine h_takey 73 rfl kr kr kr rfl rfl (by first | exact y_loadb 0 tabs rfl rfl rfl rfl | exact y_loadb 0 tabs rfl rfl rfl rfl) rfl (fun _ c => c) ?_
      refine h_only 71 rfl kr (st_gy rfl rfl ?_)
      first | (refine m_call (ent_of Tryz.func23 kr rfl) rfl rfl (fun w c => spec_EqM_same (m := adM r y z) (c.rd hi) (c.rd hj)) ?_; rintro v H' ⟨rfl, rfl⟩) | (refine m_call (ent_of Tryz.func23 kr rfl) rfl rfl (fun w c => spec_EqM_same (m := adM r y z) (c.rd hk) (c.rd hj)) ?_; rintro v H' ⟨rfl, rfl⟩) | (refine m_call (ent_of Tryz.func23 kr rfl) rfl rfl (fun w c => spec_EqM_same (m := blM r y z) (c.rd hl) (c.rd hn)) ?_; rintro v H' ⟨rfl, rfl⟩) | (refine m_call (ent_of Tryz.func23 kr rfl) rfl rfl (fun w c => spec_EqM_same (m := scM pc nk dm) (c.rd he) (c.rd hf)) ?_; rintro v H' ⟨rfl, rfl⟩) | (refine m_call (ent_of Tryz.func23 kr rfl) rfl rfl (fun w c => spec_EqM_same (m := zrM sz cl) (c.rd hg) (c.rd hh)) ?_; rintro v H' ⟨rfl, rfl⟩) | (refine m_call (ent_of Tryz.func23 kr rfl) rfl rfl (fun w c => spec_EqM_same (m := idnM sz) (c.rd hu) (c.rd hv)) ?_; rintro v H' ⟨rfl, rfl⟩) | (refine m_call (ent_of Tryz.func46 kr rfl) rfl rfl (fun w c => sameInts_at (c.rd hs1) (c.rd ht1)) ?_; rintro v H' ⟨rfl, rfl⟩) | (refine m_call (ent_of Tryz.func47 kr rfl) rfl rfl (fun w c => impl_EqualMatrices_ok _ lm mm _ _ (c.rd hlm) (c.rd hmm)) ?_; rintro v H' ⟨rfl, rfl⟩) | (refine m_call (ent_of Tryz.func23 kr rfl) rfl rfl (fun w c => spec_EqualMatrices_ok _ lm mm _ _ (c.rd hlm) (c.rd hmm)) ?_; rintro v H' ⟨rfl, rfl⟩)
      refine c_nil (x_one (h_keep (fun _ c => c) ?_))
      refine h_only 74 rfl kr (st_gy rfl rfl ?_)
      first | (refine m_call (ent_of Tryz.func23 kr rfl) rfl rfl (fun w c => spec_EqM_same (m := adM r y z) (c.rd hi) (c.rd hj)) ?_; rintro v H' ⟨rfl, rfl⟩) | (refine m_call (ent_of Tryz.func23 kr rfl) rfl rfl (fun w c => spec_EqM_same (m := adM r y z) (c.rd hk) (c.rd hj)) ?_; rintro v H' ⟨rfl, rfl⟩) | (refine m_call (ent_of Tryz.func23 kr rfl) rfl rfl (fun w c => spec_EqM_same (m := blM r y z) (c.rd hl) (c.rd hn)) ?_; rintro v H' ⟨rfl, rfl⟩) | (refine m_call (ent_of Tryz.func23 kr rfl) rfl rfl (fun w c => spec_EqM_same (m := scM pc nk dm) (c.rd he) (c.rd hf)) ?_; rintro v H' ⟨rfl, rfl⟩) | (refine m_call (ent_of Tryz.func23 kr rfl) rfl rfl (fun w c => spec_EqM_same (m := zrM sz cl) (c.rd hg) (c.rd hh)) ?_; rintro v H' ⟨rfl, rfl⟩) | (refine m_call (ent_of Tryz.func23 kr rfl) rfl rfl (fun w c => spec_EqM_same (m := idnM sz) (c.rd hu) (c.rd hv)) ?_; rintro v H' ⟨rfl, rfl⟩) | (refine m_call (ent_of Tryz.func46 kr rfl) rfl rfl (fun w c => sameInts_at (c.rd hs1) (c.rd ht1)) ?_; rintro v H' ⟨rfl, rfl⟩) | (refine m_call (ent_of Tryz.func47 kr rfl) rfl rfl (fun w c => impl_EqualMatrices_ok _ lm mm _ _ (c.rd hlm) (c.rd hmm)) ?_; rintro v H' ⟨rfl, rfl⟩) | (refine m_call (ent_of Tryz.func23 kr rfl) rfl rfl (fun w c => spec_EqualMatrices_ok _ lm mm _ _ (c.rd hlm) (c.rd hmm)) ?_; rintro v H' ⟨rfl, rfl⟩)
      refine c_nil (x_one (h_keep (fun _ c => c) ?_))
      refine h_takey 75 rfl kr kr kr rfl rfl (by exact y_eqlb_same Tryz.underlying4 rfl rfl) rfl (fun _ c => c) ?_
      refine h_take 76 rfl kr kr kr (by exact y_pick rfl rfl rfl) rfl (fun _ c => c) ?_
      refine h_take 77 rfl kr kr kr (by exact y_assign rfl) rfl (fun _ c => c) ?_
      refine h_end kr ?_
      repeat' (first | (show oC; refine c_ret ?_) | (show AT _ _ _ _; refine x_then ?_))
      exact x_ret1 Tryz.results4 (res_tmp rfl) (fun wz cz => ⟨_, _, rfl, ⟨rfl, rfl⟩, c1.after (cz.sub (List.nil_sublist _))⟩)
set_option maxRecDepth 100000 in
theorem lifted (os : Os) (started : os.Started) (H : Type) (enc : TypeId × Value → H) :
    ReturnsInHanded {} Tryz.checked os 4 .any (fun w args => (Rows.fnMatricesSpec.pre enc Tryz.prog Tryz.f4 Rows.fnMatricesRow.domain false w args ∧ laidMetH Tryz.prog Rows.fnMatricesRow.laid w) ∧ sizedMet enc Tryz.prog Tryz.f4 (OpenSpec.ofChange Rows.fnMatricesSpec) false w args) (Rows.fnMatricesSpec.post enc Tryz.prog Tryz.f4 false true false false) := by
  refine handed_both (C := Tryz.checked) (X := fun w _ => laidMetH Tryz.prog Rows.fnMatricesRow.laid w) (fun _ _ _ hh h => h.of_heap hh) Tryz.own started kr Tryz.func4
    (ChangeSpec.witness_shaped (enc := enc) (C := Tryz.checked) (os := os) (X := fun w _ => laidMetH Tryz.prog Rows.fnMatricesRow.laid w) false (World.laidAll Tryz.prog os Rows.fnMatricesRow.laid) #[.slice none 0 0] 16 (World.laidAll_os _ _ _) (World.shaped_of_ZipB kr kr) kr kr kr (by rw [MakeChecks.laidMetH_plain _ _ _ kr]; exact laidMet_laidAll _ kr kr)) ?_
  intro W base args ds gs before hval0 hW hcnd _ hL hsh _
  have hG := glb_ofM hL hsh
  have hval : ∀ (j : Nat) t v, Tryz.f4.params[j]? = some t → args[j]? = some v → Value.okWide Tryz.prog W .any base t v := hval0
  have hW' := hW
  obtain ⟨p, q, hA0, hV, rfl, hfz, hnd⟩ := hW
  have hA : DataW.TrodAll enc Tryz.prog W 0 (fun _ => true) true Tryz.f4.params.toList args.toList ds p := hA0
  rw [Tryz.params4] at hA hval
  obtain ⟨v0, vs0, d0, ds0, p0, q0, hargs, rfl, rfl, k0, r0⟩ := trodAll_cons hA
  obtain ⟨rfl, rfl, rfl⟩ := trodAll_nil r0
  obtain rfl : args = #[v0] := by cases args; simp_all
  obtain ⟨rfl, rfl⟩ := trodVars_none hV
  have lt0 : ∀ x ∈ p0, x.block < W.heap.size := by obtain ⟨m, hm⟩ := k0; exact DataW.trod_lt m _ _ _ hm
  obtain ⟨x0, h0, g0⟩ := opn_bytes (hval 0 38 v0 rfl rfl) k0
  clear hA0 hval0
  refine (law_ok W h0 g0 hG).mono fun e W' ⟨v, H', he, ⟨hv, _⟩, hp⟩ => ?_
  subst he; subst hv
  have bel := hp.below
  exact ⟨_, rfl, _, _, _, [], _, [], hW', trodAll_mk1 (shut_bool Tryz.underlying4 _), (trodAll_cons_mk (Below.trod Tryz.laidOut kr (of_decide_eq_true kr) k0 bel lt0) trodAll_mk0), rfl, bel.frame _, fun h => by cases h⟩

theorem closed : joinedFacts Tryz.pinned.checked.prog 4 Tryz.f4 Rows.fnMatricesSpec Rows.fnMatricesRow = true := by
  unfold joinedFacts
  repeat' (with_reducible refine band ?_ ?_)
  all_goals first | (with_reducible exact fin_enter) | ((with_reducible refine fin_lifted ?_); rfl) | ((with_reducible refine fin_make ?_); rfl) | (as_aux_lemma => kernel_rfl)
/-- the row -/
theorem rowed : Rows.FnMatricesSaid :=
  OpenClaim.holds_of_wide 4 Tryz.f4 rfl rfl rfl rfl rfl rfl rfl ⟨rfl, rfl, rfl, rfl, rfl⟩ rfl rfl rfl rfl rfl kr Tryz.func4 closed
    (of_decide_eq_true kr) (by unfold Func.isWrapper; first | (rw [if_pos (by decide +kernel)]; kernel_rfl) | (rw [if_neg (by decide +kernel)]; exact ⟨rfl, rfl⟩))
    (fun os started H enc _ => lifted os started H enc)
/-- the given statement -/
theorem proved : Rows.FnMatricesCardSaid :=
  Claim7.holds_tied_plain_at .later [] [.data, .data, .data, .sentinel, .sentinel] true (true, "087f56d0a5693e9d561eecd025ca21a5123f4825c21fa0492194b810e092d5bb") true rowed (fun _ h => by cases h) kr (fun _ h => by cases h) fnMatrices_row_tie rfl ⟨rfl, rfl⟩ kr rfl
    (fun f fn hf hfn => by
      obtain rfl : f = 4 := Option.some.inj ((show Tryz.prog.funcNamed "loop.example/g03404/laws.FnMatrices" = some 4 by kernel_rfl).symm.trans hf) |>.symm
      obtain rfl : fn = Tryz.f4 := (Option.some.inj (Tryz.func4.symm.trans hfn)).symm
      exact ⟨by kernel_rfl, fun j t ht => by
        rw [Tryz.params4] at ht
        have hm : t ∈ [38] := by simpa using Array.mem_of_getElem? ht
        have hall : ([38].all fun u => !Tryz.prog.wantsStandIn u) = true := by kernel_rfl
        exact (show Tryz.prog.wantsStandIn t = false by simpa using List.all_eq_true.1 hall t hm)⟩)
    kr
#print axioms proved
end Go.Proofs.YtdnhmnnccfoliaaGreatDoor.wFnMatrices
