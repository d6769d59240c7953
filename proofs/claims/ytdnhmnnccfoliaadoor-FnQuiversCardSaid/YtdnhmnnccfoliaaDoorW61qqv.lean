/- The law FnQuivers returns true for all arguments, and its arguments read behind the call as they read before; there are no conditions. -/
import Derived.Test.YtdnhmnnccfoliaaDoorCards
import Derived.Test.YtdnhmnnccfoliaaDoorTie
import Derived.LaidMore
import Derived.Lay
import Derived.SevenTiedAt
import Derived.Stop.Joined
import Derived.OpenShut
import Derived.ShutString
import Derived.Below
import Derived.Test.YtdnhmnnccfoliaaDoorCoiqqv
import Derived.Test.YtdnhmnnccfoliaaDoorCosqqv
import Derived.Test.YtdnhmnnccfoliaaDoorFinqqv
import Derived.Test.YtdnhmnnccfoliaaDoorFitqqv
import Derived.Test.YtdnhmnnccfoliaaDoorLBqqv
import Derived.Test.YtdnhmnnccfoliaaDoorLwsqqv
import Derived.Test.YtdnhmnnccfoliaaDoorNamqqv
import Derived.Test.YtdnhmnnccfoliaaDoorOpBqqv
import Derived.Test.YtdnhmnnccfoliaaDoorOpnqqv
import Derived.Test.YtdnhmnnccfoliaaDoorOriqqv
import Derived.Test.YtdnhmnnccfoliaaDoorQdrqqv
import Derived.Test.YtdnhmnnccfoliaaDoorRvbqqv
import Derived.Test.YtdnhmnnccfoliaaDoorRvdqqv
import Derived.Test.YtdnhmnnccfoliaaDoorSrcqqv
namespace Go.Proofs.YtdnhmnnccfoliaaDoor.wFnQuivers
open Go.Lg Go.Proofs Go.RowKit Go.ChangeShapes Go.WideShapes Go.ChangeAt
attribute [local irreducible] Code.wp wpList bodyPost Exit.then Exit.inBlock Hp Again Calls Y AT ResV QT
set_option maxRecDepth 20000
set_option maxHeartbeats 4000000
set_option maxRecDepth 20000
set_option maxHeartbeats 40000000
set_option linter.unusedVariables false

theorem parP_fmt {q : Qv} : decide (parP (fmtQ q)) = decide (QuivP q) := decide_eq_decide.2 ⟨fun h => Decidable.by_contra (fun hq => by
  have e : fmtQ q = [] := by rw [fmtQ, if_neg hq]
  rw [e] at h
  have := (par_ws h).2.1
  simp [spL, spR] at this), fun h => par_iff.2 ⟨q, h, rfl⟩⟩
theorem opp_opp {q : Qv} (h : QuivP q) : oppR (oppR q) = q ∧ QuivP (oppR q) ∧ snkL (oppR q) = srcL q := by
  have e : oppR q = opQ q := by rw [oppR, if_pos h]
  rw [e]
  exact ⟨by rw [oppR, if_pos (op_quiv h)]; rfl, op_quiv h, snk_op h⟩
theorem rev_law {q : Qv} {v : Int} (h : RevP q v) : revR (revR q v) v = q ∧ RevP (revR q v) v := by
  have e : revR q v = revQ q v := by rw [revR, if_pos h]
  rw [e]
  exact ⟨by rw [revR, if_pos (rev_revP h), rev_rev h.1], rev_revP h⟩
theorem eqQ_same {w : World} {q : Qv} {u0 u1 v0 v1 : Value} (h0 : Rd w (iT q.2.1) u0) (h1 : Rd w (iT q.2.2) u1) (k0 : Rd w (iT q.2.1) v0) (k1 : Rd w (iT q.2.2) v1) : Does Tryd.prog 12 [.agg #[iV q.1, u0, u1], .agg #[iV q.1, v0, v1]] w (fun r H => r = .bool true ∧ H = []) := by
  have := spec_EqualQuivers_ok (q := q) (q' := q) h0 h1 k0 k1
  rwa [decide_eq_true rfl] at this
theorem law_ok (w : World) {x0 : List Int} {u0 : Value} (h0 : Rd w (byT x0) u0) (g0 : Byt x0) : Does Tryd.prog 3 [u0] w (fun r H => r = .bool true ∧ H = []) := by
  by_cases hbig : (x0.length : Int) > 1048576
  · obtain ⟨a, c, rfl⟩ := bytes_sl h0
    refine fn_enter Tryd.func3 rfl Tryd.ntmps3 rfl ?_
    repeat' (first | (show oL; first | refine sMv rfl rfl ?_ | refine sAs rfl rfl ?_ | (show oA (.call _); (refine m_call (ent_of Tryd.func4 kr rfl) rfl rfl (fun w c => big_yes hbig) ?_; rintro v H' ⟨rfl, rfl⟩))) | refine xNt ?_ | (show oC; first | refine c_seq ?_ | refine c_region ?_ | refine c_ret ?_ | refine c_true rfl ?_) | (show AT _ _ _ _; refine x_then_ret ?_))
    exact x_ret1 Tryd.results3 (res_tmp rfl) (fun w' c' => ⟨_, _, rfl, ⟨rfl, rfl⟩, c'⟩)
  have hc := codeF_of h0 g0 om
  have tok0 : True := trivial
  have tok1 : True := trivial
  have tok2 : True := trivial
  have tok3 : True := trivial
  refine fn_enter Tryd.func3 rfl Tryd.ntmps3 rfl ?_
  repeat' (first | (show oL; first | refine sMv rfl rfl ?_ | refine sAs rfl rfl ?_ | refine sLb 0 tabs rfl rfl rfl rfl rfl ?_ | (show oA (.call _); first | (refine m_call (ent_of Tryd.func4 kr rfl) rfl rfl (fun w c => big_ok (hp_code c hc)) ?_; rintro v H' ⟨rfl, rfl⟩) | (refine m_call (ent_of Tryd.func5 kr rfl) rfl rfl (fun w c => DrawFormatQuiver_ok (hp_code c hc)) ?_; rintro v H' ⟨q, x0, x0', x1, x1', rfl, hq, rfl⟩; refine AT.base (fun w1 c1 => ?_); have hqT := c1.own_rd (i := 0) rfl; have hqF := c1.own_rd (i := 1) rfl; have hc1 := hp_code c1 hc; have hfl := fmtQ_len q) | (refine m_call (ent_of Tryd.func6 kr rfl) rfl rfl (fun w c => impl_FormatQuiver_ok (q := q) (c.rd hqF) (c.rd hqT)) ?_; rintro v H' ⟨rfl, rfl⟩) | (refine m_call (ent_of Tryd.func7 kr rfl) rfl rfl (fun w c => impl_ParseQuiver_ok (s := fmtQ q)) ?_; rw [parP_fmt]; rintro v H' ⟨y0, y0', y1, y1', rfl, rfl⟩) | (refine m_call (ent_of Tryd.func8 kr rfl) rfl rfl (fun w c => DrawParseQuiver_ok (hp_code c hc1)) ?_; rintro v H' ⟨s, rfl, hsl, rfl⟩) | (refine m_call (ent_of Tryd.func7 kr rfl) rfl rfl (fun w c => impl_ParseQuiver_ok (s := s)) ?_; rintro v H' ⟨z0, z0', z1, z1', rfl, rfl⟩) | (refine m_call (ent_of Tryd.func9 kr rfl) rfl rfl (fun w c => spec_ParseQuiver_ok (s := s) om) ?_; rintro v H' ⟨t0, t0', t1, t1', rfl, rfl⟩)) | (show oA (.extract _ _); refine st_y (y_ext rfl rfl) rfl ?_) | (show oA (.store _ _ _); refine m_storeb 0 tabs rfl rfl rfl rfl rfl rfl rfl ?_) | (show oA (.alloc _); first | (have _t := tok0; refine m_alloc tabs rfl rfl (fun b3 hb3 => ?_); clear _t tok0) | (have _t := tok1; refine m_alloc tabs rfl rfl (fun b5 hb5 => ?_); clear _t tok1) | (have _t := tok2; refine m_alloc tabs rfl rfl (fun b8 hb8 => ?_); clear _t tok2) | (have _t := tok3; refine m_alloc tabs rfl rfl (fun b10 hb10 => ?_); clear _t tok3))) | refine xNt ?_ | (show oC; first | refine c_cutr 9 [(0, u0), (3, .pointer (some ⟨b3, 0, none⟩)), (93, .bool false)] (Hp [] w1 [.blk b3 #[iV q.1, .slice x0 q.2.1.length x0', .slice x1 q.2.2.length x1'] 26]) ?_ ?_ | refine c_seq ?_ | refine c_region ?_ | refine c_skip (x_then ?_) | refine c_false rfl ?_))
  · refine hold ?_
    refine AT.base (fun w2 c2 => ?_)
    have hrT := c2.rd hqT
    have hrF := c2.rd hqF
    have k3 := c2.box (i := 9) rfl
    have k5 := c2.box (i := 6) rfl
    have hyT := c2.own_rd (i := 7) rfl
    have hyF := c2.own_rd (i := 8) rfl
    by_cases hQ : QuivP q
    · rw [parQ_fmt hQ] at hyT hyF k5
      rw [decide_eq_true hQ]
      repeat' (first | (show oL; first | refine sMv rfl rfl ?_ | (show oA (.load _ _); refine st_y (y_loadz tabs rfl rfl aS rfl) rfl ?_) | (show oA (.binOp _ _ _ _ _); first | refine st_y (y_neqsf rfl rfl) rfl ?_ | refine st_y (y_neqb_same Tryd.underlying4 rfl rfl) rfl ?_) | (show oA (.unOp _ _ _); refine st_y (y_not rfl) rfl ?_) | (show oA (.call _); first | (refine m_call (ent_of Tryd.func10 kr rfl) rfl rfl (fun w c => spec_FormatQuiver_ok (q := q) (c.rd hrF) (c.rd hrT)) ?_; rintro v H' ⟨rfl, rfl⟩) | (refine m_call (ent_of Tryd.func11 kr rfl) rfl rfl (fun w c => spec_IsQuiver_ok (q := q) (c.rd hrF) (c.rd hrT)) ?_; rw [decide_eq_true hQ]; rintro v H' ⟨rfl, rfl⟩) | (refine m_call (ent_of Tryd.func13 kr rfl) rfl rfl (fun w c => impl_IsQuiver_ok (q := q) (c.rd hrF) (c.rd hrT)) ?_; rw [decide_eq_true hQ]; rintro v H' ⟨rfl, rfl⟩) | (refine m_call (ent_of Tryd.func12 kr rfl) rfl rfl (fun w c => eqQ_same (q := q) (c.rd hyF) (c.rd hyT) (c.rd hrF) (c.rd hrT)) ?_; rintro v H' ⟨rfl, rfl⟩)) | (show oA (.pick _ _ _); refine st_y (y_pick rfl rfl rfl) rfl ?_) | refine st_gy rfl rfl ?_) | (show oN; refine c_nil ?_) | (show oC; refine c_region ?_))
      exact x_mid sB (fun w' c' => (c2.afterA (c'.sub (H' := []) (List.nil_sublist _))).sel [9] rfl)
    · rw [decide_eq_false hQ]
      repeat' (first | (show oL; first | refine sMv rfl rfl ?_ | (show oA (.load _ _); refine st_y (y_loadz tabs rfl rfl aS rfl) rfl ?_) | (show oA (.binOp _ _ _ _ _); first | refine st_y (y_neqsf rfl rfl) rfl ?_ | refine st_y (y_neqb_same Tryd.underlying4 rfl rfl) rfl ?_) | (show oA (.call _); first | (refine m_call (ent_of Tryd.func10 kr rfl) rfl rfl (fun w c => spec_FormatQuiver_ok (q := q) (c.rd hrF) (c.rd hrT)) ?_; rintro v H' ⟨rfl, rfl⟩) | (refine m_call (ent_of Tryd.func11 kr rfl) rfl rfl (fun w c => spec_IsQuiver_ok (q := q) (c.rd hrF) (c.rd hrT)) ?_; rw [decide_eq_false hQ]; rintro v H' ⟨rfl, rfl⟩) | (refine m_call (ent_of Tryd.func13 kr rfl) rfl rfl (fun w c => impl_IsQuiver_ok (q := q) (c.rd hrF) (c.rd hrT)) ?_; rw [decide_eq_false hQ]; rintro v H' ⟨rfl, rfl⟩)) | (show oA (.pick _ _ _); refine st_y (y_pick rfl rfl rfl) rfl ?_) | refine st_gy rfl rfl ?_ | refine st_gn rfl rfl rfl ?_) | (show oN; refine c_nil ?_) | (show oC; refine c_region ?_))
      exact x_mid sB (fun w' c' => (c2.afterA (c'.sub (H' := []) (List.nil_sublist _))).sel [9] rfl)
  · skip
    as_aux_lemma =>
    refine AT.base (fun w2 c2 => ?_)
    have hrT := c2.rd hqT
    have hrF := c2.rd hqF
    have k3 := c2.box (i := 0) rfl
    have hc2 := hp_code c2 hc1
    have tok10 : True := trivial
    have tok11 : True := trivial
    repeat' (first | (show oL; first | refine sMv rfl rfl ?_ | refine sAs rfl rfl ?_ | (show oA (.load _ _); first | refine st_y (y_loadz tabs rfl rfl aS rfl) rfl ?_ | refine sLb 0 tabs rfl rfl rfl rfl rfl ?_ | refine sLb 3 tabs rfl rfl rfl rfl rfl ?_) | (show oA (.binOp _ _ _ _ _); refine st_y (y_neqb_same Tryd.underlying4 rfl rfl) rfl ?_) | (show oA (.unOp _ _ _); refine st_y (y_not rfl) rfl ?_) | (show oA (.call _); first | (refine m_call (ent_of Tryd.func14 kr rfl) rfl rfl (fun w c => impl_OppositeOf_ok (q := q) (c.rd hrF) (c.rd hrT)) ?_; rintro v H' ⟨d0, d0', d1, d1', rfl, sd0, sd1, rfl⟩) | (refine m_call (ent_of Tryd.func15 kr rfl) rfl rfl (fun w c => spec_OppositeOf_ok (q := q) (c.rd hrF) (c.rd hrT)) ?_; rintro v H' ⟨e0, e0', e1, e1', rfl, se0, se1, rfl⟩) | (refine m_call (ent_of Tryd.func12 kr rfl) rfl rfl (fun w c => eqQ_same (q := oppR q) (c.own_rd (i := 5) rfl) (c.own_rd (i := 4) rfl) (c.own_rd (i := 2) rfl) (c.own_rd (i := 1) rfl)) ?_; rintro v H' ⟨rfl, rfl⟩)) | (show oA (.extract _ _); refine st_y (y_ext rfl rfl) rfl ?_) | (show oA (.pick _ _ _); refine st_y (y_pick rfl rfl rfl) rfl ?_) | (show oA (.store _ _ _); refine m_storeb 0 tabs rfl rfl rfl rfl rfl rfl rfl ?_) | (show oA (.alloc _); first | (have _t := tok10; refine m_alloc tabs rfl rfl (fun b12 hb12 => ?_); clear _t tok10) | (have _t := tok11; refine m_alloc tabs rfl rfl (fun b14 hb14 => ?_); clear _t tok11)) | refine st_gy rfl rfl ?_) | refine xNt ?_ | (show oC; first | refine c_cutc 113 [(0, u0), (3, .pointer (some ⟨b3, 0, none⟩))] (Hp [] w2 []) ?_ ?_ | refine c_seq ?_ | refine c_region ?_ | refine c_skip (x_then ?_) | refine c_false rfl ?_))
    · refine hold ?_
      refine AT.sel [0, 1, 2] rfl ?_
      repeat' (first | (show oL; first | refine sMv rfl rfl ?_ | refine sAs rfl rfl ?_ | refine sLb 0 tabs rfl rfl rfl rfl rfl ?_ | (show oA (.call _); (refine m_call (ent_of Tryd.func14 kr rfl) rfl rfl (fun w c => impl_OppositeOf_ok (q := oppR q) (c.own_rd (i := 2) rfl) (c.own_rd (i := 1) rfl)) ?_; rw [(opp_opp (of_decide_eq_true hS)).1]; rintro v H' ⟨f0, f0', f1, f1', rfl, sf0, sf1, rfl⟩)) | (show oA (.extract _ _); refine st_y (y_ext rfl rfl) rfl ?_) | (show oA (.store _ _ _); refine m_storeb 0 tabs rfl rfl rfl rfl rfl rfl rfl ?_) | (show oA (.alloc _); refine m_alloc tabs rfl rfl (fun b16 hb16 => ?_))) | refine xNt ?_ | (show oC; first | refine c_ifb (x := .tmp 113) rfl (fun hS => ?_) (fun hS => ?_) | refine c_seq ?_ | refine c_region ?_ | refine c_skip ?_))
      · skip
        refine c_all (Hp [] w2 [.blk b16 #[iV q.1, .slice f0 q.2.1.length f0', .slice f1 q.2.2.length f1'] 26, .blk b14 #[iV (oppR q).1, .slice e0 (oppR q).2.1.length e0', .slice e1 (oppR q).2.2.length e1'] 26]) kr (fun _ c => Hp.drew c) ?_
        refine h_take 0 rfl kr kr kr (by first | exact y_loadb 0 tabs rfl rfl rfl rfl | exact y_loadb 0 tabs rfl rfl rfl rfl) rfl sS ?_
        refine h_take 1 rfl kr kr kr (by exact y_loadz tabs rfl rfl aS rfl) rfl sS ?_
        refine h_only 2 rfl kr ?_
        first | (refine m_call (ent_of Tryd.func12 kr rfl) rfl rfl (fun w c => eqQ_same (q := q) (c.own_rd (i := 2) rfl) (c.own_rd (i := 1) rfl) (c.rd hrF) (c.rd hrT)) ?_; rintro v H' ⟨rfl, rfl⟩) | (refine m_call (ent_of Tryd.func17 kr rfl) rfl rfl (fun w c => impl_SourcesOf_ok (q := q) (c.rd hrF) (c.rd hrT)) ?_; rintro v H' ⟨ai, ci, rfl, hsi, rfl⟩) | (refine m_call (ent_of Tryd.func18 kr rfl) rfl rfl (fun w c => impl_SinksOf_ok (q := oppR q) (c.own_rd (i := 6) rfl) (c.own_rd (i := 5) rfl)) ?_; rw [(opp_opp (of_decide_eq_true hS)).2.2]; rintro v H' ⟨aj, cj, rfl, hsj, rfl⟩) | (refine m_call (ent_of Tryd.func16 kr rfl) rfl rfl (fun w c => sameInts_at (c.own_rd (i := 1) rfl) (c.own_rd (i := 0) rfl)) ?_; rintro v H' ⟨rfl, rfl⟩)
        refine c_nil (x_one (h_keep sS ?_))
        refine h_take 3 rfl kr kr kr (by exact y_not rfl) rfl sS ?_
        refine h_take 4 rfl kr kr kr (by exact y_move rfl) rfl sS ?_
        refine h_takey 5 rfl kr kr kr rfl rfl (by exact y_loadz tabs rfl rfl aS rfl) rfl sS ?_
        refine h_takey 7 rfl kr kr kr rfl rfl (by first | exact y_loadb 1 tabs rfl rfl rfl rfl | exact y_loadb 1 tabs rfl rfl rfl rfl) rfl sS ?_
        refine h_only 6 rfl kr (st_gy rfl rfl ?_)
        first | (refine m_call (ent_of Tryd.func12 kr rfl) rfl rfl (fun w c => eqQ_same (q := q) (c.own_rd (i := 2) rfl) (c.own_rd (i := 1) rfl) (c.rd hrF) (c.rd hrT)) ?_; rintro v H' ⟨rfl, rfl⟩) | (refine m_call (ent_of Tryd.func17 kr rfl) rfl rfl (fun w c => impl_SourcesOf_ok (q := q) (c.rd hrF) (c.rd hrT)) ?_; rintro v H' ⟨ai, ci, rfl, hsi, rfl⟩) | (refine m_call (ent_of Tryd.func18 kr rfl) rfl rfl (fun w c => impl_SinksOf_ok (q := oppR q) (c.own_rd (i := 6) rfl) (c.own_rd (i := 5) rfl)) ?_; rw [(opp_opp (of_decide_eq_true hS)).2.2]; rintro v H' ⟨aj, cj, rfl, hsj, rfl⟩) | (refine m_call (ent_of Tryd.func16 kr rfl) rfl rfl (fun w c => sameInts_at (c.own_rd (i := 1) rfl) (c.own_rd (i := 0) rfl)) ?_; rintro v H' ⟨rfl, rfl⟩)
        refine c_nil (x_one (h_keep sS ?_))
        refine h_only 8 rfl kr (st_gy rfl rfl ?_)
        first | (refine m_call (ent_of Tryd.func12 kr rfl) rfl rfl (fun w c => eqQ_same (q := q) (c.own_rd (i := 2) rfl) (c.own_rd (i := 1) rfl) (c.rd hrF) (c.rd hrT)) ?_; rintro v H' ⟨rfl, rfl⟩) | (refine m_call (ent_of Tryd.func17 kr rfl) rfl rfl (fun w c => impl_SourcesOf_ok (q := q) (c.rd hrF) (c.rd hrT)) ?_; rintro v H' ⟨ai, ci, rfl, hsi, rfl⟩) | (refine m_call (ent_of Tryd.func18 kr rfl) rfl rfl (fun w c => impl_SinksOf_ok (q := oppR q) (c.own_rd (i := 6) rfl) (c.own_rd (i := 5) rfl)) ?_; rw [(opp_opp (of_decide_eq_true hS)).2.2]; rintro v H' ⟨aj, cj, rfl, hsj, rfl⟩) | (refine m_call (ent_of Tryd.func16 kr rfl) rfl rfl (fun w c => sameInts_at (c.own_rd (i := 1) rfl) (c.own_rd (i := 0) rfl)) ?_; rintro v H' ⟨rfl, rfl⟩)
        refine c_nil (x_one (h_keep sS ?_))
        refine h_only 9 rfl kr (st_gy rfl rfl ?_)
        first | (refine m_call (ent_of Tryd.func12 kr rfl) rfl rfl (fun w c => eqQ_same (q := q) (c.own_rd (i := 2) rfl) (c.own_rd (i := 1) rfl) (c.rd hrF) (c.rd hrT)) ?_; rintro v H' ⟨rfl, rfl⟩) | (refine m_call (ent_of Tryd.func17 kr rfl) rfl rfl (fun w c => impl_SourcesOf_ok (q := q) (c.rd hrF) (c.rd hrT)) ?_; rintro v H' ⟨ai, ci, rfl, hsi, rfl⟩) | (refine m_call (ent_of Tryd.func18 kr rfl) rfl rfl (fun w c => impl_SinksOf_ok (q := oppR q) (c.own_rd (i := 6) rfl) (c.own_rd (i := 5) rfl)) ?_; rw [(opp_opp (of_decide_eq_true hS)).2.2]; rintro v H' ⟨aj, cj, rfl, hsj, rfl⟩) | (refine m_call (ent_of Tryd.func16 kr rfl) rfl rfl (fun w c => sameInts_at (c.own_rd (i := 1) rfl) (c.own_rd (i := 0) rfl)) ?_; rintro v H' ⟨rfl, rfl⟩)
        refine c_nil (x_one (h_keep sS ?_))
        refine h_takey 10 rfl kr kr kr rfl rfl (by exact y_not rfl) rfl sS ?_
        refine h_take 11 rfl kr kr kr (by exact y_pick rfl rfl rfl) rfl sS ?_
        refine h_end kr ?_
        repeat' (first | (show oC; first | refine c_skip ?_ | refine c_false rfl ?_) | (show AT _ _ _ _; refine x_then ?_))
        all_goals exact x_mid sB (fun w' c' => c'.sub (List.nil_sublist _))
      · exact x_mid sB (fun w' c' => c'.sub (List.nil_sublist _))
    · skip
      as_aux_lemma =>
      repeat' (first | (show oL; first | refine sMv rfl rfl ?_ | refine sAs rfl rfl ?_ | (show oA (.load _ _); refine st_y (y_loadz tabs rfl rfl aS rfl) rfl ?_) | (show oA (.binOp _ _ _ _ _); refine st_y (y_neqb_same Tryd.underlying4 rfl rfl) rfl ?_) | (show oA (.unOp _ _ _); refine st_y (y_not rfl) rfl ?_) | (show oA (.call _); first | (refine m_call (ent_of Tryd.func19 kr rfl) rfl rfl (fun w c => impl_OrderOf_ok (q := q) (c.rd hrF) (c.rd hrT)) ?_; rintro v H' ⟨al, cl, rfl, hsl2, rfl⟩) | (refine m_call (ent_of Tryd.func20 kr rfl) rfl rfl (fun w c => spec_OrderOf_ok (q := q) (c.rd hrF) (c.rd hrT)) ?_; rintro v H' ⟨am, cm, rfl, hsm, rfl⟩) | (refine m_call (ent_of Tryd.func16 kr rfl) rfl rfl (fun w c => sameInts_at (c.own_rd (i := 1) rfl) (c.own_rd (i := 0) rfl)) ?_; rintro v H' ⟨rfl, rfl⟩) | (refine m_call (ent_of Tryd.func21 kr rfl) rfl rfl (fun w c => impl_IsAcyclic_ok (q := q) (c.rd hrF) (c.rd hrT)) ?_; rintro v H' ⟨rfl, rfl⟩)) | (show oA (.extract _ _); refine st_y (y_ext rfl rfl) rfl ?_) | (show oA (.pick _ _ _); refine st_y (y_pick rfl rfl rfl) rfl ?_) | refine st_gy rfl rfl ?_) | refine xNt ?_ | (show oC; first | refine c_seq ?_ | refine c_region ?_ | refine c_skip (x_then ?_) | refine c_block ?_ | refine c_false rfl ?_))
      refine AT.base (fun w3 c3 => ?_)
      have hM := c3.own_rd (i := 0) rfl
      have k3' := c3.boxk k3
      have hsT := c3.rd hrT
      have hsF := c3.rd hrF
      have hc3 := hp_code c3 hc2
      obtain ⟨_, _, e1, hs0, _, _, hg0⟩ := hsF.ints
      cases e1
      obtain ⟨_, _, e1, hs1, _, _, hg1⟩ := hsT.ints
      cases e1
      obtain ⟨_, _, e1, hsM, _, _, hgM⟩ := hM.ints
      cases e1
      have hF7 := hq.1
      refine c_loopH (α := Nat) [0, 3, 19, 20] (fun i => [(22, iV i)]) (fun i => i ≤ q.2.1.length) (fun i => []) (fun i => q.2.1.length - i) 0 rfl sB ?_ ?_ ?_
      · exact Nat.zero_le _
      · exact fun w' c' => c'
      · intro i hi
        repeat refine c_seq ?_
        refine c_cutr 24 [(0, u0), (3, .pointer (some ⟨b3, 0, none⟩)), (19, .bool (decide (OrdP q))), (20, .slice am (ordL q).length cm), (22, iV i), (163, .bool (decide (i < q.2.1.length ∧ OrdP q)))] (Hp [] w3 []) ?_ ?_
        · refine hold ?_
          by_cases hin : i < q.2.1.length
          · rw [show decide (i < q.2.1.length ∧ OrdP q) = decide (OrdP q) from decide_eq_decide.2 ⟨fun h => h.2, fun h => ⟨hin, h⟩⟩]
            repeat' (first | (show oL; first | refine sMv rfl rfl ?_ | refine sFd tabs rfl rfl rfl rfl ?_ | (show oA (.load _ _); refine st_y (y_load tabs rfl rfl (hc_box k3' rfl)) rfl ?_) | refine sLs rfl rfl rfl ?_ | refine sLn tabs rfl rfl rfl ?_ | (show oA (.pick _ _ _); refine st_y (y_pickt rfl aO rfl) rfl ?_) | refine st_gdy rfl rfl aO ?_) | (show oN; refine c_nil ?_) | (show oC; refine c_region ?_))
            exact x_mid sB (fun w' c' => c'.sub (List.nil_sublist _))
          · rw [show decide (i < q.2.1.length ∧ OrdP q) = false from decide_eq_false (fun h => hin h.1)]
            repeat' (first | (show oL; first | refine sMv rfl rfl ?_ | refine sFd tabs rfl rfl rfl rfl ?_ | (show oA (.load _ _); refine st_y (y_load tabs rfl rfl (hc_box k3' rfl)) rfl ?_) | refine sLs rfl rfl rfl ?_ | refine sLn tabs rfl rfl rfl ?_ | (show oA (.pick _ _ _); refine st_y (y_pickf rfl aO rfl) rfl ?_) | refine st_gdn rfl rfl aO rfl ?_) | (show oN; refine c_nil ?_) | (show oC; refine c_region ?_))
            exact x_mid sB (fun w' c' => c'.sub (List.nil_sublist _))
        · by_cases hC : i < q.2.1.length ∧ OrdP q
          · obtain ⟨hin, hP⟩ := hC
            have hin1 : i < q.2.2.length := by have := hP.1.2.2.1; omega
            have hord := (ordL_of hP).2.2
            have hml : (ordL q).length ≤ 5 := by have := (ordL_of hP).2.1; have := hP.1.1; omega
            obtain ⟨A, B, hAB, hBl, eA, eB⟩ := ord_ahead hP hin
            rw [show decide (i < q.2.1.length ∧ OrdP q) = true from decide_eq_true ⟨hin, hP⟩, decide_eq_true hP]
            repeat' (first | (show oL; first | refine sAs rfl rfl ?_) | refine xNt ?_ | (show oC; first | refine c_seq ?_ | refine c_region ?_ | refine c_skip (x_then ?_) | refine c_block ?_ | refine c_true rfl ?_))
            refine c_loopH (α := Nat × Nat × Nat) [0, 3, 19, 20, 22] (fun s => [(23, iV s.1), (24, iV s.2.1), (25, iV s.2.2)]) (fun s => s.2.2 ≤ (ordL q).length ∧ (∀ j, j < s.2.2 → (ordL q).getD j 0 = q.2.1.getD i 0 → s.1 = j) ∧ (∀ j, j < s.2.2 → (ordL q).getD j 0 = q.2.2.getD i 0 → s.2.1 = j)) (fun s => []) (fun s => (ordL q).length - s.2.2) (0, 0, 0) rfl sB ?_ ?_ ?_
            · exact ⟨Nat.zero_le _, fun j hj => absurd hj (Nat.not_lt_zero _), fun j hj => absurd hj (Nat.not_lt_zero _)⟩
            · exact fun w' c' => c'
            · rintro ⟨a, b, k⟩ ⟨hk, ha, hb⟩
              simp only at hk ha hb ⊢
              by_cases hkl : k < (ordL q).length
              · by_cases e1 : (ordL q).getD k 0 = q.2.1.getD i 0
                · by_cases e2 : (ordL q).getD k 0 = q.2.2.getD i 0
                  · repeat' (first | (show oL; first | refine sMv rfl rfl ?_ | refine sAs rfl rfl ?_ | (show oA (.binOp _ _ _ _ _); first | refine sAd rfl rfl om rfl ?_ | refine sLs rfl rfl rfl ?_) | refine sLn tabs rfl rfl rfl ?_) | (show oN; first | refine c_nil (x_then ?_) | refine c_nil ?_) | (show oC; first | refine c_seq ?_ | refine c_region ?_ | refine c_skip (x_then ?_) | refine c_block ?_ | refine c_draw kr kr (fun _ c => Hp.drew c) ?_ | refine c_true rfl ?_ | refine c_ift rfl aO ?_) | (show QT _ _ _ _ _ _ (_ :: _); first | refine qMv rfl rfl ?_ | refine qFd tabs rfl rfl rfl rfl ?_ | (show qA (.load _ _); first | refine q_y (y_load tabs rfl rfl (hc_w0 (hgM k hkl))) rfl ?_ | refine q_y (y_load tabs rfl rfl (hc_w0 (hg0 i hin))) rfl ?_ | refine q_y (y_load tabs rfl rfl (hc_w0 (hg1 i hin1))) rfl ?_ | refine q_y (y_load tabs rfl rfl (hc_box k3' rfl)) rfl ?_) | (show qA (.indexAddr _ _ _); first | refine q_y (y_ix1 tabs (j := k) rfl rfl rfl hsM rfl hkl) rfl ?_ | refine q_y (y_ix1 tabs (j := i) rfl rfl rfl hs0 rfl hin) rfl ?_ | refine q_y (y_ix1 tabs (j := i) rfl rfl rfl hs1 rfl hin1) rfl ?_) | (show qA (.binOp _ _ _ _ _); first | refine q_y (y_eqlie rfl rfl e1) rfl ?_ | refine q_y (y_eqlie rfl rfl e2) rfl ?_)) | (show QT _ _ _ _ _ _ []; refine q_nil (x_then ?_)) | (show AT _ _ _ _; first | refine x_then ?_ | refine x_blk ?_))
                    exact x_nx (k, k, k + 1) sB ⟨by simp only; omega, by
                    intro j hj e
                    simp only at hj ⊢
                    exact ord_one hord.nd hkl om (e1.trans e.symm), by
                    intro j hj e
                    simp only at hj ⊢
                    exact ord_one hord.nd hkl om (e2.trans e.symm)⟩ (fun w' c' => c') (by simp only; omega)
                  · repeat' (first | (show oL; first | refine sMv rfl rfl ?_ | refine sAs rfl rfl ?_ | (show oA (.binOp _ _ _ _ _); first | refine sAd rfl rfl om rfl ?_ | refine sLs rfl rfl rfl ?_) | refine sLn tabs rfl rfl rfl ?_) | refine xNt ?_ | (show oC; first | refine c_seq ?_ | refine c_region ?_ | refine c_skip (x_then ?_) | refine c_skip (x_blk ?_) | refine c_block ?_ | refine c_draw kr kr (fun _ c => Hp.drew c) ?_ | refine c_true rfl ?_ | refine c_false rfl ?_ | refine c_ift rfl aO ?_) | (show QT _ _ _ _ _ _ (_ :: _); first | refine qMv rfl rfl ?_ | refine qFd tabs rfl rfl rfl rfl ?_ | (show qA (.load _ _); first | refine q_y (y_load tabs rfl rfl (hc_w0 (hgM k hkl))) rfl ?_ | refine q_y (y_load tabs rfl rfl (hc_w0 (hg0 i hin))) rfl ?_ | refine q_y (y_load tabs rfl rfl (hc_w0 (hg1 i hin1))) rfl ?_ | refine q_y (y_load tabs rfl rfl (hc_box k3' rfl)) rfl ?_) | (show qA (.indexAddr _ _ _); first | refine q_y (y_ix1 tabs (j := k) rfl rfl rfl hsM rfl hkl) rfl ?_ | refine q_y (y_ix1 tabs (j := i) rfl rfl rfl hs0 rfl hin) rfl ?_ | refine q_y (y_ix1 tabs (j := i) rfl rfl rfl hs1 rfl hin1) rfl ?_) | (show qA (.binOp _ _ _ _ _); first | refine q_y (y_eqlie rfl rfl e1) rfl ?_ | refine q_y (y_eqlin rfl rfl e2) rfl ?_)) | (show QT _ _ _ _ _ _ []; refine q_nil (x_then ?_)) | (show AT _ _ _ _; refine x_then ?_))
                    exact x_nx (k, b, k + 1) sB ⟨by simp only; omega, by
                    intro j hj e
                    simp only at hj ⊢
                    exact ord_one hord.nd hkl om (e1.trans e.symm), by
                    intro j hj e
                    simp only at hj ⊢
                    exact hb j (by have : j ≠ k := fun h => e2 (h ▸ e); omega) e⟩ (fun w' c' => c') (by simp only; omega)
                · by_cases e2 : (ordL q).getD k 0 = q.2.2.getD i 0
                  · repeat' (first | (show oL; first | refine sMv rfl rfl ?_ | refine sAs rfl rfl ?_ | (show oA (.binOp _ _ _ _ _); first | refine sAd rfl rfl om rfl ?_ | refine sLs rfl rfl rfl ?_) | refine sLn tabs rfl rfl rfl ?_) | (show oN; first | refine c_nil (x_then ?_) | refine c_nil ?_) | (show oC; first | refine c_seq ?_ | refine c_region ?_ | refine c_skip (x_then ?_) | refine c_block ?_ | refine c_draw kr kr (fun _ c => Hp.drew c) ?_ | refine c_true rfl ?_ | refine c_false rfl ?_ | refine c_ift rfl aO ?_) | (show QT _ _ _ _ _ _ (_ :: _); first | refine qMv rfl rfl ?_ | refine qFd tabs rfl rfl rfl rfl ?_ | (show qA (.load _ _); first | refine q_y (y_load tabs rfl rfl (hc_w0 (hgM k hkl))) rfl ?_ | refine q_y (y_load tabs rfl rfl (hc_w0 (hg0 i hin))) rfl ?_ | refine q_y (y_load tabs rfl rfl (hc_w0 (hg1 i hin1))) rfl ?_ | refine q_y (y_load tabs rfl rfl (hc_box k3' rfl)) rfl ?_) | (show qA (.indexAddr _ _ _); first | refine q_y (y_ix1 tabs (j := k) rfl rfl rfl hsM rfl hkl) rfl ?_ | refine q_y (y_ix1 tabs (j := i) rfl rfl rfl hs0 rfl hin) rfl ?_ | refine q_y (y_ix1 tabs (j := i) rfl rfl rfl hs1 rfl hin1) rfl ?_) | (show qA (.binOp _ _ _ _ _); first | refine q_y (y_eqlin rfl rfl e1) rfl ?_ | refine q_y (y_eqlie rfl rfl e2) rfl ?_)) | (show QT _ _ _ _ _ _ []; refine q_nil (x_then ?_)) | (show AT _ _ _ _; first | refine x_then ?_ | refine x_blk ?_))
                    exact x_nx (a, k, k + 1) sB ⟨by simp only; omega, by
                    intro j hj e
                    simp only at hj ⊢
                    exact ha j (by have : j ≠ k := fun h => e1 (h ▸ e); omega) e, by
                    intro j hj e
                    simp only at hj ⊢
                    exact ord_one hord.nd hkl om (e2.trans e.symm)⟩ (fun w' c' => c') (by simp only; omega)
                  · repeat' (first | (show oL; first | refine sMv rfl rfl ?_ | refine sAs rfl rfl ?_ | (show oA (.binOp _ _ _ _ _); first | refine sAd rfl rfl om rfl ?_ | refine sLs rfl rfl rfl ?_) | refine sLn tabs rfl rfl rfl ?_) | refine xNt ?_ | (show oC; first | refine c_seq ?_ | refine c_region ?_ | refine c_skip (x_then ?_) | refine c_skip (x_blk ?_) | refine c_block ?_ | refine c_draw kr kr (fun _ c => Hp.drew c) ?_ | refine c_false rfl ?_ | refine c_ift rfl aO ?_) | (show QT _ _ _ _ _ _ (_ :: _); first | refine qMv rfl rfl ?_ | refine qFd tabs rfl rfl rfl rfl ?_ | (show qA (.load _ _); first | refine q_y (y_load tabs rfl rfl (hc_w0 (hgM k hkl))) rfl ?_ | refine q_y (y_load tabs rfl rfl (hc_w0 (hg0 i hin))) rfl ?_ | refine q_y (y_load tabs rfl rfl (hc_w0 (hg1 i hin1))) rfl ?_ | refine q_y (y_load tabs rfl rfl (hc_box k3' rfl)) rfl ?_) | (show qA (.indexAddr _ _ _); first | refine q_y (y_ix1 tabs (j := k) rfl rfl rfl hsM rfl hkl) rfl ?_ | refine q_y (y_ix1 tabs (j := i) rfl rfl rfl hs0 rfl hin) rfl ?_ | refine q_y (y_ix1 tabs (j := i) rfl rfl rfl hs1 rfl hin1) rfl ?_) | (show qA (.binOp _ _ _ _ _); first | refine q_y (y_eqlin rfl rfl e1) rfl ?_ | refine q_y (y_eqlin rfl rfl e2) rfl ?_)) | (show QT _ _ _ _ _ _ []; refine q_nil (x_then ?_)) | (show AT _ _ _ _; refine x_then ?_))
                    exact x_nx (a, b, k + 1) sB ⟨by simp only; omega, by
                    intro j hj e
                    simp only at hj ⊢
                    exact ha j (by have : j ≠ k := fun h => e1 (h ▸ e); omega) e, by
                    intro j hj e
                    simp only at hj ⊢
                    exact hb j (by have : j ≠ k := fun h => e2 (h ▸ e); omega) e⟩ (fun w' c' => c') (by simp only; omega)
              · have hk2 : k = (ordL q).length := by omega
                have hA := ha A om eA
                have hB := hb B om eB
                repeat' (first | (show oL; first | refine sMv rfl rfl ?_ | refine sAs rfl rfl ?_ | (show oA (.binOp _ _ _ _ _); first | refine sAd rfl rfl om rfl ?_ | refine sLs rfl rfl rfl ?_ | refine st_y (y_geq rfl rfl) rfl ?_) | refine sLn tabs rfl rfl rfl ?_) | refine xNt ?_ | (show oC; first | refine c_seq ?_ | refine c_region ?_ | refine c_skip (x_blk ?_) | refine c_exit ?_ | refine c_iff rfl nN ?_) | (show AT _ _ _ _; first | refine x_then ?_ | refine x_then_exit ?_ | refine x_blk_exit rfl ?_))
                exact x_nx (i + 1) sB om (fun w' c' => c') om
          · rw [show decide (i < q.2.1.length ∧ OrdP q) = false from decide_eq_false hC]
            as_aux_lemma =>
              have tok20 : True := trivial
              have tok21 : True := trivial
              have tok22 : True := trivial
              repeat' (first | (show oL; first | refine sMv rfl rfl ?_ | refine sAs rfl rfl ?_ | (show oA (.load _ _); first | refine sLb 0 tabs rfl rfl rfl rfl rfl ?_ | refine sLb 3 tabs rfl rfl rfl rfl rfl ?_) | (show oA (.binOp _ _ _ _ _); refine st_y (y_neqb_same Tryd.underlying4 rfl rfl) rfl ?_) | (show oA (.unOp _ _ _); refine st_y (y_not rfl) rfl ?_) | (show oA (.call _); first | (refine m_call (ent_of Tryd.func22 kr rfl) rfl rfl (fun w c => DrawReverseAt_ok (hp_code c hc3)) ?_; rintro v H' ⟨r, r0, r0', r1, r1', x, rfl, hrb, rfl⟩; refine AT.base (fun w4 c4 => ?_); have htT := c4.own_rd (i := 0) rfl; have htF := c4.own_rd (i := 1) rfl; have hc4 := hp_code c4 hc3) | (refine m_call (ent_of Tryd.func23 kr rfl) rfl rfl (fun w c => impl_ReverseAt_ok (q := r) (v := x) (c.rd htF) (c.rd htT)) ?_; rintro v H' ⟨g0, g0', g1, g1', rfl, sg0, sg1, rfl⟩) | (refine m_call (ent_of Tryd.func24 kr rfl) rfl rfl (fun w c => spec_ReverseAt_ok (q := r) (v := x) (c.rd htF) (c.rd htT)) ?_; rintro v H' ⟨h0, h0', h1, h1', rfl, sh0, sh1, rfl⟩) | (refine m_call (ent_of Tryd.func12 kr rfl) rfl rfl (fun w c => eqQ_same (q := revR r x) (c.own_rd (i := 5) rfl) (c.own_rd (i := 4) rfl) (c.own_rd (i := 2) rfl) (c.own_rd (i := 1) rfl)) ?_; rintro v H' ⟨rfl, rfl⟩)) | (show oA (.extract _ _); refine st_y (y_ext rfl rfl) rfl ?_) | (show oA (.pick _ _ _); refine st_y (y_pick rfl rfl rfl) rfl ?_) | (show oA (.store _ _ _); refine m_storeb 0 tabs rfl rfl rfl rfl rfl rfl rfl ?_) | (show oA (.alloc _); first | (have _t := tok20; refine m_alloc tabs rfl rfl (fun b26 hb26 => ?_); clear _t tok20) | (have _t := tok21; refine m_alloc tabs rfl rfl (fun b28 hb28 => ?_); clear _t tok21) | (have _t := tok22; refine m_alloc tabs rfl rfl (fun b30 hb30 => ?_); clear _t tok22)) | refine st_gy rfl rfl ?_) | refine xNt ?_ | (show oC; first | refine c_cutc 223 [(0, u0), (3, .pointer (some ⟨b3, 0, none⟩))] (Hp [] w4 []) ?_ ?_ | refine c_seq ?_ | refine c_region ?_ | refine c_skip (x_then ?_) | refine c_exit ?_ | refine c_false rfl ?_) | (show AT _ _ _ _; first | refine x_then ?_ | refine x_then_exit ?_ | refine x_blk_exit rfl ?_))
              · refine hold ?_
                refine AT.sel [0, 1, 2, 6] rfl ?_
                repeat' (first | (show oL; first | refine sMv rfl rfl ?_ | refine sAs rfl rfl ?_ | (show oA (.load _ _); first | refine sLb 0 tabs rfl rfl rfl rfl rfl ?_ | refine sLb 6 tabs rfl rfl rfl rfl rfl ?_) | (show oA (.unOp _ _ _); refine st_y (y_not rfl) rfl ?_) | (show oA (.call _); first | (refine m_call (ent_of Tryd.func23 kr rfl) rfl rfl (fun w c => impl_ReverseAt_ok (q := revR r x) (v := x) (c.own_rd (i := 2) rfl) (c.own_rd (i := 1) rfl)) ?_; rw [(rev_law (of_decide_eq_true hS)).1, decide_eq_true (rev_law (of_decide_eq_true hS)).2]; rintro v H' ⟨k0, k0', k1, k1', rfl, sk0, sk1, rfl⟩) | (refine m_call (ent_of Tryd.func12 kr rfl) rfl rfl (fun w c => eqQ_same (q := r) (c.own_rd (i := 2) rfl) (c.own_rd (i := 1) rfl) (c.rd htF) (c.rd htT)) ?_; rintro v H' ⟨rfl, rfl⟩)) | (show oA (.extract _ _); refine st_y (y_ext rfl rfl) rfl ?_) | (show oA (.pick _ _ _); refine st_y (y_pick rfl rfl rfl) rfl ?_) | (show oA (.store _ _ _); refine m_storeb 0 tabs rfl rfl rfl rfl rfl rfl rfl ?_) | (show oA (.alloc _); refine m_alloc tabs rfl rfl (fun b32 hb32 => ?_)) | refine st_gy rfl rfl ?_) | refine xNt ?_ | (show oC; first | refine c_ifb (x := .tmp 223) rfl (fun hS => ?_) (fun hS => ?_) | refine c_seq ?_ | refine c_region ?_ | refine c_skip ?_ | refine c_false rfl ?_))
                all_goals exact x_mid sB (fun w' c' => c'.sub (List.nil_sublist _))
              · skip
                as_aux_lemma =>
                  have huT := c4.rd hsT
                  have huF := c4.rd hsF
                  have k3'' := c4.boxk k3'
                  have tok30 : True := trivial
                  have tok31 : True := trivial
                  have tok32 : True := trivial
                  have tok33 : True := trivial
                  repeat' (first | (show oL; first | refine sMv rfl rfl ?_ | refine sAs rfl rfl ?_ | (show oA (.call _); first | (refine m_call (ent_of Tryd.func25 kr rfl) rfl rfl (fun w c => DrawNamedQuiver_ok (hp_code c hc4)) ?_; rintro v H' ⟨nm, rfl, rfl⟩) | (refine m_call (ent_of Tryd.func26 kr rfl) rfl rfl (fun w c => impl_NamedQuiver_ok (s := nm)) ?_; rintro v H' ⟨i0, i0', i1, i1', rfl, rfl⟩) | (refine m_call (ent_of Tryd.func27 kr rfl) rfl rfl (fun w c => spec_NamedQuiver_ok (s := nm)) ?_; rintro v H' ⟨j0, j0', j1, j1', rfl, rfl⟩) | (refine m_call (ent_of Tryd.func28 kr rfl) rfl rfl (fun w c => DrawEqualQuivers_ok (hp_code c hc4)) ?_; rintro v H' ⟨ql, l0, l0', l1, l1', qk, k0, k0', k1, k1', rfl, rfl⟩)) | (show oA (.extract _ _); refine st_y (y_ext rfl rfl) rfl ?_) | (show oA (.store _ _ _); first | refine m_storeb 0 tabs rfl rfl rfl rfl rfl rfl rfl ?_ | refine m_storeb 1 tabs rfl rfl rfl rfl rfl rfl rfl ?_) | (show oA (.alloc _); first | (have _t := tok30; refine m_alloc tabs rfl rfl (fun b35 hb35 => ?_); clear _t tok30) | (have _t := tok31; refine m_alloc tabs rfl rfl (fun b37 hb37 => ?_); clear _t tok31) | (have _t := tok32; refine m_alloc tabs rfl rfl (fun b39 hb39 => ?_); clear _t tok32) | (have _t := tok33; refine m_alloc tabs rfl rfl (fun b40 hb40 => ?_); clear _t tok33))) | refine xNt ?_ | (show oC; first | refine c_seq ?_ | refine c_region ?_))
                  refine AT.base (fun w5 c5 => ?_)
                  have hiT := c5.own_rd (i := 10) rfl
                  have hiF := c5.own_rd (i := 11) rfl
                  have hjT := c5.own_rd (i := 7) rfl
                  have hjF := c5.own_rd (i := 8) rfl
                  have hkT := c5.own_rd (i := 2) rfl
                  have hkF := c5.own_rd (i := 3) rfl
                  have hlT := c5.own_rd (i := 4) rfl
                  have hlF := c5.own_rd (i := 5) rfl
                  have k35 := c5.box (i := 9) rfl
                  have k37 := c5.box (i := 6) rfl
                  have k39 := c5.box (i := 1) rfl
                  have k40 := c5.box (i := 0) rfl
                  have hvT := c5.rd huT
                  have hvF := c5.rd huF
                  have k3w := c5.boxk k3''
                  refine c_all (Hp [] w5 []) kr (fun _ c => Hp.drew c) ?_
                  refine h_take 0 rfl kr kr kr (by exact y_move rfl) rfl (fun _ c => c) ?_
                  refine h_take 1 rfl kr kr kr (by exact y_move rfl) rfl (fun _ c => c) ?_
                  refine h_take 2 rfl kr kr kr (by exact y_eqlb_same Tryd.underlying4 rfl rfl) rfl (fun _ c => c) ?_
                  refine h_take 3 rfl kr kr kr (by exact y_move rfl) rfl (fun _ c => c) ?_
                  refine h_takey 4 rfl kr kr kr rfl rfl (by exact y_loadz tabs rfl rfl aS rfl) rfl (fun _ c => c) ?_
                  refine h_takey 5 rfl kr kr kr rfl rfl (by exact y_loadz tabs rfl rfl aS rfl) rfl (fun _ c => c) ?_
                  refine h_only 6 rfl kr (st_gy rfl rfl ?_)
                  first | (refine m_call (ent_of Tryd.func12 kr rfl) rfl rfl (fun w c => eqQ_same (q := parQ (nmX nm)) (c.rd hiF) (c.rd hiT) (c.rd hjF) (c.rd hjT)) ?_; rintro v H' ⟨rfl, rfl⟩) | (refine m_call (ent_of Tryd.func29 kr rfl) rfl rfl (fun w c => impl_EqualQuivers_ok (q := ql) (q' := qk) (c.rd hlF) (c.rd hlT) (c.rd hkF) (c.rd hkT)) ?_; rintro v H' ⟨rfl, rfl⟩) | (refine m_call (ent_of Tryd.func12 kr rfl) rfl rfl (fun w c => spec_EqualQuivers_ok (q := ql) (q' := qk) (c.rd hlF) (c.rd hlT) (c.rd hkF) (c.rd hkT)) ?_; rintro v H' ⟨rfl, rfl⟩) | (refine m_call (ent_of Tryd.func17 kr rfl) rfl rfl (fun w c => impl_SourcesOf_ok (q := q) (c.rd hvF) (c.rd hvT)) ?_; rintro v H' ⟨_, _, rfl, _, rfl⟩) | (refine m_call (ent_of Tryd.func30 kr rfl) rfl rfl (fun w c => spec_SourcesOf_ok (q := q) (c.rd hvF) (c.rd hvT)) ?_; rintro v H' ⟨_, _, rfl, _, rfl⟩) | (refine m_call (ent_of Tryd.func18 kr rfl) rfl rfl (fun w c => impl_SinksOf_ok (q := q) (c.rd hvF) (c.rd hvT)) ?_; rintro v H' ⟨_, _, rfl, _, rfl⟩) | (refine m_call (ent_of Tryd.func31 kr rfl) rfl rfl (fun w c => spec_SinksOf_ok (q := q) (c.rd hvF) (c.rd hvT)) ?_; rintro v H' ⟨_, _, rfl, _, rfl⟩) | (refine m_call (ent_of Tryd.func16 kr rfl) rfl rfl (fun w c => sameInts_at (c.own_rd (i := 1) rfl) (c.own_rd (i := 0) rfl)) ?_; rintro v H' ⟨rfl, rfl⟩) | (refine m_call (ent_of Tryd.func32 kr rfl) rfl rfl (fun w c => impl_IsConnectedQuiver_ok (q := q) (c.rd hvF) (c.rd hvT)) ?_; rintro v H' ⟨rfl, rfl⟩) | (refine m_call (ent_of Tryd.func33 kr rfl) rfl rfl (fun w c => spec_IsConnectedQuiver_ok (q := q) (c.rd hvF) (c.rd hvT)) ?_; rintro v H' ⟨rfl, rfl⟩)
                  refine c_nil (x_one (h_keep (fun _ c => c) ?_))
                  refine h_take 7 rfl kr kr kr (by exact y_pick rfl rfl rfl) rfl (fun _ c => c) ?_
                  refine h_take 8 rfl kr kr kr (by exact y_move rfl) rfl (fun _ c => c) ?_
                  refine h_takey 9 rfl kr kr kr rfl rfl (by exact y_loadz tabs rfl rfl aS rfl) rfl (fun _ c => c) ?_
                  refine h_takey 10 rfl kr kr kr rfl rfl (by exact y_loadz tabs rfl rfl aS rfl) rfl (fun _ c => c) ?_
                  refine h_takey 12 rfl kr kr kr rfl rfl (by exact y_loadz tabs rfl rfl aS rfl) rfl (fun _ c => c) ?_
                  refine h_takey 13 rfl kr kr kr rfl rfl (by exact y_loadz tabs rfl rfl aS rfl) rfl (fun _ c => c) ?_
                  refine h_only 11 rfl kr (st_gy rfl rfl ?_)
                  first | (refine m_call (ent_of Tryd.func12 kr rfl) rfl rfl (fun w c => eqQ_same (q := parQ (nmX nm)) (c.rd hiF) (c.rd hiT) (c.rd hjF) (c.rd hjT)) ?_; rintro v H' ⟨rfl, rfl⟩) | (refine m_call (ent_of Tryd.func29 kr rfl) rfl rfl (fun w c => impl_EqualQuivers_ok (q := ql) (q' := qk) (c.rd hlF) (c.rd hlT) (c.rd hkF) (c.rd hkT)) ?_; rintro v H' ⟨rfl, rfl⟩) | (refine m_call (ent_of Tryd.func12 kr rfl) rfl rfl (fun w c => spec_EqualQuivers_ok (q := ql) (q' := qk) (c.rd hlF) (c.rd hlT) (c.rd hkF) (c.rd hkT)) ?_; rintro v H' ⟨rfl, rfl⟩) | (refine m_call (ent_of Tryd.func17 kr rfl) rfl rfl (fun w c => impl_SourcesOf_ok (q := q) (c.rd hvF) (c.rd hvT)) ?_; rintro v H' ⟨_, _, rfl, _, rfl⟩) | (refine m_call (ent_of Tryd.func30 kr rfl) rfl rfl (fun w c => spec_SourcesOf_ok (q := q) (c.rd hvF) (c.rd hvT)) ?_; rintro v H' ⟨_, _, rfl, _, rfl⟩) | (refine m_call (ent_of Tryd.func18 kr rfl) rfl rfl (fun w c => impl_SinksOf_ok (q := q) (c.rd hvF) (c.rd hvT)) ?_; rintro v H' ⟨_, _, rfl, _, rfl⟩) | (refine m_call (ent_of Tryd.func31 kr rfl) rfl rfl (fun w c => spec_SinksOf_ok (q := q) (c.rd hvF) (c.rd hvT)) ?_; rintro v H' ⟨_, _, rfl, _, rfl⟩) | (refine m_call (ent_of Tryd.func16 kr rfl) rfl rfl (fun w c => sameInts_at (c.own_rd (i := 1) rfl) (c.own_rd (i := 0) rfl)) ?_; rintro v H' ⟨rfl, rfl⟩) | (refine m_call (ent_of Tryd.func32 kr rfl) rfl rfl (fun w c => impl_IsConnectedQuiver_ok (q := q) (c.rd hvF) (c.rd hvT)) ?_; rintro v H' ⟨rfl, rfl⟩) | (refine m_call (ent_of Tryd.func33 kr rfl) rfl rfl (fun w c => spec_IsConnectedQuiver_ok (q := q) (c.rd hvF) (c.rd hvT)) ?_; rintro v H' ⟨rfl, rfl⟩)
                  refine c_nil (x_one (h_keep (fun _ c => c) ?_))
                  refine h_only 14 rfl kr (st_gy rfl rfl ?_)
                  first | (refine m_call (ent_of Tryd.func12 kr rfl) rfl rfl (fun w c => eqQ_same (q := parQ (nmX nm)) (c.rd hiF) (c.rd hiT) (c.rd hjF) (c.rd hjT)) ?_; rintro v H' ⟨rfl, rfl⟩) | (refine m_call (ent_of Tryd.func29 kr rfl) rfl rfl (fun w c => impl_EqualQuivers_ok (q := ql) (q' := qk) (c.rd hlF) (c.rd hlT) (c.rd hkF) (c.rd hkT)) ?_; rintro v H' ⟨rfl, rfl⟩) | (refine m_call (ent_of Tryd.func12 kr rfl) rfl rfl (fun w c => spec_EqualQuivers_ok (q := ql) (q' := qk) (c.rd hlF) (c.rd hlT) (c.rd hkF) (c.rd hkT)) ?_; rintro v H' ⟨rfl, rfl⟩) | (refine m_call (ent_of Tryd.func17 kr rfl) rfl rfl (fun w c => impl_SourcesOf_ok (q := q) (c.rd hvF) (c.rd hvT)) ?_; rintro v H' ⟨_, _, rfl, _, rfl⟩) | (refine m_call (ent_of Tryd.func30 kr rfl) rfl rfl (fun w c => spec_SourcesOf_ok (q := q) (c.rd hvF) (c.rd hvT)) ?_; rintro v H' ⟨_, _, rfl, _, rfl⟩) | (refine m_call (ent_of Tryd.func18 kr rfl) rfl rfl (fun w c => impl_SinksOf_ok (q := q) (c.rd hvF) (c.rd hvT)) ?_; rintro v H' ⟨_, _, rfl, _, rfl⟩) | (refine m_call (ent_of Tryd.func31 kr rfl) rfl rfl (fun w c => spec_SinksOf_ok (q := q) (c.rd hvF) (c.rd hvT)) ?_; rintro v H' ⟨_, _, rfl, _, rfl⟩) | (refine m_call (ent_of Tryd.func16 kr rfl) rfl rfl (fun w c => sameInts_at (c.own_rd (i := 1) rfl) (c.own_rd (i := 0) rfl)) ?_; rintro v H' ⟨rfl, rfl⟩) | (refine m_call (ent_of Tryd.func32 kr rfl) rfl rfl (fun w c => impl_IsConnectedQuiver_ok (q := q) (c.rd hvF) (c.rd hvT)) ?_; rintro v H' ⟨rfl, rfl⟩) | (refine m_call (ent_of Tryd.func33 kr rfl) rfl rfl (fun w c => spec_IsConnectedQuiver_ok (q := q) (c.rd hvF) (c.rd hvT)) ?_; rintro v H' ⟨rfl, rfl⟩)
                  refine c_nil (x_one (h_keep (fun _ c => c) ?_))
                  refine h_takey 15 rfl kr kr kr rfl rfl (by exact y_eqlb_same Tryd.underlying4 rfl rfl) rfl (fun _ c => c) ?_
                  refine h_take 16 rfl kr kr kr (by exact y_pick rfl rfl rfl) rfl (fun _ c => c) ?_
                  refine h_take 17 rfl kr kr kr (by exact y_move rfl) rfl (fun _ c => c) ?_
                  refine h_takey 18 rfl kr kr kr rfl rfl (by exact y_loadz tabs rfl rfl aS rfl) rfl (fun _ c => c) ?_
                  refine h_takey 20 rfl kr kr kr rfl rfl (by exact y_loadz tabs rfl rfl aS rfl) rfl (fun _ c => c) ?_
                  refine h_only 19 rfl kr (st_gy rfl rfl ?_)
                  first | (refine m_call (ent_of Tryd.func12 kr rfl) rfl rfl (fun w c => eqQ_same (q := parQ (nmX nm)) (c.rd hiF) (c.rd hiT) (c.rd hjF) (c.rd hjT)) ?_; rintro v H' ⟨rfl, rfl⟩) | (refine m_call (ent_of Tryd.func29 kr rfl) rfl rfl (fun w c => impl_EqualQuivers_ok (q := ql) (q' := qk) (c.rd hlF) (c.rd hlT) (c.rd hkF) (c.rd hkT)) ?_; rintro v H' ⟨rfl, rfl⟩) | (refine m_call (ent_of Tryd.func12 kr rfl) rfl rfl (fun w c => spec_EqualQuivers_ok (q := ql) (q' := qk) (c.rd hlF) (c.rd hlT) (c.rd hkF) (c.rd hkT)) ?_; rintro v H' ⟨rfl, rfl⟩) | (refine m_call (ent_of Tryd.func17 kr rfl) rfl rfl (fun w c => impl_SourcesOf_ok (q := q) (c.rd hvF) (c.rd hvT)) ?_; rintro v H' ⟨_, _, rfl, _, rfl⟩) | (refine m_call (ent_of Tryd.func30 kr rfl) rfl rfl (fun w c => spec_SourcesOf_ok (q := q) (c.rd hvF) (c.rd hvT)) ?_; rintro v H' ⟨_, _, rfl, _, rfl⟩) | (refine m_call (ent_of Tryd.func18 kr rfl) rfl rfl (fun w c => impl_SinksOf_ok (q := q) (c.rd hvF) (c.rd hvT)) ?_; rintro v H' ⟨_, _, rfl, _, rfl⟩) | (refine m_call (ent_of Tryd.func31 kr rfl) rfl rfl (fun w c => spec_SinksOf_ok (q := q) (c.rd hvF) (c.rd hvT)) ?_; rintro v H' ⟨_, _, rfl, _, rfl⟩) | (refine m_call (ent_of Tryd.func16 kr rfl) rfl rfl (fun w c => sameInts_at (c.own_rd (i := 1) rfl) (c.own_rd (i := 0) rfl)) ?_; rintro v H' ⟨rfl, rfl⟩) | (refine m_call (ent_of Tryd.func32 kr rfl) rfl rfl (fun w c => impl_IsConnectedQuiver_ok (q := q) (c.rd hvF) (c.rd hvT)) ?_; rintro v H' ⟨rfl, rfl⟩) | (refine m_call (ent_of Tryd.func33 kr rfl) rfl rfl (fun w c => spec_IsConnectedQuiver_ok (q := q) (c.rd hvF) (c.rd hvT)) ?_; rintro v H' ⟨rfl, rfl⟩)
                  refine c_nil (x_one (h_keep (fun w c => by exact c.drop) ?_))
                  refine h_only 21 rfl kr (st_gy rfl rfl ?_)
                  first | (refine m_call (ent_of Tryd.func12 kr rfl) rfl rfl (fun w c => eqQ_same (q := parQ (nmX nm)) (c.rd hiF) (c.rd hiT) (c.rd hjF) (c.rd hjT)) ?_; rintro v H' ⟨rfl, rfl⟩) | (refine m_call (ent_of Tryd.func29 kr rfl) rfl rfl (fun w c => impl_EqualQuivers_ok (q := ql) (q' := qk) (c.rd hlF) (c.rd hlT) (c.rd hkF) (c.rd hkT)) ?_; rintro v H' ⟨rfl, rfl⟩) | (refine m_call (ent_of Tryd.func12 kr rfl) rfl rfl (fun w c => spec_EqualQuivers_ok (q := ql) (q' := qk) (c.rd hlF) (c.rd hlT) (c.rd hkF) (c.rd hkT)) ?_; rintro v H' ⟨rfl, rfl⟩) | (refine m_call (ent_of Tryd.func17 kr rfl) rfl rfl (fun w c => impl_SourcesOf_ok (q := q) (c.rd hvF) (c.rd hvT)) ?_; rintro v H' ⟨_, _, rfl, _, rfl⟩) | (refine m_call (ent_of Tryd.func30 kr rfl) rfl rfl (fun w c => spec_SourcesOf_ok (q := q) (c.rd hvF) (c.rd hvT)) ?_; rintro v H' ⟨_, _, rfl, _, rfl⟩) | (refine m_call (ent_of Tryd.func18 kr rfl) rfl rfl (fun w c => impl_SinksOf_ok (q := q) (c.rd hvF) (c.rd hvT)) ?_; rintro v H' ⟨_, _, rfl, _, rfl⟩) | (refine m_call (ent_of Tryd.func31 kr rfl) rfl rfl (fun w c => spec_SinksOf_ok (q := q) (c.rd hvF) (c.rd hvT)) ?_; rintro v H' ⟨_, _, rfl, _, rfl⟩) | (refine m_call (ent_of Tryd.func16 kr rfl) rfl rfl (fun w c => sameInts_at (c.own_rd (i := 1) rfl) (c.own_rd (i := 0) rfl)) ?_; rintro v H' ⟨rfl, rfl⟩) | (refine m_call (ent_of Tryd.func32 kr rfl) rfl rfl (fun w c => impl_IsConnectedQuiver_ok (q := q) (c.rd hvF) (c.rd hvT)) ?_; rintro v H' ⟨rfl, rfl⟩) | (refine m_call (ent_of Tryd.func33 kr rfl) rfl rfl (fun w c => spec_IsConnectedQuiver_ok (q := q) (c.rd hvF) (c.rd hvT)) ?_; rintro v H' ⟨rfl, rfl⟩)
                  refine c_nil (x_one (h_keep (fun w c => by exact c.drop.drop) ?_))
                  refine h_only 22 rfl kr (st_gy rfl rfl ?_)
                  first | (refine m_call (ent_of Tryd.func12 kr rfl) rfl rfl (fun w c => eqQ_same (q := parQ (nmX nm)) (c.rd hiF) (c.rd hiT) (c.rd hjF) (c.rd hjT)) ?_; rintro v H' ⟨rfl, rfl⟩) | (refine m_call (ent_of Tryd.func29 kr rfl) rfl rfl (fun w c => impl_EqualQuivers_ok (q := ql) (q' := qk) (c.rd hlF) (c.rd hlT) (c.rd hkF) (c.rd hkT)) ?_; rintro v H' ⟨rfl, rfl⟩) | (refine m_call (ent_of Tryd.func12 kr rfl) rfl rfl (fun w c => spec_EqualQuivers_ok (q := ql) (q' := qk) (c.rd hlF) (c.rd hlT) (c.rd hkF) (c.rd hkT)) ?_; rintro v H' ⟨rfl, rfl⟩) | (refine m_call (ent_of Tryd.func17 kr rfl) rfl rfl (fun w c => impl_SourcesOf_ok (q := q) (c.rd hvF) (c.rd hvT)) ?_; rintro v H' ⟨_, _, rfl, _, rfl⟩) | (refine m_call (ent_of Tryd.func30 kr rfl) rfl rfl (fun w c => spec_SourcesOf_ok (q := q) (c.rd hvF) (c.rd hvT)) ?_; rintro v H' ⟨_, _, rfl, _, rfl⟩) | (refine m_call (ent_of Tryd.func18 kr rfl) rfl rfl (fun w c => impl_SinksOf_ok (q := q) (c.rd hvF) (c.rd hvT)) ?_; rintro v H' ⟨_, _, rfl, _, rfl⟩) | (refine m_call (ent_of Tryd.func31 kr rfl) rfl rfl (fun w c => spec_SinksOf_ok (q := q) (c.rd hvF) (c.rd hvT)) ?_; rintro v H' ⟨_, _, rfl, _, rfl⟩) | (refine m_call (ent_of Tryd.func16 kr rfl) rfl rfl (fun w c => sameInts_at (c.own_rd (i := 1) rfl) (c.own_rd (i := 0) rfl)) ?_; rintro v H' ⟨rfl, rfl⟩) | (refine m_call (ent_of Tryd.func32 kr rfl) rfl rfl (fun w c => impl_IsConnectedQuiver_ok (q := q) (c.rd hvF) (c.rd hvT)) ?_; rintro v H' ⟨rfl, rfl⟩) | (refine m_call (ent_of Tryd.func33 kr rfl) rfl rfl (fun w c => spec_IsConnectedQuiver_ok (q := q) (c.rd hvF) (c.rd hvT)) ?_; rintro v H' ⟨rfl, rfl⟩)
                  refine c_nil (x_one (h_keep (fun w c => by exact c.drop.drop) ?_))
                  refine h_take 23 rfl kr kr kr (by exact y_pick rfl rfl rfl) rfl (fun w c => by exact c.drop.drop) ?_
                  refine h_take 24 rfl kr kr kr (by exact y_move rfl) rfl (fun w c => by exact c.drop.drop) ?_
                  refine h_takey 25 rfl kr kr kr rfl rfl (by exact y_loadz tabs rfl rfl aS rfl) rfl (fun w c => by exact c.drop.drop) ?_
                  refine h_takey 27 rfl kr kr kr rfl rfl (by exact y_loadz tabs rfl rfl aS rfl) rfl (fun w c => by exact c.drop.drop) ?_
                  refine h_only 26 rfl kr (st_gy rfl rfl ?_)
                  first | (refine m_call (ent_of Tryd.func12 kr rfl) rfl rfl (fun w c => eqQ_same (q := parQ (nmX nm)) (c.rd hiF) (c.rd hiT) (c.rd hjF) (c.rd hjT)) ?_; rintro v H' ⟨rfl, rfl⟩) | (refine m_call (ent_of Tryd.func29 kr rfl) rfl rfl (fun w c => impl_EqualQuivers_ok (q := ql) (q' := qk) (c.rd hlF) (c.rd hlT) (c.rd hkF) (c.rd hkT)) ?_; rintro v H' ⟨rfl, rfl⟩) | (refine m_call (ent_of Tryd.func12 kr rfl) rfl rfl (fun w c => spec_EqualQuivers_ok (q := ql) (q' := qk) (c.rd hlF) (c.rd hlT) (c.rd hkF) (c.rd hkT)) ?_; rintro v H' ⟨rfl, rfl⟩) | (refine m_call (ent_of Tryd.func17 kr rfl) rfl rfl (fun w c => impl_SourcesOf_ok (q := q) (c.rd hvF) (c.rd hvT)) ?_; rintro v H' ⟨_, _, rfl, _, rfl⟩) | (refine m_call (ent_of Tryd.func30 kr rfl) rfl rfl (fun w c => spec_SourcesOf_ok (q := q) (c.rd hvF) (c.rd hvT)) ?_; rintro v H' ⟨_, _, rfl, _, rfl⟩) | (refine m_call (ent_of Tryd.func18 kr rfl) rfl rfl (fun w c => impl_SinksOf_ok (q := q) (c.rd hvF) (c.rd hvT)) ?_; rintro v H' ⟨_, _, rfl, _, rfl⟩) | (refine m_call (ent_of Tryd.func31 kr rfl) rfl rfl (fun w c => spec_SinksOf_ok (q := q) (c.rd hvF) (c.rd hvT)) ?_; rintro v H' ⟨_, _, rfl, _, rfl⟩) | (refine m_call (ent_of Tryd.func16 kr rfl) rfl rfl (fun w c => sameInts_at (c.own_rd (i := 1) rfl) (c.own_rd (i := 0) rfl)) ?_; rintro v H' ⟨rfl, rfl⟩) | (refine m_call (ent_of Tryd.func32 kr rfl) rfl rfl (fun w c => impl_IsConnectedQuiver_ok (q := q) (c.rd hvF) (c.rd hvT)) ?_; rintro v H' ⟨rfl, rfl⟩) | (refine m_call (ent_of Tryd.func33 kr rfl) rfl rfl (fun w c => spec_IsConnectedQuiver_ok (q := q) (c.rd hvF) (c.rd hvT)) ?_; rintro v H' ⟨rfl, rfl⟩)
                  refine c_nil (x_one (h_keep sS ?_))
                  refine h_only 28 rfl kr (st_gy rfl rfl ?_)
                  first | (refine m_call (ent_of Tryd.func12 kr rfl) rfl rfl (fun w c => eqQ_same (q := parQ (nmX nm)) (c.rd hiF) (c.rd hiT) (c.rd hjF) (c.rd hjT)) ?_; rintro v H' ⟨rfl, rfl⟩) | (refine m_call (ent_of Tryd.func29 kr rfl) rfl rfl (fun w c => impl_EqualQuivers_ok (q := ql) (q' := qk) (c.rd hlF) (c.rd hlT) (c.rd hkF) (c.rd hkT)) ?_; rintro v H' ⟨rfl, rfl⟩) | (refine m_call (ent_of Tryd.func12 kr rfl) rfl rfl (fun w c => spec_EqualQuivers_ok (q := ql) (q' := qk) (c.rd hlF) (c.rd hlT) (c.rd hkF) (c.rd hkT)) ?_; rintro v H' ⟨rfl, rfl⟩) | (refine m_call (ent_of Tryd.func17 kr rfl) rfl rfl (fun w c => impl_SourcesOf_ok (q := q) (c.rd hvF) (c.rd hvT)) ?_; rintro v H' ⟨_, _, rfl, _, rfl⟩) | (refine m_call (ent_of Tryd.func30 kr rfl) rfl rfl (fun w c => spec_SourcesOf_ok (q := q) (c.rd hvF) (c.rd hvT)) ?_; rintro v H' ⟨_, _, rfl, _, rfl⟩) | (refine m_call (ent_of Tryd.func18 kr rfl) rfl rfl (fun w c => impl_SinksOf_ok (q := q) (c.rd hvF) (c.rd hvT)) ?_; rintro v H' ⟨_, _, rfl, _, rfl⟩) | (refine m_call (ent_of Tryd.func31 kr rfl) rfl rfl (fun w c => spec_SinksOf_ok (q := q) (c.rd hvF) (c.rd hvT)) ?_; rintro v H' ⟨_, _, rfl, _, rfl⟩) | (refine m_call (ent_of Tryd.func16 kr rfl) rfl rfl (fun w c => sameInts_at (c.own_rd (i := 1) rfl) (c.own_rd (i := 0) rfl)) ?_; rintro v H' ⟨rfl, rfl⟩) | (refine m_call (ent_of Tryd.func32 kr rfl) rfl rfl (fun w c => impl_IsConnectedQuiver_ok (q := q) (c.rd hvF) (c.rd hvT)) ?_; rintro v H' ⟨rfl, rfl⟩) | (refine m_call (ent_of Tryd.func33 kr rfl) rfl rfl (fun w c => spec_IsConnectedQuiver_ok (q := q) (c.rd hvF) (c.rd hvT)) ?_; rintro v H' ⟨rfl, rfl⟩)
                  refine c_nil (x_one (h_keep sS ?_))
                  refine h_only 29 rfl kr (st_gy rfl rfl ?_)
                  first | (refine m_call (ent_of Tryd.func12 kr rfl) rfl rfl (fun w c => eqQ_same (q := parQ (nmX nm)) (c.rd hiF) (c.rd hiT) (c.rd hjF) (c.rd hjT)) ?_; rintro v H' ⟨rfl, rfl⟩) | (refine m_call (ent_of Tryd.func29 kr rfl) rfl rfl (fun w c => impl_EqualQuivers_ok (q := ql) (q' := qk) (c.rd hlF) (c.rd hlT) (c.rd hkF) (c.rd hkT)) ?_; rintro v H' ⟨rfl, rfl⟩) | (refine m_call (ent_of Tryd.func12 kr rfl) rfl rfl (fun w c => spec_EqualQuivers_ok (q := ql) (q' := qk) (c.rd hlF) (c.rd hlT) (c.rd hkF) (c.rd hkT)) ?_; rintro v H' ⟨rfl, rfl⟩) | (refine m_call (ent_of Tryd.func17 kr rfl) rfl rfl (fun w c => impl_SourcesOf_ok (q := q) (c.rd hvF) (c.rd hvT)) ?_; rintro v H' ⟨_, _, rfl, _, rfl⟩) | (refine m_call (ent_of Tryd.func30 kr rfl) rfl rfl (fun w c => spec_SourcesOf_ok (q := q) (c.rd hvF) (c.rd hvT)) ?_; rintro v H' ⟨_, _, rfl, _, rfl⟩) | (refine m_call (ent_of Tryd.func18 kr rfl) rfl rfl (fun w c => impl_SinksOf_ok (q := q) (c.rd hvF) (c.rd hvT)) ?_; rintro v H' ⟨_, _, rfl, _, rfl⟩) | (refine m_call (ent_of Tryd.func31 kr rfl) rfl rfl (fun w c => spec_SinksOf_ok (q := q) (c.rd hvF) (c.rd hvT)) ?_; rintro v H' ⟨_, _, rfl, _, rfl⟩) | (refine m_call (ent_of Tryd.func16 kr rfl) rfl rfl (fun w c => sameInts_at (c.own_rd (i := 1) rfl) (c.own_rd (i := 0) rfl)) ?_; rintro v H' ⟨rfl, rfl⟩) | (refine m_call (ent_of Tryd.func32 kr rfl) rfl rfl (fun w c => impl_IsConnectedQuiver_ok (q := q) (c.rd hvF) (c.rd hvT)) ?_; rintro v H' ⟨rfl, rfl⟩) | (refine m_call (ent_of Tryd.func33 kr rfl) rfl rfl (fun w c => spec_IsConnectedQuiver_ok (q := q) (c.rd hvF) (c.rd hvT)) ?_; rintro v H' ⟨rfl, rfl⟩)
                  refine c_nil (x_one (h_keep sS ?_))
                  refine h_take 30 rfl kr kr kr (by exact y_pick rfl rfl rfl) rfl sS ?_
                  refine h_take 31 rfl kr kr kr (by exact y_move rfl) rfl sS ?_
                  refine h_takey 32 rfl kr kr kr rfl rfl (by exact y_loadz tabs rfl rfl aS rfl) rfl sS ?_
                  refine h_takey 34 rfl kr kr kr rfl rfl (by exact y_loadz tabs rfl rfl aS rfl) rfl sS ?_
                  refine h_only 33 rfl kr (st_gy rfl rfl ?_)
                  first | (refine m_call (ent_of Tryd.func12 kr rfl) rfl rfl (fun w c => eqQ_same (q := parQ (nmX nm)) (c.rd hiF) (c.rd hiT) (c.rd hjF) (c.rd hjT)) ?_; rintro v H' ⟨rfl, rfl⟩) | (refine m_call (ent_of Tryd.func29 kr rfl) rfl rfl (fun w c => impl_EqualQuivers_ok (q := ql) (q' := qk) (c.rd hlF) (c.rd hlT) (c.rd hkF) (c.rd hkT)) ?_; rintro v H' ⟨rfl, rfl⟩) | (refine m_call (ent_of Tryd.func12 kr rfl) rfl rfl (fun w c => spec_EqualQuivers_ok (q := ql) (q' := qk) (c.rd hlF) (c.rd hlT) (c.rd hkF) (c.rd hkT)) ?_; rintro v H' ⟨rfl, rfl⟩) | (refine m_call (ent_of Tryd.func17 kr rfl) rfl rfl (fun w c => impl_SourcesOf_ok (q := q) (c.rd hvF) (c.rd hvT)) ?_; rintro v H' ⟨_, _, rfl, _, rfl⟩) | (refine m_call (ent_of Tryd.func30 kr rfl) rfl rfl (fun w c => spec_SourcesOf_ok (q := q) (c.rd hvF) (c.rd hvT)) ?_; rintro v H' ⟨_, _, rfl, _, rfl⟩) | (refine m_call (ent_of Tryd.func18 kr rfl) rfl rfl (fun w c => impl_SinksOf_ok (q := q) (c.rd hvF) (c.rd hvT)) ?_; rintro v H' ⟨_, _, rfl, _, rfl⟩) | (refine m_call (ent_of Tryd.func31 kr rfl) rfl rfl (fun w c => spec_SinksOf_ok (q := q) (c.rd hvF) (c.rd hvT)) ?_; rintro v H' ⟨_, _, rfl, _, rfl⟩) | (refine m_call (ent_of Tryd.func16 kr rfl) rfl rfl (fun w c => sameInts_at (c.own_rd (i := 1) rfl) (c.own_rd (i := 0) rfl)) ?_; rintro v H' ⟨rfl, rfl⟩) | (refine m_call (ent_of Tryd.func32 kr rfl) rfl rfl (fun w c => impl_IsConnectedQuiver_ok (q := q) (c.rd hvF) (c.rd hvT)) ?_; rintro v H' ⟨rfl, rfl⟩) | (refine m_call (ent_of Tryd.func33 kr rfl) rfl rfl (fun w c => spec_IsConnectedQuiver_ok (q := q) (c.rd hvF) (c.rd hvT)) ?_; rintro v H' ⟨rfl, rfl⟩)
                  refine c_nil (x_one (h_keep sS ?_))
                  refine h_only 35 rfl kr (st_gy rfl rfl ?_)
                  first | (refine m_call (ent_of Tryd.func12 kr rfl) rfl rfl (fun w c => eqQ_same (q := parQ (nmX nm)) (c.rd hiF) (c.rd hiT) (c.rd hjF) (c.rd hjT)) ?_; rintro v H' ⟨rfl, rfl⟩) | (refine m_call (ent_of Tryd.func29 kr rfl) rfl rfl (fun w c => impl_EqualQuivers_ok (q := ql) (q' := qk) (c.rd hlF) (c.rd hlT) (c.rd hkF) (c.rd hkT)) ?_; rintro v H' ⟨rfl, rfl⟩) | (refine m_call (ent_of Tryd.func12 kr rfl) rfl rfl (fun w c => spec_EqualQuivers_ok (q := ql) (q' := qk) (c.rd hlF) (c.rd hlT) (c.rd hkF) (c.rd hkT)) ?_; rintro v H' ⟨rfl, rfl⟩) | (refine m_call (ent_of Tryd.func17 kr rfl) rfl rfl (fun w c => impl_SourcesOf_ok (q := q) (c.rd hvF) (c.rd hvT)) ?_; rintro v H' ⟨_, _, rfl, _, rfl⟩) | (refine m_call (ent_of Tryd.func30 kr rfl) rfl rfl (fun w c => spec_SourcesOf_ok (q := q) (c.rd hvF) (c.rd hvT)) ?_; rintro v H' ⟨_, _, rfl, _, rfl⟩) | (refine m_call (ent_of Tryd.func18 kr rfl) rfl rfl (fun w c => impl_SinksOf_ok (q := q) (c.rd hvF) (c.rd hvT)) ?_; rintro v H' ⟨_, _, rfl, _, rfl⟩) | (refine m_call (ent_of Tryd.func31 kr rfl) rfl rfl (fun w c => spec_SinksOf_ok (q := q) (c.rd hvF) (c.rd hvT)) ?_; rintro v H' ⟨_, _, rfl, _, rfl⟩) | (refine m_call (ent_of Tryd.func16 kr rfl) rfl rfl (fun w c => sameInts_at (c.own_rd (i := 1) rfl) (c.own_rd (i := 0) rfl)) ?_; rintro v H' ⟨rfl, rfl⟩) | (refine m_call (ent_of Tryd.func32 kr rfl) rfl rfl (fun w c => impl_IsConnectedQuiver_ok (q := q) (c.rd hvF) (c.rd hvT)) ?_; rintro v H' ⟨rfl, rfl⟩) | (refine m_call (ent_of Tryd.func33 kr rfl) rfl rfl (fun w c => spec_IsConnectedQuiver_ok (q := q) (c.rd hvF) (c.rd hvT)) ?_; rintro v H' ⟨rfl, rfl⟩)
                  refine c_nil (x_one (h_keep sS ?_))
                  refine h_takey 36 rfl kr kr kr rfl rfl (by exact y_eqlb_same Tryd.underlying4 rfl rfl) rfl sS ?_
                  refine h_take 37 rfl kr kr kr (by exact y_pick rfl rfl rfl) rfl sS ?_
                  refine h_take 38 rfl kr kr kr (by exact y_assign rfl) rfl sS ?_
                  refine h_end kr ?_
                  repeat' (first | (show oC; refine c_ret ?_) | (show AT _ _ _ _; refine x_then ?_))
                  exact x_ret1 Tryd.results3 (res_tmp rfl) (fun wz cz => ⟨_, _, rfl, ⟨rfl, rfl⟩, c1.after (c2.after (c3.after (c4.after (c5.after (cz.sub (List.nil_sublist _))))))⟩)
set_option maxRecDepth 100000 in
theorem lifted (os : Os) (started : os.Started) (H : Type) (enc : TypeId × Value → H) :
    ReturnsInHanded {} Tryd.checked os 3 .any (fun w args => (Rows.fnQuiversSpec.pre enc Tryd.prog Tryd.f3 Rows.fnQuiversRow.domain false w args ∧ laidMetH Tryd.prog Rows.fnQuiversRow.laid w) ∧ sizedMet enc Tryd.prog Tryd.f3 (OpenSpec.ofChange Rows.fnQuiversSpec) false w args) (Rows.fnQuiversSpec.post enc Tryd.prog Tryd.f3 false true false false) := by
  refine returnsInHanded_of_change_and (C := Tryd.checked) (X := fun w _ => laidMetH Tryd.prog Rows.fnQuiversRow.laid w) (fun _ _ _ hh h => h.of_heap hh) Tryd.own started kr Tryd.func3
    (ChangeSpec.witness_shaped (enc := enc) (C := Tryd.checked) (os := os) (X := fun w _ => laidMetH Tryd.prog Rows.fnQuiversRow.laid w) false (World.laidAll Tryd.prog os Rows.fnQuiversRow.laid) #[.slice none 0 0] 16 (World.laidAll_os _ _ _) (World.shaped_of_ZipB kr kr) kr kr kr (by rw [MakeChecks.laidMetH_plain _ _ _ kr]; exact laidMet_laidAll _ kr kr)) ?_
  intro W base args ds gs before hval0 hW hcnd _ hL _
  have hval : ∀ (j : Nat) t v, Tryd.f3.params[j]? = some t → args[j]? = some v → Value.okWide Tryd.prog W .any base t v := hval0
  have hW' := hW
  obtain ⟨p, q, hA0, hV, rfl, hfz, hnd⟩ := hW
  have hA : DataW.TrodAll enc Tryd.prog W 0 (fun _ => true) true Tryd.f3.params.toList args.toList ds p := hA0
  rw [Tryd.params3] at hA hval
  obtain ⟨v0, vs0, d0, ds0, p0, q0, hargs, rfl, rfl, k0, r0⟩ := trodAll_cons hA
  obtain ⟨rfl, rfl, rfl⟩ := trodAll_nil r0
  obtain rfl : args = #[v0] := by cases args; simp_all
  obtain ⟨rfl, rfl⟩ := trodVars_none hV
  have lt0 : ∀ x ∈ p0, x.block < W.heap.size := by obtain ⟨m, hm⟩ := k0; exact DataW.trod_lt m _ _ _ hm
  obtain ⟨x0, h0, g0⟩ := opn_bytes (hval 0 22 v0 rfl rfl) k0
  clear hA0 hval0
  refine (law_ok W h0 g0).mono fun e W' ⟨v, H', he, ⟨hv, _⟩, hp⟩ => ?_
  subst he; subst hv
  have bel := hp.below
  exact ⟨_, rfl, _, _, _, [], _, [], hW', trodAll_mk1 (shut_bool Tryd.underlying4 _), (trodAll_cons_mk (Below.trod Tryd.laidOut kr (of_decide_eq_true kr) k0 bel lt0) trodAll_mk0), rfl, bel.frame _, fun h => by cases h⟩

theorem closed : joinedFacts Tryd.pinned.checked.prog 3 Tryd.f3 Rows.fnQuiversSpec Rows.fnQuiversRow = true := by
  unfold joinedFacts
  repeat' (with_reducible refine band ?_ ?_)
  all_goals first | (with_reducible exact fin_enter) | ((with_reducible refine fin_lifted ?_); rfl) | ((with_reducible refine fin_make ?_); rfl) | (as_aux_lemma => kernel_rfl)
/-- the row -/
theorem rowed : Rows.FnQuiversSaid :=
  OpenClaim.holds_of_wide 3 Tryd.f3 rfl rfl rfl rfl rfl rfl rfl ⟨rfl, rfl, rfl, rfl, rfl⟩ rfl rfl rfl rfl rfl kr Tryd.func3 closed
    (of_decide_eq_true kr) (by unfold Func.isWrapper; first | (rw [if_pos (by decide +kernel)]; kernel_rfl) | (rw [if_neg (by decide +kernel)]; exact ⟨rfl, rfl⟩))
    (fun os started H enc _ => lifted os started H enc)
/-- the given statement -/
theorem proved : Rows.FnQuiversCardSaid :=
  Claim7.holds_tied_plain_at .later [] [.data, .data, .data] true (true, "e153039168aab627d09f0dc6d9fcd65a3cead25eef4fba613a5221c50a4dbf0f") false rowed (fun _ h => by cases h) kr (fun _ h => by cases h) fnQuivers_row_tie rfl ⟨rfl, rfl⟩ kr rfl
    (fun f fn hf hfn => by
      obtain rfl : f = 3 := Option.some.inj ((show Tryd.prog.funcNamed "loop.example/g03404/laws.FnQuivers" = some 3 by kernel_rfl).symm.trans hf) |>.symm
      obtain rfl : fn = Tryd.f3 := (Option.some.inj (Tryd.func3.symm.trans hfn)).symm
      exact ⟨by kernel_rfl, fun j t ht => by
        rw [Tryd.params3] at ht
        have hm : t ∈ [22] := by simpa using Array.mem_of_getElem? ht
        have hall : ([22].all fun u => !Tryd.prog.wantsStandIn u) = true := by kernel_rfl
        exact (show Tryd.prog.wantsStandIn t = false by simpa using List.all_eq_true.1 hall t hm)⟩)
    kr
#print axioms proved
end Go.Proofs.YtdnhmnnccfoliaaDoor.wFnQuivers
