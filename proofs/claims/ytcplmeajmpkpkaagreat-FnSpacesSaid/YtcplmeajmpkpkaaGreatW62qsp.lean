/- The law FnSpaces returns true for all arguments, and its arguments read behind the call as they read before; there are no conditions. -/
import Derived.OpenShut
import Derived.ShutString
import Derived.Below
import Derived.Test.YtcplmeajmpkpkaaGreatCntqsp
import Derived.Test.YtcplmeajmpkpkaaGreatDimqsp
import Derived.Test.YtcplmeajmpkpkaaGreatDsqqsp
import Derived.Test.YtcplmeajmpkpkaaGreatFinqsp
import Derived.Test.YtcplmeajmpkpkaaGreatImsqsp
import Derived.Test.YtcplmeajmpkpkaaGreatLBqsp
import Derived.Test.YtcplmeajmpkpkaaGreatLsoqsp
import Derived.Test.YtcplmeajmpkpkaaGreatLwsqsp
import Derived.Test.YtcplmeajmpkpkaaGreatMefqsp
import Derived.Test.YtcplmeajmpkpkaaGreatOpBqsp
import Derived.Test.YtcplmeajmpkpkaaGreatOpnqsp
import Derived.Test.YtcplmeajmpkpkaaGreatSoiqsp
import Derived.Test.YtcplmeajmpkpkaaGreatSpaqsp
import Derived.Test.YtcplmeajmpkpkaaGreatSpdqsp
import Derived.Test.YtcplmeajmpkpkaaGreatSpeqsp
import Derived.Test.YtcplmeajmpkpkaaGreatSpgqsp
namespace Go.Proofs.YtcplmeajmpkpkaaGreat.wFnSpaces
open Go.Lg Go.Proofs Go.RowKit Go.ChangeShapes Go.WideShapes Go.ChangeAt
attribute [local irreducible] Code.wp wpList bodyPost Exit.then Exit.inBlock Hp Again Calls Y AT ResV QT
set_option maxRecDepth 20000
set_option maxHeartbeats 4000000
set_option maxRecDepth 20000
set_option maxHeartbeats 40000000
set_option linter.unusedVariables false

theorem eqSp_same {w : World} {e e' : Nat} {m : Sp} {u u' : Value} (hu : Rd w (rowsT e m.2) u) (hu' : Rd w (rowsT e' m.2) u') : Does Tryz.prog 10 [.agg #[iV m.1, u], .agg #[iV m.1, u']] w (fun r H => r = .bool true ∧ H = []) := by
  have := spec_EqualSpaces_ok w m m u u' hu hu'
  simpa using this
theorem cs_law {p n k : Int} (h : CsP p n k) (hs : SmP p n k) : ((lsF p n k).length : Int) = csF p n k ∧ csF p n (n - k) = csF p n k ∧ ∀ s ∈ lsF p n k, (s.2.length : Int) = k := by
  have hs0 := hs
  have e1 : lsF p n k = lstS p.toNat n.toNat k.toNat := if_pos h
  have e2 : csF p n k = (csI p.toNat n.toNat k.toNat : Nat) := if_pos h
  have h2 : CsP p n (n - k) := ⟨h.1, h.2.1, by have := h.2.2; omega, by have := h.2.2; omega⟩
  have e3 : csF p n (n - k) = (csI p.toNat n.toNat (n - k).toNat : Nat) := if_pos h2
  obtain ⟨p, n, k, rfl, rfl, rfl, hp, hn, hk, hF, hpn⟩ := h.small hs
  obtain ⟨g1, g2, g3, g4, g5, _⟩ := ls_all p hp n hn k hk
  have hn3 : n ≤ 3 := by simp only [List.mem_cons, List.not_mem_nil, or_false] at hn; omega
  have hkn : k ≤ n := by rw [List.mem_range] at hk; omega
  rw [e1, e2, e3]
  simp only [Int.toNat_natCast]
  rw [show ((n : Int) - (k : Int)).toNat = n - k by omega, g4]
  refine ⟨?_, rfl, fun s hs => ?_⟩
  · rw [lstS_eq hF om om, g3]
  · have := (lstS_ok hs).2.1
    omega
theorem law_ok (w : World) {x0 : List Int} {u0 : Value} (h0 : Rd w (byT x0) u0) (g0 : Byt x0) : Does Tryz.prog 3 [u0] w (fun r H => r = .bool true ∧ H = []) := by
  by_cases hbig : (x0.length : Int) > 1048576
  · obtain ⟨a, c, rfl⟩ := bytes_sl h0
    refine fn_enter Tryz.func3 rfl Tryz.ntmps3 rfl ?_
    repeat' (first | (show oL; first | refine sMv rfl rfl ?_ | refine sAs rfl rfl ?_ | (show oA (.call _); (refine m_call (ent_of Tryz.func4 kr rfl) rfl rfl (fun w c => big_yes hbig) ?_; rintro v H' ⟨rfl, rfl⟩))) | refine xNt ?_ | (show oC; first | refine c_seq ?_ | refine c_region ?_ | refine c_ret ?_ | refine c_true rfl ?_) | (show AT _ _ _ _; refine x_then_ret ?_))
    exact x_ret1 Tryz.results3 (res_tmp rfl) (fun w' c' => ⟨_, _, rfl, ⟨rfl, rfl⟩, c'⟩)
  have hc := codeF_of h0 g0 om
  refine fn_enter Tryz.func3 rfl Tryz.ntmps3 rfl ?_
  repeat' (first | (show oL; first | refine sMv rfl rfl ?_ | refine sAs rfl rfl ?_ | (show oA (.load _ _); first | refine sLb 0 tabs rfl rfl rfl rfl rfl ?_ | refine sLb 1 tabs rfl rfl rfl rfl rfl ?_ | refine sLb 2 tabs rfl rfl rfl rfl rfl ?_ | refine sLb 3 tabs rfl rfl rfl rfl rfl ?_ | refine sLb 4 tabs rfl rfl rfl rfl rfl ?_ | refine sLb 5 tabs rfl rfl rfl rfl rfl ?_ | refine sLb 6 tabs rfl rfl rfl rfl rfl ?_ | refine sLb 7 tabs rfl rfl rfl rfl rfl ?_) | (show oA (.call _); first | (refine m_call (ent_of Tryz.func4 kr rfl) rfl rfl (fun w c => big_ok (hp_code c hc)) ?_; rintro v H' ⟨rfl, rfl⟩) | (refine m_call (ent_of Tryz.func5 kr rfl) rfl rfl (fun w c => DrawMeetSpaces_ok (hp_code c hc)) ?_; rintro v H' ⟨p, s, a, ca, s', a', ca', rfl, rfl⟩) | (refine m_call (ent_of Tryz.func6 kr rfl) rfl rfl (fun w c => impl_MeetSpaces_ok (p := p) (a := s) (b := s') (c.own_rd (i := 2) rfl) (c.own_rd (i := 3) rfl)) ?_; rintro v H' ⟨ax, cx, rfl, hsx, rfl⟩) | (refine m_call (ent_of Tryz.func7 kr rfl) rfl rfl (fun w c => spec_MeetSpaces_ok (p := p) (a := s) (b := s') (c.own_rd (i := 4) rfl) (c.own_rd (i := 5) rfl)) ?_; rintro v H' ⟨ay, cy, rfl, hsy, rfl⟩) | (refine m_call (ent_of Tryz.func8 kr rfl) rfl rfl (fun w c => impl_AddSpaces_ok (p := p) (a := s) (b := s') (c.own_rd (i := 6) rfl) (c.own_rd (i := 7) rfl)) ?_; rintro v H' ⟨as', cs', rfl, hss, rfl⟩) | (refine m_call (ent_of Tryz.func9 kr rfl) rfl rfl (fun w c => spec_AddSpaces_ok (p := p) (a := s) (b := s') (c.own_rd (i := 8) rfl) (c.own_rd (i := 9) rfl)) ?_; rintro v H' ⟨at', ct, rfl, hst, rfl⟩)) | (show oA (.extract _ _); refine st_y (y_ext rfl rfl) rfl ?_) | (show oA (.store _ _ _); first | refine m_storeb 1 tabs rfl rfl rfl rfl rfl rfl rfl ?_ | refine m_storeb 0 tabs rfl rfl rfl rfl rfl rfl rfl ?_) | (show oA (.alloc _); refine m_alloc tabs rfl rfl (fun bq hbq => ?_))) | refine xNt ?_ | (show oC; first | refine c_cutr 8 [(0, u0), (162, .bool false)] (Hp [] w []) ?_ ?_ | refine c_seq ?_ | refine c_region ?_ | refine c_skip (x_then ?_) | refine c_false rfl ?_))
  · refine hold ?_
    refine AT.base (fun w1 c1 => ?_)
    have hb12 := c1.box (i := 0) rfl
    have ht := c1.own_rd (i := 1) rfl
    have hb10 := c1.box (i := 2) rfl
    have hs := c1.own_rd (i := 3) rfl
    have hb8 := c1.box (i := 4) rfl
    have hy := c1.own_rd (i := 5) rfl
    have hb6 := c1.box (i := 6) rfl
    have hx := c1.own_rd (i := 7) rfl
    have hb5 := c1.box (i := 8) rfl
    have hb4 := c1.box (i := 9) rfl
    have ha := c1.own_rd (i := 10) rfl
    have hb := c1.own_rd (i := 11) rfl
    by_cases hS : SumP p s s'
    · obtain ⟨l1, l2, l3, l4, l5⟩ := mee_law hS
      have hdm := mee_dims hS
      obtain ⟨_, _, _, _, _, hl1, _⟩ := hS.1.rows
      obtain ⟨_, _, _, _, _, hl2, _⟩ := hS.2.1.rows
      rw [decide_eq_true hS]
      repeat' (first | (show oL; first | refine sMv rfl rfl ?_ | refine sFd tabs rfl rfl rfl rfl ?_ | (show oA (.load _ _); first | refine st_y (y_loadz tabs rfl rfl aS rfl) rfl ?_ | refine st_y (y_load tabs rfl rfl (hc_box aS rfl)) rfl ?_) | (show oA (.binOp _ _ _ _ _); first | refine st_y (y_neqb_same Tryz.underlying4 rfl rfl) rfl ?_ | refine st_y (y_neqf rfl rfl om) rfl ?_ | refine sAd rfl rfl om rfl ?_) | (show oA (.unOp _ _ _); refine st_y (y_not rfl) rfl ?_) | (show oA (.call _); first | (refine m_call (ent_of Tryz.func10 kr rfl) rfl rfl (fun w c => eqSp_same (m := meeS p s s') (c.rd hx) (c.rd hy)) ?_; rintro v H' ⟨rfl, rfl⟩) | (refine m_call (ent_of Tryz.func10 kr rfl) rfl rfl (fun w c => eqSp_same (m := sumS p s s') (c.rd hs) (c.rd ht)) ?_; rintro v H' ⟨rfl, rfl⟩) | (refine m_call (ent_of Tryz.func11 kr rfl) rfl rfl (fun w c => impl_IsWithin_ok (p := p) (a := meeS p s s') (b := s) (c.rd hy) (c.rd ha)) ?_; rw [decide_eq_true l3]; rintro v H' ⟨rfl, rfl⟩) | (refine m_call (ent_of Tryz.func11 kr rfl) rfl rfl (fun w c => impl_IsWithin_ok (p := p) (a := meeS p s s') (b := s') (c.rd hy) (c.rd hb)) ?_; rw [decide_eq_true l4]; rintro v H' ⟨rfl, rfl⟩) | (refine m_call (ent_of Tryz.func11 kr rfl) rfl rfl (fun w c => impl_IsWithin_ok (p := p) (a := s) (b := sumS p s s') (c.rd ha) (c.rd ht)) ?_; rw [decide_eq_true l5]; rintro v H' ⟨rfl, rfl⟩) | (refine m_call (ent_of Tryz.func12 kr rfl) rfl rfl (fun w c => impl_IsSpace_ok (p := p) (s := meeS p s s') (c.rd hy)) ?_; rw [decide_eq_true l1]; rintro v H' ⟨rfl, rfl⟩) | (refine m_call (ent_of Tryz.func12 kr rfl) rfl rfl (fun w c => impl_IsSpace_ok (p := p) (s := sumS p s s') (c.rd ht)) ?_; rw [decide_eq_true l2]; rintro v H' ⟨rfl, rfl⟩) | refine sLn tabs rfl rfl rfl ?_) | (show oA (.pick _ _ _); refine st_y (y_pick rfl rfl rfl) rfl ?_) | refine st_gy rfl rfl ?_) | (show oN; refine c_nil ?_) | (show oC; refine c_region ?_))
      exact x_mid sB (fun w' c' => c1.after (c'.sub (List.nil_sublist _)))
    · rw [decide_eq_false hS]
      repeat' (first | (show oL; first | refine sMv rfl rfl ?_ | (show oA (.load _ _); refine st_y (y_loadz tabs rfl rfl aS rfl) rfl ?_) | (show oA (.binOp _ _ _ _ _); refine st_y (y_neqb_same Tryz.underlying4 rfl rfl) rfl ?_) | (show oA (.unOp _ _ _); refine st_y (y_not rfl) rfl ?_) | (show oA (.call _); first | (refine m_call (ent_of Tryz.func10 kr rfl) rfl rfl (fun w c => eqSp_same (m := meeS p s s') (c.rd hx) (c.rd hy)) ?_; rintro v H' ⟨rfl, rfl⟩) | (refine m_call (ent_of Tryz.func10 kr rfl) rfl rfl (fun w c => eqSp_same (m := sumS p s s') (c.rd hs) (c.rd ht)) ?_; rintro v H' ⟨rfl, rfl⟩)) | (show oA (.pick _ _ _); refine st_y (y_pick rfl rfl rfl) rfl ?_) | refine st_gy rfl rfl ?_ | refine st_gn rfl rfl rfl ?_ | refine st_gu rfl rfl rfl ?_) | (show oN; refine c_nil ?_) | (show oC; refine c_region ?_))
      exact x_mid sB (fun w' c' => c1.after (c'.sub (List.nil_sublist _)))
  · skip
    as_aux_lemma =>
    repeat' (first | (show oL; first | refine sMv rfl rfl ?_ | refine sAs rfl rfl ?_ | (show oA (.call _); first | (refine m_call (ent_of Tryz.func13 kr rfl) rfl rfl (fun w c => DrawSpacesOf_ok (hp_code c hc)) ?_; rintro v H' ⟨p, n, k, rfl, hsm, hbd, rfl⟩) | (refine m_call (ent_of Tryz.func14 kr rfl) rfl rfl (fun w c => impl_SpacesOf_ok hsm) ?_; rintro v H' ⟨al, cl, rfl, hsl, rfl⟩) | (refine m_call (ent_of Tryz.func15 kr rfl) rfl rfl (fun w c => spec_SpacesOf_ok hsm) ?_; rintro v H' ⟨L, us, vs, am, cm, hL, hul, hN, rfl, hsm', rfl⟩)) | (show oA (.extract _ _); refine st_y (y_ext rfl rfl) rfl ?_)) | refine xNt ?_ | (show oC; first | refine c_cutr 13 [(0, u0), (16, iV k), (17, .slice al (lsF p n k).length cl), (19, .slice am L.length cm), (215, .bool false)] (Hp [] w [.own (.s 26 2 (nsT n L)) (.slice am L.length cm), .ownL (vs.map iT) us, .own (spsT 26 (lsF p n k)) (.slice al (lsF p n k).length cl)]) ?_ ?_ | refine c_seq ?_ | refine c_region ?_ | refine c_skip (x_then ?_) | refine c_block ?_ | refine c_false rfl ?_))
    · refine hold ?_
      have hll : (lsF p n k).length = L.length := by rw [hL, List.length_map]
      have hll' : ((lsF p n k).length : Int) = (L.length : Int) := by rw [hll]
      by_cases hC : CsP p n k
      · obtain ⟨k1, k2, _⟩ := cs_law hC hsm
        rw [decide_eq_true hC]
        repeat' (first | (show oL; first | refine sMv rfl rfl ?_ | (show oA (.binOp _ _ _ _ _); first | refine st_y (y_neqf rfl rfl (show (L.length : Int) = csF p n k by omega)) rfl ?_ | refine st_y (y_neqf rfl rfl (show csF p n (n - k) = (L.length : Int) by omega)) rfl ?_ | refine st_y (y_neqb_same Tryz.underlying4 rfl rfl) rfl ?_ | refine st_y (y_neqf rfl rfl hll') rfl ?_ | refine st_y (y_sub rfl rfl om) rfl ?_) | (show oA (.call _); first | (refine m_call (ent_of Tryz.func16 kr rfl) rfl rfl (fun w c => impl_CountSpaces_ok) ?_; rintro v H' ⟨rfl, rfl⟩) | refine sLn tabs rfl rfl rfl ?_) | (show oA (.pick _ _ _); refine st_y (y_pick rfl rfl rfl) rfl ?_) | refine st_gy rfl rfl ?_) | (show oN; refine c_nil ?_) | (show oC; refine c_region ?_))
        exact x_mid sB (fun w' c' => c')
      · rw [decide_eq_false hC]
        repeat' (first | (show oL; first | refine sMv rfl rfl ?_ | (show oA (.binOp _ _ _ _ _); first | refine st_y (y_neqb_same Tryz.underlying4 rfl rfl) rfl ?_ | refine st_y (y_neqf rfl rfl hll') rfl ?_) | refine sLn tabs rfl rfl rfl ?_ | (show oA (.pick _ _ _); refine st_y (y_pick rfl rfl rfl) rfl ?_) | refine st_gy rfl rfl ?_ | refine st_gn rfl rfl rfl ?_ | refine st_gu rfl rfl rfl ?_) | (show oN; refine c_nil ?_) | (show oC; refine c_region ?_))
        exact x_mid sB (fun w' c' => c')
    · skip
      as_aux_lemma =>
      have hll : L.length = (lsF p n k).length := by rw [hL, List.length_map]
      rw [hll]
      refine AT.base (fun w1 c1 => ?_)
      have hc1 := hp_code c1 hc
      have hl := c1.own_rd (i := 2) rfl
      have hm := ls_rd (e' := 26) 0 1 rfl rfl hN c1
      rw [← hL] at hm
      obtain ⟨_, _, e1, hsl, _, lb, hgl⟩ := rd_sps hl
      cases e1
      obtain ⟨_, _, e2, hsm2, _, _, hgm⟩ := rd_sps hm
      cases e2
      have lb2 : (lsF p n k).length ≤ 13 := by
        by_cases hC : CsP p n k
        · have h1 := (cs_law hC hsm).1
          have h2 := csF_small hC hsm
          omega
        · rw [lsF, if_neg hC]; exact Nat.zero_le _
      refine c_loopH (α := Nat) [0, 16, 17, 19] (fun i => [(21, .int .i64 i)]) (fun i => i ≤ (lsF p n k).length) (fun i => []) (fun i => (lsF p n k).length - i) 0 rfl sB ?_ ?_ ?_
      · exact Nat.zero_le _
      · exact fun w' c' => c'
      · intro i hi
        by_cases hin : i < (lsF p n k).length
        · obtain ⟨x, hx⟩ : ∃ x, (lsF p n k)[i]? = some x := ⟨_, List.getElem?_eq_getElem hin⟩
          obtain ⟨a1, e1, g1, g2, g3⟩ := hgl i x hx
          obtain ⟨a2, e2, f1, f2, f3⟩ := hgm i x hx
          have hC : CsP p n k := Decidable.byContradiction (fun hn => by rw [lsF, if_neg hn] at hx; simp at hx)
          have k3 := (cs_law hC hsm).2.2 x (List.mem_of_getElem? hx)
          repeat' (first | (show oL; first | refine sMv rfl rfl ?_ | refine sLs rfl rfl rfl ?_ | refine sLn tabs rfl rfl rfl ?_) | refine xNt ?_ | (show oC; first | refine c_seq ?_ | refine c_region ?_ | refine c_skip (x_then ?_) | refine c_block ?_ | refine c_ift rfl aO ?_))
          refine c_all (Hp [] w1 []) kr (fun _ c => Hp.drew c) ?_
          refine h_take 0 rfl kr kr kr (by exact y_move rfl) rfl (fun _ c => c) ?_
          refine h_take 1 rfl kr kr kr (by exact y_move rfl) rfl (fun _ c => c) ?_
          refine h_take 2 rfl kr kr kr (by exact y_ixa tabs rfl rfl rfl hsl om om) rfl (fun _ c => c) ?_
          refine h_take 3 rfl kr kr kr (by exact y_load2 tabs rfl rfl (hc_w0 g1) (hc_w0 g2)) rfl (fun _ c => c) ?_
          refine h_take 4 rfl kr kr kr (by exact y_move rfl) rfl (fun _ c => c) ?_
          refine h_take 5 rfl kr kr kr (by exact y_move rfl) rfl (fun _ c => c) ?_
          refine h_take 6 rfl kr kr kr (by exact y_ixa tabs rfl rfl rfl hsm2 om om) rfl (fun _ c => c) ?_
          refine h_take 7 rfl kr kr kr (by exact y_load2 tabs rfl rfl (hc_w0 f1) (hc_w0 f2)) rfl (fun _ c => c) ?_
          refine h_only 8 rfl kr ?_
          (refine m_call (ent_of Tryz.func10 kr rfl) rfl rfl (fun w c => eqSp_same (m := x) (c.rd g3) (c.rd f3)) ?_; rintro v H' ⟨rfl, rfl⟩)
          refine c_nil (x_one (h_keep (fun _ c => c) ?_))
          refine h_take 9 rfl kr kr kr (by exact y_not rfl) rfl (fun _ c => c) ?_
          refine h_take 10 rfl kr kr kr (by exact y_move rfl) rfl (fun _ c => c) ?_
          refine h_takey 11 rfl kr kr kr rfl rfl (by exact y_move rfl) rfl (fun _ c => c) ?_
          refine h_takey 12 rfl kr kr kr rfl rfl (by exact y_move rfl) rfl (fun _ c => c) ?_
          refine h_takey 13 rfl kr kr kr rfl rfl (by exact y_ixa tabs rfl rfl rfl hsm2 om om) rfl (fun _ c => c) ?_
          refine h_takey 14 rfl kr kr kr rfl rfl (by exact y_field tabs rfl rfl rfl) rfl (fun _ c => c) ?_
          refine h_takey 15 rfl kr kr kr rfl rfl (by exact y_load tabs rfl rfl (hc_w0 f2)) rfl (fun _ c => c) ?_
          refine h_takey 16 rfl kr kr kr rfl rfl (by exact y_len tabs rfl rfl) rfl (fun _ c => c) ?_
          refine h_takey 17 rfl kr kr kr rfl rfl (by exact y_move rfl) rfl (fun _ c => c) ?_
          refine h_takey 18 rfl kr kr kr rfl rfl (by exact y_neqf rfl rfl k3) rfl (fun _ c => c) ?_
          refine h_take 19 rfl kr kr kr (by exact y_pick rfl rfl rfl) rfl (fun _ c => c) ?_
          refine h_end kr ?_
          repeat' (first | (show oL; first | refine sMv rfl rfl ?_ | refine sAs rfl rfl ?_ | refine sAd rfl rfl om rfl ?_) | refine xNt ?_ | (show oC; first | refine c_region ?_ | refine c_skip (x_blk ?_) | refine c_false rfl ?_) | (show AT _ _ _ _; refine x_then ?_))
          exact x_nx (i + 1) sB om (fun w' c' => c') om
        · have hie : i = (lsF p n k).length := by omega
          subst hie
          repeat' (first | (show oL; first | refine sMv rfl rfl ?_ | refine sAs rfl rfl ?_ | (show oA (.load _ _); first | refine sLb 0 tabs rfl rfl rfl rfl rfl ?_ | refine sLb 1 tabs rfl rfl rfl rfl rfl ?_ | refine sLb 2 tabs rfl rfl rfl rfl rfl ?_ | refine sLb 3 tabs rfl rfl rfl rfl rfl ?_) | refine sLs rfl rfl rfl ?_ | (show oA (.call _); first | (refine m_call (ent_of Tryz.func17 kr rfl) rfl rfl (fun w c => DrawSpanOf_ok (hp_code c hc1)) ?_; rintro v H' ⟨q, nq, rs, ar, cr, rfl, rfl⟩) | (refine m_call (ent_of Tryz.func18 kr rfl) rfl rfl (fun w c => impl_SpanOf_ok (p := q) (n := nq) (l := rs) (c.own_rd (i := 0) rfl)) ?_; rintro v H' ⟨ap1, cp1, rfl, hp1, rfl⟩) | (refine m_call (ent_of Tryz.func19 kr rfl) rfl rfl (fun w c => spec_SpanOf_ok (p := q) (n := nq) (l := rs) (c.own_rd (i := 2) rfl)) ?_; rintro v H' ⟨ap2, cp2, rfl, hp2, rfl⟩) | (refine m_call (ent_of Tryz.func20 kr rfl) rfl rfl (fun w c => DrawInSpace_ok (hp_code c hc1)) ?_; rintro v H' ⟨pS, S, aSs, cS, X, aX, cX, rfl, rfl⟩) | (refine m_call (ent_of Tryz.func21 kr rfl) rfl rfl (fun w c => DrawImageOfSpace_ok (hp_code c hc1)) ?_; rintro v H' ⟨pI, M, aM, cM, I, aI, cI, rfl, rfl⟩) | (refine m_call (ent_of Tryz.func22 kr rfl) rfl rfl (fun w c => impl_ImageOfSpace_ok (p := pI) (m := M) (s := I) (c.own_rd (i := 2) rfl) (c.own_rd (i := 3) rfl)) ?_; rintro v H' ⟨ai1, ci1, rfl, hi1, rfl⟩) | (refine m_call (ent_of Tryz.func23 kr rfl) rfl rfl (fun w c => spec_ImageOfSpace_ok (p := pI) (m := M) (s := I) (c.own_rd (i := 4) rfl) (c.own_rd (i := 5) rfl)) ?_; rintro v H' ⟨ai2, ci2, rfl, hi2, rfl⟩) | (refine m_call (ent_of Tryz.func24 kr rfl) rfl rfl (fun w c => DrawIsWithin_ok (hp_code c hc1)) ?_; rintro v H' ⟨pW, W1, aW1, cW1, W2, aW2, cW2, rfl, rfl⟩) | (refine m_call (ent_of Tryz.func25 kr rfl) rfl rfl (fun w c => DrawEqualSpaces_ok (hp_code c hc1)) ?_; rintro v H' ⟨E1, aE1, cE1, E2, aE2, cE2, rfl, rfl⟩) | (refine m_call (ent_of Tryz.func26 kr rfl) rfl rfl (fun w c => DrawIsSpace_ok (hp_code c hc1)) ?_; rintro v H' ⟨pQ, Q, aQ, cQ, rfl, rfl⟩) | (refine m_call (ent_of Tryz.func27 kr rfl) rfl rfl (fun w c => DrawCountSpaces_ok (hp_code c hc1)) ?_; rintro v H' ⟨pC, nC, kC, rfl, rfl⟩) | refine sLn tabs rfl rfl rfl ?_) | (show oA (.extract _ _); refine st_y (y_ext rfl rfl) rfl ?_) | (show oA (.store _ _ _); first | refine m_storeb 1 tabs rfl rfl rfl rfl rfl rfl rfl ?_ | refine m_storeb 0 tabs rfl rfl rfl rfl rfl rfl rfl ?_) | (show oA (.alloc _); refine m_alloc tabs rfl rfl (fun bq hbq => ?_))) | refine xNt ?_ | (show oC; first | refine c_seq ?_ | refine c_region ?_ | refine c_exit ?_ | refine c_iff rfl nN ?_) | (show AT _ _ _ _; first | refine x_then ?_ | refine x_then_exit ?_ | refine x_blk_exit rfl ?_))
          refine AT.base (fun w2 c2 => ?_)
          have hb45 := c2.box (i := 0) rfl
          have hQ := c2.own_rd (i := 1) rfl
          have hb43 := c2.box (i := 2) rfl
          have hb42 := c2.box (i := 3) rfl
          have hE1 := c2.own_rd (i := 4) rfl
          have hE2 := c2.own_rd (i := 5) rfl
          have hb41 := c2.box (i := 6) rfl
          have hb40 := c2.box (i := 7) rfl
          have hW1 := c2.own_rd (i := 8) rfl
          have hW2 := c2.own_rd (i := 9) rfl
          have hb37 := c2.box (i := 10) rfl
          have hI2 := c2.own_rd (i := 11) rfl
          have hb35 := c2.box (i := 12) rfl
          have hI1 := c2.own_rd (i := 13) rfl
          have hb30 := c2.box (i := 18) rfl
          have hSS := c2.own_rd (i := 19) rfl
          have hX := c2.own_rd (i := 20) rfl
          have hb27 := c2.box (i := 21) rfl
          have hp2' := c2.own_rd (i := 22) rfl
          have hb25 := c2.box (i := 23) rfl
          have hp1' := c2.own_rd (i := 24) rfl
          refine c_all (Hp [] w2 []) kr (fun _ c => Hp.drew c) ?_
          refine h_take 0 rfl kr kr kr (by exact y_move rfl) rfl (fun _ c => c) ?_
          refine h_take 1 rfl kr kr kr (by exact y_move rfl) rfl (fun _ c => c) ?_
          refine h_take 2 rfl kr kr kr (by exact y_eqlb_same Tryz.underlying4 rfl rfl) rfl (fun _ c => c) ?_
          refine h_take 3 rfl kr kr kr (by exact y_move rfl) rfl (fun _ c => c) ?_
          refine h_takey 4 rfl kr kr kr rfl rfl (by exact y_loadz tabs rfl rfl aS rfl) rfl (fun _ c => c) ?_
          refine h_takey 5 rfl kr kr kr rfl rfl (by exact y_loadz tabs rfl rfl aS rfl) rfl (fun _ c => c) ?_
          refine h_only 6 rfl kr (st_gy rfl rfl ?_)
          first | (refine m_call (ent_of Tryz.func10 kr rfl) rfl rfl (fun w c => eqSp_same (m := spanS q nq rs) (c.rd hp1') (c.rd hp2')) ?_; rintro v H' ⟨rfl, rfl⟩) | (refine m_call (ent_of Tryz.func10 kr rfl) rfl rfl (fun w c => eqSp_same (m := imsS pI M I) (c.rd hI1) (c.rd hI2)) ?_; rintro v H' ⟨rfl, rfl⟩) | (refine m_call (ent_of Tryz.func28 kr rfl) rfl rfl (fun w c => impl_InSpace_ok (p := pS) (s := S) (xs := X) (c.rd hSS) (c.rd hX)) ?_; rintro v H' ⟨rfl, rfl⟩) | (refine m_call (ent_of Tryz.func29 kr rfl) rfl rfl (fun w c => spec_InSpace_ok (p := pS) (s := S) (xs := X) (c.rd hSS) (c.rd hX)) ?_; rintro v H' ⟨rfl, rfl⟩) | (refine m_call (ent_of Tryz.func11 kr rfl) rfl rfl (fun w c => impl_IsWithin_ok (p := pW) (a := W1) (b := W2) (c.rd hW1) (c.rd hW2)) ?_; rintro v H' ⟨rfl, rfl⟩) | (refine m_call (ent_of Tryz.func30 kr rfl) rfl rfl (fun w c => spec_IsWithin_ok (p := pW) (a := W1) (b := W2) (c.rd hW1) (c.rd hW2)) ?_; rintro v H' ⟨rfl, rfl⟩) | (refine m_call (ent_of Tryz.func31 kr rfl) rfl rfl (fun w c => impl_EqualSpaces_ok _ E1 E2 _ _ (c.rd hE1) (c.rd hE2)) ?_; rintro v H' ⟨rfl, rfl⟩) | (refine m_call (ent_of Tryz.func10 kr rfl) rfl rfl (fun w c => spec_EqualSpaces_ok _ E1 E2 _ _ (c.rd hE1) (c.rd hE2)) ?_; rintro v H' ⟨rfl, rfl⟩) | (refine m_call (ent_of Tryz.func12 kr rfl) rfl rfl (fun w c => impl_IsSpace_ok (p := pQ) (s := Q) (c.rd hQ)) ?_; rintro v H' ⟨rfl, rfl⟩) | (refine m_call (ent_of Tryz.func32 kr rfl) rfl rfl (fun w c => spec_IsSpace_ok (p := pQ) (s := Q) (c.rd hQ)) ?_; rintro v H' ⟨rfl, rfl⟩) | (refine m_call (ent_of Tryz.func16 kr rfl) rfl rfl (fun w c => impl_CountSpaces_ok) ?_; rintro v H' ⟨rfl, rfl⟩) | (refine m_call (ent_of Tryz.func33 kr rfl) rfl rfl (fun w c => spec_CountSpaces_ok) ?_; rintro v H' ⟨rfl, rfl⟩)
          refine c_nil (x_one (h_keep (fun _ c => c) ?_))
          refine h_take 7 rfl kr kr kr (by exact y_pick rfl rfl rfl) rfl (fun _ c => c) ?_
          refine h_take 8 rfl kr kr kr (by exact y_move rfl) rfl (fun _ c => c) ?_
          refine h_takey 9 rfl kr kr kr rfl rfl (by exact y_move rfl) rfl (fun _ c => c) ?_
          refine h_takey 10 rfl kr kr kr rfl rfl (by exact y_loadz tabs rfl rfl aS rfl) rfl (fun _ c => c) ?_
          refine h_takey 11 rfl kr kr kr rfl rfl (by exact y_move rfl) rfl (fun _ c => c) ?_
          refine h_takey 13 rfl kr kr kr rfl rfl (by exact y_move rfl) rfl (fun _ c => c) ?_
          refine h_takey 14 rfl kr kr kr rfl rfl (by exact y_loadz tabs rfl rfl aS rfl) rfl (fun _ c => c) ?_
          refine h_takey 15 rfl kr kr kr rfl rfl (by exact y_move rfl) rfl (fun _ c => c) ?_
          refine h_only 12 rfl kr (st_gy rfl rfl ?_)
          first | (refine m_call (ent_of Tryz.func10 kr rfl) rfl rfl (fun w c => eqSp_same (m := spanS q nq rs) (c.rd hp1') (c.rd hp2')) ?_; rintro v H' ⟨rfl, rfl⟩) | (refine m_call (ent_of Tryz.func10 kr rfl) rfl rfl (fun w c => eqSp_same (m := imsS pI M I) (c.rd hI1) (c.rd hI2)) ?_; rintro v H' ⟨rfl, rfl⟩) | (refine m_call (ent_of Tryz.func28 kr rfl) rfl rfl (fun w c => impl_InSpace_ok (p := pS) (s := S) (xs := X) (c.rd hSS) (c.rd hX)) ?_; rintro v H' ⟨rfl, rfl⟩) | (refine m_call (ent_of Tryz.func29 kr rfl) rfl rfl (fun w c => spec_InSpace_ok (p := pS) (s := S) (xs := X) (c.rd hSS) (c.rd hX)) ?_; rintro v H' ⟨rfl, rfl⟩) | (refine m_call (ent_of Tryz.func11 kr rfl) rfl rfl (fun w c => impl_IsWithin_ok (p := pW) (a := W1) (b := W2) (c.rd hW1) (c.rd hW2)) ?_; rintro v H' ⟨rfl, rfl⟩) | (refine m_call (ent_of Tryz.func30 kr rfl) rfl rfl (fun w c => spec_IsWithin_ok (p := pW) (a := W1) (b := W2) (c.rd hW1) (c.rd hW2)) ?_; rintro v H' ⟨rfl, rfl⟩) | (refine m_call (ent_of Tryz.func31 kr rfl) rfl rfl (fun w c => impl_EqualSpaces_ok _ E1 E2 _ _ (c.rd hE1) (c.rd hE2)) ?_; rintro v H' ⟨rfl, rfl⟩) | (refine m_call (ent_of Tryz.func10 kr rfl) rfl rfl (fun w c => spec_EqualSpaces_ok _ E1 E2 _ _ (c.rd hE1) (c.rd hE2)) ?_; rintro v H' ⟨rfl, rfl⟩) | (refine m_call (ent_of Tryz.func12 kr rfl) rfl rfl (fun w c => impl_IsSpace_ok (p := pQ) (s := Q) (c.rd hQ)) ?_; rintro v H' ⟨rfl, rfl⟩) | (refine m_call (ent_of Tryz.func32 kr rfl) rfl rfl (fun w c => spec_IsSpace_ok (p := pQ) (s := Q) (c.rd hQ)) ?_; rintro v H' ⟨rfl, rfl⟩) | (refine m_call (ent_of Tryz.func16 kr rfl) rfl rfl (fun w c => impl_CountSpaces_ok) ?_; rintro v H' ⟨rfl, rfl⟩) | (refine m_call (ent_of Tryz.func33 kr rfl) rfl rfl (fun w c => spec_CountSpaces_ok) ?_; rintro v H' ⟨rfl, rfl⟩)
          refine c_nil (x_one (h_keep (fun _ c => c) ?_))
          refine h_only 16 rfl kr (st_gy rfl rfl ?_)
          first | (refine m_call (ent_of Tryz.func10 kr rfl) rfl rfl (fun w c => eqSp_same (m := spanS q nq rs) (c.rd hp1') (c.rd hp2')) ?_; rintro v H' ⟨rfl, rfl⟩) | (refine m_call (ent_of Tryz.func10 kr rfl) rfl rfl (fun w c => eqSp_same (m := imsS pI M I) (c.rd hI1) (c.rd hI2)) ?_; rintro v H' ⟨rfl, rfl⟩) | (refine m_call (ent_of Tryz.func28 kr rfl) rfl rfl (fun w c => impl_InSpace_ok (p := pS) (s := S) (xs := X) (c.rd hSS) (c.rd hX)) ?_; rintro v H' ⟨rfl, rfl⟩) | (refine m_call (ent_of Tryz.func29 kr rfl) rfl rfl (fun w c => spec_InSpace_ok (p := pS) (s := S) (xs := X) (c.rd hSS) (c.rd hX)) ?_; rintro v H' ⟨rfl, rfl⟩) | (refine m_call (ent_of Tryz.func11 kr rfl) rfl rfl (fun w c => impl_IsWithin_ok (p := pW) (a := W1) (b := W2) (c.rd hW1) (c.rd hW2)) ?_; rintro v H' ⟨rfl, rfl⟩) | (refine m_call (ent_of Tryz.func30 kr rfl) rfl rfl (fun w c => spec_IsWithin_ok (p := pW) (a := W1) (b := W2) (c.rd hW1) (c.rd hW2)) ?_; rintro v H' ⟨rfl, rfl⟩) | (refine m_call (ent_of Tryz.func31 kr rfl) rfl rfl (fun w c => impl_EqualSpaces_ok _ E1 E2 _ _ (c.rd hE1) (c.rd hE2)) ?_; rintro v H' ⟨rfl, rfl⟩) | (refine m_call (ent_of Tryz.func10 kr rfl) rfl rfl (fun w c => spec_EqualSpaces_ok _ E1 E2 _ _ (c.rd hE1) (c.rd hE2)) ?_; rintro v H' ⟨rfl, rfl⟩) | (refine m_call (ent_of Tryz.func12 kr rfl) rfl rfl (fun w c => impl_IsSpace_ok (p := pQ) (s := Q) (c.rd hQ)) ?_; rintro v H' ⟨rfl, rfl⟩) | (refine m_call (ent_of Tryz.func32 kr rfl) rfl rfl (fun w c => spec_IsSpace_ok (p := pQ) (s := Q) (c.rd hQ)) ?_; rintro v H' ⟨rfl, rfl⟩) | (refine m_call (ent_of Tryz.func16 kr rfl) rfl rfl (fun w c => impl_CountSpaces_ok) ?_; rintro v H' ⟨rfl, rfl⟩) | (refine m_call (ent_of Tryz.func33 kr rfl) rfl rfl (fun w c => spec_CountSpaces_ok) ?_; rintro v H' ⟨rfl, rfl⟩)
          refine c_nil (x_one (h_keep (fun _ c => c) ?_))
          refine h_takey 17 rfl kr kr kr rfl rfl (by exact y_eqlb_same Tryz.underlying4 rfl rfl) rfl (fun _ c => c) ?_
          refine h_take 18 rfl kr kr kr (by exact y_pick rfl rfl rfl) rfl (fun _ c => c) ?_
          refine h_take 19 rfl kr kr kr (by exact y_move rfl) rfl (fun _ c => c) ?_
          refine h_takey 20 rfl kr kr kr rfl rfl (by exact y_move rfl) rfl (fun _ c => c) ?_
          refine h_takey 21 rfl kr kr kr rfl rfl (by exact y_move rfl) rfl (fun _ c => c) ?_
          refine h_takey 22 rfl kr kr kr rfl rfl (by exact y_eqlb_same Tryz.underlying4 rfl rfl) rfl (fun _ c => c) ?_
          refine h_take 23 rfl kr kr kr (by exact y_pick rfl rfl rfl) rfl (fun _ c => c) ?_
          refine h_take 24 rfl kr kr kr (by exact y_move rfl) rfl (fun _ c => c) ?_
          refine h_takey 25 rfl kr kr kr rfl rfl (by exact y_loadz tabs rfl rfl aS rfl) rfl (fun _ c => c) ?_
          refine h_takey 26 rfl kr kr kr rfl rfl (by exact y_loadz tabs rfl rfl aS rfl) rfl (fun _ c => c) ?_
          refine h_only 27 rfl kr (st_gy rfl rfl ?_)
          first | (refine m_call (ent_of Tryz.func10 kr rfl) rfl rfl (fun w c => eqSp_same (m := spanS q nq rs) (c.rd hp1') (c.rd hp2')) ?_; rintro v H' ⟨rfl, rfl⟩) | (refine m_call (ent_of Tryz.func10 kr rfl) rfl rfl (fun w c => eqSp_same (m := imsS pI M I) (c.rd hI1) (c.rd hI2)) ?_; rintro v H' ⟨rfl, rfl⟩) | (refine m_call (ent_of Tryz.func28 kr rfl) rfl rfl (fun w c => impl_InSpace_ok (p := pS) (s := S) (xs := X) (c.rd hSS) (c.rd hX)) ?_; rintro v H' ⟨rfl, rfl⟩) | (refine m_call (ent_of Tryz.func29 kr rfl) rfl rfl (fun w c => spec_InSpace_ok (p := pS) (s := S) (xs := X) (c.rd hSS) (c.rd hX)) ?_; rintro v H' ⟨rfl, rfl⟩) | (refine m_call (ent_of Tryz.func11 kr rfl) rfl rfl (fun w c => impl_IsWithin_ok (p := pW) (a := W1) (b := W2) (c.rd hW1) (c.rd hW2)) ?_; rintro v H' ⟨rfl, rfl⟩) | (refine m_call (ent_of Tryz.func30 kr rfl) rfl rfl (fun w c => spec_IsWithin_ok (p := pW) (a := W1) (b := W2) (c.rd hW1) (c.rd hW2)) ?_; rintro v H' ⟨rfl, rfl⟩) | (refine m_call (ent_of Tryz.func31 kr rfl) rfl rfl (fun w c => impl_EqualSpaces_ok _ E1 E2 _ _ (c.rd hE1) (c.rd hE2)) ?_; rintro v H' ⟨rfl, rfl⟩) | (refine m_call (ent_of Tryz.func10 kr rfl) rfl rfl (fun w c => spec_EqualSpaces_ok _ E1 E2 _ _ (c.rd hE1) (c.rd hE2)) ?_; rintro v H' ⟨rfl, rfl⟩) | (refine m_call (ent_of Tryz.func12 kr rfl) rfl rfl (fun w c => impl_IsSpace_ok (p := pQ) (s := Q) (c.rd hQ)) ?_; rintro v H' ⟨rfl, rfl⟩) | (refine m_call (ent_of Tryz.func32 kr rfl) rfl rfl (fun w c => spec_IsSpace_ok (p := pQ) (s := Q) (c.rd hQ)) ?_; rintro v H' ⟨rfl, rfl⟩) | (refine m_call (ent_of Tryz.func16 kr rfl) rfl rfl (fun w c => impl_CountSpaces_ok) ?_; rintro v H' ⟨rfl, rfl⟩) | (refine m_call (ent_of Tryz.func33 kr rfl) rfl rfl (fun w c => spec_CountSpaces_ok) ?_; rintro v H' ⟨rfl, rfl⟩)
          refine c_nil (x_one (h_keep (fun _ c => c) ?_))
          refine h_take 28 rfl kr kr kr (by exact y_pick rfl rfl rfl) rfl (fun _ c => c) ?_
          refine h_take 29 rfl kr kr kr (by exact y_move rfl) rfl (fun _ c => c) ?_
          refine h_takey 30 rfl kr kr kr rfl rfl (by exact y_move rfl) rfl (fun _ c => c) ?_
          refine h_takey 31 rfl kr kr kr rfl rfl (by exact y_loadz tabs rfl rfl aS rfl) rfl (fun _ c => c) ?_
          refine h_takey 32 rfl kr kr kr rfl rfl (by exact y_loadz tabs rfl rfl aS rfl) rfl (fun _ c => c) ?_
          refine h_takey 34 rfl kr kr kr rfl rfl (by exact y_move rfl) rfl (fun _ c => c) ?_
          refine h_takey 35 rfl kr kr kr rfl rfl (by exact y_loadz tabs rfl rfl aS rfl) rfl (fun _ c => c) ?_
          refine h_takey 36 rfl kr kr kr rfl rfl (by exact y_loadz tabs rfl rfl aS rfl) rfl (fun _ c => c) ?_
          refine h_only 33 rfl kr (st_gy rfl rfl ?_)
          first | (refine m_call (ent_of Tryz.func10 kr rfl) rfl rfl (fun w c => eqSp_same (m := spanS q nq rs) (c.rd hp1') (c.rd hp2')) ?_; rintro v H' ⟨rfl, rfl⟩) | (refine m_call (ent_of Tryz.func10 kr rfl) rfl rfl (fun w c => eqSp_same (m := imsS pI M I) (c.rd hI1) (c.rd hI2)) ?_; rintro v H' ⟨rfl, rfl⟩) | (refine m_call (ent_of Tryz.func28 kr rfl) rfl rfl (fun w c => impl_InSpace_ok (p := pS) (s := S) (xs := X) (c.rd hSS) (c.rd hX)) ?_; rintro v H' ⟨rfl, rfl⟩) | (refine m_call (ent_of Tryz.func29 kr rfl) rfl rfl (fun w c => spec_InSpace_ok (p := pS) (s := S) (xs := X) (c.rd hSS) (c.rd hX)) ?_; rintro v H' ⟨rfl, rfl⟩) | (refine m_call (ent_of Tryz.func11 kr rfl) rfl rfl (fun w c => impl_IsWithin_ok (p := pW) (a := W1) (b := W2) (c.rd hW1) (c.rd hW2)) ?_; rintro v H' ⟨rfl, rfl⟩) | (refine m_call (ent_of Tryz.func30 kr rfl) rfl rfl (fun w c => spec_IsWithin_ok (p := pW) (a := W1) (b := W2) (c.rd hW1) (c.rd hW2)) ?_; rintro v H' ⟨rfl, rfl⟩) | (refine m_call (ent_of Tryz.func31 kr rfl) rfl rfl (fun w c => impl_EqualSpaces_ok _ E1 E2 _ _ (c.rd hE1) (c.rd hE2)) ?_; rintro v H' ⟨rfl, rfl⟩) | (refine m_call (ent_of Tryz.func10 kr rfl) rfl rfl (fun w c => spec_EqualSpaces_ok _ E1 E2 _ _ (c.rd hE1) (c.rd hE2)) ?_; rintro v H' ⟨rfl, rfl⟩) | (refine m_call (ent_of Tryz.func12 kr rfl) rfl rfl (fun w c => impl_IsSpace_ok (p := pQ) (s := Q) (c.rd hQ)) ?_; rintro v H' ⟨rfl, rfl⟩) | (refine m_call (ent_of Tryz.func32 kr rfl) rfl rfl (fun w c => spec_IsSpace_ok (p := pQ) (s := Q) (c.rd hQ)) ?_; rintro v H' ⟨rfl, rfl⟩) | (refine m_call (ent_of Tryz.func16 kr rfl) rfl rfl (fun w c => impl_CountSpaces_ok) ?_; rintro v H' ⟨rfl, rfl⟩) | (refine m_call (ent_of Tryz.func33 kr rfl) rfl rfl (fun w c => spec_CountSpaces_ok) ?_; rintro v H' ⟨rfl, rfl⟩)
          refine c_nil (x_one (h_keep (fun _ c => c) ?_))
          refine h_only 37 rfl kr (st_gy rfl rfl ?_)
          first | (refine m_call (ent_of Tryz.func10 kr rfl) rfl rfl (fun w c => eqSp_same (m := spanS q nq rs) (c.rd hp1') (c.rd hp2')) ?_; rintro v H' ⟨rfl, rfl⟩) | (refine m_call (ent_of Tryz.func10 kr rfl) rfl rfl (fun w c => eqSp_same (m := imsS pI M I) (c.rd hI1) (c.rd hI2)) ?_; rintro v H' ⟨rfl, rfl⟩) | (refine m_call (ent_of Tryz.func28 kr rfl) rfl rfl (fun w c => impl_InSpace_ok (p := pS) (s := S) (xs := X) (c.rd hSS) (c.rd hX)) ?_; rintro v H' ⟨rfl, rfl⟩) | (refine m_call (ent_of Tryz.func29 kr rfl) rfl rfl (fun w c => spec_InSpace_ok (p := pS) (s := S) (xs := X) (c.rd hSS) (c.rd hX)) ?_; rintro v H' ⟨rfl, rfl⟩) | (refine m_call (ent_of Tryz.func11 kr rfl) rfl rfl (fun w c => impl_IsWithin_ok (p := pW) (a := W1) (b := W2) (c.rd hW1) (c.rd hW2)) ?_; rintro v H' ⟨rfl, rfl⟩) | (refine m_call (ent_of Tryz.func30 kr rfl) rfl rfl (fun w c => spec_IsWithin_ok (p := pW) (a := W1) (b := W2) (c.rd hW1) (c.rd hW2)) ?_; rintro v H' ⟨rfl, rfl⟩) | (refine m_call (ent_of Tryz.func31 kr rfl) rfl rfl (fun w c => impl_EqualSpaces_ok _ E1 E2 _ _ (c.rd hE1) (c.rd hE2)) ?_; rintro v H' ⟨rfl, rfl⟩) | (refine m_call (ent_of Tryz.func10 kr rfl) rfl rfl (fun w c => spec_EqualSpaces_ok _ E1 E2 _ _ (c.rd hE1) (c.rd hE2)) ?_; rintro v H' ⟨rfl, rfl⟩) | (refine m_call (ent_of Tryz.func12 kr rfl) rfl rfl (fun w c => impl_IsSpace_ok (p := pQ) (s := Q) (c.rd hQ)) ?_; rintro v H' ⟨rfl, rfl⟩) | (refine m_call (ent_of Tryz.func32 kr rfl) rfl rfl (fun w c => spec_IsSpace_ok (p := pQ) (s := Q) (c.rd hQ)) ?_; rintro v H' ⟨rfl, rfl⟩) | (refine m_call (ent_of Tryz.func16 kr rfl) rfl rfl (fun w c => impl_CountSpaces_ok) ?_; rintro v H' ⟨rfl, rfl⟩) | (refine m_call (ent_of Tryz.func33 kr rfl) rfl rfl (fun w c => spec_CountSpaces_ok) ?_; rintro v H' ⟨rfl, rfl⟩)
          refine c_nil (x_one (h_keep (fun _ c => c) ?_))
          refine h_takey 38 rfl kr kr kr rfl rfl (by exact y_eqlb_same Tryz.underlying4 rfl rfl) rfl (fun _ c => c) ?_
          refine h_take 39 rfl kr kr kr (by exact y_pick rfl rfl rfl) rfl (fun _ c => c) ?_
          refine h_take 40 rfl kr kr kr (by exact y_move rfl) rfl (fun _ c => c) ?_
          refine h_takey 41 rfl kr kr kr rfl rfl (by exact y_loadz tabs rfl rfl aS rfl) rfl (fun _ c => c) ?_
          refine h_takey 42 rfl kr kr kr rfl rfl (by exact y_loadz tabs rfl rfl aS rfl) rfl (fun _ c => c) ?_
          refine h_takey 44 rfl kr kr kr rfl rfl (by exact y_loadz tabs rfl rfl aS rfl) rfl (fun _ c => c) ?_
          refine h_takey 45 rfl kr kr kr rfl rfl (by exact y_loadz tabs rfl rfl aS rfl) rfl (fun _ c => c) ?_
          refine h_only 43 rfl kr (st_gy rfl rfl ?_)
          first | (refine m_call (ent_of Tryz.func10 kr rfl) rfl rfl (fun w c => eqSp_same (m := spanS q nq rs) (c.rd hp1') (c.rd hp2')) ?_; rintro v H' ⟨rfl, rfl⟩) | (refine m_call (ent_of Tryz.func10 kr rfl) rfl rfl (fun w c => eqSp_same (m := imsS pI M I) (c.rd hI1) (c.rd hI2)) ?_; rintro v H' ⟨rfl, rfl⟩) | (refine m_call (ent_of Tryz.func28 kr rfl) rfl rfl (fun w c => impl_InSpace_ok (p := pS) (s := S) (xs := X) (c.rd hSS) (c.rd hX)) ?_; rintro v H' ⟨rfl, rfl⟩) | (refine m_call (ent_of Tryz.func29 kr rfl) rfl rfl (fun w c => spec_InSpace_ok (p := pS) (s := S) (xs := X) (c.rd hSS) (c.rd hX)) ?_; rintro v H' ⟨rfl, rfl⟩) | (refine m_call (ent_of Tryz.func11 kr rfl) rfl rfl (fun w c => impl_IsWithin_ok (p := pW) (a := W1) (b := W2) (c.rd hW1) (c.rd hW2)) ?_; rintro v H' ⟨rfl, rfl⟩) | (refine m_call (ent_of Tryz.func30 kr rfl) rfl rfl (fun w c => spec_IsWithin_ok (p := pW) (a := W1) (b := W2) (c.rd hW1) (c.rd hW2)) ?_; rintro v H' ⟨rfl, rfl⟩) | (refine m_call (ent_of Tryz.func31 kr rfl) rfl rfl (fun w c => impl_EqualSpaces_ok _ E1 E2 _ _ (c.rd hE1) (c.rd hE2)) ?_; rintro v H' ⟨rfl, rfl⟩) | (refine m_call (ent_of Tryz.func10 kr rfl) rfl rfl (fun w c => spec_EqualSpaces_ok _ E1 E2 _ _ (c.rd hE1) (c.rd hE2)) ?_; rintro v H' ⟨rfl, rfl⟩) | (refine m_call (ent_of Tryz.func12 kr rfl) rfl rfl (fun w c => impl_IsSpace_ok (p := pQ) (s := Q) (c.rd hQ)) ?_; rintro v H' ⟨rfl, rfl⟩) | (refine m_call (ent_of Tryz.func32 kr rfl) rfl rfl (fun w c => spec_IsSpace_ok (p := pQ) (s := Q) (c.rd hQ)) ?_; rintro v H' ⟨rfl, rfl⟩) | (refine m_call (ent_of Tryz.func16 kr rfl) rfl rfl (fun w c => impl_CountSpaces_ok) ?_; rintro v H' ⟨rfl, rfl⟩) | (refine m_call (ent_of Tryz.func33 kr rfl) rfl rfl (fun w c => spec_CountSpaces_ok) ?_; rintro v H' ⟨rfl, rfl⟩)
          refine c_nil (x_one (h_keep (fun _ c => c) ?_))
          refine h_only 46 rfl kr (st_gy rfl rfl ?_)
          first | (refine m_call (ent_of Tryz.func10 kr rfl) rfl rfl (fun w c => eqSp_same (m := spanS q nq rs) (c.rd hp1') (c.rd hp2')) ?_; rintro v H' ⟨rfl, rfl⟩) | (refine m_call (ent_of Tryz.func10 kr rfl) rfl rfl (fun w c => eqSp_same (m := imsS pI M I) (c.rd hI1) (c.rd hI2)) ?_; rintro v H' ⟨rfl, rfl⟩) | (refine m_call (ent_of Tryz.func28 kr rfl) rfl rfl (fun w c => impl_InSpace_ok (p := pS) (s := S) (xs := X) (c.rd hSS) (c.rd hX)) ?_; rintro v H' ⟨rfl, rfl⟩) | (refine m_call (ent_of Tryz.func29 kr rfl) rfl rfl (fun w c => spec_InSpace_ok (p := pS) (s := S) (xs := X) (c.rd hSS) (c.rd hX)) ?_; rintro v H' ⟨rfl, rfl⟩) | (refine m_call (ent_of Tryz.func11 kr rfl) rfl rfl (fun w c => impl_IsWithin_ok (p := pW) (a := W1) (b := W2) (c.rd hW1) (c.rd hW2)) ?_; rintro v H' ⟨rfl, rfl⟩) | (refine m_call (ent_of Tryz.func30 kr rfl) rfl rfl (fun w c => spec_IsWithin_ok (p := pW) (a := W1) (b := W2) (c.rd hW1) (c.rd hW2)) ?_; rintro v H' ⟨rfl, rfl⟩) | (refine m_call (ent_of Tryz.func31 kr rfl) rfl rfl (fun w c => impl_EqualSpaces_ok _ E1 E2 _ _ (c.rd hE1) (c.rd hE2)) ?_; rintro v H' ⟨rfl, rfl⟩) | (refine m_call (ent_of Tryz.func10 kr rfl) rfl rfl (fun w c => spec_EqualSpaces_ok _ E1 E2 _ _ (c.rd hE1) (c.rd hE2)) ?_; rintro v H' ⟨rfl, rfl⟩) | (refine m_call (ent_of Tryz.func12 kr rfl) rfl rfl (fun w c => impl_IsSpace_ok (p := pQ) (s := Q) (c.rd hQ)) ?_; rintro v H' ⟨rfl, rfl⟩) | (refine m_call (ent_of Tryz.func32 kr rfl) rfl rfl (fun w c => spec_IsSpace_ok (p := pQ) (s := Q) (c.rd hQ)) ?_; rintro v H' ⟨rfl, rfl⟩) | (refine m_call (ent_of Tryz.func16 kr rfl) rfl rfl (fun w c => impl_CountSpaces_ok) ?_; rintro v H' ⟨rfl, rfl⟩) | (refine m_call (ent_of Tryz.func33 kr rfl) rfl rfl (fun w c => spec_CountSpaces_ok) ?_; rintro v H' ⟨rfl, rfl⟩)
          refine c_nil (x_one (h_keep (fun _ c => c) ?_))
          refine h_takey 47 rfl kr kr kr rfl rfl (by exact y_eqlb_same Tryz.underlying4 rfl rfl) rfl (fun _ c => c) ?_
          refine h_take 48 rfl kr kr kr (by exact y_pick rfl rfl rfl) rfl (fun _ c => c) ?_
          refine h_take 49 rfl kr kr kr (by exact y_move rfl) rfl (fun _ c => c) ?_
          refine h_takey 50 rfl kr kr kr rfl rfl (by exact y_move rfl) rfl (fun _ c => c) ?_
          refine h_takey 51 rfl kr kr kr rfl rfl (by exact y_loadz tabs rfl rfl aS rfl) rfl (fun _ c => c) ?_
          refine h_takey 53 rfl kr kr kr rfl rfl (by exact y_move rfl) rfl (fun _ c => c) ?_
          refine h_takey 54 rfl kr kr kr rfl rfl (by exact y_loadz tabs rfl rfl aS rfl) rfl (fun _ c => c) ?_
          refine h_only 52 rfl kr (st_gy rfl rfl ?_)
          first | (refine m_call (ent_of Tryz.func10 kr rfl) rfl rfl (fun w c => eqSp_same (m := spanS q nq rs) (c.rd hp1') (c.rd hp2')) ?_; rintro v H' ⟨rfl, rfl⟩) | (refine m_call (ent_of Tryz.func10 kr rfl) rfl rfl (fun w c => eqSp_same (m := imsS pI M I) (c.rd hI1) (c.rd hI2)) ?_; rintro v H' ⟨rfl, rfl⟩) | (refine m_call (ent_of Tryz.func28 kr rfl) rfl rfl (fun w c => impl_InSpace_ok (p := pS) (s := S) (xs := X) (c.rd hSS) (c.rd hX)) ?_; rintro v H' ⟨rfl, rfl⟩) | (refine m_call (ent_of Tryz.func29 kr rfl) rfl rfl (fun w c => spec_InSpace_ok (p := pS) (s := S) (xs := X) (c.rd hSS) (c.rd hX)) ?_; rintro v H' ⟨rfl, rfl⟩) | (refine m_call (ent_of Tryz.func11 kr rfl) rfl rfl (fun w c => impl_IsWithin_ok (p := pW) (a := W1) (b := W2) (c.rd hW1) (c.rd hW2)) ?_; rintro v H' ⟨rfl, rfl⟩) | (refine m_call (ent_of Tryz.func30 kr rfl) rfl rfl (fun w c => spec_IsWithin_ok (p := pW) (a := W1) (b := W2) (c.rd hW1) (c.rd hW2)) ?_; rintro v H' ⟨rfl, rfl⟩) | (refine m_call (ent_of Tryz.func31 kr rfl) rfl rfl (fun w c => impl_EqualSpaces_ok _ E1 E2 _ _ (c.rd hE1) (c.rd hE2)) ?_; rintro v H' ⟨rfl, rfl⟩) | (refine m_call (ent_of Tryz.func10 kr rfl) rfl rfl (fun w c => spec_EqualSpaces_ok _ E1 E2 _ _ (c.rd hE1) (c.rd hE2)) ?_; rintro v H' ⟨rfl, rfl⟩) | (refine m_call (ent_of Tryz.func12 kr rfl) rfl rfl (fun w c => impl_IsSpace_ok (p := pQ) (s := Q) (c.rd hQ)) ?_; rintro v H' ⟨rfl, rfl⟩) | (refine m_call (ent_of Tryz.func32 kr rfl) rfl rfl (fun w c => spec_IsSpace_ok (p := pQ) (s := Q) (c.rd hQ)) ?_; rintro v H' ⟨rfl, rfl⟩) | (refine m_call (ent_of Tryz.func16 kr rfl) rfl rfl (fun w c => impl_CountSpaces_ok) ?_; rintro v H' ⟨rfl, rfl⟩) | (refine m_call (ent_of Tryz.func33 kr rfl) rfl rfl (fun w c => spec_CountSpaces_ok) ?_; rintro v H' ⟨rfl, rfl⟩)
          refine c_nil (x_one (h_keep (fun _ c => c) ?_))
          refine h_only 55 rfl kr (st_gy rfl rfl ?_)
          first | (refine m_call (ent_of Tryz.func10 kr rfl) rfl rfl (fun w c => eqSp_same (m := spanS q nq rs) (c.rd hp1') (c.rd hp2')) ?_; rintro v H' ⟨rfl, rfl⟩) | (refine m_call (ent_of Tryz.func10 kr rfl) rfl rfl (fun w c => eqSp_same (m := imsS pI M I) (c.rd hI1) (c.rd hI2)) ?_; rintro v H' ⟨rfl, rfl⟩) | (refine m_call (ent_of Tryz.func28 kr rfl) rfl rfl (fun w c => impl_InSpace_ok (p := pS) (s := S) (xs := X) (c.rd hSS) (c.rd hX)) ?_; rintro v H' ⟨rfl, rfl⟩) | (refine m_call (ent_of Tryz.func29 kr rfl) rfl rfl (fun w c => spec_InSpace_ok (p := pS) (s := S) (xs := X) (c.rd hSS) (c.rd hX)) ?_; rintro v H' ⟨rfl, rfl⟩) | (refine m_call (ent_of Tryz.func11 kr rfl) rfl rfl (fun w c => impl_IsWithin_ok (p := pW) (a := W1) (b := W2) (c.rd hW1) (c.rd hW2)) ?_; rintro v H' ⟨rfl, rfl⟩) | (refine m_call (ent_of Tryz.func30 kr rfl) rfl rfl (fun w c => spec_IsWithin_ok (p := pW) (a := W1) (b := W2) (c.rd hW1) (c.rd hW2)) ?_; rintro v H' ⟨rfl, rfl⟩) | (refine m_call (ent_of Tryz.func31 kr rfl) rfl rfl (fun w c => impl_EqualSpaces_ok _ E1 E2 _ _ (c.rd hE1) (c.rd hE2)) ?_; rintro v H' ⟨rfl, rfl⟩) | (refine m_call (ent_of Tryz.func10 kr rfl) rfl rfl (fun w c => spec_EqualSpaces_ok _ E1 E2 _ _ (c.rd hE1) (c.rd hE2)) ?_; rintro v H' ⟨rfl, rfl⟩) | (refine m_call (ent_of Tryz.func12 kr rfl) rfl rfl (fun w c => impl_IsSpace_ok (p := pQ) (s := Q) (c.rd hQ)) ?_; rintro v H' ⟨rfl, rfl⟩) | (refine m_call (ent_of Tryz.func32 kr rfl) rfl rfl (fun w c => spec_IsSpace_ok (p := pQ) (s := Q) (c.rd hQ)) ?_; rintro v H' ⟨rfl, rfl⟩) | (refine m_call (ent_of Tryz.func16 kr rfl) rfl rfl (fun w c => impl_CountSpaces_ok) ?_; rintro v H' ⟨rfl, rfl⟩) | (refine m_call (ent_of Tryz.func33 kr rfl) rfl rfl (fun w c => spec_CountSpaces_ok) ?_; rintro v H' ⟨rfl, rfl⟩)
          refine c_nil (x_one (h_keep (fun _ c => c) ?_))
          refine h_takey 56 rfl kr kr kr rfl rfl (by exact y_eqlb_same Tryz.underlying4 rfl rfl) rfl (fun _ c => c) ?_
          refine h_take 57 rfl kr kr kr (by exact y_pick rfl rfl rfl) rfl (fun _ c => c) ?_
          refine h_take 58 rfl kr kr kr (by exact y_move rfl) rfl (fun _ c => c) ?_
          refine h_takey 59 rfl kr kr kr rfl rfl (by exact y_move rfl) rfl (fun _ c => c) ?_
          refine h_takey 60 rfl kr kr kr rfl rfl (by exact y_move rfl) rfl (fun _ c => c) ?_
          refine h_takey 61 rfl kr kr kr rfl rfl (by exact y_move rfl) rfl (fun _ c => c) ?_
          refine h_takey 63 rfl kr kr kr rfl rfl (by exact y_move rfl) rfl (fun _ c => c) ?_
          refine h_takey 64 rfl kr kr kr rfl rfl (by exact y_move rfl) rfl (fun _ c => c) ?_
          refine h_takey 65 rfl kr kr kr rfl rfl (by exact y_move rfl) rfl (fun _ c => c) ?_
          refine h_only 62 rfl kr (st_gy rfl rfl ?_)
          first | (refine m_call (ent_of Tryz.func10 kr rfl) rfl rfl (fun w c => eqSp_same (m := spanS q nq rs) (c.rd hp1') (c.rd hp2')) ?_; rintro v H' ⟨rfl, rfl⟩) | (refine m_call (ent_of Tryz.func10 kr rfl) rfl rfl (fun w c => eqSp_same (m := imsS pI M I) (c.rd hI1) (c.rd hI2)) ?_; rintro v H' ⟨rfl, rfl⟩) | (refine m_call (ent_of Tryz.func28 kr rfl) rfl rfl (fun w c => impl_InSpace_ok (p := pS) (s := S) (xs := X) (c.rd hSS) (c.rd hX)) ?_; rintro v H' ⟨rfl, rfl⟩) | (refine m_call (ent_of Tryz.func29 kr rfl) rfl rfl (fun w c => spec_InSpace_ok (p := pS) (s := S) (xs := X) (c.rd hSS) (c.rd hX)) ?_; rintro v H' ⟨rfl, rfl⟩) | (refine m_call (ent_of Tryz.func11 kr rfl) rfl rfl (fun w c => impl_IsWithin_ok (p := pW) (a := W1) (b := W2) (c.rd hW1) (c.rd hW2)) ?_; rintro v H' ⟨rfl, rfl⟩) | (refine m_call (ent_of Tryz.func30 kr rfl) rfl rfl (fun w c => spec_IsWithin_ok (p := pW) (a := W1) (b := W2) (c.rd hW1) (c.rd hW2)) ?_; rintro v H' ⟨rfl, rfl⟩) | (refine m_call (ent_of Tryz.func31 kr rfl) rfl rfl (fun w c => impl_EqualSpaces_ok _ E1 E2 _ _ (c.rd hE1) (c.rd hE2)) ?_; rintro v H' ⟨rfl, rfl⟩) | (refine m_call (ent_of Tryz.func10 kr rfl) rfl rfl (fun w c => spec_EqualSpaces_ok _ E1 E2 _ _ (c.rd hE1) (c.rd hE2)) ?_; rintro v H' ⟨rfl, rfl⟩) | (refine m_call (ent_of Tryz.func12 kr rfl) rfl rfl (fun w c => impl_IsSpace_ok (p := pQ) (s := Q) (c.rd hQ)) ?_; rintro v H' ⟨rfl, rfl⟩) | (refine m_call (ent_of Tryz.func32 kr rfl) rfl rfl (fun w c => spec_IsSpace_ok (p := pQ) (s := Q) (c.rd hQ)) ?_; rintro v H' ⟨rfl, rfl⟩) | (refine m_call (ent_of Tryz.func16 kr rfl) rfl rfl (fun w c => impl_CountSpaces_ok) ?_; rintro v H' ⟨rfl, rfl⟩) | (refine m_call (ent_of Tryz.func33 kr rfl) rfl rfl (fun w c => spec_CountSpaces_ok) ?_; rintro v H' ⟨rfl, rfl⟩)
          refine c_nil (x_one (h_keep (fun _ c => c) ?_))
          refine h_only 66 rfl kr (st_gy rfl rfl ?_)
          first | (refine m_call (ent_of Tryz.func10 kr rfl) rfl rfl (fun w c => eqSp_same (m := spanS q nq rs) (c.rd hp1') (c.rd hp2')) ?_; rintro v H' ⟨rfl, rfl⟩) | (refine m_call (ent_of Tryz.func10 kr rfl) rfl rfl (fun w c => eqSp_same (m := imsS pI M I) (c.rd hI1) (c.rd hI2)) ?_; rintro v H' ⟨rfl, rfl⟩) | (refine m_call (ent_of Tryz.func28 kr rfl) rfl rfl (fun w c => impl_InSpace_ok (p := pS) (s := S) (xs := X) (c.rd hSS) (c.rd hX)) ?_; rintro v H' ⟨rfl, rfl⟩) | (refine m_call (ent_of Tryz.func29 kr rfl) rfl rfl (fun w c => spec_InSpace_ok (p := pS) (s := S) (xs := X) (c.rd hSS) (c.rd hX)) ?_; rintro v H' ⟨rfl, rfl⟩) | (refine m_call (ent_of Tryz.func11 kr rfl) rfl rfl (fun w c => impl_IsWithin_ok (p := pW) (a := W1) (b := W2) (c.rd hW1) (c.rd hW2)) ?_; rintro v H' ⟨rfl, rfl⟩) | (refine m_call (ent_of Tryz.func30 kr rfl) rfl rfl (fun w c => spec_IsWithin_ok (p := pW) (a := W1) (b := W2) (c.rd hW1) (c.rd hW2)) ?_; rintro v H' ⟨rfl, rfl⟩) | (refine m_call (ent_of Tryz.func31 kr rfl) rfl rfl (fun w c => impl_EqualSpaces_ok _ E1 E2 _ _ (c.rd hE1) (c.rd hE2)) ?_; rintro v H' ⟨rfl, rfl⟩) | (refine m_call (ent_of Tryz.func10 kr rfl) rfl rfl (fun w c => spec_EqualSpaces_ok _ E1 E2 _ _ (c.rd hE1) (c.rd hE2)) ?_; rintro v H' ⟨rfl, rfl⟩) | (refine m_call (ent_of Tryz.func12 kr rfl) rfl rfl (fun w c => impl_IsSpace_ok (p := pQ) (s := Q) (c.rd hQ)) ?_; rintro v H' ⟨rfl, rfl⟩) | (refine m_call (ent_of Tryz.func32 kr rfl) rfl rfl (fun w c => spec_IsSpace_ok (p := pQ) (s := Q) (c.rd hQ)) ?_; rintro v H' ⟨rfl, rfl⟩) | (refine m_call (ent_of Tryz.func16 kr rfl) rfl rfl (fun w c => impl_CountSpaces_ok) ?_; rintro v H' ⟨rfl, rfl⟩) | (refine m_call (ent_of Tryz.func33 kr rfl) rfl rfl (fun w c => spec_CountSpaces_ok) ?_; rintro v H' ⟨rfl, rfl⟩)
          refine c_nil (x_one (h_keep (fun _ c => c) ?_))
          refine h_takey 67 rfl kr kr kr rfl rfl (by exact y_eqlie rfl rfl rfl) rfl (fun _ c => c) ?_
          refine h_take 68 rfl kr kr kr (by exact y_pick rfl rfl rfl) rfl (fun _ c => c) ?_
          refine h_take 69 rfl kr kr kr (by exact y_assign rfl) rfl (fun _ c => c) ?_
          refine h_end kr ?_
          repeat' (first | (show oC; refine c_ret ?_) | (show AT _ _ _ _; refine x_then ?_))
          exact x_ret1 Tryz.results3 (res_tmp rfl) (fun w' c' => ⟨_, _, rfl, ⟨rfl, rfl⟩, c1.after (c2.after (c'.sub (List.nil_sublist _)))⟩)
set_option maxRecDepth 100000 in
theorem lifted (os : Os) (started : os.Started) (H : Type) (enc : TypeId × Value → H) :
    ReturnsInHanded {} Tryz.checked os 3 .any (Rows.fnSpacesSpec.pre6 enc Tryz.prog Tryz.f3 Rows.fnSpacesRow.domain false) (Rows.fnSpacesSpec.post enc Tryz.prog Tryz.f3 false true false false) := by
  refine returnsInHanded_of_change (C := Tryz.checked) Tryz.own started kr Tryz.func3
    (ChangeSpec.witness6 (enc := enc) (C := Tryz.checked) false ⟨#[], #[.slice none 0 0], []⟩ 16 kr kr kr kr) ?_
  intro W base args ds gs before hval0 hW hcnd _
  have hval : ∀ (j : Nat) t v, Tryz.f3.params[j]? = some t → args[j]? = some v → Value.okWide Tryz.prog W .any base t v := hval0
  have hW' := hW
  obtain ⟨p, q, hA0, hV, rfl, hfz, hnd⟩ := hW
  have hA : DataW.TrodAll enc Tryz.prog W 0 (fun _ => true) true Tryz.f3.params.toList args.toList ds p := hA0
  rw [Tryz.params3] at hA hval
  obtain ⟨v0, vs0, d0, ds0, p0, q0, hargs, rfl, rfl, k0, r0⟩ := trodAll_cons hA
  obtain ⟨rfl, rfl, rfl⟩ := trodAll_nil r0
  obtain rfl : args = #[v0] := by cases args; simp_all
  obtain ⟨rfl, rfl⟩ := trodVars_none hV
  have lt0 : ∀ x ∈ p0, x.block < W.heap.size := by obtain ⟨m, hm⟩ := k0; exact DataW.trod_lt m _ _ _ hm
  obtain ⟨x0, h0, g0⟩ := opn_bytes (hval 0 22 v0 rfl rfl) k0
  clear hA0 hval0
  refine (law_ok W h0 g0).mono fun e W' ⟨v, H', he, ⟨hv, _⟩, hp⟩ => ?_
  subst he; subst hv
  have bel := hp.below
  exact ⟨_, rfl, _, _, _, [], _, [], hW', trodAll_mk1 (shut_bool Tryz.underlying4 _), (trodAll_cons_mk (Below.trod Tryz.laidOut kr (of_decide_eq_true kr) k0 bel lt0) trodAll_mk0), rfl, bel.frame _, fun h => by cases h⟩

theorem closed : joinedFacts Tryz.pinned.checked.prog 3 Tryz.f3 Rows.fnSpacesSpec Rows.fnSpacesRow = true := by
  unfold joinedFacts
  repeat' (with_reducible refine band ?_ ?_)
  all_goals first | (with_reducible exact fin_enter) | ((with_reducible refine fin_lifted ?_); rfl) | ((with_reducible refine fin_make ?_); rfl) | (as_aux_lemma => kernel_rfl)
/-- the given statement -/
theorem proved : Rows.FnSpacesSaid :=
  OpenClaim.holds_of_wide 3 Tryz.f3 rfl rfl rfl rfl rfl rfl rfl ⟨rfl, rfl, rfl, rfl, rfl⟩ rfl rfl rfl rfl rfl kr Tryz.func3 closed
    (of_decide_eq_true kr) (by unfold Func.isWrapper; first | (rw [if_pos (by decide +kernel)]; kernel_rfl) | (rw [if_neg (by decide +kernel)]; exact ⟨rfl, rfl⟩))
    (fun os started H enc _ => lifted os started H enc)
#print axioms proved
end Go.Proofs.YtcplmeajmpkpkaaGreat.wFnSpaces
