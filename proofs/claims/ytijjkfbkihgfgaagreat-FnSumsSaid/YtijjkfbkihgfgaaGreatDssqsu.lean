import Derived.Test.YtijjkfbkihgfgaaGreatDsmqsu
namespace Go.Proofs.YtijjkfbkihgfgaaGreat
open Go.Lg Go.Proofs Go.RowKit
attribute [local irreducible] Code.wp wpList bodyPost Exit.then Exit.inBlock Hp Again Calls Y AT ResV QT Qn QI wpAny wpAnyQ
set_option maxRecDepth 20000
set_option maxHeartbeats 4000000

theorem spec_DirectSum_ok {w : World} {a b : Rp} {e e' : Nat} {u0 u1 u2 u3 v0 v1 v2 v3 : Value} (h0 : Rd w (iT a.q.2.1) u0) (h1 : Rd w (iT a.q.2.2) u1) (h2 : Rd w (iT a.d) u2) (h3 : Rd w (matsT e a.m) u3) (k0 : Rd w (iT b.q.2.1) v0) (k1 : Rd w (iT b.q.2.2) v1) (k2 : Rd w (iT b.d) v2) (k3 : Rd w (matsT e' b.m) v3) :
    Does Tryz.prog 66 [.agg #[iV a.p, iV a.q.1, u0, u1, u2, u3], .agg #[iV b.p, iV b.q.1, v0, v1, v2, v3]] w (GivesRB (dsL a b) (decide (DsP a b))) := by
  by_cases hF : FitP a b
  · have hRa := hF.1
    have hRb := hF.2.1
    have hdl := hF.dl
    have h5 := (RepP.dd hRa).2
    have hml : b.m.length = a.m.length := by rw [hRb.2.2.1, ← hF.2.2.2, ← hRa.2.2.1]
    have hQ := hRa.2.1.1
    have q1 := hQ.2.1
    have q2 := hQ.2.2.1
    have hm6 : a.m.length ≤ 6 := by have := hRa.2.2.1; omega
    have h00 := h0
    have h10 := h1
    have h20 := h2
    have h30 := h3
    have k20 := k2
    have k30 := k3
    obtain ⟨a0, c0, rfl, _⟩ := h0.ints
    obtain ⟨a1, c1, rfl, _⟩ := h1.ints
    obtain ⟨a2, c2, rfl, hs2, _, _, hg2⟩ := h2.ints
    obtain ⟨a3, c3, rfl, hs3, _, _, hg3⟩ := rd_mats h3
    obtain ⟨d2, f2, rfl, hk2, _, _, hh2⟩ := k2.ints
    obtain ⟨d3, f3, rfl, hk3, _, _, hh3⟩ := rd_mats k3
    refine fn_enter Tryz.func66 rfl Tryz.ntmps66 rfl ?_
    repeat' (first | (show oL; first | refine sAs rfl rfl ?_ | (show oA (.load _ _); first | refine sLb 1 tabs rfl rfl rfl rfl rfl ?_ | refine sLb 2 tabs rfl rfl rfl rfl rfl ?_) | (show oA (.unOp _ _ _); refine st_y (y_notd rfl) rfl ?_) | (show oA (.call _); (refine m_call (ent_of Tryz.func165 kr rfl) rfl rfl (fun w c => l9Fit_ok (a := a) (b := b) (c.rd h00) (c.rd h10) (c.rd h20) (c.rd h30) (c.rd k0) (c.rd k1) (c.rd k20) (c.rd k30)) ?_; rintro v H' ⟨rfl, rfl⟩)) | (show oA (.box _ _); refine m_box rfl rfl (fun b3 hb3 => ?_)) | (show oA (.alloc _); refine m_alloc tabs rfl rfl (fun b4 hb4 => ?_))) | refine xNt ?_ | (show oC; first | refine c_seq ?_ | refine c_region ?_ | refine c_skip (x_then ?_) | refine c_iff rfl nN ?_))
    all_goals first | exact absurd hF aS | skip
    rename_i b2 hb2
    refine c_all (Hp [] w [.blk b3 #[iV b.p, iV b.q.1, v0, v1, .slice d2 b.d.length f2, .slice d3 b.m.length f3] 60, .blk b2 #[iV a.p, iV a.q.1, .slice a0 a.q.2.1.length c0, .slice a1 a.q.2.2.length c1, .slice a2 a.d.length c2, .slice a3 a.m.length c3] 60]) kr (fun _ c => Hp.drew c) ?_
    refine fl_begin 8 rfl tabs rfl rfl ?_
    refine fl_take 0 rfl kr kr kr kr kr kr (by exact y_field tabs rfl rfl rfl) rfl (fun w c => by exact c.drop) ?_
    refine fl_take 1 rfl kr kr kr kr kr kr (by exact y_load tabs rfl rfl (hc_blk 1 rfl rfl)) rfl (fun w c => by exact c.drop) ?_
    refine fl_take 2 rfl kr kr kr kr kr kr (by exact y_field tabs rfl rfl rfl) rfl (fun w c => by exact c.drop) ?_
    refine fl_take 3 rfl kr kr kr kr kr kr (by exact y_load3 tabs rfl rfl (hc_blk 1 rfl rfl) (hc_blk 1 rfl rfl) (hc_blk 1 rfl rfl)) rfl (fun w c => by exact c.drop) ?_
    refine fl_many 3 [⟨4, _, _, _⟩, ⟨5, _, _, _⟩, ⟨6, _, _, _⟩] [4, 5, 6] [18, 19, 20] rfl tabs rfl rfl rfl rfl rfl rfl (by decide) rfl kr ⟨⟨⟨rfl, rfl, stf_call (ent_of Tryz.func177 kr rfl) rfl rfl (fun w c => l6Copy_ok (q := a.q) (c.rd h00) (c.rd h10) (by simp only [szQ]; omega))⟩, rfl, rfl⟩, ⟨⟨rfl, rfl, stf_b0 tabs rfl rfl⟩, rfl, rfl⟩, ⟨⟨rfl, rfl, stf_b0 tabs rfl rfl⟩, rfl, rfl⟩, trivial⟩ (fun w c => c.sub sL) ?_
    rintro _ _ ⟨aF, cF, aT, cT, rfl, hsF, hsT, rfl⟩ _ _ ⟨gd, hgd, rfl, rfl⟩ _ _ ⟨gm, hgm, rfl, rfl⟩
    refine seqF_nil ?_
    refine fl_take 7 rfl kr kr kr kr kr kr (by exact y_bld4 (bld_rp4 _ _ _ _ _ _ _ _ _ _ _ _ _ _) rfl rfl rfl rfl) rfl sS ?_
    refine fl_end rfl tabs rfl rfl rfl kr sS (fun bf hbf => ?_)
    refine h_only 9 rfl kr ?_
    (refine m_storeb 0 tabs rfl rfl rfl rfl rfl rfl rfl ?_)
    refine c_nil (x_one (h_keep sS ?_))
    refine h_end kr ?_
    repeat' (first | (show oL; first | refine sAs rfl rfl ?_) | refine xNt ?_ | (show oC; first | refine c_seq ?_ | refine c_region ?_ | refine c_block ?_) | (show AT _ _ _ _; refine x_then ?_))
    refine c_loopH (α := Nat × Option Addr × Nat) [2, 3, 4, 6] (fun s => [(7, .int .i64 s.1)]) (fun s => s.1 ≤ a.d.length) (fun s => [.own (iT (mkv s.1 (dsD a b))) (.slice s.2.1 s.1 s.2.2), .blk bf #[iV a.p, iV a.q.1, .slice aF a.q.2.1.length cF, .slice aT a.q.2.2.length cT, .slice s.2.1 s.1 s.2.2, .slice (some ⟨gm, 0, none⟩) 0 0] 60, .own (matsT 47 []) (.slice (some ⟨gm, 0, none⟩) 0 0), .own (iT a.q.2.2) (.slice aT a.q.2.2.length cT), .own (iT a.q.2.1) (.slice aF a.q.2.1.length cF), .blk b4 #[iV 0, iV 0, .slice none 0 0, .slice none 0 0, .slice none 0 0, .slice none 0 0] 60, .blk b3 #[iV b.p, iV b.q.1, v0, v1, .slice d2 b.d.length f2, .slice d3 b.m.length f3] 60, .blk b2 #[iV a.p, iV a.q.1, .slice a0 a.q.2.1.length c0, .slice a1 a.q.2.2.length c1, .slice a2 a.d.length c2, .slice a3 a.m.length c3] 60]) (fun s => a.d.length - s.1) (0, some ⟨gd, 0, none⟩, 0) rfl sB ?_ ?_ ?_
    · exact Nat.zero_le _
    · exact fun w' c' => c'.front (i := 2) rfl
    · rintro ⟨i, al, cl⟩ hi
      simp only at hi ⊢
      by_cases hin : i < a.d.length
      · have hib : i < b.d.length := by omega
        have d1 := hRa.dg i
        have d2' := hRb.dg i
        repeat' (first | (show oL; first | refine sMv rfl rfl ?_ | refine sFd tabs rfl rfl rfl rfl ?_ | refine sLd 7 tabs rfl rfl rfl rfl rfl ?_ | refine sLs rfl rfl rfl ?_ | refine sLn tabs rfl rfl rfl ?_) | refine xNt ?_ | (show oC; first | refine c_seq ?_ | refine c_region ?_ | refine c_skip (x_then ?_) | refine c_block ?_ | refine c_ift rfl aO ?_))
        refine c_mixR (Hp [] w [.blk bf #[iV a.p, iV a.q.1, .slice aF a.q.2.1.length cF, .slice aT a.q.2.2.length cT, .slice al i cl, .slice (some ⟨gm, 0, none⟩) 0 0] 60, .blk b3 #[iV b.p, iV b.q.1, v0, v1, .slice d2 b.d.length f2, .slice d3 b.m.length f3] 60, .blk b2 #[iV a.p, iV a.q.1, .slice a0 a.q.2.1.length c0, .slice a1 a.q.2.2.length c1, .slice a2 a.d.length c2, .slice a3 a.m.length c3] 60]) 15 kr kr kr kr kr (fun _ c => Hp.drew c) ?_
        refine h_take 0 rfl kr kr kr (by exact y_field tabs rfl rfl rfl) rfl sS ?_
        refine h_take 1 rfl kr kr kr (by exact y_load tabs rfl rfl (hc_blk 0 rfl rfl)) rfl sS ?_
        refine h_take 2 rfl kr kr kr (by exact y_field tabs rfl rfl rfl) rfl sS ?_
        refine h_take 3 rfl kr kr kr (by exact y_load tabs rfl rfl (hc_blk 2 rfl rfl)) rfl sS ?_
        refine h_take 4 rfl kr kr kr (by exact y_move rfl) rfl sS ?_
        refine h_take 5 rfl kr kr kr (by exact y_ix1 tabs (j := i) rfl rfl rfl hs2 rfl hin) rfl sS ?_
        refine h_take 6 rfl kr kr kr (by exact y_load tabs rfl rfl (hc_w0 (hg2 i hin))) rfl sS ?_
        refine h_take 7 rfl kr kr kr (by exact y_field tabs rfl rfl rfl) rfl sS ?_
        refine h_take 8 rfl kr kr kr (by exact y_load tabs rfl rfl (hc_blk 1 rfl rfl)) rfl sS ?_
        refine h_take 9 rfl kr kr kr (by exact y_move rfl) rfl sS ?_
        refine h_take 10 rfl kr kr kr (by exact y_ix1 tabs (j := i) rfl rfl rfl hk2 rfl hib) rfl sS ?_
        refine h_take 11 rfl kr kr kr (by exact y_load tabs rfl rfl (hc_w0 (hh2 i hib))) rfl sS ?_
        refine h_take 12 rfl kr kr kr (by exact y_add rfl rfl om) rfl sS ?_
        refine h_only 13 rfl kr ?_
        first | (refine m_build1 tabs (us := [iV (a.d.getD i 0 + b.d.getD i 0)]) rfl rfl rfl rfl (by decide) rfl (fun g5 hg5 => ?_)) | (refine m_pushn 0 tabs (k := a.d.getD i 0 + b.d.getD i 0) (m := i) rfl rfl rfl rfl rfl (by rw [mkv_length]) om (fun a6 c6 => ?_))
        refine c_nil (x_one (h_keep sS ?_))
        refine h_only 14 rfl kr ?_
        first | (refine m_build1 tabs (us := [iV (a.d.getD i 0 + b.d.getD i 0)]) rfl rfl rfl rfl (by decide) rfl (fun g5 hg5 => ?_)) | (refine m_pushn 0 tabs (k := a.d.getD i 0 + b.d.getD i 0) (m := i) rfl rfl rfl rfl rfl (by rw [mkv_length]) om (fun a6 c6 => ?_))
        refine c_nil (x_one (h_keep sS ?_))
        refine h_end kr ?_
        repeat' (first | (show oL; first | refine sMv rfl rfl ?_ | refine sAs rfl rfl ?_ | refine sFd tabs rfl rfl rfl rfl ?_ | refine sAd rfl rfl om rfl ?_ | (show oA (.store _ _ _); refine m_storef 1 tabs rfl rfl rfl rfl rfl rfl ?_)) | (show oN; first | refine c_nil (x_then ?_) | refine c_nil ?_) | (show oC; refine c_region ?_) | (show AT _ _ _ _; first | refine x_then ?_ | refine x_blk ?_))
        refine x_nx (i + 1, a6, c6) sB (by simp only; omega) (fun w' c' => ?_) (by simp only; omega)
        simp only [mkv_next]
        exact c'
      · have hie : i = a.d.length := by omega
        subst hie
        refine AT.fact (own_sl 0 rfl) (fun hsl => ?_)
        obtain ⟨a6, c6, e6, hsd⟩ := hsl
        rw [mkv_length] at e6 hsd
        cases e6
        repeat' (first | (show oL; first | refine sMv rfl rfl ?_ | refine sAs rfl rfl ?_ | refine sFd tabs rfl rfl rfl rfl ?_ | refine sLd 7 tabs rfl rfl rfl rfl rfl ?_ | refine sLs rfl rfl rfl ?_ | refine sLn tabs rfl rfl rfl ?_) | refine xNt ?_ | (show oC; first | refine c_seq ?_ | refine c_region ?_ | refine c_block ?_ | refine c_exit ?_ | refine c_iff rfl nN ?_) | (show AT _ _ _ _; first | refine x_then ?_ | refine x_then_exit ?_ | refine x_blk_exit rfl ?_))
        refine c_loopH (α := Nat × Option Addr × Nat) [2, 3, 4, 6] (fun s => [(8, .int .i64 s.1)]) (fun s => s.1 ≤ a.m.length) (fun s => [.own (matsT 47 (tabM (dsM a b) s.1)) (.slice s.2.1 s.1 s.2.2), .own (iT (mkv a.d.length (dsD a b))) (.slice al a.d.length cl), .blk bf #[iV a.p, iV a.q.1, .slice aF a.q.2.1.length cF, .slice aT a.q.2.2.length cT, .slice al a.d.length cl, .slice s.2.1 s.1 s.2.2] 60, .own (iT a.q.2.2) (.slice aT a.q.2.2.length cT), .own (iT a.q.2.1) (.slice aF a.q.2.1.length cF), .blk b4 #[iV 0, iV 0, .slice none 0 0, .slice none 0 0, .slice none 0 0, .slice none 0 0] 60, .blk b3 #[iV b.p, iV b.q.1, v0, v1, .slice d2 b.d.length f2, .slice d3 b.m.length f3] 60, .blk b2 #[iV a.p, iV a.q.1, .slice a0 a.q.2.1.length c0, .slice a1 a.q.2.2.length c1, .slice a2 a.d.length c2, .slice a3 a.m.length c3] 60]) (fun s => a.m.length - s.1) (0, some ⟨gm, 0, none⟩, 0) rfl sB ?_ ?_ ?_
        · exact Nat.zero_le _
        · exact fun w' c' => c'.front (i := 2) rfl
        · rintro ⟨i, am, cm⟩ hi
          simp only at hi ⊢
          by_cases hin : i < a.m.length
          · obtain ⟨R, C, S, D, A, B, hA1, hB1, hR, hC, hS, hD, A1, A2, A3, B1, B2, B3, hz⟩ := dsM_at hF hin
            obtain ⟨aA, cA, A5, A6, A7, A8⟩ := hg3 i A hA1
            obtain ⟨aB, cB, B5, B6, B7, B8⟩ := hh3 i B hB1
            rw [A1] at A5; rw [A2] at A6; rw [A3] at A7 A8; rw [mk_length] at A7 A8
            rw [B1] at B5; rw [B2] at B6; rw [B3] at B7 B8; rw [mk_length] at B7 B8
            have hbm : i < b.m.length := by omega
            repeat' (first | (show oL; first | refine sMv rfl rfl ?_ | refine sFd tabs rfl rfl rfl rfl ?_ | refine sLd 7 tabs rfl rfl rfl rfl rfl ?_ | refine sLs rfl rfl rfl ?_ | refine sLn tabs rfl rfl rfl ?_) | refine xNt ?_ | (show oC; first | refine c_seq ?_ | refine c_region ?_ | refine c_skip (x_then ?_) | refine c_block ?_ | refine c_ift rfl aO ?_))
            refine c_mixR (Hp [] w [.blk bf #[iV a.p, iV a.q.1, .slice aF a.q.2.1.length cF, .slice aT a.q.2.2.length cT, .slice al a.d.length cl, .slice am i cm] 60, .blk b3 #[iV b.p, iV b.q.1, v0, v1, .slice d2 b.d.length f2, .slice d3 b.m.length f3] 60, .blk b2 #[iV a.p, iV a.q.1, .slice a0 a.q.2.1.length c0, .slice a1 a.q.2.2.length c1, .slice a2 a.d.length c2, .slice a3 a.m.length c3] 60]) 15 kr kr kr kr kr (fun _ c => Hp.drew c) ?_
            refine h_take 0 rfl kr kr kr (by exact y_field tabs rfl rfl rfl) rfl sS ?_
            refine h_take 1 rfl kr kr kr (by exact y_load tabs rfl rfl (hc_blk 0 rfl rfl)) rfl sS ?_
            refine h_take 2 rfl kr kr kr (by exact y_field tabs rfl rfl rfl) rfl sS ?_
            refine h_take 3 rfl kr kr kr (by exact y_load tabs rfl rfl (hc_blk 2 rfl rfl)) rfl sS ?_
            refine h_take 4 rfl kr kr kr (by exact y_move rfl) rfl sS ?_
            refine h_take 5 rfl kr kr kr (by exact y_ixa tabs rfl rfl rfl hs3 om om) rfl sS ?_
            refine h_take 6 rfl kr kr kr (by exact y_load3 tabs rfl rfl (hc_w0 A5) (hc_w0 A6) (hc_w0 A7)) rfl sS ?_
            refine h_take 7 rfl kr kr kr (by exact y_field tabs rfl rfl rfl) rfl sS ?_
            refine h_take 8 rfl kr kr kr (by exact y_load tabs rfl rfl (hc_blk 1 rfl rfl)) rfl sS ?_
            refine h_take 9 rfl kr kr kr (by exact y_move rfl) rfl sS ?_
            refine h_take 10 rfl kr kr kr (by exact y_ixa tabs rfl rfl rfl hk3 om om) rfl sS ?_
            refine h_take 11 rfl kr kr kr (by exact y_load3 tabs rfl rfl (hc_w0 B5) (hc_w0 B6) (hc_w0 B7)) rfl sS ?_
            refine h_only 12 rfl kr ?_
            first | (refine m_build1 tabs (us := [iV ((R + S : Nat) : Int), iV ((C + D : Nat) : Int), .slice ab1 ((R + S) * (C + D)) cb1]) rfl rfl rfl rfl (by decide) rfl (fun g5 hg5 => ?_)) | (refine m_call (ent_of Tryz.func178 kr rfl) rfl rfl (fun w c => l3Block_ok (c.rd A8) (c.rd B8) hR hS hC hD) ?_; rintro v H' ⟨ab1, cb1, rfl, hsb1, rfl⟩) | (refine m_push1 [iV ((R + S : Nat) : Int), iV ((C + D : Nat) : Int)] 0 0 tabs (m' := i) rfl rfl rfl rfl rfl rfl rfl (by rw [flatMap_length matT_length, tabM_length]) (by rw [flatMap_length matT_length, tabM_length]; omega) (by decide) rfl rfl (fun a10 c10 => ?_))
            refine c_nil (x_one (h_keep sS ?_))
            refine h_only 13 rfl kr ?_
            first | (refine m_build1 tabs (us := [iV ((R + S : Nat) : Int), iV ((C + D : Nat) : Int), .slice ab1 ((R + S) * (C + D)) cb1]) rfl rfl rfl rfl (by decide) rfl (fun g5 hg5 => ?_)) | (refine m_call (ent_of Tryz.func178 kr rfl) rfl rfl (fun w c => l3Block_ok (c.rd A8) (c.rd B8) hR hS hC hD) ?_; rintro v H' ⟨ab1, cb1, rfl, hsb1, rfl⟩) | (refine m_push1 [iV ((R + S : Nat) : Int), iV ((C + D : Nat) : Int)] 0 0 tabs (m' := i) rfl rfl rfl rfl rfl rfl rfl (by rw [flatMap_length matT_length, tabM_length]) (by rw [flatMap_length matT_length, tabM_length]; omega) (by decide) rfl rfl (fun a10 c10 => ?_))
            refine c_nil (x_one (h_keep sS ?_))
            refine h_only 14 rfl kr ?_
            first | (refine m_build1 tabs (us := [iV ((R + S : Nat) : Int), iV ((C + D : Nat) : Int), .slice ab1 ((R + S) * (C + D)) cb1]) rfl rfl rfl rfl (by decide) rfl (fun g5 hg5 => ?_)) | (refine m_call (ent_of Tryz.func178 kr rfl) rfl rfl (fun w c => l3Block_ok (c.rd A8) (c.rd B8) hR hS hC hD) ?_; rintro v H' ⟨ab1, cb1, rfl, hsb1, rfl⟩) | (refine m_push1 [iV ((R + S : Nat) : Int), iV ((C + D : Nat) : Int)] 0 0 tabs (m' := i) rfl rfl rfl rfl rfl rfl rfl (by rw [flatMap_length matT_length, tabM_length]) (by rw [flatMap_length matT_length, tabM_length]; omega) (by decide) rfl rfl (fun a10 c10 => ?_))
            refine c_nil (x_one (h_keep sS ?_))
            refine h_end kr ?_
            repeat' (first | (show oL; first | refine sMv rfl rfl ?_ | refine sAs rfl rfl ?_ | refine sFd tabs rfl rfl rfl rfl ?_ | refine sAd rfl rfl om rfl ?_ | (show oA (.store _ _ _); refine m_storef 2 tabs rfl rfl rfl rfl rfl rfl ?_)) | (show oN; first | refine c_nil (x_then ?_) | refine c_nil ?_) | (show oC; refine c_region ?_) | (show AT _ _ _ _; first | refine x_then ?_ | refine x_blk ?_))
            refine x_nx (i + 1, a10, c10) sB (by simp only; omega) (fun w' c' => ?_) (by simp only; omega)
            rw [tabM_next hz] at c'
            exact c'
          · have hie : i = a.m.length := by omega
            subst hie
            refine AT.fact (mats_sl 0 rfl) (fun hsl => ?_)
            rw [tabM_length] at hsl
            repeat' (first | (show oL; first | refine sMv rfl rfl ?_ | refine sAs rfl rfl ?_ | refine sFd tabs rfl rfl rfl rfl ?_ | (show oA (.load _ _); first | refine sLd 7 tabs rfl rfl rfl rfl rfl ?_ | refine sLb 2 tabs rfl rfl rfl rfl rfl ?_) | refine sLs rfl rfl rfl ?_ | (show oA (.unOp _ _ _); refine st_y (y_notd rfl) rfl ?_) | (show oA (.call _); first | (refine m_call (ent_of Tryz.func148 kr rfl) rfl rfl (fun w c => spec_IsRep_ok (r := dsR a b) (c.own_rd (i := 4) rfl) (c.own_rd (i := 3) rfl) (c.own_rd (i := 1) rfl) (c.own_rd (i := 0) rfl)) ?_; rintro v H' ⟨rfl, rfl⟩) | refine sLn tabs rfl rfl rfl ?_) | (show oA (.store _ _ _); refine m_storeb 5 tabs rfl rfl rfl rfl rfl rfl rfl ?_) | (show oA (.build _ _); refine st_y (y_bld0 bld_rp0) rfl ?_)) | refine xNt ?_ | (show oC; first | refine c_seq ?_ | refine c_region ?_ | refine c_skip (x_then ?_) | refine c_ret ?_ | refine c_exit ?_ | refine c_iff rfl nN ?_ | refine c_ifnd rfl (fun h => ?_) (fun h => ?_)) | (show AT _ _ _ _; first | refine x_then ?_ | refine x_then_ret ?_ | refine x_then_exit ?_ | refine x_blk_exit rfl ?_))
            · have hno : ¬ DsP a b := fun h => absurd h.2 aS
              rw [dsL, if_neg hno, decide_eq_false hno]
              exact x_ret2 Tryz.results66 (res_cellb 5 tabs rfl rfl rfl rfl) (res_tmp rfl) (fun w' c' => ⟨_, _, rfl, ⟨none, 0, none, 0, none, 0, none, 0, rfl, .inl rfl, .inl rfl, .inl rfl, .inl rfl, rfl⟩, Hp.nilp _ _ (Hp.nilp _ _ (Hp.nilp _ _ (Hp.nilp _ _ (c'.sub (List.nil_sublist _)))))⟩)
            · have hyes : DsP a b := ⟨hF, by first | assumption | exact Decidable.not_not.1 aS⟩
              rw [dsL, if_pos hyes, decide_eq_true hyes]
              exact x_ret2 Tryz.results66 (res_cellb 5 tabs rfl rfl rfl rfl) (res_tmp rfl) (fun w' c' => ⟨_, [.own (matsT 47 (tabM (dsM a b) a.m.length)) (.slice am a.m.length cm), .own (iT (mkv a.d.length (dsD a b))) (.slice al a.d.length cl), .own (iT a.q.2.2) (.slice aT a.q.2.2.length cT), .own (iT a.q.2.1) (.slice aF a.q.2.1.length cF)], rfl, ⟨aF, cF, aT, cT, al, cl, am, cm, by simp only [dsR, mkv_length, tabM_length], hsF, hsT, by simpa only [dsR, mkv_length] using hsd, by simpa only [dsR, tabM_length] using hsl, by simp only [dsR, mkv_length, tabM_length]⟩, c'.sub sL⟩)
  · have hno : ¬ DsP a b := fun h => hF h.1
    rw [dsL, if_neg hno, decide_eq_false hno]
    refine fn_enter Tryz.func66 rfl Tryz.ntmps66 rfl ?_
    repeat' (first | (show oL; first | refine sAs rfl rfl ?_ | (show oA (.load _ _); first | refine sLb 1 tabs rfl rfl rfl rfl rfl ?_ | refine sLb 2 tabs rfl rfl rfl rfl rfl ?_) | (show oA (.unOp _ _ _); refine st_y (y_notd rfl) rfl ?_) | (show oA (.call _); (refine m_call (ent_of Tryz.func165 kr rfl) rfl rfl (fun w c => l9Fit_ok (a := a) (b := b) (c.rd h0) (c.rd h1) (c.rd h2) (c.rd h3) (c.rd k0) (c.rd k1) (c.rd k2) (c.rd k3)) ?_; rintro v H' ⟨rfl, rfl⟩)) | (show oA (.store _ _ _); refine m_storeb 0 tabs rfl rfl rfl rfl rfl rfl rfl ?_) | (show oA (.box _ _); refine m_box rfl rfl (fun b1 hb1 => ?_)) | (show oA (.alloc _); refine m_alloc tabs rfl rfl (fun b6 hb6 => ?_)) | (show oA (.build _ _); refine st_y (y_bld0 bld_rp0) rfl ?_)) | refine xNt ?_ | (show oC; first | refine c_seq ?_ | refine c_region ?_ | refine c_ret ?_ | refine c_ift rfl aO ?_) | (show AT _ _ _ _; refine x_then_ret ?_))
    all_goals first | exact absurd (by first | assumption | exact Decidable.not_not.1 aS) hF | skip
    exact x_ret2 Tryz.results66 (res_cellb 0 tabs rfl rfl rfl rfl) (res_tmp rfl) (fun w' c' => ⟨_, _, rfl, ⟨none, 0, none, 0, none, 0, none, 0, rfl, .inl rfl, .inl rfl, .inl rfl, .inl rfl, rfl⟩, Hp.nilp _ _ (Hp.nilp _ _ (Hp.nilp _ _ (Hp.nilp _ _ (c'.sub (List.nil_sublist _)))))⟩)
end Go.Proofs.YtijjkfbkihgfgaaGreat
