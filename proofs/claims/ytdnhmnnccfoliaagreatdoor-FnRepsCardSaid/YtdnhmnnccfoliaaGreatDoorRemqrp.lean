import Derived.Test.YtdnhmnnccfoliaaGreatDoorAlgqrp
import Derived.Test.YtdnhmnnccfoliaaGreatDoorAloqrp
import Derived.Test.YtdnhmnnccfoliaaGreatDoorDuaqrp
import Derived.Test.YtdnhmnnccfoliaaGreatDoorPmpqrp
import Derived.Test.YtdnhmnnccfoliaaGreatDoorPrsqrp
import Derived.Test.YtdnhmnnccfoliaaGreatDoorRksqrp
namespace Go.Proofs.YtdnhmnnccfoliaaGreatDoor
open Go.Lg Go.Proofs Go.RowKit
attribute [local irreducible] Code.wp wpList bodyPost Exit.then Exit.inBlock Hp Again Calls Y AT ResV QT Qn QI wpAny wpAnyQ
set_option maxRecDepth 20000
set_option maxHeartbeats 4000000

theorem spec_DualRep_yes {w : World} {r : Rp} {e : Nat} {u0 u1 u2 u3 : Value} (h0 : Rd w (iT r.q.2.1) u0) (h1 : Rd w (iT r.q.2.2) u1) (h2 : Rd w (iT r.d) u2) (h3 : Rd w (matsT e r.m) u3) (hR : RepP r) :
    Does Tryz.prog 60 [.agg #[iV r.p, iV r.q.1, u0, u1, u2, u3]] w (GivesRB (dualR r) true) := by
  have hQ := hR.2.1.1
  have hdd := (RepP.dd hR).2
  have hml := hR.ml
  rw [dualR, if_pos hR]
  obtain ⟨p, ⟨n, F, T⟩, d, ms⟩ := r
  simp only [opQ] at h0 h1 h2 h3 hQ hdd hml ⊢
  obtain ⟨a0, c0, rfl, hs0, _⟩ := h0.ints
  obtain ⟨a1, c1, rfl, hs1, _⟩ := h1.ints
  obtain ⟨a2, c2, rfl, hs2, _⟩ := h2.ints
  obtain ⟨a3, c3, rfl, hs3, _, _, hg3⟩ := rd_mats h3
  refine fn_enter Tryz.func60 rfl Tryz.ntmps60 rfl ?_
  repeat' (first | (show oL; first | refine sMv rfl rfl ?_ | refine sAs rfl rfl ?_ | refine sFd tabs rfl rfl rfl rfl ?_ | (show oA (.load _ _); first | refine st_y (y_load3 tabs rfl rfl (hc_blk 1 rfl rfl) (hc_blk 1 rfl rfl) (hc_blk 1 rfl rfl)) rfl ?_ | refine sLb 1 tabs rfl rfl rfl rfl rfl ?_) | (show oA (.unOp _ _ _); refine st_y (y_notd rfl) rfl ?_) | (show oA (.call _); first | (refine m_call (ent_of Tryz.func53 kr rfl) rfl rfl (fun w c => spec_IsRep_ok (r := ⟨p, (n, F, T), d, ms⟩) (c.rd h0) (c.rd h1) (c.rd h2) (c.rd h3)) ?_; rintro v H' ⟨rfl, rfl⟩) | (refine m_call (ent_of Tryz.func139 kr rfl) rfl rfl (fun w c => spec_OppositeOf_yes (q := (n, F, T)) (c.rd h0) (c.rd h1) hQ) ?_; rintro v H' ⟨aT, cT, aF, cF, rfl, hsT, hsF, rfl⟩)) | (show oA (.extract _ _); refine st_y (y_ext rfl rfl) rfl ?_) | (show oA (.store _ _ _); refine m_storeb 0 tabs rfl rfl rfl rfl rfl rfl rfl ?_) | (show oA (.box _ _); refine m_box rfl rfl (fun b1 hb1 => ?_)) | (show oA (.alloc _); refine m_alloc tabs rfl rfl (fun b4 hb4 => ?_))) | refine xNt ?_ | (show oC; first | refine c_seq ?_ | refine c_region ?_ | refine c_skip (x_then ?_) | refine c_iff rfl nN ?_))
  all_goals first | exact absurd hR aS | skip
  simp only [opQ] at hsT hsF ⊢
  rename_i b2 hb2
  refine c_all (Hp [] w [.blk b4 #[iV n, .slice aT T.length cT, .slice aF F.length cF] 26, .blk b1 #[iV p, iV n, .slice a0 F.length c0, .slice a1 T.length c1, .slice a2 d.length c2, .slice a3 ms.length c3] 29]) kr (fun _ c => Hp.drew c) ?_
  refine fl_begin 9 rfl tabs rfl rfl ?_
  refine fl_take 0 rfl kr kr kr kr kr kr (by exact y_field tabs rfl rfl rfl) rfl sS ?_
  refine fl_take 1 rfl kr kr kr kr kr kr (by exact y_load tabs rfl rfl (hc_blk 1 rfl rfl)) rfl sS ?_
  refine fl_take 2 rfl kr kr kr kr kr kr (by first | exact y_loadb 0 tabs rfl rfl rfl rfl | exact y_loadb 0 tabs rfl rfl rfl rfl) rfl sS ?_
  refine fl_take 4 rfl kr kr kr kr kr kr (by exact y_field tabs rfl rfl rfl) rfl sS ?_
  refine fl_take 5 rfl kr kr kr kr kr kr (by exact y_load tabs rfl rfl (hc_blk 1 rfl rfl)) rfl sS ?_
  refine fl_two 3 7 rfl rfl rfl rfl rfl tabs rfl rfl rfl kr kr kr (by exact stp_b0 tabs rfl rfl) (by exact stp_b0 tabs rfl rfl) (fun w c => c.sub sL) (by rintro v H1 ⟨g, hg, rfl, rfl⟩ w c; exact c.sub sL) (by rintro v H1 ⟨g, hg, rfl, rfl⟩ w c; exact c.sub sL) ?_ ?_
  · rintro v H1 ⟨gd, hgd, rfl, rfl⟩
    refine fl_two 6 7 rfl rfl rfl rfl rfl tabs rfl rfl rfl kr kr kr (by exact stp_dup 0 tabs (ys := d) rfl rfl rfl rfl rfl om (fun w c => c.rd h2)) (by exact stp_b0 tabs rfl rfl) (fun w c => c.sub sL) (by rintro v H1 ⟨a, cc, hsa, rfl, rfl⟩ w c; exact c.sub sL) (by rintro v H1 ⟨g, hg, rfl, rfl⟩ w c; exact c.sub sL) ?_ ?_
    · rintro v H1 ⟨ad, cd, hsd, rfl, rfl⟩
      refine fl_step 7 rfl rfl rfl tabs rfl rfl rfl kr kr kr (by exact stp_b0 tabs rfl rfl) (fun w c => c.sub sL) (by rintro v H1 ⟨g, hg, rfl, rfl⟩ w c; exact c.sub sL) ?_
      rintro v H1 ⟨gm, hgm, rfl, rfl⟩
      refine fl_take 8 rfl kr kr kr kr kr kr (by exact y_bld4 (bld_rp4 _ _ _ _ _ _ _ _ _ _ _ _ _ _) rfl rfl rfl rfl) rfl sS ?_
      refine fl_end rfl tabs rfl rfl rfl kr sS (fun bf hbf => ?_)
      refine h_only 10 rfl kr ?_
      (refine m_storeb 0 tabs rfl rfl rfl rfl rfl rfl rfl ?_)
      refine c_nil (x_one (h_keep sS ?_))
      refine h_end kr ?_
      repeat' (first | (show oL; first | refine sAs rfl rfl ?_) | refine xNt ?_ | (show oC; first | refine c_seq ?_ | refine c_region ?_ | refine c_block ?_) | (show AT _ _ _ _; refine x_then ?_))
      refine c_loopH (α := Nat × Option Addr × Nat) [1, 2, 6] (fun s => [(7, .int .i64 s.1)]) (fun s => s.1 ≤ ms.length) (fun s => [.own (matsT 41 (trN ms s.1)) (.slice s.2.1 s.1 s.2.2), .blk bf #[iV p, iV n, .slice aT T.length cT, .slice aF F.length cF, .slice ad d.length cd, .slice s.2.1 s.1 s.2.2] 29, .own (iT d) (.slice ad d.length cd), .blk b4 #[iV n, .slice aT T.length cT, .slice aF F.length cF] 26, .own (iT F) (.slice aF F.length cF), .own (iT T) (.slice aT T.length cT), .blk b2 #[iV 0, iV 0, .slice none 0 0, .slice none 0 0, .slice none 0 0, .slice none 0 0] 29, .blk b1 #[iV p, iV n, .slice a0 F.length c0, .slice a1 T.length c1, .slice a2 d.length c2, .slice a3 ms.length c3] 29]) (fun s => ms.length - s.1) (0, some ⟨gm, 0, none⟩, 0) rfl sB ?_ ?_ ?_
      · exact Nat.zero_le _
      · exact fun w' c' => c'.front (i := 1) rfl
      · rintro ⟨i, am, cm⟩ hi
        simp only at hi ⊢
        by_cases hin : i < ms.length
        · obtain ⟨m, hm⟩ : ∃ m, ms[i]? = some m := ⟨_, List.getElem?_eq_getElem hin⟩
          obtain ⟨a4, c4, g1, g2, g3, g4⟩ := hg3 i m hm
          have hmd : ms.getD i mat0 = m := by simp [List.getD, hm]
          have hM : MatP p m := by have := (hR.2.2.2 i hin).1; rwa [hmd] at this
          obtain ⟨R, C, e1, e2, hR8, hC8, e3, _⟩ := matP_cells hM
          rw [e1] at g1; rw [e2] at g2; rw [e3] at g3 g4; rw [mk_length] at g3 g4
          repeat' (first | (show oL; first | refine sMv rfl rfl ?_ | refine sFd tabs rfl rfl rfl rfl ?_ | refine sLd 7 tabs rfl rfl rfl rfl rfl ?_ | refine sLs rfl rfl rfl ?_ | refine sLn tabs rfl rfl rfl ?_) | refine xNt ?_ | (show oC; first | refine c_seq ?_ | refine c_region ?_ | refine c_skip (x_then ?_) | refine c_block ?_ | refine c_ift rfl aO ?_))
          refine c_mixR (Hp [] w [.blk bf #[iV p, iV n, .slice aT T.length cT, .slice aF F.length cF, .slice ad d.length cd, .slice am i cm] 29, .blk b1 #[iV p, iV n, .slice a0 F.length c0, .slice a1 T.length c1, .slice a2 d.length c2, .slice a3 ms.length c3] 29]) 10 kr kr kr kr kr (fun _ c => Hp.drew c) ?_
          refine h_take 0 rfl kr kr kr (by exact y_field tabs rfl rfl rfl) rfl sS ?_
          refine h_take 1 rfl kr kr kr (by exact y_load tabs rfl rfl (hc_blk 0 rfl rfl)) rfl sS ?_
          refine h_take 2 rfl kr kr kr (by exact y_field tabs rfl rfl rfl) rfl sS ?_
          refine h_take 3 rfl kr kr kr (by exact y_load tabs rfl rfl (hc_blk 1 rfl rfl)) rfl sS ?_
          refine h_take 4 rfl kr kr kr (by exact y_move rfl) rfl sS ?_
          refine h_take 5 rfl kr kr kr (by exact y_ixa tabs rfl rfl rfl hs3 om om) rfl sS ?_
          refine h_take 6 rfl kr kr kr (by exact y_load3 tabs rfl rfl (hc_w0 g1) (hc_w0 g2) (hc_w0 g3)) rfl sS ?_
          refine h_only 7 rfl kr ?_
          first | (refine m_build1 tabs (us := [iV C, iV R, .slice a6 (C * R) c6]) rfl rfl rfl rfl (by decide) rfl (fun g7 hg7 => ?_)) | (refine m_call (ent_of Tryz.func140 kr rfl) rfl rfl (fun w c => l3Transpose_ok (c.rd g4) om om) ?_; rintro v H' ⟨a6, c6, rfl, hs6, rfl⟩) | (refine m_push1 [iV C, iV R] 0 0 tabs (m' := i) rfl rfl rfl rfl rfl rfl rfl (by rw [flatMap_length matT_length, trN_len]) (by rw [flatMap_length matT_length, trN_len]; omega) (by decide) rfl rfl (fun a9 c9 => ?_))
          refine c_nil (x_one (h_keep sS ?_))
          refine h_only 8 rfl kr ?_
          first | (refine m_build1 tabs (us := [iV C, iV R, .slice a6 (C * R) c6]) rfl rfl rfl rfl (by decide) rfl (fun g7 hg7 => ?_)) | (refine m_call (ent_of Tryz.func140 kr rfl) rfl rfl (fun w c => l3Transpose_ok (c.rd g4) om om) ?_; rintro v H' ⟨a6, c6, rfl, hs6, rfl⟩) | (refine m_push1 [iV C, iV R] 0 0 tabs (m' := i) rfl rfl rfl rfl rfl rfl rfl (by rw [flatMap_length matT_length, trN_len]) (by rw [flatMap_length matT_length, trN_len]; omega) (by decide) rfl rfl (fun a9 c9 => ?_))
          refine c_nil (x_one (h_keep sS ?_))
          refine h_only 9 rfl kr ?_
          first | (refine m_build1 tabs (us := [iV C, iV R, .slice a6 (C * R) c6]) rfl rfl rfl rfl (by decide) rfl (fun g7 hg7 => ?_)) | (refine m_call (ent_of Tryz.func140 kr rfl) rfl rfl (fun w c => l3Transpose_ok (c.rd g4) om om) ?_; rintro v H' ⟨a6, c6, rfl, hs6, rfl⟩) | (refine m_push1 [iV C, iV R] 0 0 tabs (m' := i) rfl rfl rfl rfl rfl rfl rfl (by rw [flatMap_length matT_length, trN_len]) (by rw [flatMap_length matT_length, trN_len]; omega) (by decide) rfl rfl (fun a9 c9 => ?_))
          refine c_nil (x_one (h_keep sS ?_))
          refine h_end kr ?_
          repeat' (first | (show oL; first | refine sMv rfl rfl ?_ | refine sAs rfl rfl ?_ | refine sFd tabs rfl rfl rfl rfl ?_ | refine sAd rfl rfl om rfl ?_ | (show oA (.store _ _ _); refine m_storef 1 tabs rfl rfl rfl rfl rfl rfl ?_)) | (show oN; first | refine c_nil (x_then ?_) | refine c_nil ?_) | (show oC; refine c_region ?_) | (show AT _ _ _ _; first | refine x_then ?_ | refine x_blk ?_))
          refine x_nx (i + 1, a9, c9) sB (by simp only; omega) (fun w' c' => ?_) (by simp only; omega)
          have e0 : (trN ms i).flatMap matT ++ (List.map Go.Lg.T.c [iV C, iV R] ++ [iT (mk C R (trF (matF m)))]) = (trN ms (i + 1)).flatMap matT := by
            rw [trN, List.flatMap_append, hmd, trM_of e1 e2]; rfl
          rw [e0] at c'
          exact c'
        · have : i = ms.length := by omega
          subst this
          refine AT.fact (mats_sl 0 rfl) (fun hsl => ?_)
          rw [trN_len] at hsl
          repeat' (first | (show oL; first | refine sMv rfl rfl ?_ | refine sAs rfl rfl ?_ | refine sFd tabs rfl rfl rfl rfl ?_ | (show oA (.load _ _); first | refine sLd 7 tabs rfl rfl rfl rfl rfl ?_ | refine sLb 1 tabs rfl rfl rfl rfl rfl ?_) | refine sLs rfl rfl rfl ?_ | refine sLn tabs rfl rfl rfl ?_ | (show oA (.store _ _ _); refine m_storeb 6 tabs rfl rfl rfl rfl rfl rfl rfl ?_)) | refine xNt ?_ | (show oC; first | refine c_seq ?_ | refine c_region ?_ | refine c_ret ?_ | refine c_exit ?_ | refine c_iff rfl nN ?_) | (show AT _ _ _ _; first | refine x_then ?_ | refine x_then_exit ?_ | refine x_blk_exit rfl ?_))
          exact x_ret2 Tryz.results60 (res_cellb 6 tabs rfl rfl rfl rfl) (res_tmp rfl) (fun w' c' => ⟨_, _, rfl, ⟨aT, cT, aF, cF, ad, cd, am, cm, by simp only [trN_len], hsT, hsF, hsd, by simpa only [trN_len] using hsl, by simp only [trN_len]⟩, (c'.sub (H' := [.own (matsT 41 (trN ms ms.length)) (.slice am ms.length cm), .own (iT d) (.slice ad d.length cd), .own (iT F) (.slice aF F.length cF), .own (iT T) (.slice aT T.length cT)]) sL)⟩)
    · rintro v H1 ⟨gm, hgm, rfl, rfl⟩
      refine fl_step 6 rfl rfl rfl tabs rfl rfl rfl kr kr kr (by exact stp_dup 1 tabs (ys := d) rfl rfl rfl rfl rfl om (fun w c => c.rd h2)) (fun w c => c.sub sL) (by rintro v H1 ⟨a, cc, hsa, rfl, rfl⟩ w c; exact c.sub sL) ?_
      rintro v H1 ⟨ad, cd, hsd, rfl, rfl⟩
      refine fl_take 8 rfl kr kr kr kr kr kr (by exact y_bld4 (bld_rp4 _ _ _ _ _ _ _ _ _ _ _ _ _ _) rfl rfl rfl rfl) rfl sS ?_
      refine fl_end rfl tabs rfl rfl rfl kr sS (fun bf hbf => ?_)
      refine h_only 10 rfl kr ?_
      (refine m_storeb 0 tabs rfl rfl rfl rfl rfl rfl rfl ?_)
      refine c_nil (x_one (h_keep sS ?_))
      refine h_end kr ?_
      repeat' (first | (show oL; first | refine sAs rfl rfl ?_) | refine xNt ?_ | (show oC; first | refine c_seq ?_ | refine c_region ?_ | refine c_block ?_) | (show AT _ _ _ _; refine x_then ?_))
      refine c_loopH (α := Nat × Option Addr × Nat) [1, 2, 6] (fun s => [(7, .int .i64 s.1)]) (fun s => s.1 ≤ ms.length) (fun s => [.own (matsT 41 (trN ms s.1)) (.slice s.2.1 s.1 s.2.2), .blk bf #[iV p, iV n, .slice aT T.length cT, .slice aF F.length cF, .slice ad d.length cd, .slice s.2.1 s.1 s.2.2] 29, .own (iT d) (.slice ad d.length cd), .blk b4 #[iV n, .slice aT T.length cT, .slice aF F.length cF] 26, .own (iT F) (.slice aF F.length cF), .own (iT T) (.slice aT T.length cT), .blk b2 #[iV 0, iV 0, .slice none 0 0, .slice none 0 0, .slice none 0 0, .slice none 0 0] 29, .blk b1 #[iV p, iV n, .slice a0 F.length c0, .slice a1 T.length c1, .slice a2 d.length c2, .slice a3 ms.length c3] 29]) (fun s => ms.length - s.1) (0, some ⟨gm, 0, none⟩, 0) rfl sB ?_ ?_ ?_
      · exact Nat.zero_le _
      · exact fun w' c' => c'.front (i := 2) rfl
      · rintro ⟨i, am, cm⟩ hi
        simp only at hi ⊢
        by_cases hin : i < ms.length
        · obtain ⟨m, hm⟩ : ∃ m, ms[i]? = some m := ⟨_, List.getElem?_eq_getElem hin⟩
          obtain ⟨a4, c4, g1, g2, g3, g4⟩ := hg3 i m hm
          have hmd : ms.getD i mat0 = m := by simp [List.getD, hm]
          have hM : MatP p m := by have := (hR.2.2.2 i hin).1; rwa [hmd] at this
          obtain ⟨R, C, e1, e2, hR8, hC8, e3, _⟩ := matP_cells hM
          rw [e1] at g1; rw [e2] at g2; rw [e3] at g3 g4; rw [mk_length] at g3 g4
          repeat' (first | (show oL; first | refine sMv rfl rfl ?_ | refine sFd tabs rfl rfl rfl rfl ?_ | refine sLd 7 tabs rfl rfl rfl rfl rfl ?_ | refine sLs rfl rfl rfl ?_ | refine sLn tabs rfl rfl rfl ?_) | refine xNt ?_ | (show oC; first | refine c_seq ?_ | refine c_region ?_ | refine c_skip (x_then ?_) | refine c_block ?_ | refine c_ift rfl aO ?_))
          refine c_mixR (Hp [] w [.blk bf #[iV p, iV n, .slice aT T.length cT, .slice aF F.length cF, .slice ad d.length cd, .slice am i cm] 29, .blk b1 #[iV p, iV n, .slice a0 F.length c0, .slice a1 T.length c1, .slice a2 d.length c2, .slice a3 ms.length c3] 29]) 10 kr kr kr kr kr (fun _ c => Hp.drew c) ?_
          refine h_take 0 rfl kr kr kr (by exact y_field tabs rfl rfl rfl) rfl sS ?_
          refine h_take 1 rfl kr kr kr (by exact y_load tabs rfl rfl (hc_blk 0 rfl rfl)) rfl sS ?_
          refine h_take 2 rfl kr kr kr (by exact y_field tabs rfl rfl rfl) rfl sS ?_
          refine h_take 3 rfl kr kr kr (by exact y_load tabs rfl rfl (hc_blk 1 rfl rfl)) rfl sS ?_
          refine h_take 4 rfl kr kr kr (by exact y_move rfl) rfl sS ?_
          refine h_take 5 rfl kr kr kr (by exact y_ixa tabs rfl rfl rfl hs3 om om) rfl sS ?_
          refine h_take 6 rfl kr kr kr (by exact y_load3 tabs rfl rfl (hc_w0 g1) (hc_w0 g2) (hc_w0 g3)) rfl sS ?_
          refine h_only 7 rfl kr ?_
          first | (refine m_build1 tabs (us := [iV C, iV R, .slice a6 (C * R) c6]) rfl rfl rfl rfl (by decide) rfl (fun g7 hg7 => ?_)) | (refine m_call (ent_of Tryz.func140 kr rfl) rfl rfl (fun w c => l3Transpose_ok (c.rd g4) om om) ?_; rintro v H' ⟨a6, c6, rfl, hs6, rfl⟩) | (refine m_push1 [iV C, iV R] 0 0 tabs (m' := i) rfl rfl rfl rfl rfl rfl rfl (by rw [flatMap_length matT_length, trN_len]) (by rw [flatMap_length matT_length, trN_len]; omega) (by decide) rfl rfl (fun a9 c9 => ?_))
          refine c_nil (x_one (h_keep sS ?_))
          refine h_only 8 rfl kr ?_
          first | (refine m_build1 tabs (us := [iV C, iV R, .slice a6 (C * R) c6]) rfl rfl rfl rfl (by decide) rfl (fun g7 hg7 => ?_)) | (refine m_call (ent_of Tryz.func140 kr rfl) rfl rfl (fun w c => l3Transpose_ok (c.rd g4) om om) ?_; rintro v H' ⟨a6, c6, rfl, hs6, rfl⟩) | (refine m_push1 [iV C, iV R] 0 0 tabs (m' := i) rfl rfl rfl rfl rfl rfl rfl (by rw [flatMap_length matT_length, trN_len]) (by rw [flatMap_length matT_length, trN_len]; omega) (by decide) rfl rfl (fun a9 c9 => ?_))
          refine c_nil (x_one (h_keep sS ?_))
          refine h_only 9 rfl kr ?_
          first | (refine m_build1 tabs (us := [iV C, iV R, .slice a6 (C * R) c6]) rfl rfl rfl rfl (by decide) rfl (fun g7 hg7 => ?_)) | (refine m_call (ent_of Tryz.func140 kr rfl) rfl rfl (fun w c => l3Transpose_ok (c.rd g4) om om) ?_; rintro v H' ⟨a6, c6, rfl, hs6, rfl⟩) | (refine m_push1 [iV C, iV R] 0 0 tabs (m' := i) rfl rfl rfl rfl rfl rfl rfl (by rw [flatMap_length matT_length, trN_len]) (by rw [flatMap_length matT_length, trN_len]; omega) (by decide) rfl rfl (fun a9 c9 => ?_))
          refine c_nil (x_one (h_keep sS ?_))
          refine h_end kr ?_
          repeat' (first | (show oL; first | refine sMv rfl rfl ?_ | refine sAs rfl rfl ?_ | refine sFd tabs rfl rfl rfl rfl ?_ | refine sAd rfl rfl om rfl ?_ | (show oA (.store _ _ _); refine m_storef 1 tabs rfl rfl rfl rfl rfl rfl ?_)) | (show oN; first | refine c_nil (x_then ?_) | refine c_nil ?_) | (show oC; refine c_region ?_) | (show AT _ _ _ _; first | refine x_then ?_ | refine x_blk ?_))
          refine x_nx (i + 1, a9, c9) sB (by simp only; omega) (fun w' c' => ?_) (by simp only; omega)
          have e0 : (trN ms i).flatMap matT ++ (List.map Go.Lg.T.c [iV C, iV R] ++ [iT (mk C R (trF (matF m)))]) = (trN ms (i + 1)).flatMap matT := by
            rw [trN, List.flatMap_append, hmd, trM_of e1 e2]; rfl
          rw [e0] at c'
          exact c'
        · have : i = ms.length := by omega
          subst this
          refine AT.fact (mats_sl 0 rfl) (fun hsl => ?_)
          rw [trN_len] at hsl
          repeat' (first | (show oL; first | refine sMv rfl rfl ?_ | refine sAs rfl rfl ?_ | refine sFd tabs rfl rfl rfl rfl ?_ | (show oA (.load _ _); first | refine sLd 7 tabs rfl rfl rfl rfl rfl ?_ | refine sLb 1 tabs rfl rfl rfl rfl rfl ?_) | refine sLs rfl rfl rfl ?_ | refine sLn tabs rfl rfl rfl ?_ | (show oA (.store _ _ _); refine m_storeb 6 tabs rfl rfl rfl rfl rfl rfl rfl ?_)) | refine xNt ?_ | (show oC; first | refine c_seq ?_ | refine c_region ?_ | refine c_ret ?_ | refine c_exit ?_ | refine c_iff rfl nN ?_) | (show AT _ _ _ _; first | refine x_then ?_ | refine x_then_exit ?_ | refine x_blk_exit rfl ?_))
          exact x_ret2 Tryz.results60 (res_cellb 6 tabs rfl rfl rfl rfl) (res_tmp rfl) (fun w' c' => ⟨_, _, rfl, ⟨aT, cT, aF, cF, ad, cd, am, cm, by simp only [trN_len], hsT, hsF, hsd, by simpa only [trN_len] using hsl, by simp only [trN_len]⟩, (c'.sub (H' := [.own (matsT 41 (trN ms ms.length)) (.slice am ms.length cm), .own (iT d) (.slice ad d.length cd), .own (iT F) (.slice aF F.length cF), .own (iT T) (.slice aT T.length cT)]) sL)⟩)
  · rintro v H1 ⟨gm, hgm, rfl, rfl⟩
    refine fl_step 3 rfl rfl rfl tabs rfl rfl rfl kr kr kr (by exact stp_b0 tabs rfl rfl) (fun w c => c.sub sL) (by rintro v H1 ⟨g, hg, rfl, rfl⟩ w c; exact c.sub sL) ?_
    rintro v H1 ⟨gd, hgd, rfl, rfl⟩
    refine fl_step 6 rfl rfl rfl tabs rfl rfl rfl kr kr kr (by exact stp_dup 0 tabs (ys := d) rfl rfl rfl rfl rfl om (fun w c => c.rd h2)) (fun w c => c.sub sL) (by rintro v H1 ⟨a, cc, hsa, rfl, rfl⟩ w c; exact c.sub sL) ?_
    rintro v H1 ⟨ad, cd, hsd, rfl, rfl⟩
    refine fl_take 8 rfl kr kr kr kr kr kr (by exact y_bld4 (bld_rp4 _ _ _ _ _ _ _ _ _ _ _ _ _ _) rfl rfl rfl rfl) rfl sS ?_
    refine fl_end rfl tabs rfl rfl rfl kr sS (fun bf hbf => ?_)
    refine h_only 10 rfl kr ?_
    (refine m_storeb 0 tabs rfl rfl rfl rfl rfl rfl rfl ?_)
    refine c_nil (x_one (h_keep sS ?_))
    refine h_end kr ?_
    repeat' (first | (show oL; first | refine sAs rfl rfl ?_) | refine xNt ?_ | (show oC; first | refine c_seq ?_ | refine c_region ?_ | refine c_block ?_) | (show AT _ _ _ _; refine x_then ?_))
    refine c_loopH (α := Nat × Option Addr × Nat) [1, 2, 6] (fun s => [(7, .int .i64 s.1)]) (fun s => s.1 ≤ ms.length) (fun s => [.own (matsT 41 (trN ms s.1)) (.slice s.2.1 s.1 s.2.2), .blk bf #[iV p, iV n, .slice aT T.length cT, .slice aF F.length cF, .slice ad d.length cd, .slice s.2.1 s.1 s.2.2] 29, .own (iT d) (.slice ad d.length cd), .blk b4 #[iV n, .slice aT T.length cT, .slice aF F.length cF] 26, .own (iT F) (.slice aF F.length cF), .own (iT T) (.slice aT T.length cT), .blk b2 #[iV 0, iV 0, .slice none 0 0, .slice none 0 0, .slice none 0 0, .slice none 0 0] 29, .blk b1 #[iV p, iV n, .slice a0 F.length c0, .slice a1 T.length c1, .slice a2 d.length c2, .slice a3 ms.length c3] 29]) (fun s => ms.length - s.1) (0, some ⟨gm, 0, none⟩, 0) rfl sB ?_ ?_ ?_
    · exact Nat.zero_le _
    · exact fun w' c' => c'.front (i := 2) rfl
    · rintro ⟨i, am, cm⟩ hi
      simp only at hi ⊢
      by_cases hin : i < ms.length
      · obtain ⟨m, hm⟩ : ∃ m, ms[i]? = some m := ⟨_, List.getElem?_eq_getElem hin⟩
        obtain ⟨a4, c4, g1, g2, g3, g4⟩ := hg3 i m hm
        have hmd : ms.getD i mat0 = m := by simp [List.getD, hm]
        have hM : MatP p m := by have := (hR.2.2.2 i hin).1; rwa [hmd] at this
        obtain ⟨R, C, e1, e2, hR8, hC8, e3, _⟩ := matP_cells hM
        rw [e1] at g1; rw [e2] at g2; rw [e3] at g3 g4; rw [mk_length] at g3 g4
        repeat' (first | (show oL; first | refine sMv rfl rfl ?_ | refine sFd tabs rfl rfl rfl rfl ?_ | refine sLd 7 tabs rfl rfl rfl rfl rfl ?_ | refine sLs rfl rfl rfl ?_ | refine sLn tabs rfl rfl rfl ?_) | refine xNt ?_ | (show oC; first | refine c_seq ?_ | refine c_region ?_ | refine c_skip (x_then ?_) | refine c_block ?_ | refine c_ift rfl aO ?_))
        refine c_mixR (Hp [] w [.blk bf #[iV p, iV n, .slice aT T.length cT, .slice aF F.length cF, .slice ad d.length cd, .slice am i cm] 29, .blk b1 #[iV p, iV n, .slice a0 F.length c0, .slice a1 T.length c1, .slice a2 d.length c2, .slice a3 ms.length c3] 29]) 10 kr kr kr kr kr (fun _ c => Hp.drew c) ?_
        refine h_take 0 rfl kr kr kr (by exact y_field tabs rfl rfl rfl) rfl sS ?_
        refine h_take 1 rfl kr kr kr (by exact y_load tabs rfl rfl (hc_blk 0 rfl rfl)) rfl sS ?_
        refine h_take 2 rfl kr kr kr (by exact y_field tabs rfl rfl rfl) rfl sS ?_
        refine h_take 3 rfl kr kr kr (by exact y_load tabs rfl rfl (hc_blk 1 rfl rfl)) rfl sS ?_
        refine h_take 4 rfl kr kr kr (by exact y_move rfl) rfl sS ?_
        refine h_take 5 rfl kr kr kr (by exact y_ixa tabs rfl rfl rfl hs3 om om) rfl sS ?_
        refine h_take 6 rfl kr kr kr (by exact y_load3 tabs rfl rfl (hc_w0 g1) (hc_w0 g2) (hc_w0 g3)) rfl sS ?_
        refine h_only 7 rfl kr ?_
        first | (refine m_build1 tabs (us := [iV C, iV R, .slice a6 (C * R) c6]) rfl rfl rfl rfl (by decide) rfl (fun g7 hg7 => ?_)) | (refine m_call (ent_of Tryz.func140 kr rfl) rfl rfl (fun w c => l3Transpose_ok (c.rd g4) om om) ?_; rintro v H' ⟨a6, c6, rfl, hs6, rfl⟩) | (refine m_push1 [iV C, iV R] 0 0 tabs (m' := i) rfl rfl rfl rfl rfl rfl rfl (by rw [flatMap_length matT_length, trN_len]) (by rw [flatMap_length matT_length, trN_len]; omega) (by decide) rfl rfl (fun a9 c9 => ?_))
        refine c_nil (x_one (h_keep sS ?_))
        refine h_only 8 rfl kr ?_
        first | (refine m_build1 tabs (us := [iV C, iV R, .slice a6 (C * R) c6]) rfl rfl rfl rfl (by decide) rfl (fun g7 hg7 => ?_)) | (refine m_call (ent_of Tryz.func140 kr rfl) rfl rfl (fun w c => l3Transpose_ok (c.rd g4) om om) ?_; rintro v H' ⟨a6, c6, rfl, hs6, rfl⟩) | (refine m_push1 [iV C, iV R] 0 0 tabs (m' := i) rfl rfl rfl rfl rfl rfl rfl (by rw [flatMap_length matT_length, trN_len]) (by rw [flatMap_length matT_length, trN_len]; omega) (by decide) rfl rfl (fun a9 c9 => ?_))
        refine c_nil (x_one (h_keep sS ?_))
        refine h_only 9 rfl kr ?_
        first | (refine m_build1 tabs (us := [iV C, iV R, .slice a6 (C * R) c6]) rfl rfl rfl rfl (by decide) rfl (fun g7 hg7 => ?_)) | (refine m_call (ent_of Tryz.func140 kr rfl) rfl rfl (fun w c => l3Transpose_ok (c.rd g4) om om) ?_; rintro v H' ⟨a6, c6, rfl, hs6, rfl⟩) | (refine m_push1 [iV C, iV R] 0 0 tabs (m' := i) rfl rfl rfl rfl rfl rfl rfl (by rw [flatMap_length matT_length, trN_len]) (by rw [flatMap_length matT_length, trN_len]; omega) (by decide) rfl rfl (fun a9 c9 => ?_))
        refine c_nil (x_one (h_keep sS ?_))
        refine h_end kr ?_
        repeat' (first | (show oL; first | refine sMv rfl rfl ?_ | refine sAs rfl rfl ?_ | refine sFd tabs rfl rfl rfl rfl ?_ | refine sAd rfl rfl om rfl ?_ | (show oA (.store _ _ _); refine m_storef 1 tabs rfl rfl rfl rfl rfl rfl ?_)) | (show oN; first | refine c_nil (x_then ?_) | refine c_nil ?_) | (show oC; refine c_region ?_) | (show AT _ _ _ _; first | refine x_then ?_ | refine x_blk ?_))
        refine x_nx (i + 1, a9, c9) sB (by simp only; omega) (fun w' c' => ?_) (by simp only; omega)
        have e0 : (trN ms i).flatMap matT ++ (List.map Go.Lg.T.c [iV C, iV R] ++ [iT (mk C R (trF (matF m)))]) = (trN ms (i + 1)).flatMap matT := by
          rw [trN, List.flatMap_append, hmd, trM_of e1 e2]; rfl
        rw [e0] at c'
        exact c'
      · have : i = ms.length := by omega
        subst this
        refine AT.fact (mats_sl 0 rfl) (fun hsl => ?_)
        rw [trN_len] at hsl
        repeat' (first | (show oL; first | refine sMv rfl rfl ?_ | refine sAs rfl rfl ?_ | refine sFd tabs rfl rfl rfl rfl ?_ | (show oA (.load _ _); first | refine sLd 7 tabs rfl rfl rfl rfl rfl ?_ | refine sLb 1 tabs rfl rfl rfl rfl rfl ?_) | refine sLs rfl rfl rfl ?_ | refine sLn tabs rfl rfl rfl ?_ | (show oA (.store _ _ _); refine m_storeb 6 tabs rfl rfl rfl rfl rfl rfl rfl ?_)) | refine xNt ?_ | (show oC; first | refine c_seq ?_ | refine c_region ?_ | refine c_ret ?_ | refine c_exit ?_ | refine c_iff rfl nN ?_) | (show AT _ _ _ _; first | refine x_then ?_ | refine x_then_exit ?_ | refine x_blk_exit rfl ?_))
        exact x_ret2 Tryz.results60 (res_cellb 6 tabs rfl rfl rfl rfl) (res_tmp rfl) (fun w' c' => ⟨_, _, rfl, ⟨aT, cT, aF, cF, ad, cd, am, cm, by simp only [trN_len], hsT, hsF, hsd, by simpa only [trN_len] using hsl, by simp only [trN_len]⟩, (c'.sub (H' := [.own (matsT 41 (trN ms ms.length)) (.slice am ms.length cm), .own (iT d) (.slice ad d.length cd), .own (iT F) (.slice aF F.length cF), .own (iT T) (.slice aT T.length cT)]) sL)⟩)
theorem impl_DualRep_ok {w : World} {r : Rp} {e : Nat} {u0 u1 u2 u3 : Value} (h0 : Rd w (iT r.q.2.1) u0) (h1 : Rd w (iT r.q.2.2) u1) (h2 : Rd w (iT r.d) u2) (h3 : Rd w (matsT e r.m) u3) :
    Does Tryz.prog 59 [.agg #[iV r.p, iV r.q.1, u0, u1, u2, u3]] w (GivesRB (dualR r) (decide (RepP r))) := by
  by_cases hR : RepP r
  · rw [decide_eq_true hR]
    exact impl_DualRep_yes h0 h1 h2 h3 hR
  · rw [dualR, if_neg hR, decide_eq_false hR]
    refine fn_enter Tryz.func59 rfl Tryz.ntmps59 rfl ?_
    repeat' (first | (show oL; first | refine sAs rfl rfl ?_ | refine sLb 1 tabs rfl rfl rfl rfl rfl ?_ | (show oA (.unOp _ _ _); refine st_y (y_notd rfl) rfl ?_) | (show oA (.call _); (refine m_call (ent_of Tryz.func52 kr rfl) rfl rfl (fun w c => impl_IsRep_ok (r := r) (c.rd h0) (c.rd h1) (c.rd h2) (c.rd h3)) ?_; rintro v H' ⟨rfl, rfl⟩)) | (show oA (.store _ _ _); refine m_storeb 0 tabs rfl rfl rfl rfl rfl rfl rfl ?_) | (show oA (.box _ _); refine m_box rfl rfl (fun b1 hb1 => ?_)) | (show oA (.alloc _); refine m_alloc tabs rfl rfl (fun b4 hb4 => ?_)) | (show oA (.build _ _); refine st_y (y_bld0 bld_rp0) rfl ?_)) | refine xNt ?_ | (show oC; first | refine c_seq ?_ | refine c_region ?_ | refine c_ret ?_ | refine c_ift rfl aO ?_) | (show AT _ _ _ _; refine x_then_ret ?_))
    all_goals first | exact absurd aS hR | skip
    exact x_ret2 Tryz.results59 (res_cellb 0 tabs rfl rfl rfl rfl) (res_tmp rfl) (fun w' c' => ⟨_, _, rfl, ⟨none, 0, none, 0, none, 0, none, 0, rfl, .inl rfl, .inl rfl, .inl rfl, .inl rfl, rfl⟩, Hp.nilp _ _ (Hp.nilp _ _ (Hp.nilp _ _ (Hp.nilp _ _ (c'.sub (List.nil_sublist _)))))⟩)
theorem spec_DualRep_ok {w : World} {r : Rp} {e : Nat} {u0 u1 u2 u3 : Value} (h0 : Rd w (iT r.q.2.1) u0) (h1 : Rd w (iT r.q.2.2) u1) (h2 : Rd w (iT r.d) u2) (h3 : Rd w (matsT e r.m) u3) :
    Does Tryz.prog 60 [.agg #[iV r.p, iV r.q.1, u0, u1, u2, u3]] w (GivesRB (dualR r) (decide (RepP r))) := by
  by_cases hR : RepP r
  · rw [decide_eq_true hR]
    exact spec_DualRep_yes h0 h1 h2 h3 hR
  · rw [dualR, if_neg hR, decide_eq_false hR]
    refine fn_enter Tryz.func60 rfl Tryz.ntmps60 rfl ?_
    repeat' (first | (show oL; first | refine sAs rfl rfl ?_ | refine sLb 1 tabs rfl rfl rfl rfl rfl ?_ | (show oA (.unOp _ _ _); refine st_y (y_notd rfl) rfl ?_) | (show oA (.call _); (refine m_call (ent_of Tryz.func53 kr rfl) rfl rfl (fun w c => spec_IsRep_ok (r := r) (c.rd h0) (c.rd h1) (c.rd h2) (c.rd h3)) ?_; rintro v H' ⟨rfl, rfl⟩)) | (show oA (.store _ _ _); refine m_storeb 0 tabs rfl rfl rfl rfl rfl rfl rfl ?_) | (show oA (.box _ _); refine m_box rfl rfl (fun b1 hb1 => ?_)) | (show oA (.alloc _); refine m_alloc tabs rfl rfl (fun b4 hb4 => ?_)) | (show oA (.build _ _); refine st_y (y_bld0 bld_rp0) rfl ?_)) | refine xNt ?_ | (show oC; first | refine c_seq ?_ | refine c_region ?_ | refine c_ret ?_ | refine c_ift rfl aO ?_) | (show AT _ _ _ _; refine x_then_ret ?_))
    all_goals first | exact absurd aS hR | skip
    exact x_ret2 Tryz.results60 (res_cellb 0 tabs rfl rfl rfl rfl) (res_tmp rfl) (fun w' c' => ⟨_, _, rfl, ⟨none, 0, none, 0, none, 0, none, 0, rfl, .inl rfl, .inl rfl, .inl rfl, .inl rfl, rfl⟩, Hp.nilp _ _ (Hp.nilp _ _ (Hp.nilp _ _ (Hp.nilp _ _ (c'.sub (List.nil_sublist _)))))⟩)
end Go.Proofs.YtdnhmnnccfoliaaGreatDoor

namespace Go.Proofs.YtdnhmnnccfoliaaGreatDoor
open Go.Lg Go.Proofs Go.RowKit

theorem spn_sum {p : Int} {R C : Nat} {g : Nat → Nat → Int} {c : Nat → Int} : ∀ n, n ≤ R → Spn p R C g (fun j => sumN (fun t => c t * g t j) n)
  | 0, _ => .nil (fun j _ => Int.dvd_zero p)
  | n + 1, h => (spn_sum n om).plus ((Spn.row (show n < R by omega)).mul (c n))
theorem rank_tr_le {p : Int} {R C : Nat} {f : Nat → Nat → Int} (hF : FieldP p) (hin : inF p R C f) : (redTo p C (trF f) R).2.length ≤ (redTo p R f C).2.length := by
  have rr := redTo_rr hF hin C (Nat.le_refl _)
  have sp := (redTo_spn hF hin C (Nat.le_refl _)).2
  have hA : inF p (redTo p R f C).2.length R (fun t i => f i (pv (redTo p R f C).2 t)) := fun t i ht hi => hin i _ hi (pv_lt rr ht)
  have h1 := (red_sub (R := C) (S := (redTo p R f C).2.length) (C := R) (f := trF f) hF (fun i j hi hj => hin j i hj hi) hA (fun j hj => by
    refine (spn_sum (c := fun t => (redTo p R f C).1 t j) (redTo p R f C).2.length (Nat.le_refl _)).congr (fun i hi => ?_)
    have := spn_lin rr (sp i hi) j hj
    rwa [sumN_congr (fun t _ => Int.mul_comm _ _)] at this)).1
  exact Nat.le_trans h1 (redTo_rr hF hA R (Nat.le_refl _)).1
theorem rank_tr {p : Int} {R C : Nat} {f : Nat → Nat → Int} (hF : FieldP p) (hin : inF p R C f) : (redTo p C (trF f) R).2.length = (redTo p R f C).2.length := by
  have h1 := rank_tr_le hF hin
  have h2 := rank_tr_le (R := C) (C := R) (f := trF f) hF (fun i j hi hj => hin j i hj hi)
  exact Nat.le_antisymm h1 h2
theorem red_ext {p : Int} {R C : Nat} {f f' : Nat → Nat → Int} (h : ∀ i j, i < R → j < C → f i j = f' i j) : (redTo p R f C).2 = (redTo p R f' C).2 := (redTo_cols C h).1
theorem trN_get (ms : List Mat) : ∀ n i, i < n → (trN ms n).getD i mat0 = trM (ms.getD i mat0)
  | 0, i, h => by omega
  | n + 1, i, h => by
    rw [trN, List.getD]
    by_cases hi : i < n
    · rw [List.getElem?_append_left (by rw [trN_len]; exact hi)]
      exact trN_get ms n i hi
    · have : i = n := by omega
      subst this
      rw [List.getElem?_append_right (by rw [trN_len]; exact Nat.le_refl _), trN_len]
      simp
theorem trM_in {p : Int} {m : Mat} (h : MatP p m) : MatP p (trM m) ∧ trM (trM m) = m ∧ (redL p (trM m)).length = (redL p m).length := by
  obtain ⟨R, C, f, rfl, hR, hC, hF, hf⟩ := matP_mk h
  have e : trM ((R : Int), (C : Int), mk R C f) = ((C : Int), (R : Int), mk C R (trF f)) := by
    have e0 : mk C R (trF (matF ((R : Int), (C : Int), mk R C f))) = mk C R (trF f) := mk_ext (fun i j hi hj => matF_mk hj hi)
    rw [trM_of rfl rfl, e0]
  rw [e]
  refine ⟨matP_of hF hC hR (fun i j hi hj => hf j i hj hi), ?_, ?_⟩
  · have e1 : mk R C (trF (matF ((C : Int), (R : Int), mk C R (trF f)))) = mk R C f := mk_ext (fun i j hi hj => by unfold trF; exact matF_mk hj hi)
    rw [trM_of rfl rfl, e1]
  · unfold redL
    simp only [Int.toNat_natCast]
    have e2 : (redTo p C (matF ((C : Int), (R : Int), mk C R (trF f))) R).2 = (redTo p C (trF f) R).2 := red_ext (fun i j hi hj => matF_mk hi hj)
    have e3 : (redTo p R (matF ((R : Int), (C : Int), mk R C f)) C).2 = (redTo p R f C).2 := red_ext (fun i j hi hj => matF_mk hi hj)
    rw [e2, e3]
    exact rank_tr hF hf
theorem mats_ext {ms ns : List Mat} (hl : ms.length = ns.length) (h : ∀ i, i < ms.length → ms.getD i mat0 = ns.getD i mat0) : ms = ns := by
  refine List.ext_getElem hl (fun i h1 h2 => ?_)
  have := h i h1
  rw [List.getD, List.getD, List.getElem?_eq_getElem h1, List.getElem?_eq_getElem h2] at this
  simpa using this
theorem dual_law {r : Rp} (h : RepP r) : RepP (dualR r) ∧ dualR (dualR r) = r ∧ ranksL (dualR r) = ranksL r := by
  obtain ⟨hF, ⟨⟨hq1, hq2, hq3, hq4, hq5⟩, hd⟩, hl, hm⟩ := id h
  have e : dualR r = ⟨r.p, opQ r.q, r.d, trN r.m r.m.length⟩ := by rw [dualR, if_pos h]
  have hml := trN_len r.m r.m.length
  have hD : RepP ⟨r.p, opQ r.q, r.d, trN r.m r.m.length⟩ := by
    refine ⟨hF, ⟨⟨hq1, ?_, ?_, hq5, hq4⟩, hd⟩, ?_, fun i hi => ?_⟩
    · simp only [opQ]; omega
    · simp only [opQ]; omega
    · simp only [opQ]; omega
    · simp only at hi
      rw [hml] at hi
      obtain ⟨h1, h2, h3⟩ := hm i hi
      unfold MapP
      simp only [opQ]
      rw [trN_get r.m _ i hi]
      exact ⟨(trM_in h1).1, h3, h2⟩
  rw [e]
  refine ⟨hD, ?_, ?_⟩
  · rw [dualR, if_pos hD]
    simp only [opQ]
    have : trN (trN r.m r.m.length) (trN r.m r.m.length).length = r.m := by
      refine mats_ext (by rw [trN_len, hml]) (fun i hi => ?_)
      rw [trN_len, hml] at hi
      rw [hml, trN_get _ _ i hi, trN_get _ _ i hi]
      exact (trM_in (hm i hi).1).2.1
    rw [this]
  · rw [ranksL, ranksL, if_pos hD, if_pos h]
    simp only
    rw [hml]
    have key : ∀ n, n ≤ r.m.length → rkN r.p (trN r.m r.m.length) n = rkN r.p r.m n := fun n => by
      induction n with
      | zero => intro _; rfl
      | succ n ih =>
        intro hn
        rw [rkN, rkN, ih om, trN_get _ _ n om, (trM_in (hm n om).1).2.2]
    exact key _ (Nat.le_refl _)

def ptF (x : Pa) (k : Nat) : Pa := (x.1, x.2.take k)
def ptR (q : Qv) (x : Pa) (k : Nat) : Pa := (atP q x k, x.2.drop k)
theorem take_getD {l : List Int} {j k : Nat} (h : j < k) : (l.take k).getD j 0 = l.getD j 0 := by
  rw [List.getD, List.getD, List.getElem?_take_of_lt h]
theorem drop_getD {l : List Int} {j k : Nat} : (l.drop k).getD j 0 = l.getD (k + j) 0 := by
  rw [List.getD, List.getD, List.getElem?_drop]
theorem atP_front {q : Qv} {x : Pa} {k : Nat} : ∀ j, j ≤ k → atP q (ptF x k) j = atP q x j
  | 0, _ => rfl
  | j + 1, h => by rw [atP, atP]; simp only [ptF]; rw [take_getD om]
theorem atP_rest {q : Qv} {x : Pa} {k : Nat} : ∀ j, atP q (ptR q x k) j = atP q x (k + j)
  | 0 => rfl
  | j + 1 => by rw [atP, show k + (j + 1) = (k + j) + 1 by omega, atP]; simp only [ptR]; rw [drop_getD]
theorem path_parts {q : Qv} {x : Pa} {k : Nat} (h : PathP q x) (hk : k ≤ x.2.length) : PathP q (ptF x k) ∧ PathP q (ptR q x k) := by
  obtain ⟨h1, h2, h3, h4⟩ := id h
  have ha := atP_in h k hk
  refine ⟨⟨h1, h2, ?_, fun j hj => ?_⟩, ⟨h1, ha, ?_, fun j hj => ?_⟩⟩
  · simp only [ptF, List.length_take]; omega
  · simp only [ptF, List.length_take] at hj
    have hs := h4 j om
    unfold StepP at hs ⊢
    rw [atP_front j om]
    simp only [ptF]
    rw [take_getD om]
    exact hs
  · simp only [ptR, List.length_drop]; omega
  · simp only [ptR, List.length_drop] at hj
    have hs := h4 (k + j) om
    unfold StepP at hs ⊢
    rw [atP_rest j]
    simp only [ptR]
    rw [drop_getD]
    exact hs
theorem alF_front {r : Rp} {x : Pa} {k : Nat} : ∀ j, j ≤ k → alF r (ptF x k) j = alF r x j
  | 0, _ => rfl
  | j + 1, h => by
    rw [alF, alF, alF_front j om]
    unfold dimA
    rw [atP_front j om]
    simp only [ptF]
    rw [take_getD om]
theorem alF_rest {r : Rp} {x : Pa} {k : Nat} (hF : FieldP r.p) : ∀ j a c, a < dimA r x (k + j) → mulF r.p (dimA r x k) (alF r (ptR r.q x k) j) (alF r x k) a c = alF r x (k + j) a c
  | 0, a, c, ha => by
    refine mul_idl ha ?_
    exact alF_in hF (R := a + 1) (C := c + 1) k a c om om
  | j + 1, a, c, ha => by
    rw [alF, show k + (j + 1) = (k + j) + 1 by omega, alF, mul_assocF]
    have hd : dimA r (ptR r.q x k) j = dimA r x (k + j) := by unfold dimA; rw [atP_rest]
    have hg : (ptR r.q x k).2.getD j 0 = x.2.getD (k + j) 0 := by simp only [ptR]; rw [drop_getD]
    rw [hd, hg]
    exact mulF_ext (fun _ _ => rfl) (fun b hb => alF_rest hF j b c hb)
theorem alM_in {r : Rp} {x : Pa} (h : alP r x) : MatP r.p (alM r x) := by
  rw [alM, if_pos h]
  have h1 := dimA_le (x := x) h.1 x.2.length
  have h2 := dimA_le (x := x) h.1 0
  exact matP_of h.1.1 om om (alF_in h.1.1 _)
theorem along_join {r : Rp} {x : Pa} {k : Nat} (h : alP r x) (hk : k ≤ x.2.length) : alP r (ptF x k) ∧ alP r (ptR r.q x k) ∧ MlP r.p (alM r (ptR r.q x k)) (alM r (ptF x k)) ∧ mlM r.p (alM r (ptR r.q x k)) (alM r (ptF x k)) = alM r x := by
  obtain ⟨p1, p2⟩ := path_parts h.2 hk
  have a1 : alP r (ptF x k) := ⟨h.1, p1⟩
  have a2 : alP r (ptR r.q x k) := ⟨h.1, p2⟩
  have l1 : (ptF x k).2.length = k := by simp only [ptF, List.length_take]; omega
  have l2 : (ptR r.q x k).2.length = x.2.length - k := by simp only [ptR, List.length_drop]
  have d1 : ∀ j, j ≤ k → dimA r (ptF x k) j = dimA r x j := fun j hj => by unfold dimA; rw [atP_front j hj]
  have d2 : ∀ j, dimA r (ptR r.q x k) j = dimA r x (k + j) := fun j => by unfold dimA; rw [atP_rest j]
  have m1 := alM_in a1
  have m2 := alM_in a2
  have e1 : alM r (ptF x k) = ((dimA r x k : Int), (dimA r x 0 : Int), mk (dimA r x k) (dimA r x 0) (alF r x k)) := by
    rw [alM, if_pos a1, l1, d1 k (Nat.le_refl _), d1 0 (Nat.zero_le _), alF_front k (Nat.le_refl _)]
  have e2 : alM r (ptR r.q x k) = ((dimA r x x.2.length : Int), (dimA r x k : Int), mk (dimA r x x.2.length) (dimA r x k) (alF r (ptR r.q x k) (x.2.length - k))) := by
    rw [alM, if_pos a2, l2, d2, d2, show k + (x.2.length - k) = x.2.length by omega]; rfl
  have hP : MlP r.p (alM r (ptR r.q x k)) (alM r (ptF x k)) := ⟨m2, m1, by rw [e1, e2]⟩
  refine ⟨a1, a2, hP, ?_⟩
  have hP2 := hP
  rw [e1, e2] at hP2 ⊢
  rw [mlM_mk hP2, alM, if_pos h]
  rw [mk_ext (fun a c ha hc => ?_)]
  have := alF_rest (x := x) (k := k) h.1.1 (x.2.length - k) a c (by rw [show k + (x.2.length - k) = x.2.length by omega]; exact ha)
  rwa [show k + (x.2.length - k) = x.2.length by omega] at this
end Go.Proofs.YtdnhmnnccfoliaaGreatDoor

namespace Go.Proofs.YtdnhmnnccfoliaaGreatDoor
open Go.Lg Go.Proofs Go.RowKit

theorem parR_dec {r : Rp} : decide (parR r.p r.q (fmtR r)) = decide (RepP r) := by
  by_cases h : RepP r
  · rw [decide_eq_true h, decide_eq_true (parR_iff.2 ⟨r, h, rfl, rfl, rfl⟩)]
  · rw [decide_eq_false h, decide_eq_false (fun k => ?_)]
    obtain ⟨r', h1, _, _, h4⟩ := parR_iff.1 k
    have h5 : (fmtR r').length = 0 := by rw [h4, fmtR, if_neg h]; rfl
    rw [fmtR, if_pos h1, List.length_append, digL, List.length_map] at h5
    have := h1.2.1.2.1
    have := h1.2.1.1.1
    omega
theorem parRL_same {r : Rp} (h : RepP r) : parRL r.p r.q (fmtR r) = r := by
  rw [parRL, if_pos (parR_iff.2 ⟨r, h, rfl, rfl, rfl⟩), cand_fmtR h]
end Go.Proofs.YtdnhmnnccfoliaaGreatDoor
