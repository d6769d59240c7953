import Derived.Test.YtooffimgfnacoaaDua
namespace Go.Proofs.Ytooffimgfnacoaa
open Go.Lg Go.Proofs Go.RowKit
attribute [local irreducible] Code.wp wpList bodyPost Exit.then Exit.inBlock Hp Again Calls Y AT ResV QT Qn QI wpAny wpAnyQ
set_option maxRecDepth 20000
set_option maxHeartbeats 4000000

theorem spec_DualRep_yes {w : World} {r : Rp} {e : Nat} {u0 u1 u2 u3 : Value} (h0 : Rd w (iT r.q.2.1) u0) (h1 : Rd w (iT r.q.2.2) u1) (h2 : Rd w (iT r.d) u2) (h3 : Rd w (matsT e r.m) u3) (hR : RepP r) :
    Does Try.prog 56 [.agg #[iV r.p, iV r.q.1, u0, u1, u2, u3]] w (GivesRB (dualR r) true) := by
  have hQ := hR.2.1.1
  have hdd := (RepP.dd hR).2
  have hml := hR.ml
  rw [dualR, if_pos hR]
  obtain ⟨p, ⟨n, F, T⟩, d, ms⟩ := r
  simp only [opQ] at h0 h1 h2 h3 hQ hdd hml ⊢
  obtain ⟨a0, c0, rfl, hs0, _⟩ := h0.ints
  obtain ⟨a1, c1, rfl, hs1, _⟩ := h1.ints
  obtain ⟨a2, c2, rfl, hs2, _⟩ := h2.ints
  obtain ⟨a3, c3, rfl, hs3, _, _, hg3⟩ := rd_mats h3
  refine fn_enter Try.func56 rfl Try.ntmps56 rfl ?_
  repeat' (first
    | (show AT _ _ _ (wpList _ _ _ (_ :: _)); first
       | (show AT _ _ _ (wpList _ _ _ (⟨_, Op.move _, _, _, _, _⟩ :: _)); refine st_y (y_move rfl) rfl ?_)
       | (show AT _ _ _ (wpList _ _ _ (⟨_, Op.assign _, _, _, _, _⟩ :: _)); refine st_y (y_assign rfl) rfl ?_)
       | (show AT _ _ _ (wpList _ _ _ (⟨_, Op.fieldAddr _ _ _, _, _, _, _⟩ :: _)); refine st_y (y_field tabs rfl rfl rfl) rfl ?_)
       | (show AT _ _ _ (wpList _ _ _ (⟨_, Op.load _ _, _, _, _, _⟩ :: _)); first | refine st_y (y_load3 tabs rfl rfl (hc_blk 1 rfl rfl) (hc_blk 1 rfl rfl) (hc_blk 1 rfl rfl)) rfl ?_ | refine st_y (y_loadb 1 tabs rfl rfl rfl rfl) rfl ?_)
       | (show AT _ _ _ (wpList _ _ _ (⟨_, Op.unOp _ _ _, _, _, _, _⟩ :: _)); refine st_y (y_notd rfl) rfl ?_)
       | (show AT _ _ _ (wpList _ _ _ (⟨_, Op.call _, _, _, _, _⟩ :: _)); first | (refine m_call (ent_of Try.func103 (by kernel_rfl) rfl) rfl rfl (fun w c => spec_IsRep_ok (r := ⟨p, (n, F, T), d, ms⟩) (c.rd h0) (c.rd h1) (c.rd h2) (c.rd h3)) ?_; rintro v H' ⟨rfl, rfl⟩) | (refine m_call (ent_of Try.func122 (by kernel_rfl) rfl) rfl rfl (fun w c => spec_OppositeOf_yes (q := (n, F, T)) (c.rd h0) (c.rd h1) hQ) ?_; rintro v H' ⟨aT, cT, aF, cF, rfl, hsT, hsF, rfl⟩))
       | (show AT _ _ _ (wpList _ _ _ (⟨_, Op.extract _ _, _, _, _, _⟩ :: _)); refine st_y (y_ext rfl rfl) rfl ?_)
       | (show AT _ _ _ (wpList _ _ _ (⟨_, Op.store _ _ _, _, _, _, _⟩ :: _)); refine m_storeb 0 tabs rfl rfl rfl rfl rfl rfl rfl ?_)
       | (show AT _ _ _ (wpList _ _ _ (⟨_, Op.box _ _, _, _, _, _⟩ :: _)); refine m_box rfl rfl (fun b1 hb1 => ?_))
       | (show AT _ _ _ (wpList _ _ _ (⟨_, Op.alloc _, _, _, _, _⟩ :: _)); refine m_alloc tabs rfl rfl (fun b4 hb4 => ?_)))
    | (show AT _ _ _ (wpList _ _ _ []); refine c_nil (x_then ?_))
    | (show AT _ _ _ (Code.wp _ _ _); first | refine c_seq ?_ | refine c_region ?_ | refine c_skip (x_then ?_) | refine c_iff rfl (by first | assumption | exact not_not_intro (by assumption) | omega) ?_))
  all_goals first | exact absurd hR (by assumption) | skip
  simp only [opQ] at hsT hsF ⊢
  rename_i b2 hb2
  refine c_all (Hp [] w [.blk b4 #[iV n, .slice aT T.length cT, .slice aF F.length cF] 48, .blk b1 #[iV p, iV n, .slice a0 F.length c0, .slice a1 T.length c1, .slice a2 d.length c2, .slice a3 ms.length c3] 50]) (by kernel_rfl) (fun _ c => Hp.drew c) ?_
  refine fl_begin 9 rfl tabs rfl rfl ?_
  refine fl_take 0 rfl (by kernel_rfl) (by kernel_rfl) (by kernel_rfl) (by kernel_rfl) (by kernel_rfl) (by kernel_rfl) (by exact y_field tabs rfl rfl rfl) rfl (fun w c => by exact c.sub (by repeat' first | exact List.Sublist.refl _ | exact List.nil_sublist _ | apply List.Sublist.cons_cons | apply List.Sublist.cons)) ?_
  refine fl_take 1 rfl (by kernel_rfl) (by kernel_rfl) (by kernel_rfl) (by kernel_rfl) (by kernel_rfl) (by kernel_rfl) (by exact y_load tabs rfl rfl (hc_blk 1 rfl rfl)) rfl (fun w c => by exact c.sub (by repeat' first | exact List.Sublist.refl _ | exact List.nil_sublist _ | apply List.Sublist.cons_cons | apply List.Sublist.cons)) ?_
  refine fl_take 2 rfl (by kernel_rfl) (by kernel_rfl) (by kernel_rfl) (by kernel_rfl) (by kernel_rfl) (by kernel_rfl) (by first | exact y_loadb 0 tabs rfl rfl rfl rfl | exact y_loadb 0 tabs rfl rfl rfl rfl) rfl (fun w c => by exact c.sub (by repeat' first | exact List.Sublist.refl _ | exact List.nil_sublist _ | apply List.Sublist.cons_cons | apply List.Sublist.cons)) ?_
  refine fl_take 4 rfl (by kernel_rfl) (by kernel_rfl) (by kernel_rfl) (by kernel_rfl) (by kernel_rfl) (by kernel_rfl) (by exact y_field tabs rfl rfl rfl) rfl (fun w c => by exact c.sub (by repeat' first | exact List.Sublist.refl _ | exact List.nil_sublist _ | apply List.Sublist.cons_cons | apply List.Sublist.cons)) ?_
  refine fl_take 5 rfl (by kernel_rfl) (by kernel_rfl) (by kernel_rfl) (by kernel_rfl) (by kernel_rfl) (by kernel_rfl) (by exact y_load tabs rfl rfl (hc_blk 1 rfl rfl)) rfl (fun w c => by exact c.sub (by repeat' first | exact List.Sublist.refl _ | exact List.nil_sublist _ | apply List.Sublist.cons_cons | apply List.Sublist.cons)) ?_
  refine fl_two 3 7 rfl rfl rfl rfl rfl tabs rfl rfl rfl (by kernel_rfl) (by kernel_rfl) (by kernel_rfl) (by exact stp_b0 tabs rfl rfl) (by exact stp_b0 tabs rfl rfl) (fun w c => c.sub (by repeat' first | exact List.Sublist.refl _ | exact List.nil_sublist _ | apply List.Sublist.cons_cons | apply List.Sublist.cons)) (by rintro v H1 ⟨g, hg, rfl, rfl⟩ w c; exact c.sub (by repeat' first | exact List.Sublist.refl _ | exact List.nil_sublist _ | apply List.Sublist.cons_cons | apply List.Sublist.cons)) (by rintro v H1 ⟨g, hg, rfl, rfl⟩ w c; exact c.sub (by repeat' first | exact List.Sublist.refl _ | exact List.nil_sublist _ | apply List.Sublist.cons_cons | apply List.Sublist.cons)) ?_ ?_
  · rintro v H1 ⟨gd, hgd, rfl, rfl⟩
    refine fl_two 6 7 rfl rfl rfl rfl rfl tabs rfl rfl rfl (by kernel_rfl) (by kernel_rfl) (by kernel_rfl) (by exact stp_dup 0 tabs (ys := d) rfl rfl rfl rfl rfl (by omega) (fun w c => c.rd h2)) (by exact stp_b0 tabs rfl rfl) (fun w c => c.sub (by repeat' first | exact List.Sublist.refl _ | exact List.nil_sublist _ | apply List.Sublist.cons_cons | apply List.Sublist.cons)) (by rintro v H1 ⟨a, cc, hsa, rfl, rfl⟩ w c; exact c.sub (by repeat' first | exact List.Sublist.refl _ | exact List.nil_sublist _ | apply List.Sublist.cons_cons | apply List.Sublist.cons)) (by rintro v H1 ⟨g, hg, rfl, rfl⟩ w c; exact c.sub (by repeat' first | exact List.Sublist.refl _ | exact List.nil_sublist _ | apply List.Sublist.cons_cons | apply List.Sublist.cons)) ?_ ?_
    · rintro v H1 ⟨ad, cd, hsd, rfl, rfl⟩
      refine fl_step 7 rfl rfl rfl tabs rfl rfl rfl (by kernel_rfl) (by kernel_rfl) (by kernel_rfl) (by exact stp_b0 tabs rfl rfl) (fun w c => c.sub (by repeat' first | exact List.Sublist.refl _ | exact List.nil_sublist _ | apply List.Sublist.cons_cons | apply List.Sublist.cons)) (by rintro v H1 ⟨g, hg, rfl, rfl⟩ w c; exact c.sub (by repeat' first | exact List.Sublist.refl _ | exact List.nil_sublist _ | apply List.Sublist.cons_cons | apply List.Sublist.cons)) ?_
      rintro v H1 ⟨gm, hgm, rfl, rfl⟩
      refine fl_take 8 rfl (by kernel_rfl) (by kernel_rfl) (by kernel_rfl) (by kernel_rfl) (by kernel_rfl) (by kernel_rfl) (by exact y_bld4 (bld_rp4 _ _ _ _ _ _ _ _ _ _ _ _ _ _) rfl rfl rfl rfl) rfl (fun w c => by exact c.sub (by repeat' first | exact List.Sublist.refl _ | exact List.nil_sublist _ | apply List.Sublist.cons_cons | apply List.Sublist.cons)) ?_
      refine fl_end rfl tabs rfl rfl rfl (by kernel_rfl) (fun w c => by exact c.sub (by repeat' first | exact List.Sublist.refl _ | exact List.nil_sublist _ | apply List.Sublist.cons_cons | apply List.Sublist.cons)) (fun bf hbf => ?_)
      refine h_only 10 rfl (by kernel_rfl) ?_
      (refine m_storeb 0 tabs rfl rfl rfl rfl rfl rfl rfl ?_)
      refine c_nil (x_one (h_keep (fun w c => by exact c.sub (by repeat' first | exact List.Sublist.refl _ | exact List.nil_sublist _ | apply List.Sublist.cons_cons | apply List.Sublist.cons)) ?_))
      refine h_end (by kernel_rfl) ?_
      repeat' (first
        | (show AT _ _ _ (wpList _ _ _ (_ :: _)); first
           | (show AT _ _ _ (wpList _ _ _ (⟨_, Op.assign _, _, _, _, _⟩ :: _)); refine st_y (y_assign rfl) rfl ?_))
        | (show AT _ _ _ (wpList _ _ _ []); refine c_nil (x_then ?_))
        | (show AT _ _ _ (Code.wp _ _ _); first | refine c_seq ?_ | refine c_region ?_ | refine c_block ?_)
        | (show AT _ _ _ _; refine x_then ?_))
      refine c_loopH (α := Nat × Option Addr × Nat) [1, 2, 6] (fun s => [(7, .int .i64 s.1)]) (fun s => s.1 ≤ ms.length) (fun s => [.own (matsT 80 (trN ms s.1)) (.slice s.2.1 s.1 s.2.2), .blk bf #[iV p, iV n, .slice aT T.length cT, .slice aF F.length cF, .slice ad d.length cd, .slice s.2.1 s.1 s.2.2] 50, .own (iT d) (.slice ad d.length cd), .blk b4 #[iV n, .slice aT T.length cT, .slice aF F.length cF] 48, .own (iT F) (.slice aF F.length cF), .own (iT T) (.slice aT T.length cT), .blk b2 #[iV 0, iV 0, .slice none 0 0, .slice none 0 0, .slice none 0 0, .slice none 0 0] 50, .blk b1 #[iV p, iV n, .slice a0 F.length c0, .slice a1 T.length c1, .slice a2 d.length c2, .slice a3 ms.length c3] 50]) (fun s => ms.length - s.1) (0, some ⟨gm, 0, none⟩, 0) rfl (by repeat' (first | exact Sub.nil | refine Sub.cons rfl ?_ | refine Sub.consi rfl (by omega) ?_)) ?_ ?_ ?_
      · exact Nat.zero_le _
      · exact fun w' c' => c'.front (i := 1) rfl
      · rintro ⟨i, am, cm⟩ hi
        simp only at hi ⊢
        by_cases hin : i < ms.length
        · obtain ⟨m, hm⟩ : ∃ m, ms[i]? = some m := ⟨_, List.getElem?_eq_getElem hin⟩
          obtain ⟨a4, c4, g1, g2, g3, g4⟩ := hg3 i m hm
          have hmd : ms.getD i mat0 = m := by simp [List.getD, hm]
          have hM : MatP p m := by have := (hR.2.2.2 i hin).1; rwa [hmd] at this
          obtain ⟨R, C, e1, e2, hR8, hC8, e3, _⟩ := matP_cells hM
          rw [e1] at g1; rw [e2] at g2; rw [e3] at g3 g4; rw [mk_length] at g3 g4
          repeat' (first
            | (show AT _ _ _ (wpList _ _ _ (_ :: _)); first
               | (show AT _ _ _ (wpList _ _ _ (⟨_, Op.move _, _, _, _, _⟩ :: _)); refine st_y (y_move rfl) rfl ?_)
               | (show AT _ _ _ (wpList _ _ _ (⟨_, Op.fieldAddr _ _ _, _, _, _, _⟩ :: _)); refine st_y (y_field tabs rfl rfl rfl) rfl ?_)
               | (show AT _ _ _ (wpList _ _ _ (⟨_, Op.load _ _, _, _, _, _⟩ :: _)); refine st_y (y_load tabs rfl rfl (hc_blk 7 rfl rfl)) rfl ?_)
               | (show AT _ _ _ (wpList _ _ _ (⟨_, Op.binOp _ _ _ _ _, _, _, _, _⟩ :: _)); refine st_y (y_lss rfl rfl) rfl ?_)
               | (show AT _ _ _ (wpList _ _ _ (⟨_, Op.call _, _, _, _, _⟩ :: _)); refine st_y (y_len tabs rfl rfl) rfl ?_))
            | (show AT _ _ _ (wpList _ _ _ []); refine c_nil (x_then ?_))
            | (show AT _ _ _ (Code.wp _ _ _); first | refine c_seq ?_ | refine c_region ?_ | refine c_skip (x_then ?_) | refine c_block ?_ | refine c_ift rfl (by first | assumption | omega) ?_))
          refine c_mixR (Hp [] w [.blk bf #[iV p, iV n, .slice aT T.length cT, .slice aF F.length cF, .slice ad d.length cd, .slice am i cm] 50, .blk b1 #[iV p, iV n, .slice a0 F.length c0, .slice a1 T.length c1, .slice a2 d.length c2, .slice a3 ms.length c3] 50]) 10 (by kernel_rfl) (by kernel_rfl) (by kernel_rfl) (by kernel_rfl) (by kernel_rfl) (fun _ c => Hp.drew c) ?_
          refine h_take 0 rfl (by kernel_rfl) (by kernel_rfl) (by kernel_rfl) (by exact y_field tabs rfl rfl rfl) rfl (fun w c => by exact c.sub (by repeat' first | exact List.Sublist.refl _ | exact List.nil_sublist _ | apply List.Sublist.cons_cons | apply List.Sublist.cons)) ?_
          refine h_take 1 rfl (by kernel_rfl) (by kernel_rfl) (by kernel_rfl) (by exact y_load tabs rfl rfl (hc_blk 0 rfl rfl)) rfl (fun w c => by exact c.sub (by repeat' first | exact List.Sublist.refl _ | exact List.nil_sublist _ | apply List.Sublist.cons_cons | apply List.Sublist.cons)) ?_
          refine h_take 2 rfl (by kernel_rfl) (by kernel_rfl) (by kernel_rfl) (by exact y_field tabs rfl rfl rfl) rfl (fun w c => by exact c.sub (by repeat' first | exact List.Sublist.refl _ | exact List.nil_sublist _ | apply List.Sublist.cons_cons | apply List.Sublist.cons)) ?_
          refine h_take 3 rfl (by kernel_rfl) (by kernel_rfl) (by kernel_rfl) (by exact y_load tabs rfl rfl (hc_blk 1 rfl rfl)) rfl (fun w c => by exact c.sub (by repeat' first | exact List.Sublist.refl _ | exact List.nil_sublist _ | apply List.Sublist.cons_cons | apply List.Sublist.cons)) ?_
          refine h_take 4 rfl (by kernel_rfl) (by kernel_rfl) (by kernel_rfl) (by exact y_move rfl) rfl (fun w c => by exact c.sub (by repeat' first | exact List.Sublist.refl _ | exact List.nil_sublist _ | apply List.Sublist.cons_cons | apply List.Sublist.cons)) ?_
          refine h_take 5 rfl (by kernel_rfl) (by kernel_rfl) (by kernel_rfl) (by exact y_ixa tabs rfl rfl rfl hs3 (by omega) (by omega)) rfl (fun w c => by exact c.sub (by repeat' first | exact List.Sublist.refl _ | exact List.nil_sublist _ | apply List.Sublist.cons_cons | apply List.Sublist.cons)) ?_
          refine h_take 6 rfl (by kernel_rfl) (by kernel_rfl) (by kernel_rfl) (by exact y_load3 tabs rfl rfl (hc_w0 g1) (hc_w0 g2) (hc_w0 g3)) rfl (fun w c => by exact c.sub (by repeat' first | exact List.Sublist.refl _ | exact List.nil_sublist _ | apply List.Sublist.cons_cons | apply List.Sublist.cons)) ?_
          refine h_only 7 rfl (by kernel_rfl) ?_
          first | (refine m_build1 tabs (us := [iV C, iV R, .slice a6 (C * R) c6]) rfl rfl rfl rfl (by decide) rfl (fun g7 hg7 => ?_)) | (refine m_call (ent_of Try.func123 (by kernel_rfl) rfl) rfl rfl (fun w c => l3Transpose_ok (c.rd g4) (by omega) (by omega)) ?_; rintro v H' ⟨a6, c6, rfl, hs6, rfl⟩) | (refine m_push1 [iV C, iV R] 0 0 tabs (m' := i) rfl rfl rfl rfl rfl rfl rfl (by rw [flatMap_length matT_length, trN_len]) (by rw [flatMap_length matT_length, trN_len]; omega) (by decide) rfl rfl (fun a9 c9 => ?_))
          refine c_nil (x_one (h_keep (fun w c => by exact c.sub (by repeat' first | exact List.Sublist.refl _ | exact List.nil_sublist _ | apply List.Sublist.cons_cons | apply List.Sublist.cons)) ?_))
          refine h_only 8 rfl (by kernel_rfl) ?_
          first | (refine m_build1 tabs (us := [iV C, iV R, .slice a6 (C * R) c6]) rfl rfl rfl rfl (by decide) rfl (fun g7 hg7 => ?_)) | (refine m_call (ent_of Try.func123 (by kernel_rfl) rfl) rfl rfl (fun w c => l3Transpose_ok (c.rd g4) (by omega) (by omega)) ?_; rintro v H' ⟨a6, c6, rfl, hs6, rfl⟩) | (refine m_push1 [iV C, iV R] 0 0 tabs (m' := i) rfl rfl rfl rfl rfl rfl rfl (by rw [flatMap_length matT_length, trN_len]) (by rw [flatMap_length matT_length, trN_len]; omega) (by decide) rfl rfl (fun a9 c9 => ?_))
          refine c_nil (x_one (h_keep (fun w c => by exact c.sub (by repeat' first | exact List.Sublist.refl _ | exact List.nil_sublist _ | apply List.Sublist.cons_cons | apply List.Sublist.cons)) ?_))
          refine h_only 9 rfl (by kernel_rfl) ?_
          first | (refine m_build1 tabs (us := [iV C, iV R, .slice a6 (C * R) c6]) rfl rfl rfl rfl (by decide) rfl (fun g7 hg7 => ?_)) | (refine m_call (ent_of Try.func123 (by kernel_rfl) rfl) rfl rfl (fun w c => l3Transpose_ok (c.rd g4) (by omega) (by omega)) ?_; rintro v H' ⟨a6, c6, rfl, hs6, rfl⟩) | (refine m_push1 [iV C, iV R] 0 0 tabs (m' := i) rfl rfl rfl rfl rfl rfl rfl (by rw [flatMap_length matT_length, trN_len]) (by rw [flatMap_length matT_length, trN_len]; omega) (by decide) rfl rfl (fun a9 c9 => ?_))
          refine c_nil (x_one (h_keep (fun w c => by exact c.sub (by repeat' first | exact List.Sublist.refl _ | exact List.nil_sublist _ | apply List.Sublist.cons_cons | apply List.Sublist.cons)) ?_))
          refine h_end (by kernel_rfl) ?_
          repeat' (first
            | (show AT _ _ _ (wpList _ _ _ (_ :: _)); first
               | (show AT _ _ _ (wpList _ _ _ (⟨_, Op.move _, _, _, _, _⟩ :: _)); refine st_y (y_move rfl) rfl ?_)
               | (show AT _ _ _ (wpList _ _ _ (⟨_, Op.assign _, _, _, _, _⟩ :: _)); refine st_y (y_assign rfl) rfl ?_)
               | (show AT _ _ _ (wpList _ _ _ (⟨_, Op.fieldAddr _ _ _, _, _, _, _⟩ :: _)); refine st_y (y_field tabs rfl rfl rfl) rfl ?_)
               | (show AT _ _ _ (wpList _ _ _ (⟨_, Op.binOp _ _ _ _ _, _, _, _, _⟩ :: _)); refine st_y (y_add rfl rfl (by omega)) rfl ?_)
               | (show AT _ _ _ (wpList _ _ _ (⟨_, Op.store _ _ _, _, _, _, _⟩ :: _)); refine m_storef 1 tabs rfl rfl rfl rfl rfl rfl ?_))
            | (show AT _ _ _ (wpList _ _ _ []); first | refine c_nil (x_then ?_) | refine c_nil ?_)
            | (show AT _ _ _ (Code.wp _ _ _); refine c_region ?_)
            | (show AT _ _ _ _; first | refine x_then ?_ | refine x_blk ?_))
          refine x_nx (i + 1, a9, c9) (by repeat' (first | exact Sub.nil | refine Sub.cons rfl ?_ | refine Sub.consi rfl (by omega) ?_)) (by simp only; omega) (fun w' c' => ?_) (by simp only; omega)
          have e0 : (trN ms i).flatMap matT ++ (List.map Go.Lg.T.c [iV C, iV R] ++ [iT (mk C R (trF (matF m)))]) = (trN ms (i + 1)).flatMap matT := by
            rw [trN, List.flatMap_append, hmd, trM_of e1 e2]; rfl
          rw [e0] at c'
          exact c'
        · have : i = ms.length := by omega
          subst this
          refine AT.fact (mats_sl 0 rfl) (fun hsl => ?_)
          rw [trN_len] at hsl
          repeat' (first
            | (show AT _ _ _ (wpList _ _ _ (_ :: _)); first
               | (show AT _ _ _ (wpList _ _ _ (⟨_, Op.move _, _, _, _, _⟩ :: _)); refine st_y (y_move rfl) rfl ?_)
               | (show AT _ _ _ (wpList _ _ _ (⟨_, Op.assign _, _, _, _, _⟩ :: _)); refine st_y (y_assign rfl) rfl ?_)
               | (show AT _ _ _ (wpList _ _ _ (⟨_, Op.fieldAddr _ _ _, _, _, _, _⟩ :: _)); refine st_y (y_field tabs rfl rfl rfl) rfl ?_)
               | (show AT _ _ _ (wpList _ _ _ (⟨_, Op.load _ _, _, _, _, _⟩ :: _)); first | refine st_y (y_load tabs rfl rfl (hc_blk 7 rfl rfl)) rfl ?_ | refine st_y (y_loadb 1 tabs rfl rfl rfl rfl) rfl ?_)
               | (show AT _ _ _ (wpList _ _ _ (⟨_, Op.binOp _ _ _ _ _, _, _, _, _⟩ :: _)); refine st_y (y_lss rfl rfl) rfl ?_)
               | (show AT _ _ _ (wpList _ _ _ (⟨_, Op.call _, _, _, _, _⟩ :: _)); refine st_y (y_len tabs rfl rfl) rfl ?_)
               | (show AT _ _ _ (wpList _ _ _ (⟨_, Op.store _ _ _, _, _, _, _⟩ :: _)); refine m_storeb 6 tabs rfl rfl rfl rfl rfl rfl rfl ?_))
            | (show AT _ _ _ (wpList _ _ _ []); refine c_nil (x_then ?_))
            | (show AT _ _ _ (Code.wp _ _ _); first | refine c_seq ?_ | refine c_region ?_ | refine c_ret ?_ | refine c_exit ?_ | refine c_iff rfl (by first | assumption | exact not_not_intro (by assumption) | omega) ?_)
            | (show AT _ _ _ _; first | refine x_then ?_ | refine x_then_exit ?_ | refine x_blk_exit rfl ?_))
          exact x_ret2 Try.results56 (res_cellb 6 tabs rfl rfl rfl rfl) (res_tmp rfl) (fun w' c' => ⟨_, _, rfl, ⟨aT, cT, aF, cF, ad, cd, am, cm, by simp only [trN_len], hsT, hsF, hsd, by simpa only [trN_len] using hsl, by simp only [trN_len]⟩, (c'.sub (H' := [.own (matsT 80 (trN ms ms.length)) (.slice am ms.length cm), .own (iT d) (.slice ad d.length cd), .own (iT F) (.slice aF F.length cF), .own (iT T) (.slice aT T.length cT)]) (by repeat' first | exact List.Sublist.refl _ | exact List.nil_sublist _ | apply List.Sublist.cons_cons | apply List.Sublist.cons))⟩)
    · rintro v H1 ⟨gm, hgm, rfl, rfl⟩
      refine fl_step 6 rfl rfl rfl tabs rfl rfl rfl (by kernel_rfl) (by kernel_rfl) (by kernel_rfl) (by exact stp_dup 1 tabs (ys := d) rfl rfl rfl rfl rfl (by omega) (fun w c => c.rd h2)) (fun w c => c.sub (by repeat' first | exact List.Sublist.refl _ | exact List.nil_sublist _ | apply List.Sublist.cons_cons | apply List.Sublist.cons)) (by rintro v H1 ⟨a, cc, hsa, rfl, rfl⟩ w c; exact c.sub (by repeat' first | exact List.Sublist.refl _ | exact List.nil_sublist _ | apply List.Sublist.cons_cons | apply List.Sublist.cons)) ?_
      rintro v H1 ⟨ad, cd, hsd, rfl, rfl⟩
      refine fl_take 8 rfl (by kernel_rfl) (by kernel_rfl) (by kernel_rfl) (by kernel_rfl) (by kernel_rfl) (by kernel_rfl) (by exact y_bld4 (bld_rp4 _ _ _ _ _ _ _ _ _ _ _ _ _ _) rfl rfl rfl rfl) rfl (fun w c => by exact c.sub (by repeat' first | exact List.Sublist.refl _ | exact List.nil_sublist _ | apply List.Sublist.cons_cons | apply List.Sublist.cons)) ?_
      refine fl_end rfl tabs rfl rfl rfl (by kernel_rfl) (fun w c => by exact c.sub (by repeat' first | exact List.Sublist.refl _ | exact List.nil_sublist _ | apply List.Sublist.cons_cons | apply List.Sublist.cons)) (fun bf hbf => ?_)
      refine h_only 10 rfl (by kernel_rfl) ?_
      (refine m_storeb 0 tabs rfl rfl rfl rfl rfl rfl rfl ?_)
      refine c_nil (x_one (h_keep (fun w c => by exact c.sub (by repeat' first | exact List.Sublist.refl _ | exact List.nil_sublist _ | apply List.Sublist.cons_cons | apply List.Sublist.cons)) ?_))
      refine h_end (by kernel_rfl) ?_
      repeat' (first
        | (show AT _ _ _ (wpList _ _ _ (_ :: _)); first
           | (show AT _ _ _ (wpList _ _ _ (⟨_, Op.assign _, _, _, _, _⟩ :: _)); refine st_y (y_assign rfl) rfl ?_))
        | (show AT _ _ _ (wpList _ _ _ []); refine c_nil (x_then ?_))
        | (show AT _ _ _ (Code.wp _ _ _); first | refine c_seq ?_ | refine c_region ?_ | refine c_block ?_)
        | (show AT _ _ _ _; refine x_then ?_))
      refine c_loopH (α := Nat × Option Addr × Nat) [1, 2, 6] (fun s => [(7, .int .i64 s.1)]) (fun s => s.1 ≤ ms.length) (fun s => [.own (matsT 80 (trN ms s.1)) (.slice s.2.1 s.1 s.2.2), .blk bf #[iV p, iV n, .slice aT T.length cT, .slice aF F.length cF, .slice ad d.length cd, .slice s.2.1 s.1 s.2.2] 50, .own (iT d) (.slice ad d.length cd), .blk b4 #[iV n, .slice aT T.length cT, .slice aF F.length cF] 48, .own (iT F) (.slice aF F.length cF), .own (iT T) (.slice aT T.length cT), .blk b2 #[iV 0, iV 0, .slice none 0 0, .slice none 0 0, .slice none 0 0, .slice none 0 0] 50, .blk b1 #[iV p, iV n, .slice a0 F.length c0, .slice a1 T.length c1, .slice a2 d.length c2, .slice a3 ms.length c3] 50]) (fun s => ms.length - s.1) (0, some ⟨gm, 0, none⟩, 0) rfl (by repeat' (first | exact Sub.nil | refine Sub.cons rfl ?_ | refine Sub.consi rfl (by omega) ?_)) ?_ ?_ ?_
      · exact Nat.zero_le _
      · exact fun w' c' => c'.front (i := 2) rfl
      · rintro ⟨i, am, cm⟩ hi
        simp only at hi ⊢
        by_cases hin : i < ms.length
        · obtain ⟨m, hm⟩ : ∃ m, ms[i]? = some m := ⟨_, List.getElem?_eq_getElem hin⟩
          obtain ⟨a4, c4, g1, g2, g3, g4⟩ := hg3 i m hm
          have hmd : ms.getD i mat0 = m := by simp [List.getD, hm]
          have hM : MatP p m := by have := (hR.2.2.2 i hin).1; rwa [hmd] at this
          obtain ⟨R, C, e1, e2, hR8, hC8, e3, _⟩ := matP_cells hM
          rw [e1] at g1; rw [e2] at g2; rw [e3] at g3 g4; rw [mk_length] at g3 g4
          repeat' (first
            | (show AT _ _ _ (wpList _ _ _ (_ :: _)); first
               | (show AT _ _ _ (wpList _ _ _ (⟨_, Op.move _, _, _, _, _⟩ :: _)); refine st_y (y_move rfl) rfl ?_)
               | (show AT _ _ _ (wpList _ _ _ (⟨_, Op.fieldAddr _ _ _, _, _, _, _⟩ :: _)); refine st_y (y_field tabs rfl rfl rfl) rfl ?_)
               | (show AT _ _ _ (wpList _ _ _ (⟨_, Op.load _ _, _, _, _, _⟩ :: _)); refine st_y (y_load tabs rfl rfl (hc_blk 7 rfl rfl)) rfl ?_)
               | (show AT _ _ _ (wpList _ _ _ (⟨_, Op.binOp _ _ _ _ _, _, _, _, _⟩ :: _)); refine st_y (y_lss rfl rfl) rfl ?_)
               | (show AT _ _ _ (wpList _ _ _ (⟨_, Op.call _, _, _, _, _⟩ :: _)); refine st_y (y_len tabs rfl rfl) rfl ?_))
            | (show AT _ _ _ (wpList _ _ _ []); refine c_nil (x_then ?_))
            | (show AT _ _ _ (Code.wp _ _ _); first | refine c_seq ?_ | refine c_region ?_ | refine c_skip (x_then ?_) | refine c_block ?_ | refine c_ift rfl (by first | assumption | omega) ?_))
          refine c_mixR (Hp [] w [.blk bf #[iV p, iV n, .slice aT T.length cT, .slice aF F.length cF, .slice ad d.length cd, .slice am i cm] 50, .blk b1 #[iV p, iV n, .slice a0 F.length c0, .slice a1 T.length c1, .slice a2 d.length c2, .slice a3 ms.length c3] 50]) 10 (by kernel_rfl) (by kernel_rfl) (by kernel_rfl) (by kernel_rfl) (by kernel_rfl) (fun _ c => Hp.drew c) ?_
          refine h_take 0 rfl (by kernel_rfl) (by kernel_rfl) (by kernel_rfl) (by exact y_field tabs rfl rfl rfl) rfl (fun w c => by exact c.sub (by repeat' first | exact List.Sublist.refl _ | exact List.nil_sublist _ | apply List.Sublist.cons_cons | apply List.Sublist.cons)) ?_
          refine h_take 1 rfl (by kernel_rfl) (by kernel_rfl) (by kernel_rfl) (by exact y_load tabs rfl rfl (hc_blk 0 rfl rfl)) rfl (fun w c => by exact c.sub (by repeat' first | exact List.Sublist.refl _ | exact List.nil_sublist _ | apply List.Sublist.cons_cons | apply List.Sublist.cons)) ?_
          refine h_take 2 rfl (by kernel_rfl) (by kernel_rfl) (by kernel_rfl) (by exact y_field tabs rfl rfl rfl) rfl (fun w c => by exact c.sub (by repeat' first | exact List.Sublist.refl _ | exact List.nil_sublist _ | apply List.Sublist.cons_cons | apply List.Sublist.cons)) ?_
          refine h_take 3 rfl (by kernel_rfl) (by kernel_rfl) (by kernel_rfl) (by exact y_load tabs rfl rfl (hc_blk 1 rfl rfl)) rfl (fun w c => by exact c.sub (by repeat' first | exact List.Sublist.refl _ | exact List.nil_sublist _ | apply List.Sublist.cons_cons | apply List.Sublist.cons)) ?_
          refine h_take 4 rfl (by kernel_rfl) (by kernel_rfl) (by kernel_rfl) (by exact y_move rfl) rfl (fun w c => by exact c.sub (by repeat' first | exact List.Sublist.refl _ | exact List.nil_sublist _ | apply List.Sublist.cons_cons | apply List.Sublist.cons)) ?_
          refine h_take 5 rfl (by kernel_rfl) (by kernel_rfl) (by kernel_rfl) (by exact y_ixa tabs rfl rfl rfl hs3 (by omega) (by omega)) rfl (fun w c => by exact c.sub (by repeat' first | exact List.Sublist.refl _ | exact List.nil_sublist _ | apply List.Sublist.cons_cons | apply List.Sublist.cons)) ?_
          refine h_take 6 rfl (by kernel_rfl) (by kernel_rfl) (by kernel_rfl) (by exact y_load3 tabs rfl rfl (hc_w0 g1) (hc_w0 g2) (hc_w0 g3)) rfl (fun w c => by exact c.sub (by repeat' first | exact List.Sublist.refl _ | exact List.nil_sublist _ | apply List.Sublist.cons_cons | apply List.Sublist.cons)) ?_
          refine h_only 7 rfl (by kernel_rfl) ?_
          first | (refine m_build1 tabs (us := [iV C, iV R, .slice a6 (C * R) c6]) rfl rfl rfl rfl (by decide) rfl (fun g7 hg7 => ?_)) | (refine m_call (ent_of Try.func123 (by kernel_rfl) rfl) rfl rfl (fun w c => l3Transpose_ok (c.rd g4) (by omega) (by omega)) ?_; rintro v H' ⟨a6, c6, rfl, hs6, rfl⟩) | (refine m_push1 [iV C, iV R] 0 0 tabs (m' := i) rfl rfl rfl rfl rfl rfl rfl (by rw [flatMap_length matT_length, trN_len]) (by rw [flatMap_length matT_length, trN_len]; omega) (by decide) rfl rfl (fun a9 c9 => ?_))
          refine c_nil (x_one (h_keep (fun w c => by exact c.sub (by repeat' first | exact List.Sublist.refl _ | exact List.nil_sublist _ | apply List.Sublist.cons_cons | apply List.Sublist.cons)) ?_))
          refine h_only 8 rfl (by kernel_rfl) ?_
          first | (refine m_build1 tabs (us := [iV C, iV R, .slice a6 (C * R) c6]) rfl rfl rfl rfl (by decide) rfl (fun g7 hg7 => ?_)) | (refine m_call (ent_of Try.func123 (by kernel_rfl) rfl) rfl rfl (fun w c => l3Transpose_ok (c.rd g4) (by omega) (by omega)) ?_; rintro v H' ⟨a6, c6, rfl, hs6, rfl⟩) | (refine m_push1 [iV C, iV R] 0 0 tabs (m' := i) rfl rfl rfl rfl rfl rfl rfl (by rw [flatMap_length matT_length, trN_len]) (by rw [flatMap_length matT_length, trN_len]; omega) (by decide) rfl rfl (fun a9 c9 => ?_))
          refine c_nil (x_one (h_keep (fun w c => by exact c.sub (by repeat' first | exact List.Sublist.refl _ | exact List.nil_sublist _ | apply List.Sublist.cons_cons | apply List.Sublist.cons)) ?_))
          refine h_only 9 rfl (by kernel_rfl) ?_
          first | (refine m_build1 tabs (us := [iV C, iV R, .slice a6 (C * R) c6]) rfl rfl rfl rfl (by decide) rfl (fun g7 hg7 => ?_)) | (refine m_call (ent_of Try.func123 (by kernel_rfl) rfl) rfl rfl (fun w c => l3Transpose_ok (c.rd g4) (by omega) (by omega)) ?_; rintro v H' ⟨a6, c6, rfl, hs6, rfl⟩) | (refine m_push1 [iV C, iV R] 0 0 tabs (m' := i) rfl rfl rfl rfl rfl rfl rfl (by rw [flatMap_length matT_length, trN_len]) (by rw [flatMap_length matT_length, trN_len]; omega) (by decide) rfl rfl (fun a9 c9 => ?_))
          refine c_nil (x_one (h_keep (fun w c => by exact c.sub (by repeat' first | exact List.Sublist.refl _ | exact List.nil_sublist _ | apply List.Sublist.cons_cons | apply List.Sublist.cons)) ?_))
          refine h_end (by kernel_rfl) ?_
          repeat' (first
            | (show AT _ _ _ (wpList _ _ _ (_ :: _)); first
               | (show AT _ _ _ (wpList _ _ _ (⟨_, Op.move _, _, _, _, _⟩ :: _)); refine st_y (y_move rfl) rfl ?_)
               | (show AT _ _ _ (wpList _ _ _ (⟨_, Op.assign _, _, _, _, _⟩ :: _)); refine st_y (y_assign rfl) rfl ?_)
               | (show AT _ _ _ (wpList _ _ _ (⟨_, Op.fieldAddr _ _ _, _, _, _, _⟩ :: _)); refine st_y (y_field tabs rfl rfl rfl) rfl ?_)
               | (show AT _ _ _ (wpList _ _ _ (⟨_, Op.binOp _ _ _ _ _, _, _, _, _⟩ :: _)); refine st_y (y_add rfl rfl (by omega)) rfl ?_)
               | (show AT _ _ _ (wpList _ _ _ (⟨_, Op.store _ _ _, _, _, _, _⟩ :: _)); refine m_storef 1 tabs rfl rfl rfl rfl rfl rfl ?_))
            | (show AT _ _ _ (wpList _ _ _ []); first | refine c_nil (x_then ?_) | refine c_nil ?_)
            | (show AT _ _ _ (Code.wp _ _ _); refine c_region ?_)
            | (show AT _ _ _ _; first | refine x_then ?_ | refine x_blk ?_))
          refine x_nx (i + 1, a9, c9) (by repeat' (first | exact Sub.nil | refine Sub.cons rfl ?_ | refine Sub.consi rfl (by omega) ?_)) (by simp only; omega) (fun w' c' => ?_) (by simp only; omega)
          have e0 : (trN ms i).flatMap matT ++ (List.map Go.Lg.T.c [iV C, iV R] ++ [iT (mk C R (trF (matF m)))]) = (trN ms (i + 1)).flatMap matT := by
            rw [trN, List.flatMap_append, hmd, trM_of e1 e2]; rfl
          rw [e0] at c'
          exact c'
        · have : i = ms.length := by omega
          subst this
          refine AT.fact (mats_sl 0 rfl) (fun hsl => ?_)
          rw [trN_len] at hsl
          repeat' (first
            | (show AT _ _ _ (wpList _ _ _ (_ :: _)); first
               | (show AT _ _ _ (wpList _ _ _ (⟨_, Op.move _, _, _, _, _⟩ :: _)); refine st_y (y_move rfl) rfl ?_)
               | (show AT _ _ _ (wpList _ _ _ (⟨_, Op.assign _, _, _, _, _⟩ :: _)); refine st_y (y_assign rfl) rfl ?_)
               | (show AT _ _ _ (wpList _ _ _ (⟨_, Op.fieldAddr _ _ _, _, _, _, _⟩ :: _)); refine st_y (y_field tabs rfl rfl rfl) rfl ?_)
               | (show AT _ _ _ (wpList _ _ _ (⟨_, Op.load _ _, _, _, _, _⟩ :: _)); first | refine st_y (y_load tabs rfl rfl (hc_blk 7 rfl rfl)) rfl ?_ | refine st_y (y_loadb 1 tabs rfl rfl rfl rfl) rfl ?_)
               | (show AT _ _ _ (wpList _ _ _ (⟨_, Op.binOp _ _ _ _ _, _, _, _, _⟩ :: _)); refine st_y (y_lss rfl rfl) rfl ?_)
               | (show AT _ _ _ (wpList _ _ _ (⟨_, Op.call _, _, _, _, _⟩ :: _)); refine st_y (y_len tabs rfl rfl) rfl ?_)
               | (show AT _ _ _ (wpList _ _ _ (⟨_, Op.store _ _ _, _, _, _, _⟩ :: _)); refine m_storeb 6 tabs rfl rfl rfl rfl rfl rfl rfl ?_))
            | (show AT _ _ _ (wpList _ _ _ []); refine c_nil (x_then ?_))
            | (show AT _ _ _ (Code.wp _ _ _); first | refine c_seq ?_ | refine c_region ?_ | refine c_ret ?_ | refine c_exit ?_ | refine c_iff rfl (by first | assumption | exact not_not_intro (by assumption) | omega) ?_)
            | (show AT _ _ _ _; first | refine x_then ?_ | refine x_then_exit ?_ | refine x_blk_exit rfl ?_))
          exact x_ret2 Try.results56 (res_cellb 6 tabs rfl rfl rfl rfl) (res_tmp rfl) (fun w' c' => ⟨_, _, rfl, ⟨aT, cT, aF, cF, ad, cd, am, cm, by simp only [trN_len], hsT, hsF, hsd, by simpa only [trN_len] using hsl, by simp only [trN_len]⟩, (c'.sub (H' := [.own (matsT 80 (trN ms ms.length)) (.slice am ms.length cm), .own (iT d) (.slice ad d.length cd), .own (iT F) (.slice aF F.length cF), .own (iT T) (.slice aT T.length cT)]) (by repeat' first | exact List.Sublist.refl _ | exact List.nil_sublist _ | apply List.Sublist.cons_cons | apply List.Sublist.cons))⟩)
  · rintro v H1 ⟨gm, hgm, rfl, rfl⟩
    refine fl_step 3 rfl rfl rfl tabs rfl rfl rfl (by kernel_rfl) (by kernel_rfl) (by kernel_rfl) (by exact stp_b0 tabs rfl rfl) (fun w c => c.sub (by repeat' first | exact List.Sublist.refl _ | exact List.nil_sublist _ | apply List.Sublist.cons_cons | apply List.Sublist.cons)) (by rintro v H1 ⟨g, hg, rfl, rfl⟩ w c; exact c.sub (by repeat' first | exact List.Sublist.refl _ | exact List.nil_sublist _ | apply List.Sublist.cons_cons | apply List.Sublist.cons)) ?_
    rintro v H1 ⟨gd, hgd, rfl, rfl⟩
    refine fl_step 6 rfl rfl rfl tabs rfl rfl rfl (by kernel_rfl) (by kernel_rfl) (by kernel_rfl) (by exact stp_dup 0 tabs (ys := d) rfl rfl rfl rfl rfl (by omega) (fun w c => c.rd h2)) (fun w c => c.sub (by repeat' first | exact List.Sublist.refl _ | exact List.nil_sublist _ | apply List.Sublist.cons_cons | apply List.Sublist.cons)) (by rintro v H1 ⟨a, cc, hsa, rfl, rfl⟩ w c; exact c.sub (by repeat' first | exact List.Sublist.refl _ | exact List.nil_sublist _ | apply List.Sublist.cons_cons | apply List.Sublist.cons)) ?_
    rintro v H1 ⟨ad, cd, hsd, rfl, rfl⟩
    refine fl_take 8 rfl (by kernel_rfl) (by kernel_rfl) (by kernel_rfl) (by kernel_rfl) (by kernel_rfl) (by kernel_rfl) (by exact y_bld4 (bld_rp4 _ _ _ _ _ _ _ _ _ _ _ _ _ _) rfl rfl rfl rfl) rfl (fun w c => by exact c.sub (by repeat' first | exact List.Sublist.refl _ | exact List.nil_sublist _ | apply List.Sublist.cons_cons | apply List.Sublist.cons)) ?_
    refine fl_end rfl tabs rfl rfl rfl (by kernel_rfl) (fun w c => by exact c.sub (by repeat' first | exact List.Sublist.refl _ | exact List.nil_sublist _ | apply List.Sublist.cons_cons | apply List.Sublist.cons)) (fun bf hbf => ?_)
    refine h_only 10 rfl (by kernel_rfl) ?_
    (refine m_storeb 0 tabs rfl rfl rfl rfl rfl rfl rfl ?_)
    refine c_nil (x_one (h_keep (fun w c => by exact c.sub (by repeat' first | exact List.Sublist.refl _ | exact List.nil_sublist _ | apply List.Sublist.cons_cons | apply List.Sublist.cons)) ?_))
    refine h_end (by kernel_rfl) ?_
    repeat' (first
      | (show AT _ _ _ (wpList _ _ _ (_ :: _)); first
         | (show AT _ _ _ (wpList _ _ _ (⟨_, Op.assign _, _, _, _, _⟩ :: _)); refine st_y (y_assign rfl) rfl ?_))
      | (show AT _ _ _ (wpList _ _ _ []); refine c_nil (x_then ?_))
      | (show AT _ _ _ (Code.wp _ _ _); first | refine c_seq ?_ | refine c_region ?_ | refine c_block ?_)
      | (show AT _ _ _ _; refine x_then ?_))
    refine c_loopH (α := Nat × Option Addr × Nat) [1, 2, 6] (fun s => [(7, .int .i64 s.1)]) (fun s => s.1 ≤ ms.length) (fun s => [.own (matsT 80 (trN ms s.1)) (.slice s.2.1 s.1 s.2.2), .blk bf #[iV p, iV n, .slice aT T.length cT, .slice aF F.length cF, .slice ad d.length cd, .slice s.2.1 s.1 s.2.2] 50, .own (iT d) (.slice ad d.length cd), .blk b4 #[iV n, .slice aT T.length cT, .slice aF F.length cF] 48, .own (iT F) (.slice aF F.length cF), .own (iT T) (.slice aT T.length cT), .blk b2 #[iV 0, iV 0, .slice none 0 0, .slice none 0 0, .slice none 0 0, .slice none 0 0] 50, .blk b1 #[iV p, iV n, .slice a0 F.length c0, .slice a1 T.length c1, .slice a2 d.length c2, .slice a3 ms.length c3] 50]) (fun s => ms.length - s.1) (0, some ⟨gm, 0, none⟩, 0) rfl (by repeat' (first | exact Sub.nil | refine Sub.cons rfl ?_ | refine Sub.consi rfl (by omega) ?_)) ?_ ?_ ?_
    · exact Nat.zero_le _
    · exact fun w' c' => c'.front (i := 2) rfl
    · rintro ⟨i, am, cm⟩ hi
      simp only at hi ⊢
      by_cases hin : i < ms.length
      · obtain ⟨m, hm⟩ : ∃ m, ms[i]? = some m := ⟨_, List.getElem?_eq_getElem hin⟩
        obtain ⟨a4, c4, g1, g2, g3, g4⟩ := hg3 i m hm
        have hmd : ms.getD i mat0 = m := by simp [List.getD, hm]
        have hM : MatP p m := by have := (hR.2.2.2 i hin).1; rwa [hmd] at this
        obtain ⟨R, C, e1, e2, hR8, hC8, e3, _⟩ := matP_cells hM
        rw [e1] at g1; rw [e2] at g2; rw [e3] at g3 g4; rw [mk_length] at g3 g4
        repeat' (first
          | (show AT _ _ _ (wpList _ _ _ (_ :: _)); first
             | (show AT _ _ _ (wpList _ _ _ (⟨_, Op.move _, _, _, _, _⟩ :: _)); refine st_y (y_move rfl) rfl ?_)
             | (show AT _ _ _ (wpList _ _ _ (⟨_, Op.fieldAddr _ _ _, _, _, _, _⟩ :: _)); refine st_y (y_field tabs rfl rfl rfl) rfl ?_)
             | (show AT _ _ _ (wpList _ _ _ (⟨_, Op.load _ _, _, _, _, _⟩ :: _)); refine st_y (y_load tabs rfl rfl (hc_blk 7 rfl rfl)) rfl ?_)
             | (show AT _ _ _ (wpList _ _ _ (⟨_, Op.binOp _ _ _ _ _, _, _, _, _⟩ :: _)); refine st_y (y_lss rfl rfl) rfl ?_)
             | (show AT _ _ _ (wpList _ _ _ (⟨_, Op.call _, _, _, _, _⟩ :: _)); refine st_y (y_len tabs rfl rfl) rfl ?_))
          | (show AT _ _ _ (wpList _ _ _ []); refine c_nil (x_then ?_))
          | (show AT _ _ _ (Code.wp _ _ _); first | refine c_seq ?_ | refine c_region ?_ | refine c_skip (x_then ?_) | refine c_block ?_ | refine c_ift rfl (by first | assumption | omega) ?_))
        refine c_mixR (Hp [] w [.blk bf #[iV p, iV n, .slice aT T.length cT, .slice aF F.length cF, .slice ad d.length cd, .slice am i cm] 50, .blk b1 #[iV p, iV n, .slice a0 F.length c0, .slice a1 T.length c1, .slice a2 d.length c2, .slice a3 ms.length c3] 50]) 10 (by kernel_rfl) (by kernel_rfl) (by kernel_rfl) (by kernel_rfl) (by kernel_rfl) (fun _ c => Hp.drew c) ?_
        refine h_take 0 rfl (by kernel_rfl) (by kernel_rfl) (by kernel_rfl) (by exact y_field tabs rfl rfl rfl) rfl (fun w c => by exact c.sub (by repeat' first | exact List.Sublist.refl _ | exact List.nil_sublist _ | apply List.Sublist.cons_cons | apply List.Sublist.cons)) ?_
        refine h_take 1 rfl (by kernel_rfl) (by kernel_rfl) (by kernel_rfl) (by exact y_load tabs rfl rfl (hc_blk 0 rfl rfl)) rfl (fun w c => by exact c.sub (by repeat' first | exact List.Sublist.refl _ | exact List.nil_sublist _ | apply List.Sublist.cons_cons | apply List.Sublist.cons)) ?_
        refine h_take 2 rfl (by kernel_rfl) (by kernel_rfl) (by kernel_rfl) (by exact y_field tabs rfl rfl rfl) rfl (fun w c => by exact c.sub (by repeat' first | exact List.Sublist.refl _ | exact List.nil_sublist _ | apply List.Sublist.cons_cons | apply List.Sublist.cons)) ?_
        refine h_take 3 rfl (by kernel_rfl) (by kernel_rfl) (by kernel_rfl) (by exact y_load tabs rfl rfl (hc_blk 1 rfl rfl)) rfl (fun w c => by exact c.sub (by repeat' first | exact List.Sublist.refl _ | exact List.nil_sublist _ | apply List.Sublist.cons_cons | apply List.Sublist.cons)) ?_
        refine h_take 4 rfl (by kernel_rfl) (by kernel_rfl) (by kernel_rfl) (by exact y_move rfl) rfl (fun w c => by exact c.sub (by repeat' first | exact List.Sublist.refl _ | exact List.nil_sublist _ | apply List.Sublist.cons_cons | apply List.Sublist.cons)) ?_
        refine h_take 5 rfl (by kernel_rfl) (by kernel_rfl) (by kernel_rfl) (by exact y_ixa tabs rfl rfl rfl hs3 (by omega) (by omega)) rfl (fun w c => by exact c.sub (by repeat' first | exact List.Sublist.refl _ | exact List.nil_sublist _ | apply List.Sublist.cons_cons | apply List.Sublist.cons)) ?_
        refine h_take 6 rfl (by kernel_rfl) (by kernel_rfl) (by kernel_rfl) (by exact y_load3 tabs rfl rfl (hc_w0 g1) (hc_w0 g2) (hc_w0 g3)) rfl (fun w c => by exact c.sub (by repeat' first | exact List.Sublist.refl _ | exact List.nil_sublist _ | apply List.Sublist.cons_cons | apply List.Sublist.cons)) ?_
        refine h_only 7 rfl (by kernel_rfl) ?_
        first | (refine m_build1 tabs (us := [iV C, iV R, .slice a6 (C * R) c6]) rfl rfl rfl rfl (by decide) rfl (fun g7 hg7 => ?_)) | (refine m_call (ent_of Try.func123 (by kernel_rfl) rfl) rfl rfl (fun w c => l3Transpose_ok (c.rd g4) (by omega) (by omega)) ?_; rintro v H' ⟨a6, c6, rfl, hs6, rfl⟩) | (refine m_push1 [iV C, iV R] 0 0 tabs (m' := i) rfl rfl rfl rfl rfl rfl rfl (by rw [flatMap_length matT_length, trN_len]) (by rw [flatMap_length matT_length, trN_len]; omega) (by decide) rfl rfl (fun a9 c9 => ?_))
        refine c_nil (x_one (h_keep (fun w c => by exact c.sub (by repeat' first | exact List.Sublist.refl _ | exact List.nil_sublist _ | apply List.Sublist.cons_cons | apply List.Sublist.cons)) ?_))
        refine h_only 8 rfl (by kernel_rfl) ?_
        first | (refine m_build1 tabs (us := [iV C, iV R, .slice a6 (C * R) c6]) rfl rfl rfl rfl (by decide) rfl (fun g7 hg7 => ?_)) | (refine m_call (ent_of Try.func123 (by kernel_rfl) rfl) rfl rfl (fun w c => l3Transpose_ok (c.rd g4) (by omega) (by omega)) ?_; rintro v H' ⟨a6, c6, rfl, hs6, rfl⟩) | (refine m_push1 [iV C, iV R] 0 0 tabs (m' := i) rfl rfl rfl rfl rfl rfl rfl (by rw [flatMap_length matT_length, trN_len]) (by rw [flatMap_length matT_length, trN_len]; omega) (by decide) rfl rfl (fun a9 c9 => ?_))
        refine c_nil (x_one (h_keep (fun w c => by exact c.sub (by repeat' first | exact List.Sublist.refl _ | exact List.nil_sublist _ | apply List.Sublist.cons_cons | apply List.Sublist.cons)) ?_))
        refine h_only 9 rfl (by kernel_rfl) ?_
        first | (refine m_build1 tabs (us := [iV C, iV R, .slice a6 (C * R) c6]) rfl rfl rfl rfl (by decide) rfl (fun g7 hg7 => ?_)) | (refine m_call (ent_of Try.func123 (by kernel_rfl) rfl) rfl rfl (fun w c => l3Transpose_ok (c.rd g4) (by omega) (by omega)) ?_; rintro v H' ⟨a6, c6, rfl, hs6, rfl⟩) | (refine m_push1 [iV C, iV R] 0 0 tabs (m' := i) rfl rfl rfl rfl rfl rfl rfl (by rw [flatMap_length matT_length, trN_len]) (by rw [flatMap_length matT_length, trN_len]; omega) (by decide) rfl rfl (fun a9 c9 => ?_))
        refine c_nil (x_one (h_keep (fun w c => by exact c.sub (by repeat' first | exact List.Sublist.refl _ | exact List.nil_sublist _ | apply List.Sublist.cons_cons | apply List.Sublist.cons)) ?_))
        refine h_end (by kernel_rfl) ?_
        repeat' (first
          | (show AT _ _ _ (wpList _ _ _ (_ :: _)); first
             | (show AT _ _ _ (wpList _ _ _ (⟨_, Op.move _, _, _, _, _⟩ :: _)); refine st_y (y_move rfl) rfl ?_)
             | (show AT _ _ _ (wpList _ _ _ (⟨_, Op.assign _, _, _, _, _⟩ :: _)); refine st_y (y_assign rfl) rfl ?_)
             | (show AT _ _ _ (wpList _ _ _ (⟨_, Op.fieldAddr _ _ _, _, _, _, _⟩ :: _)); refine st_y (y_field tabs rfl rfl rfl) rfl ?_)
             | (show AT _ _ _ (wpList _ _ _ (⟨_, Op.binOp _ _ _ _ _, _, _, _, _⟩ :: _)); refine st_y (y_add rfl rfl (by omega)) rfl ?_)
             | (show AT _ _ _ (wpList _ _ _ (⟨_, Op.store _ _ _, _, _, _, _⟩ :: _)); refine m_storef 1 tabs rfl rfl rfl rfl rfl rfl ?_))
          | (show AT _ _ _ (wpList _ _ _ []); first | refine c_nil (x_then ?_) | refine c_nil ?_)
          | (show AT _ _ _ (Code.wp _ _ _); refine c_region ?_)
          | (show AT _ _ _ _; first | refine x_then ?_ | refine x_blk ?_))
        refine x_nx (i + 1, a9, c9) (by repeat' (first | exact Sub.nil | refine Sub.cons rfl ?_ | refine Sub.consi rfl (by omega) ?_)) (by simp only; omega) (fun w' c' => ?_) (by simp only; omega)
        have e0 : (trN ms i).flatMap matT ++ (List.map Go.Lg.T.c [iV C, iV R] ++ [iT (mk C R (trF (matF m)))]) = (trN ms (i + 1)).flatMap matT := by
          rw [trN, List.flatMap_append, hmd, trM_of e1 e2]; rfl
        rw [e0] at c'
        exact c'
      · have : i = ms.length := by omega
        subst this
        refine AT.fact (mats_sl 0 rfl) (fun hsl => ?_)
        rw [trN_len] at hsl
        repeat' (first
          | (show AT _ _ _ (wpList _ _ _ (_ :: _)); first
             | (show AT _ _ _ (wpList _ _ _ (⟨_, Op.move _, _, _, _, _⟩ :: _)); refine st_y (y_move rfl) rfl ?_)
             | (show AT _ _ _ (wpList _ _ _ (⟨_, Op.assign _, _, _, _, _⟩ :: _)); refine st_y (y_assign rfl) rfl ?_)
             | (show AT _ _ _ (wpList _ _ _ (⟨_, Op.fieldAddr _ _ _, _, _, _, _⟩ :: _)); refine st_y (y_field tabs rfl rfl rfl) rfl ?_)
             | (show AT _ _ _ (wpList _ _ _ (⟨_, Op.load _ _, _, _, _, _⟩ :: _)); first | refine st_y (y_load tabs rfl rfl (hc_blk 7 rfl rfl)) rfl ?_ | refine st_y (y_loadb 1 tabs rfl rfl rfl rfl) rfl ?_)
             | (show AT _ _ _ (wpList _ _ _ (⟨_, Op.binOp _ _ _ _ _, _, _, _, _⟩ :: _)); refine st_y (y_lss rfl rfl) rfl ?_)
             | (show AT _ _ _ (wpList _ _ _ (⟨_, Op.call _, _, _, _, _⟩ :: _)); refine st_y (y_len tabs rfl rfl) rfl ?_)
             | (show AT _ _ _ (wpList _ _ _ (⟨_, Op.store _ _ _, _, _, _, _⟩ :: _)); refine m_storeb 6 tabs rfl rfl rfl rfl rfl rfl rfl ?_))
          | (show AT _ _ _ (wpList _ _ _ []); refine c_nil (x_then ?_))
          | (show AT _ _ _ (Code.wp _ _ _); first | refine c_seq ?_ | refine c_region ?_ | refine c_ret ?_ | refine c_exit ?_ | refine c_iff rfl (by first | assumption | exact not_not_intro (by assumption) | omega) ?_)
          | (show AT _ _ _ _; first | refine x_then ?_ | refine x_then_exit ?_ | refine x_blk_exit rfl ?_))
        exact x_ret2 Try.results56 (res_cellb 6 tabs rfl rfl rfl rfl) (res_tmp rfl) (fun w' c' => ⟨_, _, rfl, ⟨aT, cT, aF, cF, ad, cd, am, cm, by simp only [trN_len], hsT, hsF, hsd, by simpa only [trN_len] using hsl, by simp only [trN_len]⟩, (c'.sub (H' := [.own (matsT 80 (trN ms ms.length)) (.slice am ms.length cm), .own (iT d) (.slice ad d.length cd), .own (iT F) (.slice aF F.length cF), .own (iT T) (.slice aT T.length cT)]) (by repeat' first | exact List.Sublist.refl _ | exact List.nil_sublist _ | apply List.Sublist.cons_cons | apply List.Sublist.cons))⟩)
theorem impl_DualRep_ok {w : World} {r : Rp} {e : Nat} {u0 u1 u2 u3 : Value} (h0 : Rd w (iT r.q.2.1) u0) (h1 : Rd w (iT r.q.2.2) u1) (h2 : Rd w (iT r.d) u2) (h3 : Rd w (matsT e r.m) u3) :
    Does Try.prog 57 [.agg #[iV r.p, iV r.q.1, u0, u1, u2, u3]] w (GivesRB (dualR r) (decide (RepP r))) := by
  by_cases hR : RepP r
  · rw [decide_eq_true hR]
    exact impl_DualRep_yes h0 h1 h2 h3 hR
  · rw [dualR, if_neg hR, decide_eq_false hR]
    refine fn_enter Try.func57 rfl Try.ntmps57 rfl ?_
    repeat' (first
      | (show AT _ _ _ (wpList _ _ _ (_ :: _)); first
         | (show AT _ _ _ (wpList _ _ _ (⟨_, Op.assign _, _, _, _, _⟩ :: _)); refine st_y (y_assign rfl) rfl ?_)
         | (show AT _ _ _ (wpList _ _ _ (⟨_, Op.load _ _, _, _, _, _⟩ :: _)); refine st_y (y_loadb 1 tabs rfl rfl rfl rfl) rfl ?_)
         | (show AT _ _ _ (wpList _ _ _ (⟨_, Op.unOp _ _ _, _, _, _, _⟩ :: _)); refine st_y (y_notd rfl) rfl ?_)
         | (show AT _ _ _ (wpList _ _ _ (⟨_, Op.call _, _, _, _, _⟩ :: _)); (refine m_call (ent_of Try.func105 (by kernel_rfl) rfl) rfl rfl (fun w c => impl_IsRep_ok (r := r) (c.rd h0) (c.rd h1) (c.rd h2) (c.rd h3)) ?_; rintro v H' ⟨rfl, rfl⟩))
         | (show AT _ _ _ (wpList _ _ _ (⟨_, Op.store _ _ _, _, _, _, _⟩ :: _)); refine m_storeb 0 tabs rfl rfl rfl rfl rfl rfl rfl ?_)
         | (show AT _ _ _ (wpList _ _ _ (⟨_, Op.box _ _, _, _, _, _⟩ :: _)); refine m_box rfl rfl (fun b1 hb1 => ?_))
         | (show AT _ _ _ (wpList _ _ _ (⟨_, Op.alloc _, _, _, _, _⟩ :: _)); refine m_alloc tabs rfl rfl (fun b4 hb4 => ?_))
         | (show AT _ _ _ (wpList _ _ _ (⟨_, Op.build _ _, _, _, _, _⟩ :: _)); refine st_y (y_bld0 bld_rp0) rfl ?_))
      | (show AT _ _ _ (wpList _ _ _ []); refine c_nil (x_then ?_))
      | (show AT _ _ _ (Code.wp _ _ _); first | refine c_seq ?_ | refine c_region ?_ | refine c_ret ?_ | refine c_ift rfl (by first | assumption | omega) ?_)
      | (show AT _ _ _ _; refine x_then_ret ?_))
    all_goals first | exact absurd (by assumption) hR | skip
    exact x_ret2 Try.results57 (res_cellb 0 tabs rfl rfl rfl rfl) (res_tmp rfl) (fun w' c' => ⟨_, _, rfl, ⟨none, 0, none, 0, none, 0, none, 0, rfl, .inl rfl, .inl rfl, .inl rfl, .inl rfl, rfl⟩, Hp.nilp _ _ (Hp.nilp _ _ (Hp.nilp _ _ (Hp.nilp _ _ (c'.sub (List.nil_sublist _)))))⟩)
theorem spec_DualRep_ok {w : World} {r : Rp} {e : Nat} {u0 u1 u2 u3 : Value} (h0 : Rd w (iT r.q.2.1) u0) (h1 : Rd w (iT r.q.2.2) u1) (h2 : Rd w (iT r.d) u2) (h3 : Rd w (matsT e r.m) u3) :
    Does Try.prog 56 [.agg #[iV r.p, iV r.q.1, u0, u1, u2, u3]] w (GivesRB (dualR r) (decide (RepP r))) := by
  by_cases hR : RepP r
  · rw [decide_eq_true hR]
    exact spec_DualRep_yes h0 h1 h2 h3 hR
  · rw [dualR, if_neg hR, decide_eq_false hR]
    refine fn_enter Try.func56 rfl Try.ntmps56 rfl ?_
    repeat' (first
      | (show AT _ _ _ (wpList _ _ _ (_ :: _)); first
         | (show AT _ _ _ (wpList _ _ _ (⟨_, Op.assign _, _, _, _, _⟩ :: _)); refine st_y (y_assign rfl) rfl ?_)
         | (show AT _ _ _ (wpList _ _ _ (⟨_, Op.load _ _, _, _, _, _⟩ :: _)); refine st_y (y_loadb 1 tabs rfl rfl rfl rfl) rfl ?_)
         | (show AT _ _ _ (wpList _ _ _ (⟨_, Op.unOp _ _ _, _, _, _, _⟩ :: _)); refine st_y (y_notd rfl) rfl ?_)
         | (show AT _ _ _ (wpList _ _ _ (⟨_, Op.call _, _, _, _, _⟩ :: _)); (refine m_call (ent_of Try.func103 (by kernel_rfl) rfl) rfl rfl (fun w c => spec_IsRep_ok (r := r) (c.rd h0) (c.rd h1) (c.rd h2) (c.rd h3)) ?_; rintro v H' ⟨rfl, rfl⟩))
         | (show AT _ _ _ (wpList _ _ _ (⟨_, Op.store _ _ _, _, _, _, _⟩ :: _)); refine m_storeb 0 tabs rfl rfl rfl rfl rfl rfl rfl ?_)
         | (show AT _ _ _ (wpList _ _ _ (⟨_, Op.box _ _, _, _, _, _⟩ :: _)); refine m_box rfl rfl (fun b1 hb1 => ?_))
         | (show AT _ _ _ (wpList _ _ _ (⟨_, Op.alloc _, _, _, _, _⟩ :: _)); refine m_alloc tabs rfl rfl (fun b4 hb4 => ?_))
         | (show AT _ _ _ (wpList _ _ _ (⟨_, Op.build _ _, _, _, _, _⟩ :: _)); refine st_y (y_bld0 bld_rp0) rfl ?_))
      | (show AT _ _ _ (wpList _ _ _ []); refine c_nil (x_then ?_))
      | (show AT _ _ _ (Code.wp _ _ _); first | refine c_seq ?_ | refine c_region ?_ | refine c_ret ?_ | refine c_ift rfl (by first | assumption | omega) ?_)
      | (show AT _ _ _ _; refine x_then_ret ?_))
    all_goals first | exact absurd (by assumption) hR | skip
    exact x_ret2 Try.results56 (res_cellb 0 tabs rfl rfl rfl rfl) (res_tmp rfl) (fun w' c' => ⟨_, _, rfl, ⟨none, 0, none, 0, none, 0, none, 0, rfl, .inl rfl, .inl rfl, .inl rfl, .inl rfl, rfl⟩, Hp.nilp _ _ (Hp.nilp _ _ (Hp.nilp _ _ (Hp.nilp _ _ (c'.sub (List.nil_sublist _)))))⟩)
theorem trN_sz {r : Rp} (hR : RepP r) : ∀ n, n ≤ r.m.length → szMs (trN r.m n) ≤ 65 * n
  | 0, _ => by simp [trN, szMs]
  | n + 1, hn => by
    have ih := trN_sz hR n (by omega)
    have hM := (hR.2.2.2 n (by omega)).1
    obtain ⟨R, C, e1, e2, hR8, hC8, _, _⟩ := matP_cells hM
    have h3 : (trM (r.m.getD n mat0)).2.2.length ≤ 64 := by
      rw [trM_of e1 e2]
      simp only [mk_length]
      exact Nat.le_trans (Nat.mul_le_mul hC8 hR8) (by omega)
    simp only [szMs, trN_len] at ih
    simp only [szMs, trN, List.length_append, trN_len, List.map_append, List.sum_append, List.map_cons, List.map_nil, List.sum_cons, List.sum_nil, List.length_cons, List.length_nil]
    omega
theorem dualR_sz (r : Rp) : (dualR r).q.2.1.length ≤ 64 ∧ (dualR r).q.2.2.length ≤ 64 ∧ (dualR r).d.length ≤ 64 ∧ szMs (dualR r).m ≤ 1000 := by
  unfold dualR
  split
  · rename_i h
    have h1 := h.2.1.1.2.1
    have h2 := h.2.1.1.2.2.1
    have h3 := (RepP.dd h).2
    have h4 := trN_sz h r.m.length (Nat.le_refl _)
    have h5 := h.ml
    simp only [opQ]
    exact ⟨by omega, by omega, by omega, by omega⟩
  · simp [rp00, szMs]
end Go.Proofs.Ytooffimgfnacoaa
