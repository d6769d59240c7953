import Derived.Test.YtnmhdmkfhacdbaaGreatSubqA
namespace Go.Proofs.YtnmhdmkfhacdbaaGreat
open Go.Lg Go.Proofs Go.RowKit
attribute [local irreducible] Code.wp wpList bodyPost Exit.then Exit.inBlock Hp Again Calls Y AT ResV QT Qn QI wpAny wpAnyQ
set_option maxRecDepth 20000
set_option maxHeartbeats 4000000

theorem spec_IsSub_ok {w : World} {r : Rp} {ss : List Sp} {e e' : Nat} {u0 u1 u2 u3 v : Value} (h0 : Rd w (iT r.q.2.1) u0) (h1 : Rd w (iT r.q.2.2) u1) (h2 : Rd w (iT r.d) u2) (h3 : Rd w (matsT e r.m) u3) (hv : Rd w (spsT e' ss) v) :
    Does Tryz.prog 21 [.agg #[iV r.p, iV r.q.1, u0, u1, u2, u3], v] w (fun r' H => r' = .bool (decide (SubP r ss)) ∧ H = []) := by
  have h00 := h0
  have h10 := h1
  have h20 := h2
  have h30 := h3
  obtain ⟨a0, c0, rfl, hs0, _, _, hg0⟩ := h0.ints
  obtain ⟨a1, c1, rfl, hs1, _, _, hg1⟩ := h1.ints
  obtain ⟨a2, c2, rfl, hs2, _, _, hg2⟩ := h2.ints
  obtain ⟨a3, c3, rfl, hs3, _, _, hg3⟩ := rd_mats h3
  obtain ⟨av, cv, rfl, hsv, _, _, hgv⟩ := rd_sps hv
  by_cases hB : RepP r ∧ ss.length = r.d.length
  · obtain ⟨hR, hl⟩ := hB
    have hF := hR.1
    have h5 := (RepP.dd hR).2
    have h6 : r.m.length ≤ 6 := by have := hR.2.2.1; have := hR.2.1.1.2.1; omega
    refine fn_enter Tryz.func21 rfl Tryz.ntmps21 rfl ?_
    repeat' (first
      | (show AT _ _ _ (wpList _ _ _ (_ :: _)); first
         | (show AT _ _ _ (wpList _ _ _ (⟨_, Op.move _, _, _, _, _⟩ :: _)); refine st_y (y_move rfl) rfl ?_)
         | (show AT _ _ _ (wpList _ _ _ (⟨_, Op.assign _, _, _, _, _⟩ :: _)); refine st_y (y_assign rfl) rfl ?_)
         | (show AT _ _ _ (wpList _ _ _ (⟨_, Op.fieldAddr _ _ _, _, _, _, _⟩ :: _)); refine st_y (y_field tabs rfl rfl rfl) rfl ?_)
         | (show AT _ _ _ (wpList _ _ _ (⟨_, Op.load _ _, _, _, _, _⟩ :: _)); first | refine st_y (y_loadb 0 tabs rfl rfl rfl rfl) rfl ?_ | refine st_y (y_load tabs rfl rfl (hc_blk 0 rfl rfl)) rfl ?_)
         | (show AT _ _ _ (wpList _ _ _ (⟨_, Op.binOp _ _ _ _ _, _, _, _, _⟩ :: _)); refine st_y (y_neq rfl rfl) rfl ?_)
         | (show AT _ _ _ (wpList _ _ _ (⟨_, Op.unOp _ _ _, _, _, _, _⟩ :: _)); refine st_y (y_notd rfl) rfl ?_)
         | (show AT _ _ _ (wpList _ _ _ (⟨_, Op.call _, _, _, _, _⟩ :: _)); first | (refine m_call (ent_of Tryz.func36 (by kernel_rfl) rfl) rfl rfl (fun w c => spec_IsRep_ok (r := r) (c.rd h00) (c.rd h10) (c.rd h20) (c.rd h30)) ?_; rintro v H' ⟨rfl, rfl⟩) | refine st_y (y_len tabs rfl rfl) rfl ?_)
         | (show AT _ _ _ (wpList _ _ _ (⟨_, Op.pick _ _ _, _, _, _, _⟩ :: _)); first | refine st_y (y_pickt rfl (by first | assumption | omega) rfl) rfl ?_ | refine st_y (y_pickf rfl (by first | assumption | omega) rfl) rfl ?_)
         | (show AT _ _ _ (wpList _ _ _ (⟨_, Op.box _ _, _, _, _, _⟩ :: _)); refine m_box rfl rfl (fun b2 hb2 => ?_))
         | refine st_gfy rfl rfl (by first | assumption | omega) ?_ | refine st_gfn rfl rfl (by first | assumption | omega) rfl ?_ | refine st_gd rfl rfl (fun h => ?_) (fun h => ?_))
      | (show AT _ _ _ (wpList _ _ _ []); refine c_nil (x_then ?_))
      | (show AT _ _ _ (Code.wp _ _ _); first | refine c_seq ?_ | refine c_region ?_ | refine c_skip (x_then ?_) | refine c_block ?_ | refine c_ret ?_ | refine c_true rfl ?_ | refine c_iff rfl (by first | assumption | exact not_not_intro (by assumption) | omega) ?_)
      | (show AT _ _ _ _; refine x_then_ret ?_))
    all_goals first | exact absurd hR (by assumption) | exact absurd hl (by omega) | skip
    refine c_loopH (α := Nat) [1, 2] (fun i => [(5, .int .i64 i)]) (fun i => i ≤ ss.length ∧ ∀ v, v < i → VrtP r ss v) (fun i => [.blk b2 #[iV r.p, iV r.q.1, .slice a0 r.q.2.1.length c0, .slice a1 r.q.2.2.length c1, .slice a2 r.d.length c2, .slice a3 r.m.length c3] 35]) (fun i => ss.length - i) 0 rfl (by repeat' (first | exact Sub.nil | refine Sub.cons rfl ?_ | refine Sub.consi rfl (by omega) ?_)) ?_ ?_ ?_
    · exact ⟨Nat.zero_le _, fun v hv => by omega⟩
    · exact fun w' c' => c'
    · rintro i ⟨hi, hV⟩
      by_cases hin : i < ss.length
      · obtain ⟨A, hA⟩ : ∃ A, ss[i]? = some A := ⟨_, List.getElem?_eq_getElem hin⟩
        obtain ⟨a5, c5, g1, g2, g3⟩ := hgv i A hA
        have gA : ss.getD i sp0 = A := by rw [List.getD, hA]; rfl
        have hid : i < r.d.length := by omega
        have gD := hg2 i hid
        by_cases hS : SpcP r.p A
        · have hS2 : ¬ ¬ SpcP r.p A := fun h => h hS
          repeat' (first
            | (show AT _ _ _ (wpList _ _ _ (_ :: _)); first
               | (show AT _ _ _ (wpList _ _ _ (⟨_, Op.move _, _, _, _, _⟩ :: _)); refine st_y (y_move rfl) rfl ?_)
               | (show AT _ _ _ (wpList _ _ _ (⟨_, Op.assign _, _, _, _, _⟩ :: _)); refine st_y (y_assign rfl) rfl ?_)
               | (show AT _ _ _ (wpList _ _ _ (⟨_, Op.binOp _ _ _ _ _, _, _, _, _⟩ :: _)); first | refine st_y (y_add rfl rfl (by omega)) rfl ?_ | refine st_y (y_lss rfl rfl) rfl ?_)
               | (show AT _ _ _ (wpList _ _ _ (⟨_, Op.call _, _, _, _, _⟩ :: _)); refine st_y (y_len tabs rfl rfl) rfl ?_))
            | (show AT _ _ _ (wpList _ _ _ []); refine c_nil (x_then ?_))
            | (show AT _ _ _ (Code.wp _ _ _); first | refine c_seq ?_ | refine c_region ?_ | refine c_skip (x_then ?_) | refine c_skip (x_blk ?_) | refine c_block ?_ | refine c_ret ?_ | refine c_draw (by kernel_rfl) (by kernel_rfl) (fun _ c => Hp.drew c) ?_ | refine c_ift rfl (by first | assumption | omega) ?_ | refine c_ifnd rfl (fun h => ?_) (fun h => ?_))
            | (show QT _ _ _ _ _ _ (_ :: _); first
               | (show QT _ _ _ _ _ _ (⟨_, Op.move _, _, _, _, _⟩ :: _); refine q_y (y_move rfl) rfl ?_)
               | (show QT _ _ _ _ _ _ (⟨_, Op.fieldAddr _ _ _, _, _, _, _⟩ :: _); refine q_y (y_field tabs rfl rfl rfl) rfl ?_)
               | (show QT _ _ _ _ _ _ (⟨_, Op.load _ _, _, _, _, _⟩ :: _); first | refine q_y (y_load2 tabs rfl rfl (hc_w0 g1) (hc_w0 g2)) rfl ?_ | refine q_y (y_load tabs rfl rfl (hc_blk 0 rfl rfl)) rfl ?_ | refine q_y (y_load tabs rfl rfl (hc_w0 gD)) rfl ?_ | refine q_y (y_load tabs rfl rfl (hc_w0 g1)) rfl ?_)
               | (show QT _ _ _ _ _ _ (⟨_, Op.indexAddr _ _ _, _, _, _, _⟩ :: _); first | refine q_y (y_ixa tabs rfl rfl rfl hsv (by omega) (by omega)) rfl ?_ | refine q_y (y_ix1 tabs (j := i) rfl rfl rfl hs2 rfl hid) rfl ?_)
               | (show QT _ _ _ _ _ _ (⟨_, Op.binOp _ _ _ _ _, _, _, _, _⟩ :: _); refine q_y (y_neq rfl rfl) rfl ?_)
               | (show QT _ _ _ _ _ _ (⟨_, Op.unOp _ _ _, _, _, _, _⟩ :: _); refine q_y (y_notd rfl) rfl ?_)
               | (show QT _ _ _ _ _ _ (⟨_, Op.call _, _, _, _, _⟩ :: _); refine q_call (ent_of Tryz.func37 (by kernel_rfl) rfl) rfl rfl (fun w c => spec_IsSpace_ok (s := A) (c.rd g3)) (fun u H' h => h.1) ?_)
               | (show QT _ _ _ _ _ _ (⟨_, Op.pick _ _ _, _, _, _, _⟩ :: _); refine q_y (y_pickf rfl (by assumption) rfl) rfl ?_)
               | refine q_gfy rfl rfl (by assumption) ?_)
            | (show QT _ _ _ _ _ _ []; refine q_nil (x_then ?_))
            | (show AT _ _ _ _; first | refine x_then ?_ | refine x_then_ret ?_ | refine x_blk_ret ?_))
          · have hno : ¬ SubP r ss := fun h => by
              have h1 := (h.2.1 i hin).2
              rw [gA] at h1
              exact absurd h1 (by assumption)
            rw [decide_eq_false hno]
            exact x_ret1 Tryz.results21 (res_tmp rfl) (fun w' c' => ⟨_, _, rfl, ⟨rfl, rfl⟩, c'.sub (List.nil_sublist _)⟩)
          · refine x_nx (i + 1) (by repeat' (first | exact Sub.nil | refine Sub.cons rfl ?_ | refine Sub.consi rfl (by omega) ?_)) ⟨by omega, fun v hv => ?_⟩ (fun w' c' => c') (by omega)
            by_cases hvi : v = i
            · subst hvi
              refine ⟨by rw [gA]; exact hS, ?_⟩
              rw [gA]
              first | assumption | exact Decidable.not_not.1 (by assumption)
            · exact hV v (by omega)
        · have hno : ¬ SubP r ss := fun h => hS (by have h1 := (h.2.1 i hin).1; rwa [gA] at h1)
          rw [decide_eq_false hno]
          repeat' (first
            | (show AT _ _ _ (wpList _ _ _ (_ :: _)); first
               | (show AT _ _ _ (wpList _ _ _ (⟨_, Op.move _, _, _, _, _⟩ :: _)); refine st_y (y_move rfl) rfl ?_)
               | (show AT _ _ _ (wpList _ _ _ (⟨_, Op.assign _, _, _, _, _⟩ :: _)); refine st_y (y_assign rfl) rfl ?_)
               | (show AT _ _ _ (wpList _ _ _ (⟨_, Op.binOp _ _ _ _ _, _, _, _, _⟩ :: _)); refine st_y (y_lss rfl rfl) rfl ?_)
               | (show AT _ _ _ (wpList _ _ _ (⟨_, Op.call _, _, _, _, _⟩ :: _)); refine st_y (y_len tabs rfl rfl) rfl ?_))
            | (show AT _ _ _ (wpList _ _ _ []); refine c_nil (x_then ?_))
            | (show AT _ _ _ (Code.wp _ _ _); first | refine c_seq ?_ | refine c_region ?_ | refine c_skip (x_then ?_) | refine c_block ?_ | refine c_ret ?_ | refine c_draw (by kernel_rfl) (by kernel_rfl) (fun _ c => Hp.drew c) ?_ | refine c_true rfl ?_ | refine c_ift rfl (by first | assumption | omega) ?_)
            | (show QT _ _ _ _ _ _ (_ :: _); first
               | (show QT _ _ _ _ _ _ (⟨_, Op.move _, _, _, _, _⟩ :: _); refine q_y (y_move rfl) rfl ?_)
               | (show QT _ _ _ _ _ _ (⟨_, Op.fieldAddr _ _ _, _, _, _, _⟩ :: _); refine q_y (y_field tabs rfl rfl rfl) rfl ?_)
               | (show QT _ _ _ _ _ _ (⟨_, Op.load _ _, _, _, _, _⟩ :: _); first | refine q_y (y_load2 tabs rfl rfl (hc_w0 g1) (hc_w0 g2)) rfl ?_ | refine q_y (y_load tabs rfl rfl (hc_blk 0 rfl rfl)) rfl ?_)
               | (show QT _ _ _ _ _ _ (⟨_, Op.indexAddr _ _ _, _, _, _, _⟩ :: _); refine q_y (y_ixa tabs rfl rfl rfl hsv (by omega) (by omega)) rfl ?_)
               | (show QT _ _ _ _ _ _ (⟨_, Op.unOp _ _ _, _, _, _, _⟩ :: _); refine q_y (y_notd rfl) rfl ?_)
               | (show QT _ _ _ _ _ _ (⟨_, Op.call _, _, _, _, _⟩ :: _); refine q_call (ent_of Tryz.func37 (by kernel_rfl) rfl) rfl rfl (fun w c => spec_IsSpace_ok (s := A) (c.rd g3)) (fun u H' h => h.1) ?_)
               | (show QT _ _ _ _ _ _ (⟨_, Op.pick _ _ _, _, _, _, _⟩ :: _); refine q_y (y_pickt rfl (by assumption) rfl) rfl ?_)
               | refine q_gfn rfl rfl (by assumption) rfl ?_)
            | (show QT _ _ _ _ _ _ []; refine q_nil (x_then ?_))
            | (show AT _ _ _ _; first | refine x_then_ret ?_ | refine x_blk_ret ?_))
          all_goals first | exact absurd (by assumption) hS | skip
          exact x_ret1 Tryz.results21 (res_tmp rfl) (fun w' c' => ⟨_, _, rfl, ⟨rfl, rfl⟩, c'.sub (List.nil_sublist _)⟩)
      · have : i = ss.length := by omega
        subst this
        repeat' (first
          | (show AT _ _ _ (wpList _ _ _ (_ :: _)); first
             | (show AT _ _ _ (wpList _ _ _ (⟨_, Op.move _, _, _, _, _⟩ :: _)); refine st_y (y_move rfl) rfl ?_)
             | (show AT _ _ _ (wpList _ _ _ (⟨_, Op.assign _, _, _, _, _⟩ :: _)); refine st_y (y_assign rfl) rfl ?_)
             | (show AT _ _ _ (wpList _ _ _ (⟨_, Op.binOp _ _ _ _ _, _, _, _, _⟩ :: _)); refine st_y (y_lss rfl rfl) rfl ?_)
             | (show AT _ _ _ (wpList _ _ _ (⟨_, Op.call _, _, _, _, _⟩ :: _)); refine st_y (y_len tabs rfl rfl) rfl ?_))
          | (show AT _ _ _ (wpList _ _ _ []); refine c_nil (x_then ?_))
          | (show AT _ _ _ (Code.wp _ _ _); first | refine c_seq ?_ | refine c_region ?_ | refine c_block ?_ | refine c_exit ?_ | refine c_iff rfl (by first | assumption | exact not_not_intro (by assumption) | omega) ?_)
          | (show AT _ _ _ _; first | refine x_then ?_ | refine x_then_exit ?_ | refine x_blk_exit rfl ?_))
        refine c_loopH (α := Nat) [1, 2] (fun i => [(6, .int .i64 i)]) (fun i => i ≤ r.m.length ∧ ∀ v, v < i → ArwP r ss v) (fun i => [.blk b2 #[iV r.p, iV r.q.1, .slice a0 r.q.2.1.length c0, .slice a1 r.q.2.2.length c1, .slice a2 r.d.length c2, .slice a3 r.m.length c3] 35]) (fun i => r.m.length - i) 0 rfl (by repeat' (first | exact Sub.nil | refine Sub.cons rfl ?_ | refine Sub.consi rfl (by omega) ?_)) ?_ ?_ ?_
        · exact ⟨Nat.zero_le _, fun v hv => by omega⟩
        · exact fun w' c' => c'
        · rintro i ⟨hi, hW⟩
          by_cases hin : i < r.m.length
          · obtain ⟨s, t, R, C, m, A, B, es, et, hsl, htl, hi1, hi2, fs, ft, hm, hA, hB, hR4, hC4, hM, ⟨m1, m2, m3, m4⟩, hSA, hAC, hSB, hBR, hAr, hAn, hBr, hBn, hI, eI, hiff⟩ := sub_at hR hl hV hin
            have hiff2 : ArwP r ss i ↔ WthP r.p (imsS r.p m A) B := by
              unfold ArwP
              rw [fs, ft]
              simp only [List.getD, hm, hA, hB]
              exact Iff.rfl
            obtain ⟨a6, c6, k1, k2, k3, k4⟩ := hg3 i m hm
            obtain ⟨a7, c7, p1, p2, p3⟩ := hgv s A hA
            obtain ⟨a8, c8, q1, q2, q3⟩ := hgv t B hB
            have gF := hg0 i hi1
            rw [es] at gF
            have gT := hg1 i hi2
            rw [et] at gT
            repeat' (first
              | (show AT _ _ _ (wpList _ _ _ (_ :: _)); first
                 | (show AT _ _ _ (wpList _ _ _ (⟨_, Op.move _, _, _, _, _⟩ :: _)); refine st_y (y_move rfl) rfl ?_)
                 | (show AT _ _ _ (wpList _ _ _ (⟨_, Op.fieldAddr _ _ _, _, _, _, _⟩ :: _)); refine st_y (y_field tabs rfl rfl rfl) rfl ?_)
                 | (show AT _ _ _ (wpList _ _ _ (⟨_, Op.load _ _, _, _, _, _⟩ :: _)); refine st_y (y_load tabs rfl rfl (hc_blk 0 rfl rfl)) rfl ?_)
                 | (show AT _ _ _ (wpList _ _ _ (⟨_, Op.binOp _ _ _ _ _, _, _, _, _⟩ :: _)); refine st_y (y_lss rfl rfl) rfl ?_)
                 | (show AT _ _ _ (wpList _ _ _ (⟨_, Op.call _, _, _, _, _⟩ :: _)); refine st_y (y_len tabs rfl rfl) rfl ?_))
              | (show AT _ _ _ (wpList _ _ _ []); refine c_nil (x_then ?_))
              | (show AT _ _ _ (Code.wp _ _ _); first | refine c_seq ?_ | refine c_region ?_ | refine c_skip (x_then ?_) | refine c_block ?_ | refine c_ift rfl (by first | assumption | omega) ?_))
            refine c_all (Hp [] w [.blk b2 #[iV r.p, iV r.q.1, .slice a0 r.q.2.1.length c0, .slice a1 r.q.2.2.length c1, .slice a2 r.d.length c2, .slice a3 r.m.length c3] 35]) (by kernel_rfl) (fun _ c => Hp.drew c) ?_
            refine fl_begin 20 rfl tabs rfl rfl ?_
            refine fl_take 0 rfl (by kernel_rfl) (by kernel_rfl) (by kernel_rfl) (by kernel_rfl) (by kernel_rfl) (by kernel_rfl) (by exact y_field tabs rfl rfl rfl) rfl (fun _ c => c) ?_
            refine fl_take 1 rfl (by kernel_rfl) (by kernel_rfl) (by kernel_rfl) (by kernel_rfl) (by kernel_rfl) (by kernel_rfl) (by exact y_load tabs rfl rfl (hc_blk 0 rfl rfl)) rfl (fun _ c => c) ?_
            refine fl_take 2 rfl (by kernel_rfl) (by kernel_rfl) (by kernel_rfl) (by kernel_rfl) (by kernel_rfl) (by kernel_rfl) (by exact y_field tabs rfl rfl rfl) rfl (fun _ c => c) ?_
            refine fl_take 3 rfl (by kernel_rfl) (by kernel_rfl) (by kernel_rfl) (by kernel_rfl) (by kernel_rfl) (by kernel_rfl) (by exact y_load tabs rfl rfl (hc_blk 0 rfl rfl)) rfl (fun _ c => c) ?_
            refine fl_take 4 rfl (by kernel_rfl) (by kernel_rfl) (by kernel_rfl) (by kernel_rfl) (by kernel_rfl) (by kernel_rfl) (by exact y_move rfl) rfl (fun _ c => c) ?_
            refine fl_take 5 rfl (by kernel_rfl) (by kernel_rfl) (by kernel_rfl) (by kernel_rfl) (by kernel_rfl) (by kernel_rfl) (by exact y_ixa tabs rfl rfl rfl hs3 (by omega) (by omega)) rfl (fun _ c => c) ?_
            refine fl_take 6 rfl (by kernel_rfl) (by kernel_rfl) (by kernel_rfl) (by kernel_rfl) (by kernel_rfl) (by kernel_rfl) (by exact y_load3 tabs rfl rfl (hc_w0 k1) (hc_w0 k2) (hc_w0 k3)) rfl (fun _ c => c) ?_
            refine fl_take 7 rfl (by kernel_rfl) (by kernel_rfl) (by kernel_rfl) (by kernel_rfl) (by kernel_rfl) (by kernel_rfl) (by exact y_move rfl) rfl (fun _ c => c) ?_
            refine fl_take 8 rfl (by kernel_rfl) (by kernel_rfl) (by kernel_rfl) (by kernel_rfl) (by kernel_rfl) (by kernel_rfl) (by exact y_field tabs rfl rfl rfl) rfl (fun _ c => c) ?_
            refine fl_take 9 rfl (by kernel_rfl) (by kernel_rfl) (by kernel_rfl) (by kernel_rfl) (by kernel_rfl) (by kernel_rfl) (by exact y_field tabs rfl rfl rfl) rfl (fun _ c => c) ?_
            refine fl_take 10 rfl (by kernel_rfl) (by kernel_rfl) (by kernel_rfl) (by kernel_rfl) (by kernel_rfl) (by kernel_rfl) (by exact y_load tabs rfl rfl (hc_blk 0 rfl rfl)) rfl (fun _ c => c) ?_
            refine fl_take 11 rfl (by kernel_rfl) (by kernel_rfl) (by kernel_rfl) (by kernel_rfl) (by kernel_rfl) (by kernel_rfl) (by exact y_move rfl) rfl (fun _ c => c) ?_
            refine fl_take 12 rfl (by kernel_rfl) (by kernel_rfl) (by kernel_rfl) (by kernel_rfl) (by kernel_rfl) (by kernel_rfl) (by exact y_ix1 tabs (j := i) rfl rfl rfl hs0 rfl hi1) rfl (fun _ c => c) ?_
            refine fl_take 13 rfl (by kernel_rfl) (by kernel_rfl) (by kernel_rfl) (by kernel_rfl) (by kernel_rfl) (by kernel_rfl) (by exact y_load tabs rfl rfl (hc_w0 gF)) rfl (fun _ c => c) ?_
            refine fl_take 14 rfl (by kernel_rfl) (by kernel_rfl) (by kernel_rfl) (by kernel_rfl) (by kernel_rfl) (by kernel_rfl) (by exact y_ixa tabs rfl rfl rfl hsv (by omega) (by omega)) rfl (fun _ c => c) ?_
            refine fl_take 15 rfl (by kernel_rfl) (by kernel_rfl) (by kernel_rfl) (by kernel_rfl) (by kernel_rfl) (by kernel_rfl) (by exact y_load2 tabs rfl rfl (hc_w0 p1) (hc_w0 p2)) rfl (fun _ c => c) ?_
            (refine fl_call 16 rfl rfl (by kernel_rfl) tabs rfl rfl rfl (by kernel_rfl) (by kernel_rfl) (by kernel_rfl) (ent_of Tryz.func38 (by kernel_rfl) rfl) rfl rfl (fun w c => spec_ImageOfSpace_ok (m := m) (s := A) (c.rd k4) (c.rd p3)) (fun w c => by first | exact c | exact c.drop | exact c.drop.drop | exact Hp.sub (List.sublist_append_right _ _) c | exact c.sub (by repeat' first | exact List.Sublist.refl _ | exact List.nil_sublist _ | apply List.Sublist.cons_cons | apply List.Sublist.cons)) ?_; rintro v H' ⟨a9, c9, rfl, hs9, rfl⟩)
            refine fl_take 17 rfl (by kernel_rfl) (by kernel_rfl) (by kernel_rfl) (by kernel_rfl) (by kernel_rfl) (by kernel_rfl) (by exact y_move rfl) rfl (fun w c => by exact c.drop) ?_
            refine fl_take 18 rfl (by kernel_rfl) (by kernel_rfl) (by kernel_rfl) (by kernel_rfl) (by kernel_rfl) (by kernel_rfl) (by exact y_ext rfl rfl) rfl (fun w c => by exact c.drop) ?_
            refine fl_take 19 rfl (by kernel_rfl) (by kernel_rfl) (by kernel_rfl) (by kernel_rfl) (by kernel_rfl) (by kernel_rfl) (by exact y_ext rfl rfl) rfl (fun w c => by exact c.drop) ?_
            refine fl_end rfl tabs rfl rfl rfl (by kernel_rfl) (fun w c => by exact c.drop) (fun bf hbf => ?_)
            refine h_only 21 rfl (by kernel_rfl) ?_
            (refine m_storeb 0 tabs rfl rfl rfl rfl rfl rfl rfl ?_)
            refine c_nil (x_one (h_keep (fun w c => by exact c.drop.drop) ?_))
            refine h_take 22 rfl (by kernel_rfl) (by kernel_rfl) (by kernel_rfl) (by exact y_assign rfl) rfl (fun w c => by exact c.drop.drop) ?_
            refine h_end (by kernel_rfl) ?_
            repeat' (first
              | (show AT _ _ _ (wpList _ _ _ (_ :: _)); first
                 | (show AT _ _ _ (wpList _ _ _ (⟨_, Op.move _, _, _, _, _⟩ :: _)); refine st_y (y_move rfl) rfl ?_)
                 | (show AT _ _ _ (wpList _ _ _ (⟨_, Op.assign _, _, _, _, _⟩ :: _)); refine st_y (y_assign rfl) rfl ?_)
                 | (show AT _ _ _ (wpList _ _ _ (⟨_, Op.binOp _ _ _ _ _, _, _, _, _⟩ :: _)); refine st_y (y_add rfl rfl (by omega)) rfl ?_))
              | (show AT _ _ _ (wpList _ _ _ []); refine c_nil (x_then ?_))
              | (show AT _ _ _ (Code.wp _ _ _); first | refine c_seq ?_ | refine c_region ?_ | refine c_skip (x_blk ?_) | refine c_ret ?_ | refine c_draw (by kernel_rfl) (by kernel_rfl) (fun _ c => Hp.drew c) ?_ | refine c_ifnd rfl (fun h => ?_) (fun h => ?_))
              | (show QT _ _ _ _ _ _ (_ :: _); first
                 | (show QT _ _ _ _ _ _ (⟨_, Op.move _, _, _, _, _⟩ :: _); refine q_y (y_move rfl) rfl ?_)
                 | (show QT _ _ _ _ _ _ (⟨_, Op.fieldAddr _ _ _, _, _, _, _⟩ :: _); refine q_y (y_field tabs rfl rfl rfl) rfl ?_)
                 | (show QT _ _ _ _ _ _ (⟨_, Op.load _ _, _, _, _, _⟩ :: _); first | refine q_y (y_load tabs rfl rfl (hc_blk 2 rfl rfl)) rfl ?_ | refine q_y (y_loadb 0 tabs rfl rfl rfl rfl) rfl ?_ | refine q_y (y_load tabs rfl rfl (hc_w0 gT)) rfl ?_ | refine q_y (y_load2 tabs rfl rfl (hc_w0 q1) (hc_w0 q2)) rfl ?_)
                 | (show QT _ _ _ _ _ _ (⟨_, Op.indexAddr _ _ _, _, _, _, _⟩ :: _); first | refine q_y (y_ix1 tabs (j := i) rfl rfl rfl hs1 rfl hi2) rfl ?_ | refine q_y (y_ixa tabs rfl rfl rfl hsv (by omega) (by omega)) rfl ?_)
                 | (show QT _ _ _ _ _ _ (⟨_, Op.unOp _ _ _, _, _, _, _⟩ :: _); refine q_y (y_notd rfl) rfl ?_)
                 | (show QT _ _ _ _ _ _ (⟨_, Op.call _, _, _, _, _⟩ :: _); refine q_call (ent_of Tryz.func39 (by kernel_rfl) rfl) rfl rfl (fun w c => spec_IsWithin_ok (a := imsS r.p m A) (b := B) (c.own_rd (i := 1) rfl) (c.rd q3)) (fun u H' h => h.1) ?_))
              | (show QT _ _ _ _ _ _ []; refine q_nil (x_then ?_))
              | (show AT _ _ _ _; first | refine x_then ?_ | refine x_then_ret ?_ | refine x_blk_ret ?_))
            · have hno : ¬ SubP r ss := fun h => absurd (hiff2.1 (h.2.2 i hin)) (by assumption)
              rw [decide_eq_false hno]
              exact x_ret1 Tryz.results21 (res_tmp rfl) (fun w' c' => ⟨_, _, rfl, ⟨rfl, rfl⟩, c'.sub (List.nil_sublist _)⟩)
            · refine x_nx (i + 1) (by repeat' (first | exact Sub.nil | refine Sub.cons rfl ?_ | refine Sub.consi rfl (by omega) ?_)) ⟨by omega, fun v hv => ?_⟩ (fun w' c' => c'.sub (by repeat' first | exact List.Sublist.refl _ | exact List.nil_sublist _ | apply List.Sublist.cons_cons | apply List.Sublist.cons)) (by omega)
              by_cases hvi : v = i
              · subst hvi
                exact hiff2.2 (by first | assumption | exact Decidable.not_not.1 (by assumption))
              · exact hW v (by omega)
          · have : i = r.m.length := by omega
            subst this
            have hyes : SubP r ss := ⟨⟨hR, hl⟩, hV, hW⟩
            rw [decide_eq_true hyes]
            repeat' (first
              | (show AT _ _ _ (wpList _ _ _ (_ :: _)); first
                 | (show AT _ _ _ (wpList _ _ _ (⟨_, Op.move _, _, _, _, _⟩ :: _)); refine st_y (y_move rfl) rfl ?_)
                 | (show AT _ _ _ (wpList _ _ _ (⟨_, Op.assign _, _, _, _, _⟩ :: _)); refine st_y (y_assign rfl) rfl ?_)
                 | (show AT _ _ _ (wpList _ _ _ (⟨_, Op.fieldAddr _ _ _, _, _, _, _⟩ :: _)); refine st_y (y_field tabs rfl rfl rfl) rfl ?_)
                 | (show AT _ _ _ (wpList _ _ _ (⟨_, Op.load _ _, _, _, _, _⟩ :: _)); refine st_y (y_load tabs rfl rfl (hc_blk 0 rfl rfl)) rfl ?_)
                 | (show AT _ _ _ (wpList _ _ _ (⟨_, Op.binOp _ _ _ _ _, _, _, _, _⟩ :: _)); refine st_y (y_lss rfl rfl) rfl ?_)
                 | (show AT _ _ _ (wpList _ _ _ (⟨_, Op.call _, _, _, _, _⟩ :: _)); refine st_y (y_len tabs rfl rfl) rfl ?_))
              | (show AT _ _ _ (wpList _ _ _ []); refine c_nil (x_then ?_))
              | (show AT _ _ _ (Code.wp _ _ _); first | refine c_seq ?_ | refine c_region ?_ | refine c_ret ?_ | refine c_exit ?_ | refine c_iff rfl (by first | assumption | exact not_not_intro (by assumption) | omega) ?_)
              | (show AT _ _ _ _; first | refine x_then ?_ | refine x_then_exit ?_ | refine x_blk_exit rfl ?_))
            exact x_ret1 Tryz.results21 (res_tmp rfl) (fun w' c' => ⟨_, _, rfl, ⟨rfl, rfl⟩, c'.sub (List.nil_sublist _)⟩)
  · have hno : ¬ SubP r ss := fun h => hB h.1
    rw [decide_eq_false hno]
    refine fn_enter Tryz.func21 rfl Tryz.ntmps21 rfl ?_
    repeat' (first
      | (show AT _ _ _ (wpList _ _ _ (_ :: _)); first
         | (show AT _ _ _ (wpList _ _ _ (⟨_, Op.move _, _, _, _, _⟩ :: _)); refine st_y (y_move rfl) rfl ?_)
         | (show AT _ _ _ (wpList _ _ _ (⟨_, Op.assign _, _, _, _, _⟩ :: _)); refine st_y (y_assign rfl) rfl ?_)
         | (show AT _ _ _ (wpList _ _ _ (⟨_, Op.fieldAddr _ _ _, _, _, _, _⟩ :: _)); refine st_y (y_field tabs rfl rfl rfl) rfl ?_)
         | (show AT _ _ _ (wpList _ _ _ (⟨_, Op.load _ _, _, _, _, _⟩ :: _)); first | refine st_y (y_loadb 0 tabs rfl rfl rfl rfl) rfl ?_ | refine st_y (y_load tabs rfl rfl (hc_blk 0 rfl rfl)) rfl ?_)
         | (show AT _ _ _ (wpList _ _ _ (⟨_, Op.binOp _ _ _ _ _, _, _, _, _⟩ :: _)); refine st_y (y_neq rfl rfl) rfl ?_)
         | (show AT _ _ _ (wpList _ _ _ (⟨_, Op.unOp _ _ _, _, _, _, _⟩ :: _)); refine st_y (y_notd rfl) rfl ?_)
         | (show AT _ _ _ (wpList _ _ _ (⟨_, Op.call _, _, _, _, _⟩ :: _)); first | (refine m_call (ent_of Tryz.func36 (by kernel_rfl) rfl) rfl rfl (fun w c => spec_IsRep_ok (r := r) (c.rd h00) (c.rd h10) (c.rd h20) (c.rd h30)) ?_; rintro v H' ⟨rfl, rfl⟩) | refine st_y (y_len tabs rfl rfl) rfl ?_)
         | (show AT _ _ _ (wpList _ _ _ (⟨_, Op.pick _ _ _, _, _, _, _⟩ :: _)); first | refine st_y (y_pickt rfl (by assumption) rfl) rfl ?_ | refine st_y (y_pickf rfl (by assumption) rfl) rfl ?_)
         | (show AT _ _ _ (wpList _ _ _ (⟨_, Op.box _ _, _, _, _, _⟩ :: _)); refine m_box rfl rfl (fun b2 hb2 => ?_))
         | refine st_gfy rfl rfl (by assumption) ?_ | refine st_gfn rfl rfl (by assumption) rfl ?_ | refine st_gd rfl rfl (fun h => ?_) (fun h => ?_))
      | (show AT _ _ _ (wpList _ _ _ []); refine c_nil (x_then ?_))
      | (show AT _ _ _ (Code.wp _ _ _); first | refine c_seq ?_ | refine c_region ?_ | refine c_skip (x_then ?_) | refine c_block ?_ | refine c_ret ?_ | refine c_true rfl ?_ | refine c_ifnd rfl (fun h => ?_) (fun h => ?_))
      | (show AT _ _ _ _; refine x_then_ret ?_))
    all_goals first
      | exact (hB ⟨by first | assumption | exact Decidable.not_not.1 (by assumption), by omega⟩).elim
      | exact x_ret1 Tryz.results21 (res_tmp rfl) (fun w' c' => ⟨_, _, rfl, ⟨rfl, rfl⟩, c'.sub (List.nil_sublist _)⟩)
end Go.Proofs.YtnmhdmkfhacdbaaGreat
