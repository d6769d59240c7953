import Derived.Test.YtdnhmnnccfoliaaDoorRvaqqv
namespace Go.Proofs.YtdnhmnnccfoliaaDoor
open Go.Lg Go.Proofs Go.RowKit
attribute [local irreducible] Code.wp wpList bodyPost Exit.then Exit.inBlock Hp Again Calls Y AT ResV QT Qn QI wpAny wpAnyQ
set_option maxRecDepth 20000
set_option maxHeartbeats 4000000

theorem rev_iff {q : Qv} {v : Int} (hQ : QuivP q) : RevP q v ↔ v ∈ srcL q ∨ v ∈ snkL q := by
  rw [src_iff hQ, snk_iff hQ]
  constructor
  · rintro ⟨_, h1, h | h⟩
    · exact .inl ⟨h1, h⟩
    · exact .inr ⟨h1, h⟩
  · rintro (⟨h1, h⟩ | ⟨h1, h⟩)
    · exact ⟨hQ, h1, .inl h⟩
    · exact ⟨hQ, h1, .inr h⟩
theorem rev_quivP {q : Qv} {v : Int} (h : v ∈ srcL q ∨ v ∈ snkL q) : RevP q v := by
  by_cases hQ : QuivP q
  · exact (rev_iff hQ).2 h
  · rw [srcL, snkL, if_neg hQ, if_neg hQ] at h
    simp at h
theorem spec_ReverseAt_ok {w : World} {q : Qv} {v : Int} {u0 u1 : Value} (h0 : Rd w (iT q.2.1) u0) (h1 : Rd w (iT q.2.2) u1) : Does Tryd.prog 24 [.agg #[iV q.1, u0, u1], iV v] w (GivesQB (revR q v) (decide (RevP q v))) := by
  by_cases hR : RevP q v
  · rw [revR, if_pos hR, decide_eq_true hR]
    obtain ⟨n, F, T⟩ := q
    have hQ := hR.1
    have h6 : F.length ≤ 6 := hQ.2.1
    have hFT : T.length = F.length := hQ.2.2.1
    have hor := (rev_iff hQ).1 hR
    simp only at h0 h1
    obtain ⟨a0, c0, rfl, hs0, _, hm0, hg0⟩ := h0.ints
    obtain ⟨a1, c1, rfl, hs1, _, hm1, hg1⟩ := h1.ints
    by_cases hS : v ∈ srcL (n, F, T)
    · refine fn_enter Tryd.func24 rfl Tryd.ntmps24 rfl ?_
      repeat' (first | (show oL; first | refine sMv rfl rfl ?_ | refine sAs rfl rfl ?_ | (show oA (.load _ _); first | refine sLb 1 tabs rfl rfl rfl rfl rfl ?_ | refine sLb 2 tabs rfl rfl rfl rfl rfl ?_) | (show oA (.unOp _ _ _); refine st_y (y_not rfl) rfl ?_) | (show oA (.call _); first | (refine m_call (ent_of Tryd.func30 kr rfl) rfl rfl (fun w c => spec_SourcesOf_ok (q := (n, F, T)) (c.rd h0) (c.rd h1)) ?_; rintro v H' ⟨xs, ys, rfl, hxs, rfl⟩) | (refine m_call (ent_of Tryd.func51 kr rfl) rfl rfl (fun w c => l4Has_ok (xs := srcL (n, F, T)) (x := v) (c.own_rd (i := 0) rfl)) ?_; rw [decide_eq_true hS]; rintro v H' ⟨rfl, rfl⟩) | (refine m_call (ent_of Tryd.func55 kr rfl) rfl rfl (fun w c => l6Copy_ok (q := (n, F, T)) (c.rd h0) (c.rd h1) (by simp only [szQ]; omega)) ?_; rintro v H' ⟨aF, cF, aT, cT, rfl, hsF, hsT, rfl⟩)) | (show oA (.pick _ _ _); refine st_y (y_pick rfl rfl rfl) rfl ?_) | (show oA (.store _ _ _); refine m_storeb 0 tabs rfl rfl rfl rfl rfl rfl rfl ?_) | (show oA (.box _ _); refine m_box rfl rfl (fun b2 hb2 => ?_)) | (show oA (.alloc _); refine m_alloc tabs rfl rfl (fun b4 hb4 => ?_)) | refine st_gn rfl rfl rfl ?_) | refine xNt ?_ | (show oC; first | refine c_seq ?_ | refine c_region ?_ | refine c_skip (x_then ?_) | refine c_block ?_ | refine c_false rfl ?_))
      rename_i b3 hb3
      simp only at hsF hsT ⊢
      have hsU := hsT
      rw [hFT] at hsT
      refine c_loopH (α := Nat) [1, 2, 4, 6] (fun i => [(7, iV i)]) (fun i => i ≤ F.length) (fun i => [.blk b4 #[iV n, .slice aF F.length cF, .slice aT T.length cT] 26, .own (iT (mkv F.length (rvG v T F i))) (.slice aT T.length cT), .own (iT (mkv F.length (rvG v F T i))) (.slice aF F.length cF), .blk b3 #[iV 0, .slice none 0 0, .slice none 0 0] 26, .blk b2 #[iV n, .slice a0 F.length c0, .slice a1 T.length c1] 26]) (fun i => F.length - i) 0 rfl sB ?_ ?_ ?_
      · exact Nat.zero_le _
      · intro w' c'
        rw [rvg_zero rfl, rvg_zero hFT]
        exact c'.sub sL
      · intro i hi
        by_cases hin : i < F.length
        · have hin1 : i < T.length := by omega
          by_cases hv : F.getD i 0 = v ∨ T.getD i 0 = v
          · by_cases hf : F.getD i 0 = v
            · skip
              repeat' (first | (show oL; first | refine sMv rfl rfl ?_ | refine sFd tabs rfl rfl rfl rfl ?_ | (show oA (.load _ _); first | refine st_y (y_load tabs rfl rfl (hc_w0 (hg0 i hin))) rfl ?_ | refine sLd 4 tabs rfl rfl rfl rfl rfl ?_) | (show oA (.indexAddr _ _ _); refine st_y (y_ix1 tabs (j := i) rfl rfl rfl hs0 rfl hin) rfl ?_) | (show oA (.binOp _ _ _ _ _); first | refine st_y (y_eqlie rfl rfl hf) rfl ?_ | refine sLs rfl rfl rfl ?_) | refine sLn tabs rfl rfl rfl ?_ | (show oA (.pick _ _ _); refine st_y (y_pick rfl rfl rfl) rfl ?_) | refine st_gn rfl rfl rfl ?_) | refine xNt ?_ | (show oC; first | refine c_seq ?_ | refine c_region ?_ | refine c_skip (x_then ?_) | refine c_block ?_ | refine c_true rfl ?_ | refine c_ift rfl aO ?_))
              refine c_all (Hp [] w [.blk b4 #[iV n, .slice aF F.length cF, .slice aT T.length cT] 26, .blk b2 #[iV n, .slice a0 F.length c0, .slice a1 T.length c1] 26]) kr (fun _ c => Hp.drew c) ?_
              refine h_take 0 rfl kr kr kr (by exact y_field tabs rfl rfl rfl) rfl sS ?_
              refine h_take 1 rfl kr kr kr (by exact y_load tabs rfl rfl (hc_blk 0 rfl rfl)) rfl sS ?_
              refine h_take 2 rfl kr kr kr (by exact y_move rfl) rfl sS ?_
              refine h_take 3 rfl kr kr kr (by exact y_field tabs rfl rfl rfl) rfl sS ?_
              refine h_take 4 rfl kr kr kr (by exact y_load tabs rfl rfl (hc_blk 1 rfl rfl)) rfl sS ?_
              refine h_take 5 rfl kr kr kr (by exact y_move rfl) rfl sS ?_
              refine h_take 6 rfl kr kr kr (by exact y_ix1 tabs (j := i) rfl rfl rfl hs1 rfl hin1) rfl sS ?_
              refine h_take 7 rfl kr kr kr (by exact y_load tabs rfl rfl (hc_w0 (hg1 i hin1))) rfl sS ?_
              refine h_take 8 rfl kr kr kr (by exact y_ix1 tabs (j := i) rfl rfl rfl hsF rfl hin) rfl sS ?_
              refine h_only 9 rfl kr ?_
              (refine m_storeo 2 tabs rfl rfl rfl rfl (by rw [mkv_length]; exact hin) ?_)
              refine c_nil (x_one (h_keep sS ?_))
              refine h_end kr ?_
              repeat' (first | (show AT _ _ _ _; refine x_then ?_))
              refine c_all (Hp [] w [.blk b4 #[iV n, .slice aF F.length cF, .slice aT T.length cT] 26, .blk b2 #[iV n, .slice a0 F.length c0, .slice a1 T.length c1] 26]) kr (fun _ c => Hp.drew c) ?_
              refine h_take 0 rfl kr kr kr (by exact y_field tabs rfl rfl rfl) rfl sS ?_
              refine h_take 1 rfl kr kr kr (by exact y_load tabs rfl rfl (hc_blk 0 rfl rfl)) rfl sS ?_
              refine h_take 2 rfl kr kr kr (by exact y_move rfl) rfl sS ?_
              refine h_take 3 rfl kr kr kr (by exact y_field tabs rfl rfl rfl) rfl sS ?_
              refine h_take 4 rfl kr kr kr (by exact y_load tabs rfl rfl (hc_blk 1 rfl rfl)) rfl sS ?_
              refine h_take 5 rfl kr kr kr (by exact y_move rfl) rfl sS ?_
              refine h_take 6 rfl kr kr kr (by exact y_ix1 tabs (j := i) rfl rfl rfl hs0 rfl hin) rfl sS ?_
              refine h_take 7 rfl kr kr kr (by exact y_load tabs rfl rfl (hc_w0 (hg0 i hin))) rfl sS ?_
              refine h_take 8 rfl kr kr kr (by exact y_ix1 tabs (j := i) rfl rfl rfl hsU rfl hin1) rfl sS ?_
              refine h_only 9 rfl kr ?_
              (refine m_storeo 1 tabs rfl rfl rfl rfl (by rw [mkv_length]; exact hin) ?_)
              refine c_nil (x_one (h_keep sS ?_))
              refine h_end kr ?_
              repeat' (first | (show oL; first | refine sMv rfl rfl ?_ | refine sAs rfl rfl ?_ | refine sAd rfl rfl om rfl ?_) | refine xNt ?_ | (show oC; refine c_region ?_) | (show AT _ _ _ _; first | refine x_then ?_ | refine x_blk ?_))
              refine x_nx (i + 1) sB om (fun w' c' => ?_) om
              simp only [List.set_cons_succ, List.set_cons_zero] at c'
              rw [rvg_yes hv, rvg_yes (Or.symm hv)] at c'
              exact c'
            · have ht : T.getD i 0 = v := hv.resolve_left hf
              repeat' (first | (show oL; first | refine sMv rfl rfl ?_ | refine sFd tabs rfl rfl rfl rfl ?_ | (show oA (.load _ _); first | refine st_y (y_load tabs rfl rfl (hc_w0 (hg0 i hin))) rfl ?_ | refine st_y (y_load tabs rfl rfl (hc_w0 (hg1 i hin1))) rfl ?_ | refine sLd 4 tabs rfl rfl rfl rfl rfl ?_) | (show oA (.indexAddr _ _ _); first | refine st_y (y_ix1 tabs (j := i) rfl rfl rfl hs0 rfl hin) rfl ?_ | refine st_y (y_ix1 tabs (j := i) rfl rfl rfl hs1 rfl hin1) rfl ?_) | (show oA (.binOp _ _ _ _ _); first | refine st_y (y_eqlin rfl rfl hf) rfl ?_ | refine st_y (y_eqlie rfl rfl ht) rfl ?_ | refine sLs rfl rfl rfl ?_) | refine sLn tabs rfl rfl rfl ?_ | (show oA (.pick _ _ _); refine st_y (y_pick rfl rfl rfl) rfl ?_) | refine st_gy rfl rfl ?_) | refine xNt ?_ | (show oC; first | refine c_seq ?_ | refine c_region ?_ | refine c_skip (x_then ?_) | refine c_block ?_ | refine c_true rfl ?_ | refine c_ift rfl aO ?_))
              refine c_all (Hp [] w [.blk b4 #[iV n, .slice aF F.length cF, .slice aT T.length cT] 26, .blk b2 #[iV n, .slice a0 F.length c0, .slice a1 T.length c1] 26]) kr (fun _ c => Hp.drew c) ?_
              refine h_take 0 rfl kr kr kr (by exact y_field tabs rfl rfl rfl) rfl sS ?_
              refine h_take 1 rfl kr kr kr (by exact y_load tabs rfl rfl (hc_blk 0 rfl rfl)) rfl sS ?_
              refine h_take 2 rfl kr kr kr (by exact y_move rfl) rfl sS ?_
              refine h_take 3 rfl kr kr kr (by exact y_field tabs rfl rfl rfl) rfl sS ?_
              refine h_take 4 rfl kr kr kr (by exact y_load tabs rfl rfl (hc_blk 1 rfl rfl)) rfl sS ?_
              refine h_take 5 rfl kr kr kr (by exact y_move rfl) rfl sS ?_
              refine h_take 6 rfl kr kr kr (by exact y_ix1 tabs (j := i) rfl rfl rfl hs1 rfl hin1) rfl sS ?_
              refine h_take 7 rfl kr kr kr (by exact y_load tabs rfl rfl (hc_w0 (hg1 i hin1))) rfl sS ?_
              refine h_take 8 rfl kr kr kr (by exact y_ix1 tabs (j := i) rfl rfl rfl hsF rfl hin) rfl sS ?_
              refine h_only 9 rfl kr ?_
              (refine m_storeo 2 tabs rfl rfl rfl rfl (by rw [mkv_length]; exact hin) ?_)
              refine c_nil (x_one (h_keep sS ?_))
              refine h_end kr ?_
              repeat' (first | (show AT _ _ _ _; refine x_then ?_))
              refine c_all (Hp [] w [.blk b4 #[iV n, .slice aF F.length cF, .slice aT T.length cT] 26, .blk b2 #[iV n, .slice a0 F.length c0, .slice a1 T.length c1] 26]) kr (fun _ c => Hp.drew c) ?_
              refine h_take 0 rfl kr kr kr (by exact y_field tabs rfl rfl rfl) rfl sS ?_
              refine h_take 1 rfl kr kr kr (by exact y_load tabs rfl rfl (hc_blk 0 rfl rfl)) rfl sS ?_
              refine h_take 2 rfl kr kr kr (by exact y_move rfl) rfl sS ?_
              refine h_take 3 rfl kr kr kr (by exact y_field tabs rfl rfl rfl) rfl sS ?_
              refine h_take 4 rfl kr kr kr (by exact y_load tabs rfl rfl (hc_blk 1 rfl rfl)) rfl sS ?_
              refine h_take 5 rfl kr kr kr (by exact y_move rfl) rfl sS ?_
              refine h_take 6 rfl kr kr kr (by exact y_ix1 tabs (j := i) rfl rfl rfl hs0 rfl hin) rfl sS ?_
              refine h_take 7 rfl kr kr kr (by exact y_load tabs rfl rfl (hc_w0 (hg0 i hin))) rfl sS ?_
              refine h_take 8 rfl kr kr kr (by exact y_ix1 tabs (j := i) rfl rfl rfl hsU rfl hin1) rfl sS ?_
              refine h_only 9 rfl kr ?_
              (refine m_storeo 1 tabs rfl rfl rfl rfl (by rw [mkv_length]; exact hin) ?_)
              refine c_nil (x_one (h_keep sS ?_))
              refine h_end kr ?_
              repeat' (first | (show oL; first | refine sMv rfl rfl ?_ | refine sAs rfl rfl ?_ | refine sAd rfl rfl om rfl ?_) | refine xNt ?_ | (show oC; refine c_region ?_) | (show AT _ _ _ _; first | refine x_then ?_ | refine x_blk ?_))
              refine x_nx (i + 1) sB om (fun w' c' => ?_) om
              simp only [List.set_cons_succ, List.set_cons_zero] at c'
              rw [rvg_yes hv, rvg_yes (Or.symm hv)] at c'
              exact c'
          · have hf : ¬ F.getD i 0 = v := fun k => hv (.inl k)
            have ht : ¬ T.getD i 0 = v := fun k => hv (.inr k)
            repeat' (first | (show oL; first | refine sMv rfl rfl ?_ | refine sAs rfl rfl ?_ | refine sFd tabs rfl rfl rfl rfl ?_ | (show oA (.load _ _); first | refine st_y (y_load tabs rfl rfl (hc_w0 (hg0 i hin))) rfl ?_ | refine st_y (y_load tabs rfl rfl (hc_w0 (hg1 i hin1))) rfl ?_ | refine sLd 4 tabs rfl rfl rfl rfl rfl ?_) | (show oA (.indexAddr _ _ _); first | refine st_y (y_ix1 tabs (j := i) rfl rfl rfl hs0 rfl hin) rfl ?_ | refine st_y (y_ix1 tabs (j := i) rfl rfl rfl hs1 rfl hin1) rfl ?_) | (show oA (.binOp _ _ _ _ _); first | refine st_y (y_eqlin rfl rfl hf) rfl ?_ | refine st_y (y_eqlin rfl rfl ht) rfl ?_ | refine sAd rfl rfl om rfl ?_ | refine sLs rfl rfl rfl ?_) | refine sLn tabs rfl rfl rfl ?_ | (show oA (.pick _ _ _); refine st_y (y_pick rfl rfl rfl) rfl ?_) | refine st_gy rfl rfl ?_) | refine xNt ?_ | (show oC; first | refine c_seq ?_ | refine c_region ?_ | refine c_skip (x_then ?_) | refine c_skip (x_blk ?_) | refine c_block ?_ | refine c_false rfl ?_ | refine c_ift rfl aO ?_) | (show AT _ _ _ _; refine x_then ?_))
            refine x_nx (i + 1) sB om (fun w' c' => ?_) om
            rw [← rvg_no hv, ← rvg_no (fun k => hv (Or.symm k))]
            exact c'
        · have : i = F.length := by omega
          subst this
          repeat' (first | (show oL; first | refine sMv rfl rfl ?_ | refine sAs rfl rfl ?_ | refine sFd tabs rfl rfl rfl rfl ?_ | (show oA (.load _ _); first | refine sLd 4 tabs rfl rfl rfl rfl rfl ?_ | refine sLb 0 tabs rfl rfl rfl rfl rfl ?_) | refine sLs rfl rfl rfl ?_ | refine sLn tabs rfl rfl rfl ?_ | (show oA (.store _ _ _); refine m_storeb 3 tabs rfl rfl rfl rfl rfl rfl rfl ?_)) | refine xNt ?_ | (show oC; first | refine c_seq ?_ | refine c_region ?_ | refine c_ret ?_ | refine c_exit ?_ | refine c_iff rfl nN ?_) | (show AT _ _ _ _; first | refine x_then ?_ | refine x_then_exit ?_ | refine x_blk_exit rfl ?_))
          rw [hFT]
          exact x_ret2 Tryd.results24 (res_cellb 3 tabs rfl rfl rfl rfl) (res_tmp rfl) (fun w' c' => ⟨_, _, rfl, ⟨aF, cF, aT, cT, by simp only [revQ, mkv_length], by simp only [revQ, mkv_length]; exact hsF, by simp only [revQ, mkv_length]; exact hsT, by simp only [revQ, mkv_length]⟩, c'.sub (.cons _ (.cons_cons _ (.cons_cons _ (List.nil_sublist _))))⟩)
    · refine fn_enter Tryd.func24 rfl Tryd.ntmps24 rfl ?_
      repeat' (first | (show oL; first | refine sMv rfl rfl ?_ | refine sAs rfl rfl ?_ | (show oA (.load _ _); first | refine sLb 1 tabs rfl rfl rfl rfl rfl ?_ | refine sLb 2 tabs rfl rfl rfl rfl rfl ?_ | refine sLb 3 tabs rfl rfl rfl rfl rfl ?_) | (show oA (.unOp _ _ _); refine st_y (y_not rfl) rfl ?_) | (show oA (.call _); first | (refine m_call (ent_of Tryd.func30 kr rfl) rfl rfl (fun w c => spec_SourcesOf_ok (q := (n, F, T)) (c.rd h0) (c.rd h1)) ?_; rintro v H' ⟨xs, ys, rfl, hxs, rfl⟩) | (refine m_call (ent_of Tryd.func31 kr rfl) rfl rfl (fun w c => spec_SinksOf_ok (q := (n, F, T)) (c.rd h0) (c.rd h1)) ?_; rintro v H' ⟨xk, yk, rfl, hxk, rfl⟩) | (refine m_call (ent_of Tryd.func51 kr rfl) rfl rfl (fun w c => l4Has_ok (xs := srcL (n, F, T)) (x := v) (c.own_rd (i := 0) rfl)) ?_; rw [decide_eq_false hS]; rintro v H' ⟨rfl, rfl⟩) | (refine m_call (ent_of Tryd.func51 kr rfl) rfl rfl (fun w c => l4Has_ok (xs := snkL (n, F, T)) (x := v) (c.own_rd (i := 0) rfl)) ?_; rw [decide_eq_true (hor.resolve_left hS)]; rintro v H' ⟨rfl, rfl⟩) | (refine m_call (ent_of Tryd.func55 kr rfl) rfl rfl (fun w c => l6Copy_ok (q := (n, F, T)) (c.rd h0) (c.rd h1) (by simp only [szQ]; omega)) ?_; rintro v H' ⟨aF, cF, aT, cT, rfl, hsF, hsT, rfl⟩)) | (show oA (.pick _ _ _); refine st_y (y_pick rfl rfl rfl) rfl ?_) | (show oA (.store _ _ _); refine m_storeb 0 tabs rfl rfl rfl rfl rfl rfl rfl ?_) | (show oA (.box _ _); refine m_box rfl rfl (fun b2 hb2 => ?_)) | (show oA (.alloc _); refine m_alloc tabs rfl rfl (fun b4 hb4 => ?_)) | refine st_gy rfl rfl ?_) | refine xNt ?_ | (show oC; first | refine c_seq ?_ | refine c_region ?_ | refine c_skip (x_then ?_) | refine c_block ?_ | refine c_false rfl ?_))
      rename_i b3 hb3
      simp only at hsF hsT ⊢
      have hsU := hsT
      rw [hFT] at hsT
      refine c_loopH (α := Nat) [1, 2, 4, 6] (fun i => [(7, iV i)]) (fun i => i ≤ F.length) (fun i => [.blk b4 #[iV n, .slice aF F.length cF, .slice aT T.length cT] 26, .own (iT (mkv F.length (rvG v T F i))) (.slice aT T.length cT), .own (iT (mkv F.length (rvG v F T i))) (.slice aF F.length cF), .blk b3 #[iV 0, .slice none 0 0, .slice none 0 0] 26, .blk b2 #[iV n, .slice a0 F.length c0, .slice a1 T.length c1] 26]) (fun i => F.length - i) 0 rfl sB ?_ ?_ ?_
      · exact Nat.zero_le _
      · intro w' c'
        rw [rvg_zero rfl, rvg_zero hFT]
        exact c'.sub sL
      · intro i hi
        by_cases hin : i < F.length
        · have hin1 : i < T.length := by omega
          by_cases hv : F.getD i 0 = v ∨ T.getD i 0 = v
          · by_cases hf : F.getD i 0 = v
            · skip
              repeat' (first | (show oL; first | refine sMv rfl rfl ?_ | refine sFd tabs rfl rfl rfl rfl ?_ | (show oA (.load _ _); first | refine st_y (y_load tabs rfl rfl (hc_w0 (hg0 i hin))) rfl ?_ | refine sLd 4 tabs rfl rfl rfl rfl rfl ?_) | (show oA (.indexAddr _ _ _); refine st_y (y_ix1 tabs (j := i) rfl rfl rfl hs0 rfl hin) rfl ?_) | (show oA (.binOp _ _ _ _ _); first | refine st_y (y_eqlie rfl rfl hf) rfl ?_ | refine sLs rfl rfl rfl ?_) | refine sLn tabs rfl rfl rfl ?_ | (show oA (.pick _ _ _); refine st_y (y_pick rfl rfl rfl) rfl ?_) | refine st_gn rfl rfl rfl ?_) | refine xNt ?_ | (show oC; first | refine c_seq ?_ | refine c_region ?_ | refine c_skip (x_then ?_) | refine c_block ?_ | refine c_true rfl ?_ | refine c_ift rfl aO ?_))
              refine c_all (Hp [] w [.blk b4 #[iV n, .slice aF F.length cF, .slice aT T.length cT] 26, .blk b2 #[iV n, .slice a0 F.length c0, .slice a1 T.length c1] 26]) kr (fun _ c => Hp.drew c) ?_
              refine h_take 0 rfl kr kr kr (by exact y_field tabs rfl rfl rfl) rfl sS ?_
              refine h_take 1 rfl kr kr kr (by exact y_load tabs rfl rfl (hc_blk 0 rfl rfl)) rfl sS ?_
              refine h_take 2 rfl kr kr kr (by exact y_move rfl) rfl sS ?_
              refine h_take 3 rfl kr kr kr (by exact y_field tabs rfl rfl rfl) rfl sS ?_
              refine h_take 4 rfl kr kr kr (by exact y_load tabs rfl rfl (hc_blk 1 rfl rfl)) rfl sS ?_
              refine h_take 5 rfl kr kr kr (by exact y_move rfl) rfl sS ?_
              refine h_take 6 rfl kr kr kr (by exact y_ix1 tabs (j := i) rfl rfl rfl hs1 rfl hin1) rfl sS ?_
              refine h_take 7 rfl kr kr kr (by exact y_load tabs rfl rfl (hc_w0 (hg1 i hin1))) rfl sS ?_
              refine h_take 8 rfl kr kr kr (by exact y_ix1 tabs (j := i) rfl rfl rfl hsF rfl hin) rfl sS ?_
              refine h_only 9 rfl kr ?_
              (refine m_storeo 2 tabs rfl rfl rfl rfl (by rw [mkv_length]; exact hin) ?_)
              refine c_nil (x_one (h_keep sS ?_))
              refine h_end kr ?_
              repeat' (first | (show AT _ _ _ _; refine x_then ?_))
              refine c_all (Hp [] w [.blk b4 #[iV n, .slice aF F.length cF, .slice aT T.length cT] 26, .blk b2 #[iV n, .slice a0 F.length c0, .slice a1 T.length c1] 26]) kr (fun _ c => Hp.drew c) ?_
              refine h_take 0 rfl kr kr kr (by exact y_field tabs rfl rfl rfl) rfl sS ?_
              refine h_take 1 rfl kr kr kr (by exact y_load tabs rfl rfl (hc_blk 0 rfl rfl)) rfl sS ?_
              refine h_take 2 rfl kr kr kr (by exact y_move rfl) rfl sS ?_
              refine h_take 3 rfl kr kr kr (by exact y_field tabs rfl rfl rfl) rfl sS ?_
              refine h_take 4 rfl kr kr kr (by exact y_load tabs rfl rfl (hc_blk 1 rfl rfl)) rfl sS ?_
              refine h_take 5 rfl kr kr kr (by exact y_move rfl) rfl sS ?_
              refine h_take 6 rfl kr kr kr (by exact y_ix1 tabs (j := i) rfl rfl rfl hs0 rfl hin) rfl sS ?_
              refine h_take 7 rfl kr kr kr (by exact y_load tabs rfl rfl (hc_w0 (hg0 i hin))) rfl sS ?_
              refine h_take 8 rfl kr kr kr (by exact y_ix1 tabs (j := i) rfl rfl rfl hsU rfl hin1) rfl sS ?_
              refine h_only 9 rfl kr ?_
              (refine m_storeo 1 tabs rfl rfl rfl rfl (by rw [mkv_length]; exact hin) ?_)
              refine c_nil (x_one (h_keep sS ?_))
              refine h_end kr ?_
              repeat' (first | (show oL; first | refine sMv rfl rfl ?_ | refine sAs rfl rfl ?_ | refine sAd rfl rfl om rfl ?_) | refine xNt ?_ | (show oC; refine c_region ?_) | (show AT _ _ _ _; first | refine x_then ?_ | refine x_blk ?_))
              refine x_nx (i + 1) sB om (fun w' c' => ?_) om
              simp only [List.set_cons_succ, List.set_cons_zero] at c'
              rw [rvg_yes hv, rvg_yes (Or.symm hv)] at c'
              exact c'
            · have ht : T.getD i 0 = v := hv.resolve_left hf
              repeat' (first | (show oL; first | refine sMv rfl rfl ?_ | refine sFd tabs rfl rfl rfl rfl ?_ | (show oA (.load _ _); first | refine st_y (y_load tabs rfl rfl (hc_w0 (hg0 i hin))) rfl ?_ | refine st_y (y_load tabs rfl rfl (hc_w0 (hg1 i hin1))) rfl ?_ | refine sLd 4 tabs rfl rfl rfl rfl rfl ?_) | (show oA (.indexAddr _ _ _); first | refine st_y (y_ix1 tabs (j := i) rfl rfl rfl hs0 rfl hin) rfl ?_ | refine st_y (y_ix1 tabs (j := i) rfl rfl rfl hs1 rfl hin1) rfl ?_) | (show oA (.binOp _ _ _ _ _); first | refine st_y (y_eqlin rfl rfl hf) rfl ?_ | refine st_y (y_eqlie rfl rfl ht) rfl ?_ | refine sLs rfl rfl rfl ?_) | refine sLn tabs rfl rfl rfl ?_ | (show oA (.pick _ _ _); refine st_y (y_pick rfl rfl rfl) rfl ?_) | refine st_gy rfl rfl ?_) | refine xNt ?_ | (show oC; first | refine c_seq ?_ | refine c_region ?_ | refine c_skip (x_then ?_) | refine c_block ?_ | refine c_true rfl ?_ | refine c_ift rfl aO ?_))
              refine c_all (Hp [] w [.blk b4 #[iV n, .slice aF F.length cF, .slice aT T.length cT] 26, .blk b2 #[iV n, .slice a0 F.length c0, .slice a1 T.length c1] 26]) kr (fun _ c => Hp.drew c) ?_
              refine h_take 0 rfl kr kr kr (by exact y_field tabs rfl rfl rfl) rfl sS ?_
              refine h_take 1 rfl kr kr kr (by exact y_load tabs rfl rfl (hc_blk 0 rfl rfl)) rfl sS ?_
              refine h_take 2 rfl kr kr kr (by exact y_move rfl) rfl sS ?_
              refine h_take 3 rfl kr kr kr (by exact y_field tabs rfl rfl rfl) rfl sS ?_
              refine h_take 4 rfl kr kr kr (by exact y_load tabs rfl rfl (hc_blk 1 rfl rfl)) rfl sS ?_
              refine h_take 5 rfl kr kr kr (by exact y_move rfl) rfl sS ?_
              refine h_take 6 rfl kr kr kr (by exact y_ix1 tabs (j := i) rfl rfl rfl hs1 rfl hin1) rfl sS ?_
              refine h_take 7 rfl kr kr kr (by exact y_load tabs rfl rfl (hc_w0 (hg1 i hin1))) rfl sS ?_
              refine h_take 8 rfl kr kr kr (by exact y_ix1 tabs (j := i) rfl rfl rfl hsF rfl hin) rfl sS ?_
              refine h_only 9 rfl kr ?_
              (refine m_storeo 2 tabs rfl rfl rfl rfl (by rw [mkv_length]; exact hin) ?_)
              refine c_nil (x_one (h_keep sS ?_))
              refine h_end kr ?_
              repeat' (first | (show AT _ _ _ _; refine x_then ?_))
              refine c_all (Hp [] w [.blk b4 #[iV n, .slice aF F.length cF, .slice aT T.length cT] 26, .blk b2 #[iV n, .slice a0 F.length c0, .slice a1 T.length c1] 26]) kr (fun _ c => Hp.drew c) ?_
              refine h_take 0 rfl kr kr kr (by exact y_field tabs rfl rfl rfl) rfl sS ?_
              refine h_take 1 rfl kr kr kr (by exact y_load tabs rfl rfl (hc_blk 0 rfl rfl)) rfl sS ?_
              refine h_take 2 rfl kr kr kr (by exact y_move rfl) rfl sS ?_
              refine h_take 3 rfl kr kr kr (by exact y_field tabs rfl rfl rfl) rfl sS ?_
              refine h_take 4 rfl kr kr kr (by exact y_load tabs rfl rfl (hc_blk 1 rfl rfl)) rfl sS ?_
              refine h_take 5 rfl kr kr kr (by exact y_move rfl) rfl sS ?_
              refine h_take 6 rfl kr kr kr (by exact y_ix1 tabs (j := i) rfl rfl rfl hs0 rfl hin) rfl sS ?_
              refine h_take 7 rfl kr kr kr (by exact y_load tabs rfl rfl (hc_w0 (hg0 i hin))) rfl sS ?_
              refine h_take 8 rfl kr kr kr (by exact y_ix1 tabs (j := i) rfl rfl rfl hsU rfl hin1) rfl sS ?_
              refine h_only 9 rfl kr ?_
              (refine m_storeo 1 tabs rfl rfl rfl rfl (by rw [mkv_length]; exact hin) ?_)
              refine c_nil (x_one (h_keep sS ?_))
              refine h_end kr ?_
              repeat' (first | (show oL; first | refine sMv rfl rfl ?_ | refine sAs rfl rfl ?_ | refine sAd rfl rfl om rfl ?_) | refine xNt ?_ | (show oC; refine c_region ?_) | (show AT _ _ _ _; first | refine x_then ?_ | refine x_blk ?_))
              refine x_nx (i + 1) sB om (fun w' c' => ?_) om
              simp only [List.set_cons_succ, List.set_cons_zero] at c'
              rw [rvg_yes hv, rvg_yes (Or.symm hv)] at c'
              exact c'
          · have hf : ¬ F.getD i 0 = v := fun k => hv (.inl k)
            have ht : ¬ T.getD i 0 = v := fun k => hv (.inr k)
            repeat' (first | (show oL; first | refine sMv rfl rfl ?_ | refine sAs rfl rfl ?_ | refine sFd tabs rfl rfl rfl rfl ?_ | (show oA (.load _ _); first | refine st_y (y_load tabs rfl rfl (hc_w0 (hg0 i hin))) rfl ?_ | refine st_y (y_load tabs rfl rfl (hc_w0 (hg1 i hin1))) rfl ?_ | refine sLd 4 tabs rfl rfl rfl rfl rfl ?_) | (show oA (.indexAddr _ _ _); first | refine st_y (y_ix1 tabs (j := i) rfl rfl rfl hs0 rfl hin) rfl ?_ | refine st_y (y_ix1 tabs (j := i) rfl rfl rfl hs1 rfl hin1) rfl ?_) | (show oA (.binOp _ _ _ _ _); first | refine st_y (y_eqlin rfl rfl hf) rfl ?_ | refine st_y (y_eqlin rfl rfl ht) rfl ?_ | refine sAd rfl rfl om rfl ?_ | refine sLs rfl rfl rfl ?_) | refine sLn tabs rfl rfl rfl ?_ | (show oA (.pick _ _ _); refine st_y (y_pick rfl rfl rfl) rfl ?_) | refine st_gy rfl rfl ?_) | refine xNt ?_ | (show oC; first | refine c_seq ?_ | refine c_region ?_ | refine c_skip (x_then ?_) | refine c_skip (x_blk ?_) | refine c_block ?_ | refine c_false rfl ?_ | refine c_ift rfl aO ?_) | (show AT _ _ _ _; refine x_then ?_))
            refine x_nx (i + 1) sB om (fun w' c' => ?_) om
            rw [← rvg_no hv, ← rvg_no (fun k => hv (Or.symm k))]
            exact c'
        · have : i = F.length := by omega
          subst this
          repeat' (first | (show oL; first | refine sMv rfl rfl ?_ | refine sAs rfl rfl ?_ | refine sFd tabs rfl rfl rfl rfl ?_ | (show oA (.load _ _); first | refine sLd 4 tabs rfl rfl rfl rfl rfl ?_ | refine sLb 0 tabs rfl rfl rfl rfl rfl ?_) | refine sLs rfl rfl rfl ?_ | refine sLn tabs rfl rfl rfl ?_ | (show oA (.store _ _ _); refine m_storeb 3 tabs rfl rfl rfl rfl rfl rfl rfl ?_)) | refine xNt ?_ | (show oC; first | refine c_seq ?_ | refine c_region ?_ | refine c_ret ?_ | refine c_exit ?_ | refine c_iff rfl nN ?_) | (show AT _ _ _ _; first | refine x_then ?_ | refine x_then_exit ?_ | refine x_blk_exit rfl ?_))
          rw [hFT]
          exact x_ret2 Tryd.results24 (res_cellb 3 tabs rfl rfl rfl rfl) (res_tmp rfl) (fun w' c' => ⟨_, _, rfl, ⟨aF, cF, aT, cT, by simp only [revQ, mkv_length], by simp only [revQ, mkv_length]; exact hsF, by simp only [revQ, mkv_length]; exact hsT, by simp only [revQ, mkv_length]⟩, c'.sub (.cons _ (.cons_cons _ (.cons_cons _ (List.nil_sublist _))))⟩)
  · rw [revR, if_neg hR, decide_eq_false hR]
    have k1 : v ∉ srcL q := fun k => hR (rev_quivP (.inl k))
    have k2 : v ∉ snkL q := fun k => hR (rev_quivP (.inr k))
    refine fn_enter Tryd.func24 rfl Tryd.ntmps24 rfl ?_
    repeat' (first | (show oL; first | refine sMv rfl rfl ?_ | refine sAs rfl rfl ?_ | (show oA (.load _ _); first | refine sLb 1 tabs rfl rfl rfl rfl rfl ?_ | refine sLb 2 tabs rfl rfl rfl rfl rfl ?_) | (show oA (.unOp _ _ _); refine st_y (y_not rfl) rfl ?_) | (show oA (.call _); first | (refine m_call (ent_of Tryd.func30 kr rfl) rfl rfl (fun w c => spec_SourcesOf_ok (q := q) (c.rd h0) (c.rd h1)) ?_; rintro v H' ⟨xs, ys, rfl, hxs, rfl⟩) | (refine m_call (ent_of Tryd.func31 kr rfl) rfl rfl (fun w c => spec_SinksOf_ok (q := q) (c.rd h0) (c.rd h1)) ?_; rintro v H' ⟨xk, yk, rfl, hxk, rfl⟩) | (refine m_call (ent_of Tryd.func51 kr rfl) rfl rfl (fun w c => l4Has_ok (xs := srcL q) (x := v) (c.own_rd (i := 0) rfl)) ?_; rw [decide_eq_false k1]; rintro v H' ⟨rfl, rfl⟩) | (refine m_call (ent_of Tryd.func51 kr rfl) rfl rfl (fun w c => l4Has_ok (xs := snkL q) (x := v) (c.own_rd (i := 0) rfl)) ?_; rw [decide_eq_false k2]; rintro v H' ⟨rfl, rfl⟩)) | (show oA (.pick _ _ _); refine st_y (y_pick rfl rfl rfl) rfl ?_) | (show oA (.store _ _ _); refine m_storeb 2 tabs rfl rfl rfl rfl rfl rfl rfl ?_) | (show oA (.box _ _); refine m_box rfl rfl (fun b2 hb2 => ?_)) | (show oA (.alloc _); refine m_alloc tabs rfl rfl (fun b4 hb4 => ?_)) | (show oA (.build _ _); refine st_y (y_bld0 bld_q0) rfl ?_) | refine st_gy rfl rfl ?_) | refine xNt ?_ | (show oC; first | refine c_seq ?_ | refine c_region ?_ | refine c_ret ?_ | refine c_true rfl ?_) | (show AT _ _ _ _; refine x_then_ret ?_))
    exact x_ret2 Tryd.results24 (res_cellb 2 tabs rfl rfl rfl rfl) (res_tmp rfl) (fun w' c' => ⟨_, _, rfl, ⟨none, 0, none, 0, rfl, .inl rfl, .inl rfl, rfl⟩, Hp.nilp _ _ (Hp.nilp _ _ (c'.sub (List.nil_sublist _)))⟩)
end Go.Proofs.YtdnhmnnccfoliaaDoor
