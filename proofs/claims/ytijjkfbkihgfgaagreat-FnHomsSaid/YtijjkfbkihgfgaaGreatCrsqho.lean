import Derived.Test.YtijjkfbkihgfgaaGreatCriqho
namespace Go.Proofs.YtijjkfbkihgfgaaGreat
open Go.Lg Go.Proofs Go.RowKit
attribute [local irreducible] Code.wp wpList bodyPost Exit.then Exit.inBlock Hp Again Calls Y AT ResV QT Qn QI wpAny wpAnyQ
set_option maxRecDepth 20000
set_option maxHeartbeats 4000000

theorem flat_hk {a b : Rp} {ks : List Int} (h : ks ∈ hkL a b) : flatL (cutL a.d b.d ks) = ks := by
  have hl := hkL_len ks h
  rw [cutL, flat_cut, List.take_of_length_le om]
theorem msT_mapc (e : Nat) : ∀ l : List (List Mat), l.flatMap (msT e) = l.map (fun ms => matsT e ms)
  | [] => rfl
  | x :: l => by rw [List.flatMap_cons, msT_mapc e l]; rfl
theorem spec_CoordinatesOf_ok {w : World} {a b : Rp} {ms : List Mat} {e e' e2 : Nat} {u0 u1 u2 u3 v0 v1 v2 v3 um : Value} (h0 : Rd w (iT a.q.2.1) u0) (h1 : Rd w (iT a.q.2.2) u1) (h2 : Rd w (iT a.d) u2) (h3 : Rd w (matsT e a.m) u3) (k0 : Rd w (iT b.q.2.1) v0) (k1 : Rd w (iT b.q.2.2) v1) (k2 : Rd w (iT b.d) v2) (k3 : Rd w (matsT e' b.m) v3) (hm : Rd w (matsT e2 ms) um) :
    Does Tryz.prog 93 [.agg #[iV a.p, iV a.q.1, u0, u1, u2, u3], .agg #[iV b.p, iV b.q.1, v0, v1, v2, v3], um] w (GivesIB (crV a b ms) (decide (MorP a b ms))) := by
  by_cases hM : MorP a b ms
  · rw [crV, if_pos hM, decide_eq_true hM]
    have hM' := not_not_intro hM
    have hA := hM.1
    have hF := hA.1
    have hp := fieldP_pos hF.1.1
    have hn := off_le hF
    have hN := homN_le hF
    have hfl := flat_len hA
    have hfi := flat_in hA
    have hKl := hkL_length (a := a) (b := b)
    have hKr : RowsP a.p (offN a.d b.d a.d.length) (hkL a b) := kerL_rows hp.1
    have hB : homB a b = (hkL a b).map (cutL a.d b.d) := by rw [homB, if_pos hF]
    obtain ⟨hs1, hs2⟩ := crd_sol hM
    have hin : inF a.p (offN a.d b.d a.d.length) (homN a b) (trF (rowsF (hkL a b))) := fun i j hi hj => by
      have hm : (hkL a b).getD j [] ∈ hkL a b := by
        have hj' : j < (hkL a b).length := by omega
        rw [List.getD, List.getElem?_eq_getElem hj']; exact List.getElem_mem _
      have := inP_get (hKr _ hm).2 (i := i) (by rw [(hKr _ hm).1]; exact hi)
      show 0 ≤ ((hkL a b).getD j []).getD i 0 ∧ ((hkL a b).getD j []).getD i 0 < a.p
      omega
    have hKm : ∀ ks ∈ hkL a b, flatL (cutL a.d b.d ks) = ks := fun ks h => flat_hk h
    obtain ⟨n, en⟩ : ∃ n, n = offN a.d b.d a.d.length := ⟨_, rfl⟩
    rw [← en] at hn hfl hKr hs1 hs2 hin
    refine fn_enter Tryz.func93 rfl Tryz.ntmps93 rfl ?_
    repeat' (first | (show oL; first | refine sMv rfl rfl ?_ | refine sAs rfl rfl ?_ | (show oA (.load _ _); first | refine sLb 0 tabs rfl rfl rfl rfl rfl ?_ | refine sLb 1 tabs rfl rfl rfl rfl rfl ?_) | (show oA (.unOp _ _ _); refine st_y (y_notd rfl) rfl ?_) | (show oA (.call _); first | (refine m_call (ent_of Tryz.func46 kr rfl) rfl rfl (fun w c => spec_IsMorphism_ok (a := a) (b := b) (c.rd h0) (c.rd h1) (c.rd h2) (c.rd h3) (c.rd k0) (c.rd k1) (c.rd k2) (c.rd k3) (c.rd hm)) ?_; rintro v H' ⟨rfl, rfl⟩) | (refine m_call (ent_of Tryz.func87 kr rfl) rfl rfl (fun w c => spec_HomBasis_ok (a := a) (b := b) (c.rd h0) (c.rd h1) (c.rd h2) (c.rd h3) (c.rd k0) (c.rd k1) (c.rd k2) (c.rd k3)) ?_; rintro v H' ⟨am, cm, rfl, hsm, rfl⟩)) | (show oA (.extract _ _); refine st_y (y_ext rfl rfl) rfl ?_) | (show oA (.box _ _); refine m_box rfl rfl (fun b4 hb4 => ?_)) | (show oA (.buildSlice _ _ _); refine m_build0 tabs rfl rfl (fun g hg => ?_))) | refine xNt ?_ | (show oC; first | refine c_seq ?_ | refine c_region ?_ | refine c_skip (x_then ?_) | refine c_block ?_ | refine c_iff rfl nN ?_))
    all_goals first | exact absurd hM aS | skip
    rename_i b3 hb3
    rw [hB, List.length_map] at hsm ⊢
    rw [← hKl] at hin hs1 hs2 hN
    refine AT.opn 1 rfl (fun us hus => ?_)
    rw [msT_mapc, List.length_map, List.length_map] at hus
    rw [msT_mapc]
    refine c_loopH (α := Nat × Option Addr × Nat) [2, 3, 4, 8] (fun s => [(10, .slice s.2.1 s.1 s.2.2), (11, .int .i64 s.1)]) (fun s => s.1 ≤ (hkL a b).length) (fun s => [.own (rowsT 43 ((hkL a b).take s.1)) (.slice s.2.1 s.1 s.2.2), .own (.s 58 1 (us.map T.c)) (.slice am (hkL a b).length cm), .ownL (((hkL a b).map (cutL a.d b.d)).map (fun ms => matsT 47 ms)) us, .blk b4 #[iV b.p, iV b.q.1, v0, v1, v2, v3] 60, .blk b3 #[iV a.p, iV a.q.1, u0, u1, u2, u3] 60]) (fun s => (hkL a b).length - s.1) (0, some ⟨g, 0, none⟩, 0) rfl sB ?_ ?_ ?_
    · exact Nat.zero_le _
    · exact fun w' c' => (c'.front (i := 2) rfl).sub sL
    · rintro ⟨i, al, cl⟩ hi
      simp only at hi ⊢
      by_cases hin' : i < (hkL a b).length
      · obtain ⟨ks, hks⟩ : ∃ ks, (hkL a b)[i]? = some ks := ⟨_, List.getElem?_eq_getElem hin'⟩
        obtain ⟨uk, huk⟩ : ∃ uk, us[i]? = some uk := ⟨_, List.getElem?_eq_getElem om⟩
        have hkl := (hKr ks (List.mem_of_getElem? hks)).1
        have hkf := hKm ks (List.mem_of_getElem? hks)
        have hki' : (((hkL a b).map (cutL a.d b.d)).map (fun ms => matsT 47 ms))[i]? = some (matsT 47 (cutL a.d b.d ks)) := by rw [List.getElem?_map, List.getElem?_map, hks]; rfl
        have hln : ((hkL a b).take i).length = i := by rw [List.length_take]; omega
        repeat' (first | (show oL; first | refine sMv rfl rfl ?_ | refine sAs rfl rfl ?_ | (show oA (.load _ _); refine st_y (y_load tabs rfl rfl (hc_nm 1 rfl huk)) rfl ?_) | (show oA (.indexAddr _ _ _); refine st_y (y_ix1 tabs (j := i) rfl rfl rfl hsm rfl hin') rfl ?_) | (show oA (.binOp _ _ _ _ _); first | refine sAd rfl rfl om rfl ?_ | refine sLs rfl rfl rfl ?_) | (show oA (.call _); first | (refine m_call (ent_of Tryz.func210 kr rfl) rfl rfl (fun w c => (by have h := l11Flat_ok (ms := cutL a.d b.d ks) (Hp.ownL_rd 2 rfl hki' huk c) (by rw [hkf]; omega); rw [hkf] at h; exact h)) ?_; rintro v H' ⟨a6, c6, rfl, hs6, rfl⟩) | refine m_push1 [] 0 0 tabs (m' := i) rfl rfl rfl rfl rfl rfl rfl (by rw [flatMap_length rowT_length, hln]) (by rw [flatMap_length rowT_length, hln]; omega) (by decide) rfl rfl (fun a3 c3 => ?_) | refine sLn tabs rfl rfl rfl ?_) | (show oA (.buildSlice _ _ _); refine m_build1 tabs (us := [.slice a6 ks.length c6]) rfl rfl rfl rfl (by decide) rfl (fun g5 hg5 => ?_))) | (show oN; first | refine c_nil (x_then ?_) | refine c_nil ?_) | (show oC; first | refine c_seq ?_ | refine c_region ?_ | refine c_skip (x_then ?_) | refine c_block ?_ | refine c_ift rfl aO ?_) | (show AT _ _ _ _; first | refine x_then ?_ | refine x_blk ?_))
        refine x_nx (i + 1, a3, c3) sB (by simp only; omega) (fun w' c' => ?_) (by simp only; omega)
        have e1 : ((hkL a b).take i).flatMap rowT ++ (List.map T.c [] ++ [iT ks]) = ((hkL a b).take (i + 1)).flatMap rowT := by
          rw [List.take_add_one, hks, List.flatMap_append]; rfl
        rw [e1] at c'
        exact c'
      · have : i = (hkL a b).length := by omega
        subst this
        rw [List.take_length]
        repeat' (first | (show oL; first | refine sMv rfl rfl ?_ | refine sLs rfl rfl rfl ?_ | refine sLn tabs rfl rfl rfl ?_) | refine xNt ?_ | (show oC; first | refine c_seq ?_ | refine c_region ?_ | refine c_exit ?_ | refine c_iff rfl nN ?_) | (show AT _ _ _ _; first | refine x_then ?_ | refine x_then_exit ?_ | refine x_blk_exit rfl ?_))
        refine c_all (Hp [] w [.blk b4 #[iV b.p, iV b.q.1, v0, v1, v2, v3] 60, .blk b3 #[iV a.p, iV a.q.1, u0, u1, u2, u3] 60]) kr (fun _ c => Hp.drew c) ?_
        refine h_take 0 rfl kr kr kr (by exact y_field tabs rfl rfl rfl) rfl sS ?_
        refine h_take 1 rfl kr kr kr (by exact y_load tabs rfl rfl (hc_blk 1 rfl rfl)) rfl sS ?_
        refine h_take 2 rfl kr kr kr (by exact y_loadb 1 tabs rfl rfl rfl rfl) rfl sS ?_
        refine h_take 3 rfl kr kr kr (by exact y_loadb 0 tabs rfl rfl rfl rfl) rfl sS ?_
        refine h_take 5 rfl kr kr kr (by exact y_move rfl) rfl sS ?_
        refine h_take 8 rfl kr kr kr (by exact y_move rfl) rfl sS ?_
        refine h_only 4 rfl kr ?_
        first | (refine m_call (ent_of Tryz.func212 kr rfl) rfl rfl (fun w c => l11Size_ok (a := a) (b := b) (c.rd h2) (c.rd k2) hF) ?_; rintro v H' ⟨rfl, rfl⟩; rw [← en]) | (refine m_call (ent_of Tryz.func108 kr rfl) rfl rfl (fun w c => l5Rows_ok (C := n) (rs := hkL a b) (c.own_rd (i := 0) rfl) (fun xs hx => (hKr xs hx).1) om om) ?_; rintro v H' ⟨a5, c5, rfl, hs5, rfl⟩) | (refine m_call (ent_of Tryz.func107 kr rfl) rfl rfl (fun w c => l3Transpose_ok (R := (hkL a b).length) (C := n) (f := rowsF (hkL a b)) (c.own_rd (i := 0) rfl) om om) ?_; rintro v H' ⟨a6, c6, rfl, hs6, rfl⟩) | (refine m_call (ent_of Tryz.func210 kr rfl) rfl rfl (fun w c => l11Flat_ok (c.rd hm) om) ?_; rintro v H' ⟨a7, c7, rfl, hs7, rfl⟩) | (refine m_call (ent_of Tryz.func211 kr rfl) rfl rfl (fun w c => (by have h := l4Solve_ok (p := a.p) (R := n) (C := (hkL a b).length) (f := trF (rowsF (hkL a b))) (v := flatL ms) (c.own_rd (i := 1) rfl) (c.own_rd (i := 0) rfl) hF.1.1 om om hin hfi hfl; rw [show trF (rowsF (hkL a b)) = fun i j => rowsF (hkL a b) j i from rfl, hs1, hs2] at h; exact h)) ?_; rintro v H' ⟨a8, c8, rfl, hs8, rfl⟩)
        refine c_nil (x_one (h_keep sS ?_))
        refine h_only 6 rfl kr ?_
        first | (refine m_call (ent_of Tryz.func212 kr rfl) rfl rfl (fun w c => l11Size_ok (a := a) (b := b) (c.rd h2) (c.rd k2) hF) ?_; rintro v H' ⟨rfl, rfl⟩; rw [← en]) | (refine m_call (ent_of Tryz.func108 kr rfl) rfl rfl (fun w c => l5Rows_ok (C := n) (rs := hkL a b) (c.own_rd (i := 0) rfl) (fun xs hx => (hKr xs hx).1) om om) ?_; rintro v H' ⟨a5, c5, rfl, hs5, rfl⟩) | (refine m_call (ent_of Tryz.func107 kr rfl) rfl rfl (fun w c => l3Transpose_ok (R := (hkL a b).length) (C := n) (f := rowsF (hkL a b)) (c.own_rd (i := 0) rfl) om om) ?_; rintro v H' ⟨a6, c6, rfl, hs6, rfl⟩) | (refine m_call (ent_of Tryz.func210 kr rfl) rfl rfl (fun w c => l11Flat_ok (c.rd hm) om) ?_; rintro v H' ⟨a7, c7, rfl, hs7, rfl⟩) | (refine m_call (ent_of Tryz.func211 kr rfl) rfl rfl (fun w c => (by have h := l4Solve_ok (p := a.p) (R := n) (C := (hkL a b).length) (f := trF (rowsF (hkL a b))) (v := flatL ms) (c.own_rd (i := 1) rfl) (c.own_rd (i := 0) rfl) hF.1.1 om om hin hfi hfl; rw [show trF (rowsF (hkL a b)) = fun i j => rowsF (hkL a b) j i from rfl, hs1, hs2] at h; exact h)) ?_; rintro v H' ⟨a8, c8, rfl, hs8, rfl⟩)
        refine c_nil (x_one (h_keep sS ?_))
        refine h_only 7 rfl kr ?_
        first | (refine m_call (ent_of Tryz.func212 kr rfl) rfl rfl (fun w c => l11Size_ok (a := a) (b := b) (c.rd h2) (c.rd k2) hF) ?_; rintro v H' ⟨rfl, rfl⟩; rw [← en]) | (refine m_call (ent_of Tryz.func108 kr rfl) rfl rfl (fun w c => l5Rows_ok (C := n) (rs := hkL a b) (c.own_rd (i := 0) rfl) (fun xs hx => (hKr xs hx).1) om om) ?_; rintro v H' ⟨a5, c5, rfl, hs5, rfl⟩) | (refine m_call (ent_of Tryz.func107 kr rfl) rfl rfl (fun w c => l3Transpose_ok (R := (hkL a b).length) (C := n) (f := rowsF (hkL a b)) (c.own_rd (i := 0) rfl) om om) ?_; rintro v H' ⟨a6, c6, rfl, hs6, rfl⟩) | (refine m_call (ent_of Tryz.func210 kr rfl) rfl rfl (fun w c => l11Flat_ok (c.rd hm) om) ?_; rintro v H' ⟨a7, c7, rfl, hs7, rfl⟩) | (refine m_call (ent_of Tryz.func211 kr rfl) rfl rfl (fun w c => (by have h := l4Solve_ok (p := a.p) (R := n) (C := (hkL a b).length) (f := trF (rowsF (hkL a b))) (v := flatL ms) (c.own_rd (i := 1) rfl) (c.own_rd (i := 0) rfl) hF.1.1 om om hin hfi hfl; rw [show trF (rowsF (hkL a b)) = fun i j => rowsF (hkL a b) j i from rfl, hs1, hs2] at h; exact h)) ?_; rintro v H' ⟨a8, c8, rfl, hs8, rfl⟩)
        refine c_nil (x_one (h_keep sS ?_))
        refine h_only 9 rfl kr ?_
        first | (refine m_call (ent_of Tryz.func212 kr rfl) rfl rfl (fun w c => l11Size_ok (a := a) (b := b) (c.rd h2) (c.rd k2) hF) ?_; rintro v H' ⟨rfl, rfl⟩; rw [← en]) | (refine m_call (ent_of Tryz.func108 kr rfl) rfl rfl (fun w c => l5Rows_ok (C := n) (rs := hkL a b) (c.own_rd (i := 0) rfl) (fun xs hx => (hKr xs hx).1) om om) ?_; rintro v H' ⟨a5, c5, rfl, hs5, rfl⟩) | (refine m_call (ent_of Tryz.func107 kr rfl) rfl rfl (fun w c => l3Transpose_ok (R := (hkL a b).length) (C := n) (f := rowsF (hkL a b)) (c.own_rd (i := 0) rfl) om om) ?_; rintro v H' ⟨a6, c6, rfl, hs6, rfl⟩) | (refine m_call (ent_of Tryz.func210 kr rfl) rfl rfl (fun w c => l11Flat_ok (c.rd hm) om) ?_; rintro v H' ⟨a7, c7, rfl, hs7, rfl⟩) | (refine m_call (ent_of Tryz.func211 kr rfl) rfl rfl (fun w c => (by have h := l4Solve_ok (p := a.p) (R := n) (C := (hkL a b).length) (f := trF (rowsF (hkL a b))) (v := flatL ms) (c.own_rd (i := 1) rfl) (c.own_rd (i := 0) rfl) hF.1.1 om om hin hfi hfl; rw [show trF (rowsF (hkL a b)) = fun i j => rowsF (hkL a b) j i from rfl, hs1, hs2] at h; exact h)) ?_; rintro v H' ⟨a8, c8, rfl, hs8, rfl⟩)
        refine c_nil (x_one (h_keep sS ?_))
        refine h_only 10 rfl kr ?_
        first | (refine m_call (ent_of Tryz.func212 kr rfl) rfl rfl (fun w c => l11Size_ok (a := a) (b := b) (c.rd h2) (c.rd k2) hF) ?_; rintro v H' ⟨rfl, rfl⟩; rw [← en]) | (refine m_call (ent_of Tryz.func108 kr rfl) rfl rfl (fun w c => l5Rows_ok (C := n) (rs := hkL a b) (c.own_rd (i := 0) rfl) (fun xs hx => (hKr xs hx).1) om om) ?_; rintro v H' ⟨a5, c5, rfl, hs5, rfl⟩) | (refine m_call (ent_of Tryz.func107 kr rfl) rfl rfl (fun w c => l3Transpose_ok (R := (hkL a b).length) (C := n) (f := rowsF (hkL a b)) (c.own_rd (i := 0) rfl) om om) ?_; rintro v H' ⟨a6, c6, rfl, hs6, rfl⟩) | (refine m_call (ent_of Tryz.func210 kr rfl) rfl rfl (fun w c => l11Flat_ok (c.rd hm) om) ?_; rintro v H' ⟨a7, c7, rfl, hs7, rfl⟩) | (refine m_call (ent_of Tryz.func211 kr rfl) rfl rfl (fun w c => (by have h := l4Solve_ok (p := a.p) (R := n) (C := (hkL a b).length) (f := trF (rowsF (hkL a b))) (v := flatL ms) (c.own_rd (i := 1) rfl) (c.own_rd (i := 0) rfl) hF.1.1 om om hin hfi hfl; rw [show trF (rowsF (hkL a b)) = fun i j => rowsF (hkL a b) j i from rfl, hs1, hs2] at h; exact h)) ?_; rintro v H' ⟨a8, c8, rfl, hs8, rfl⟩)
        refine c_nil (x_one (h_keep sS ?_))
        refine h_take 11 rfl kr kr kr (by exact y_move rfl) rfl sS ?_
        refine h_take 12 rfl kr kr kr (by exact y_ext rfl rfl) rfl sS ?_
        refine h_take 13 rfl kr kr kr (by exact y_ext rfl rfl) rfl sS ?_
        refine h_take 14 rfl kr kr kr (by exact y_assign rfl) rfl sS ?_
        refine h_take 15 rfl kr kr kr (by exact y_assign rfl) rfl sS ?_
        refine h_end kr ?_
        repeat' (first | (show oL; first | refine sMv rfl rfl ?_ | refine sAs rfl rfl ?_) | refine xNt ?_ | (show oC; first | refine c_seq ?_ | refine c_region ?_ | refine c_ret ?_) | (show AT _ _ _ _; refine x_then ?_))
        exact x_ret2 Tryz.results93 (res_tmp rfl) (res_tmp rfl) (fun w' c' => ⟨_, _, rfl, ⟨a8, c8, rfl, hs8, rfl⟩, c'.sub (.cons_cons _ (List.nil_sublist _))⟩)
  · rw [crV, if_neg hM, decide_eq_false hM]
    refine fn_enter Tryz.func93 rfl Tryz.ntmps93 rfl ?_
    repeat' (first | (show oL; first | refine sMv rfl rfl ?_ | refine sAs rfl rfl ?_ | (show oA (.load _ _); first | refine sLb 0 tabs rfl rfl rfl rfl rfl ?_ | refine sLb 1 tabs rfl rfl rfl rfl rfl ?_) | (show oA (.unOp _ _ _); refine st_y (y_notd rfl) rfl ?_) | (show oA (.call _); (refine m_call (ent_of Tryz.func46 kr rfl) rfl rfl (fun w c => spec_IsMorphism_ok (a := a) (b := b) (c.rd h0) (c.rd h1) (c.rd h2) (c.rd h3) (c.rd k0) (c.rd k1) (c.rd k2) (c.rd k3) (c.rd hm)) ?_; rintro v H' ⟨rfl, rfl⟩)) | (show oA (.box _ _); refine m_box rfl rfl (fun b4 hb4 => ?_)) | (show oA (.buildSlice _ _ _); refine m_build0 tabs rfl rfl (fun g hg => ?_))) | refine xNt ?_ | (show oC; first | refine c_seq ?_ | refine c_region ?_ | refine c_ret ?_ | refine c_ift rfl aO ?_) | (show AT _ _ _ _; refine x_then_ret ?_))
    all_goals first | exact absurd aS hM | skip
    exact x_ret2 Tryz.results93 (res_tmp rfl) (res_tmp rfl) (fun w' c' => ⟨_, _, rfl, ⟨_, 0, rfl, .inl rfl, rfl⟩, c'.sub (.cons_cons _ (List.nil_sublist _))⟩)
end Go.Proofs.YtijjkfbkihgfgaaGreat
