import Derived.Test.YtijjkfbkihgfgaaGreatCmiqho
import Derived.Test.YtijjkfbkihgfgaaGreatCreqho
import Derived.Test.YtijjkfbkihgfgaaGreatMnbqho
namespace Go.Proofs.YtijjkfbkihgfgaaGreat
open Go.Lg Go.Proofs Go.RowKit
attribute [local irreducible] Code.wp wpList bodyPost Exit.then Exit.inBlock Hp Again Calls Y AT ResV QT Qn QI wpAny wpAnyQ
set_option maxRecDepth 20000
set_option maxHeartbeats 4000000

def cmU (p : Int) (ks : List Int) (l : List (List Mat)) (i j : Nat) : Nat → Int := fun q => if q < j then cmS p ks l (i + 1) q else cmS p ks l i q
theorem cmU_zero {p : Int} {ks : List Int} {l : List (List Mat)} {n i : Nat} : mkv n (cmS p ks l i) = mkv n (cmU p ks l i 0) := mkv_ext (fun q _ => by rw [cmU, if_neg om])
theorem cmU_end {p : Int} {ks : List Int} {l : List (List Mat)} {n i : Nat} : mkv n (cmU p ks l i n) = mkv n (cmS p ks l (i + 1)) := mkv_ext (fun q hq => by rw [cmU, if_pos hq])
theorem cmU_next {p : Int} {ks : List Int} {l : List (List Mat)} {n i j : Nat} : (mkv n (cmU p ks l i j)).set j ((cmS p ks l i j + ks.getD i 0 * (flatL (l.getD i [])).getD j 0) % p) = mkv n (cmU p ks l i (j + 1)) := by
  rw [mkv_set, cmS_step]
  refine mkv_ext (fun q hq => ?_)
  by_cases e : q = j
  · subst e
    rw [if_pos rfl, cmU, if_pos om]
  · rw [if_neg e, cmU, cmU]
    by_cases h : q < j
    · rw [if_pos h, if_pos om]
    · rw [if_neg h, if_neg om]
theorem spec_CombineMorphisms_ok {w : World} {a b : Rp} {l : List (List Mat)} {ks : List Int} {e e' f f' : Nat} {u0 u1 u2 u3 v0 v1 v2 v3 ul uk : Value} (h0 : Rd w (iT a.q.2.1) u0) (h1 : Rd w (iT a.q.2.2) u1) (h2 : Rd w (iT a.d) u2) (h3 : Rd w (matsT e a.m) u3) (k0 : Rd w (iT b.q.2.1) v0) (k1 : Rd w (iT b.q.2.2) v1) (k2 : Rd w (iT b.d) v2) (k3 : Rd w (matsT e' b.m) v3) (hl : Rd w (mssT f f' l) ul) (hk : Rd w (iT ks) uk) :
    Does Tryz.prog 100 [.agg #[iV a.p, iV a.q.1, u0, u1, u2, u3], .agg #[iV b.p, iV b.q.1, v0, v1, v2, v3], ul, uk] w (GivesMsB (cbL a b l ks) (decide (CmbP a b l ks))) := by
  obtain ⟨al, cl, rfl, hsl, hcl, hdl, hgl⟩ := rd_mss hl
  obtain ⟨ak, ck, rfl, hsk, hck, hdk, hgk⟩ := hk.ints
  unfold maxLen at hdl hdk
  by_cases hQ : FitP a b ∧ VecP a.p ks ∧ ks.length = l.length
  · obtain ⟨hF, hV, hL⟩ := hQ
    have hF' := not_not_intro hF
    have hV' := not_not_intro hV
    have hp := fieldP_pos hF.1.1
    have hn := off_le hF
    obtain ⟨n, en⟩ : ∃ n, n = offN a.d b.d a.d.length := ⟨_, rfl⟩
    rw [← en] at hn
    refine fn_enter Tryz.func100 rfl Tryz.ntmps100 rfl ?_
    repeat' (first | (show oL; first | refine sMv rfl rfl ?_ | refine sAs rfl rfl ?_ | refine sFd tabs rfl rfl rfl rfl ?_ | (show oA (.load _ _); first | refine sLb 0 tabs rfl rfl rfl rfl rfl ?_ | refine sLb 1 tabs rfl rfl rfl rfl rfl ?_ | refine sLd 1 tabs rfl rfl rfl rfl rfl ?_) | (show oA (.binOp _ _ _ _ _); refine st_y (y_neq rfl rfl) rfl ?_) | (show oA (.unOp _ _ _); refine st_y (y_notd rfl) rfl ?_) | (show oA (.call _); first | (refine m_call (ent_of Tryz.func165 kr rfl) rfl rfl (fun w c => l9Fit_ok (a := a) (b := b) (c.rd h0) (c.rd h1) (c.rd h2) (c.rd h3) (c.rd k0) (c.rd k1) (c.rd k2) (c.rd k3)) ?_; rintro v H' ⟨rfl, rfl⟩) | (refine m_call (ent_of Tryz.func139 kr rfl) rfl rfl (fun w c => spec_IsVector_ok (c.rd hk)) ?_; rintro v H' ⟨rfl, rfl⟩) | (refine m_call (ent_of Tryz.func212 kr rfl) rfl rfl (fun w c => l11Size_ok (a := a) (b := b) (c.rd h2) (c.rd k2) hF) ?_; rintro v H' ⟨rfl, rfl⟩; rw [← en]) | refine sLn tabs rfl rfl rfl ?_) | (show oA (.pick _ _ _); refine st_y (y_pickf rfl aO rfl) rfl ?_) | (show oA (.box _ _); refine m_box rfl rfl (fun b4 hb4 => ?_)) | (show oA (.makeSlice _ _ _); refine m_maken tabs (m := n) rfl rfl rfl rfl om rfl (fun gg hgg => ?_)) | refine st_gfy rfl rfl aO ?_) | refine xNt ?_ | (show oC; first | refine c_seq ?_ | refine c_region ?_ | refine c_skip (x_then ?_) | refine c_block ?_ | refine c_iff rfl nN ?_))
    all_goals first | (exfalso; first | exact absurd hF aS | exact absurd hV aS | omega) | skip
    rename_i b3 hb3
    refine c_loopH (α := Nat) [2, 3, 4, 5, 10] (fun i => [(11, .int .i64 i)]) (fun i => i ≤ l.length ∧ ∀ ms ∈ l.take i, MorP a b ms) (fun i => [.own (iT (mkv n (cmS a.p ks l i))) (.slice (some ⟨gg, 0, none⟩) n n), .blk b4 #[iV b.p, iV b.q.1, v0, v1, v2, v3] 60, .blk b3 #[iV a.p, iV a.q.1, u0, u1, u2, u3] 60]) (fun i => l.length - i) 0 rfl sB ?_ ?_ ?_
    · exact ⟨Nat.zero_le _, by simp⟩
    · intro w' c'
      have e0 : List.replicate n (0 : Int) = mkv n (cmS a.p ks l 0) := by
        rw [mkv_zero]
        exact mkv_ext (fun q hq => by rw [cmS, sumN, Int.zero_emod])
      rw [e0] at c'
      exact c'
    · rintro i ⟨hi, hall⟩
      by_cases hin : i < l.length
      · obtain ⟨ms, hms⟩ : ∃ ms, l[i]? = some ms := ⟨_, List.getElem?_eq_getElem hin⟩
        obtain ⟨a5, c5, g1, g2⟩ := hgl _ ms hms
        have hmd : l.getD i [] = ms := by rw [List.getD, hms]; rfl
        by_cases hM : MorP a b ms
        · have hM' := not_not_intro hM
          have hfl := flat_len hM.1
          have hfi := flat_in hM.1
          rw [← en] at hfl
          have hki := inP_get hV.2.2 (i := i) om
          repeat' (first | (show oL; first | refine sMv rfl rfl ?_ | refine sAs rfl rfl ?_ | (show oA (.load _ _); refine st_y (y_load tabs rfl rfl (hc_w0 g1)) rfl ?_) | (show oA (.indexAddr _ _ _); refine st_y (y_ix1 tabs (j := i) rfl rfl rfl hsl rfl hin) rfl ?_) | refine sLs rfl rfl rfl ?_ | (show oA (.call _); first | (refine m_call (ent_of Tryz.func210 kr rfl) rfl rfl (fun w c => l11Flat_ok (c.rd g2) om) ?_; rintro v H' ⟨a6, c6, rfl, hs6, rfl⟩) | refine sLn tabs rfl rfl rfl ?_)) | refine xNt ?_ | (show oC; first | refine c_seq ?_ | refine c_region ?_ | refine c_skip (x_then ?_) | refine c_block ?_ | refine c_draw kr kr (fun _ c => Hp.drew c) ?_ | refine c_ift rfl aO ?_ | refine c_iff rfl nN ?_) | (show QT _ _ _ _ _ _ (_ :: _); first | refine qMv rfl rfl ?_ | (show qA (.load _ _); first | refine q_y (y_load tabs rfl rfl (hc_w0 g1)) rfl ?_ | refine qLb 1 tabs rfl rfl rfl rfl rfl ?_ | refine qLb 2 tabs rfl rfl rfl rfl rfl ?_) | (show qA (.indexAddr _ _ _); refine q_y (y_ix1 tabs (j := i) rfl rfl rfl hsl rfl hin) rfl ?_) | (show qA (.unOp _ _ _); refine q_y (y_notd rfl) rfl ?_) | (show qA (.call _); refine q_call (ent_of Tryz.func46 kr rfl) rfl rfl (fun w c => spec_IsMorphism_ok (a := a) (b := b) (c.rd h0) (c.rd h1) (c.rd h2) (c.rd h3) (c.rd k0) (c.rd k1) (c.rd k2) (c.rd k3) (c.rd g2)) (fun u H' h => h.1) ?_)) | (show QT _ _ _ _ _ _ []; refine q_nil (x_then ?_)))
          all_goals first | exact absurd hM aS | skip
          refine c_loopH (α := Nat) [2, 3, 4, 5, 10, 11, 12] (fun j => [(13, .int .i64 j)]) (fun j => j ≤ n) (fun j => [.own (iT (flatL ms)) (.slice a6 (flatL ms).length c6), .own (iT (mkv n (cmU a.p ks l i j))) (.slice (some ⟨gg, 0, none⟩) n n), .blk b4 #[iV b.p, iV b.q.1, v0, v1, v2, v3] 60, .blk b3 #[iV a.p, iV a.q.1, u0, u1, u2, u3] 60]) (fun j => n - j) 0 rfl sB ?_ ?_ ?_
          · exact Nat.zero_le _
          · intro w' c'
            rw [cmU_zero] at c'
            exact c'
          · rintro j hj
            by_cases hjn : j < n
            · have hjx : j < (flatL ms).length := by omega
              have hxj := inP_get hfi (i := j) hjx
              have hkx := mul_small (a := ks.getD i 0) (b := (flatL ms).getD j 0) om om
              have hgd : (mkv n (cmU a.p ks l i j)).getD j 0 = cmS a.p ks l i j := by rw [mkv_get hjn, cmU, if_neg om]
              have hr1 : 0 ≤ (mkv n (cmU a.p ks l i j)).getD j 0 ∧ (mkv n (cmU a.p ks l i j)).getD j 0 ≤ 5 := by
                rw [hgd]
                exact cmS_rng hF.1.1
              repeat' (first | (show oL; first | refine sMv rfl rfl ?_ | refine sLs rfl rfl rfl ?_ | refine sLn tabs rfl rfl rfl ?_) | refine xNt ?_ | (show oC; first | refine c_seq ?_ | refine c_region ?_ | refine c_skip (x_then ?_) | refine c_block ?_ | refine c_ift rfl aO ?_))
              (first | (show oC; refine c_tailR 19 kr kr kr kr kr kr (fun _ c => Hp.drew c) ?_))
              repeat' (first | (show oL; first | refine sMv rfl rfl ?_ | refine sAs rfl rfl ?_ | (show oA (.indexAddr _ _ _); refine st_y (y_ix1 tabs (j := j) rfl rfl rfl .mk rfl hjn) rfl ?_) | refine sAd rfl rfl om rfl ?_ | (show oA (.store _ _ _); refine m_storeo 1 tabs rfl rfl rfl rfl (by rw [mkv_length]; exact hjn) ?_)) | (show oN; first | refine c_nil (x_then ?_) | refine c_nil ?_) | (show oC; refine c_region ?_) | (show QT _ _ _ _ _ _ (_ :: _); first | refine qMv rfl rfl ?_ | refine qFd tabs rfl rfl rfl rfl ?_ | (show qA (.load _ _); first | refine qLd 3 tabs rfl rfl rfl rfl rfl ?_ | refine q_y (y_load tabs rfl rfl (hc_own 1 rfl (by rw [mkv_length]; exact hjn))) rfl ?_ | refine q_y (y_load tabs rfl rfl (hc_own 0 rfl hjx)) rfl ?_ | refine q_y (y_load tabs rfl rfl (hc_w0 (hgk i om))) rfl ?_) | (show qA (.indexAddr _ _ _); first | refine q_y (y_ix1 tabs (j := j) rfl rfl rfl .mk rfl hjn) rfl ?_ | refine q_y (y_ix1 tabs (j := j) rfl rfl rfl hs6 rfl hjx) rfl ?_ | refine q_y (y_ix1 tabs (j := i) rfl rfl rfl hsk rfl om) rfl ?_) | (show qA (.binOp _ _ _ _ _); first | refine q_y (y_mul rfl rfl om) rfl ?_ | refine qAd rfl rfl om rfl ?_) | (show qA (.call _); refine q_call (ent_of Tryz.func110 kr rfl) rfl rfl (fun w c => l2Mod_ok om om) (fun u H' h => h.1) ?_)) | (show QT _ _ _ _ _ _ []; refine q_nil ?_) | (show AT _ _ _ _; first | refine x_then ?_ | refine x_blk ?_))
              refine x_nx (j + 1) sB om (fun w' c' => ?_) om
              simp only [List.set_cons_succ, List.set_cons_zero] at c'
              have h' := cmU_next (p := a.p) (ks := ks) (l := l) (n := n) (i := i) (j := j)
              rw [hmd] at h'
              rw [hgd, h'] at c'
              exact c'
            · have : j = n := by omega
              subst this
              rw [cmU_end]
              repeat' (first | (show oL; first | refine sMv rfl rfl ?_ | refine sAs rfl rfl ?_ | (show oA (.binOp _ _ _ _ _); first | refine sAd rfl rfl om rfl ?_ | refine sLs rfl rfl rfl ?_) | refine sLn tabs rfl rfl rfl ?_) | refine xNt ?_ | (show oC; first | refine c_seq ?_ | refine c_region ?_ | refine c_exit ?_ | refine c_iff rfl nN ?_) | (show AT _ _ _ _; first | refine x_then ?_ | refine x_then_exit ?_ | refine x_blk_exit rfl ?_ | refine x_blk ?_))
              refine x_nx (i + 1) sB ⟨by omega, fun x hxm => ?_⟩ (fun w' c' => c'.sub (.cons _ (List.Sublist.refl _))) om
              rw [List.take_add_one, hms] at hxm
              rcases List.mem_append.1 hxm with hxm | hxm
              · exact hall x hxm
              · simp at hxm
                subst hxm
                exact hM
        · have hno : ¬ CmbP a b l ks := fun h => h.2.2.2 ⟨ms, List.mem_of_getElem? hms, hM⟩
          rw [cbL, if_neg hno, decide_eq_false hno]
          repeat' (first | (show oL; first | refine sMv rfl rfl ?_ | refine sAs rfl rfl ?_ | refine sLs rfl rfl rfl ?_ | refine sLn tabs rfl rfl rfl ?_ | (show oA (.buildSlice _ _ _); refine m_build0 tabs rfl rfl (fun g hg => ?_))) | refine xNt ?_ | (show oC; first | refine c_seq ?_ | refine c_region ?_ | refine c_skip (x_then ?_) | refine c_block ?_ | refine c_ret ?_ | refine c_draw kr kr (fun _ c => Hp.drew c) ?_ | refine c_ift rfl aO ?_) | (show QT _ _ _ _ _ _ (_ :: _); first | refine qMv rfl rfl ?_ | (show qA (.load _ _); first | refine q_y (y_load tabs rfl rfl (hc_w0 g1)) rfl ?_ | refine qLb 1 tabs rfl rfl rfl rfl rfl ?_ | refine qLb 2 tabs rfl rfl rfl rfl rfl ?_) | (show qA (.indexAddr _ _ _); refine q_y (y_ix1 tabs (j := i) rfl rfl rfl hsl rfl hin) rfl ?_) | (show qA (.unOp _ _ _); refine q_y (y_notd rfl) rfl ?_) | (show qA (.call _); refine q_call (ent_of Tryz.func46 kr rfl) rfl rfl (fun w c => spec_IsMorphism_ok (a := a) (b := b) (c.rd h0) (c.rd h1) (c.rd h2) (c.rd h3) (c.rd k0) (c.rd k1) (c.rd k2) (c.rd k3) (c.rd g2)) (fun u H' h => h.1) ?_)) | (show QT _ _ _ _ _ _ []; refine q_nil (x_then ?_)) | (show AT _ _ _ _; first | refine x_then_ret ?_ | refine x_blk_ret ?_))
          all_goals first | exact absurd aS hM | skip
          all_goals exact x_ret2 Tryz.results100 (res_tmp rfl) (res_tmp rfl) (fun w' c' => ⟨_, _, rfl, ⟨_, 0, rfl, .inl rfl, rfl⟩, c'.sub (.cons_cons _ (List.nil_sublist _))⟩)
      · have : i = l.length := by omega
        subst this
        rw [List.take_length] at hall
        have hP : CmbP a b l ks := ⟨hF, hV, hL, fun ⟨ms, hm, hn⟩ => hn (hall ms hm)⟩
        rw [cbL, if_pos hP, decide_eq_true hP, ← en]
        repeat' (first | (show oL; first | refine sMv rfl rfl ?_ | refine sAs rfl rfl ?_ | (show oA (.load _ _); first | refine sLb 1 tabs rfl rfl rfl rfl rfl ?_ | refine sLb 2 tabs rfl rfl rfl rfl rfl ?_) | refine sLs rfl rfl rfl ?_ | (show oA (.call _); first | (refine m_call (ent_of Tryz.func203 kr rfl) rfl rfl (fun w c' => l11Cells_ok (a := a) (b := b) (c'.rd h2) (c'.rd k2) (c'.own_rd (i := 0) rfl) hF (by rw [mkv_length, en])) ?_; rintro v H' ⟨a6, c6, rfl, hs6, rfl⟩) | refine sLn tabs rfl rfl rfl ?_)) | refine xNt ?_ | (show oC; first | refine c_seq ?_ | refine c_region ?_ | refine c_ret ?_ | refine c_exit ?_ | refine c_iff rfl nN ?_) | (show AT _ _ _ _; first | refine x_then ?_ | refine x_then_exit ?_ | refine x_blk_exit rfl ?_))
        exact x_ret2 Tryz.results100 (res_tmp rfl) (res_tmp rfl) (fun w' c' => ⟨_, _, rfl, ⟨a6, c6, rfl, hs6, rfl⟩, c'.sub (.cons_cons _ (List.nil_sublist _))⟩)
  · have hno : ¬ CmbP a b l ks := fun h => hQ ⟨h.1, h.2.1, h.2.2.1⟩
    rw [cbL, if_neg hno, decide_eq_false hno]
    refine fn_enter Tryz.func100 rfl Tryz.ntmps100 rfl ?_
    repeat' (first | (show oL; first | refine sMv rfl rfl ?_ | refine sAs rfl rfl ?_ | refine sFd tabs rfl rfl rfl rfl ?_ | (show oA (.load _ _); first | refine sLb 0 tabs rfl rfl rfl rfl rfl ?_ | refine sLb 1 tabs rfl rfl rfl rfl rfl ?_ | refine sLd 1 tabs rfl rfl rfl rfl rfl ?_) | (show oA (.binOp _ _ _ _ _); refine st_y (y_neq rfl rfl) rfl ?_) | (show oA (.unOp _ _ _); refine st_y (y_notd rfl) rfl ?_) | (show oA (.call _); first | (refine m_call (ent_of Tryz.func165 kr rfl) rfl rfl (fun w c => l9Fit_ok (a := a) (b := b) (c.rd h0) (c.rd h1) (c.rd h2) (c.rd h3) (c.rd k0) (c.rd k1) (c.rd k2) (c.rd k3)) ?_; rintro v H' ⟨rfl, rfl⟩) | (refine m_call (ent_of Tryz.func139 kr rfl) rfl rfl (fun w c => spec_IsVector_ok (c.rd hk)) ?_; rintro v H' ⟨rfl, rfl⟩) | refine sLn tabs rfl rfl rfl ?_) | (show oA (.pick _ _ _); first | refine st_y (y_pickt rfl aO rfl) rfl ?_ | refine st_y (y_pickf rfl aO rfl) rfl ?_ | refine st_y (y_pick rfl rfl rfl) rfl ?_) | (show oA (.box _ _); refine m_box rfl rfl (fun b4 hb4 => ?_)) | (show oA (.buildSlice _ _ _); refine m_build0 tabs rfl rfl (fun g hg => ?_)) | refine st_gn rfl rfl rfl ?_ | refine st_gfy rfl rfl aO ?_ | refine st_gfn rfl rfl aO rfl ?_ | refine st_gd rfl rfl (fun h => ?_) (fun h => ?_)) | refine xNt ?_ | (show oC; first | refine c_seq ?_ | refine c_region ?_ | refine c_skip (x_then ?_) | refine c_ret ?_ | refine c_true rfl ?_ | refine c_ifnd rfl (fun h => ?_) (fun h => ?_)) | (show AT _ _ _ _; refine x_then_ret ?_))
    all_goals first | exact x_ret2 Tryz.results100 (res_tmp rfl) (res_tmp rfl) (fun w' c' => ⟨_, _, rfl, ⟨_, 0, rfl, .inl rfl, rfl⟩, c'.sub (.cons_cons _ (List.nil_sublist _))⟩) | skip
    all_goals exact absurd ⟨by first | assumption | exact Decidable.not_not.1 aS, by first | assumption | exact Decidable.not_not.1 aS, by omega⟩ hQ
end Go.Proofs.YtijjkfbkihgfgaaGreat
