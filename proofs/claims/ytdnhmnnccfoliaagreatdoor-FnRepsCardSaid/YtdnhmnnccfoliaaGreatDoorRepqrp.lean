import Derived.Test.YtdnhmnnccfoliaaGreatDoorQupqrp
namespace Go.Proofs.YtdnhmnnccfoliaaGreatDoor
open Go.Lg Go.Proofs Go.RowKit
attribute [local irreducible] Code.wp wpList bodyPost Exit.then Exit.inBlock Hp Again Calls Y AT ResV QT
set_option maxRecDepth 20000
set_option maxHeartbeats 4000000

def MapP (r : Rp) (i : Nat) : Prop := MatP r.p (r.m.getD i mat0) ∧ (r.m.getD i mat0).2.1 = r.d.getD (r.q.2.1.getD i 0).toNat 0 ∧ (r.m.getD i mat0).1 = r.d.getD (r.q.2.2.getD i 0).toNat 0
instance (r : Rp) (i : Nat) : Decidable (MapP r i) := by unfold MapP; infer_instance
def RepP (r : Rp) : Prop := FieldP r.p ∧ DimsP r.q r.d ∧ r.m.length = r.q.2.1.length ∧ ∀ i, i < r.m.length → MapP r i
instance (r : Rp) : Decidable (RepP r) := by unfold RepP; infer_instance

theorem spec_IsRep_ok {w : World} {r : Rp} {e : Nat} {u0 u1 u2 u3 : Value} (h0 : Rd w (iT r.q.2.1) u0) (h1 : Rd w (iT r.q.2.2) u1) (h2 : Rd w (iT r.d) u2) (h3 : Rd w (matsT e r.m) u3) :
    Does Tryz.prog 53 [.agg #[iV r.p, iV r.q.1, u0, u1, u2, u3]] w (fun v H => v = .bool (decide (RepP r)) ∧ H = []) := by
  obtain ⟨p, ⟨V, F, T⟩, d, ms⟩ := r
  simp only at h0 h1 h2 h3 ⊢
  obtain ⟨a0, c0, rfl, hs0, hc01, hc02, hg0⟩ := h0.ints
  obtain ⟨a1, c1, rfl, hs1, hc11, hc12, hg1⟩ := h1.ints
  obtain ⟨a2, c2, rfl, hs2, hc21, hc22, hg2⟩ := h2.ints
  obtain ⟨a3, c3, rfl, hs3, hc31, hc32, hg3⟩ := rd_mats h3
  unfold maxLen at hc02 hc12 hc22 hc32
  refine fn_enter Tryz.func53 rfl Tryz.ntmps53 rfl ?_
  repeat' (first | (show oL; first | refine sMv rfl rfl ?_ | refine sAs rfl rfl ?_ | refine sFd tabs rfl rfl rfl rfl ?_ | (show oA (.load _ _); first | refine st_y (y_load3 tabs rfl rfl (hc_blk 0 rfl rfl) (hc_blk 0 rfl rfl) (hc_blk 0 rfl rfl)) rfl ?_ | refine sLd 0 tabs rfl rfl rfl rfl rfl ?_) | (show oA (.binOp _ _ _ _ _); refine st_y (y_neq rfl rfl) rfl ?_) | (show oA (.unOp _ _ _); refine st_y (y_notd rfl) rfl ?_) | (show oA (.call _); first | (refine m_call (ent_of Tryz.func76 kr rfl) rfl rfl (fun w c => spec_IsField_ok p) ?_; rintro v H' ⟨rfl, rfl⟩) | (refine m_call (ent_of Tryz.func72 kr rfl) rfl rfl (fun w c => spec_AreDims_ok (q := (V, F, T)) (c.rd h0) (c.rd h1) (c.rd h2)) ?_; rintro v H' ⟨rfl, rfl⟩) | refine sLn tabs rfl rfl rfl ?_) | (show oA (.pick _ _ _); first | refine st_y (y_pickt rfl aS rfl) rfl ?_ | refine st_y (y_pickf rfl aS rfl) rfl ?_ | refine st_y (y_pick rfl rfl rfl) rfl ?_) | (show oA (.box _ _); refine m_box rfl rfl (fun b hb => ?_)) | refine st_gn rfl rfl rfl ?_ | refine st_gfy rfl rfl aS ?_ | refine st_gfn rfl rfl aS rfl ?_ | refine st_gd rfl rfl (fun h => ?_) (fun h => ?_)) | refine xNt ?_ | (show oC; first | refine c_seq ?_ | refine c_region ?_ | refine c_skip (x_then ?_) | refine c_block ?_ | refine c_ret ?_ | refine c_true rfl ?_ | refine c_ifnd rfl (fun h => ?_) (fun h => ?_)) | (show AT _ _ _ _; refine x_then_ret ?_))
  rotate_right
  · have hP : FieldP p := Decidable.not_not.1 aS
    have hD : DimsP (V, F, T) d := Decidable.not_not.1 aS
    have hL : ms.length = F.length := by omega
    obtain ⟨⟨hV, hF6, hTF, hFi, hTi⟩, hdV, hdi, hds⟩ := hD
    simp only at hV hF6 hTF hFi hTi hdV
    refine c_loop (fun i : Nat => [(1, .pointer (some ⟨b, 0, none⟩)), (3, .int .i64 i)])
      (fun i w' => (i ≤ ms.length ∧ ∀ j, j < i → MapP ⟨p, (V, F, T), d, ms⟩ j) ∧ Hp [] w [.blk b #[iV p, iV V, .slice a0 F.length c0, .slice a1 T.length c1, .slice a2 d.length c2, .slice a3 ms.length c3] 29] w') (fun i => ms.length - i) 0 ?_ ?_ ?_
    · exact sB
    · intro w' c'
      exact ⟨⟨by omega, fun j hj => by omega⟩, c'⟩
    · intro i
      refine AT.pr (fun ⟨hi, hn⟩ => ?_)
      by_cases hlt : i < ms.length
      · have f0 := inP_get hFi (i := i) om
        have f1 := inP_get hTi (i := i) om
        obtain ⟨m, hm⟩ : ∃ m, ms[i]? = some m := ⟨_, List.getElem?_eq_getElem hlt⟩
        have hmd : ms.getD i mat0 = m := by simp [List.getD, hm]
        obtain ⟨g1, g2, g3, g4, g5, g6⟩ := hg3 i m hm
        have hno : ¬ MapP ⟨p, (V, F, T), d, ms⟩ i → ¬ RepP ⟨p, (V, F, T), d, ms⟩ := fun h hr => h (hr.2.2.2 i hlt)
        unfold MapP at hno
        simp only [hmd] at hno
        have k0 := hg0 i om
        have k1 := hg1 i om
        have k2 := hg2 (F.getD i 0).toNat om
        have k3 := hg2 (T.getD i 0).toNat om
        clear hg0 hg1 hg2 hg3
        repeat' (first | (show oL; first | refine sMv rfl rfl ?_ | refine sAs rfl rfl ?_ | refine sFd tabs rfl rfl rfl rfl ?_ | refine sLd 0 tabs rfl rfl rfl rfl rfl ?_ | (show oA (.binOp _ _ _ _ _); first | refine sAd rfl rfl om rfl ?_ | refine sLs rfl rfl rfl ?_) | refine sLn tabs rfl rfl rfl ?_) | refine xNt ?_ | (show oC; first | refine c_seq ?_ | refine c_region ?_ | refine c_skip (x_then ?_) | refine c_skip (x_blk ?_) | refine c_block ?_ | refine c_ret ?_ | refine c_draw kr kr (fun _ c => Hp.drew c) ?_ | refine c_true rfl ?_ | refine c_ift rfl aO ?_ | refine c_ifnd rfl (fun h => ?_) (fun h => ?_)) | (show QT _ _ _ _ _ _ (_ :: _); first | refine qMv rfl rfl ?_ | refine qFd tabs rfl rfl rfl rfl ?_ | (show qA (.load _ _); first | refine q_y (y_load3 tabs rfl rfl (hc_w0 g3) (hc_w0 g4) (hc_w0 g5)) rfl ?_ | refine q_y (y_load tabs rfl rfl (hc_w0 g3)) rfl ?_ | refine q_y (y_load tabs rfl rfl (hc_w0 g4)) rfl ?_ | refine q_y (y_load tabs rfl rfl (hc_w0 k0)) rfl ?_ | refine q_y (y_load tabs rfl rfl (hc_w0 k1)) rfl ?_ | refine q_y (y_load tabs rfl rfl (hc_w0 k2)) rfl ?_ | refine q_y (y_load tabs rfl rfl (hc_w0 k3)) rfl ?_ | refine qLd 0 tabs rfl rfl rfl rfl rfl ?_) | (show qA (.indexAddr _ _ _); first | refine q_y (y_ix1 tabs rfl rfl rfl mK rfl om) rfl ?_ | refine q_y (y_ixi tabs rfl rfl rfl mK om om) rfl ?_ | refine q_y (y_ixa tabs rfl rfl rfl mK om om) rfl ?_) | (show qA (.binOp _ _ _ _ _); refine q_y (y_neq rfl rfl) rfl ?_) | (show qA (.unOp _ _ _); refine q_y (y_notd rfl) rfl ?_) | (show qA (.call _); refine q_call (ent_of Tryz.func22 kr rfl) rfl rfl (fun w c => spec_IsMatrix_ok (m := m) (c.rd g6)) (fun u H' h => h.1) ?_) | (show qA (.pick _ _ _); first | refine q_y (y_pickt rfl aS rfl) rfl ?_ | refine q_y (y_pickf rfl aS rfl) rfl ?_ | refine q_y (y_pick rfl rfl rfl) rfl ?_) | refine q_gn rfl rfl rfl ?_ | refine q_gfy rfl rfl aS ?_ | refine q_gfn rfl rfl aS rfl ?_ | refine q_gd rfl rfl (fun h => ?_) (fun h => ?_)) | (show QT _ _ _ _ _ _ []; refine q_nil (x_then ?_)) | (show AT _ _ _ _; first | refine x_then ?_ | refine x_then_ret ?_ | refine x_blk_ret ?_))
        rotate_right
        · refine x_next (i + 1) sB (fun w' c' => ⟨⟨by omega, fun j hj => ?_⟩, c'⟩) om
          by_cases hji : j = i
          · subst hji
            unfold MapP
            simp only [hmd]
            exact ⟨Decidable.not_not.1 aS, by omega, by omega⟩
          · exact hn j om
        all_goals refine x_ret1 Tryz.results53 (res_tmp rfl) (fun w c => ⟨_, _, rfl, ⟨congrArg Value.bool ?_, rfl⟩, c.sub (List.nil_sublist _)⟩)
        all_goals
          have hq := hno (fun hh => by first | exact absurd hh.1 aS | (have := hh.2.1; omega) | (have := hh.2.2; omega))
          simp [hq]
      · repeat' (first | (show oL; first | refine sMv rfl rfl ?_ | refine sAs rfl rfl ?_ | refine sFd tabs rfl rfl rfl rfl ?_ | refine sLd 0 tabs rfl rfl rfl rfl rfl ?_ | refine sLs rfl rfl rfl ?_ | refine sLn tabs rfl rfl rfl ?_) | refine xNt ?_ | (show oC; first | refine c_seq ?_ | refine c_region ?_ | refine c_ret ?_ | refine c_exit ?_ | refine c_iff rfl nN ?_) | (show AT _ _ _ _; first | refine x_then ?_ | refine x_then_exit ?_ | refine x_blk_exit rfl ?_))
        refine x_ret1 Tryz.results53 (res_tmp rfl) (fun w c => ⟨_, _, rfl, ⟨congrArg Value.bool ?_, rfl⟩, c.sub (List.nil_sublist _)⟩)
        have : RepP ⟨p, (V, F, T), d, ms⟩ := ⟨hP, ⟨⟨hV, hF6, hTF, hFi, hTi⟩, hdV, hdi, hds⟩, hL, fun j hj => hn j (by simp only at hj; omega)⟩
        simp [this]
  all_goals refine x_ret1 Tryz.results53 (res_tmp rfl) (fun w c => ⟨_, _, rfl, ⟨congrArg Value.bool ?_, rfl⟩, c.sub (List.nil_sublist _)⟩)
  all_goals first | (simp_all [RepP]; done) | (have hq : ¬ RepP ⟨p, (V, F, T), d, ms⟩ := fun hr => (by have := hr.2.2.1; simp only at this; omega); simp [hq])
theorem impl_IsRep_ok {w : World} {r : Rp} {e : Nat} {u0 u1 u2 u3 : Value} (h0 : Rd w (iT r.q.2.1) u0) (h1 : Rd w (iT r.q.2.2) u1) (h2 : Rd w (iT r.d) u2) (h3 : Rd w (matsT e r.m) u3) :
    Does Tryz.prog 52 [.agg #[iV r.p, iV r.q.1, u0, u1, u2, u3]] w (fun v H => v = .bool (decide (RepP r)) ∧ H = []) := by
  obtain ⟨p, ⟨V, F, T⟩, d, ms⟩ := r
  simp only at h0 h1 h2 h3 ⊢
  obtain ⟨a0, c0, rfl, hs0, hc01, hc02, hg0⟩ := h0.ints
  obtain ⟨a1, c1, rfl, hs1, hc11, hc12, hg1⟩ := h1.ints
  obtain ⟨a2, c2, rfl, hs2, hc21, hc22, hg2⟩ := h2.ints
  obtain ⟨a3, c3, rfl, hs3, hc31, hc32, hg3⟩ := rd_mats h3
  unfold maxLen at hc02 hc12 hc22 hc32
  refine fn_enter Tryz.func52 rfl Tryz.ntmps52 rfl ?_
  repeat' (first | (show oL; first | refine sMv rfl rfl ?_ | refine sAs rfl rfl ?_ | refine sFd tabs rfl rfl rfl rfl ?_ | (show oA (.load _ _); first | refine st_y (y_load3 tabs rfl rfl (hc_blk 0 rfl rfl) (hc_blk 0 rfl rfl) (hc_blk 0 rfl rfl)) rfl ?_ | refine sLd 0 tabs rfl rfl rfl rfl rfl ?_) | (show oA (.binOp _ _ _ _ _); refine st_y (y_neq rfl rfl) rfl ?_) | (show oA (.unOp _ _ _); refine st_y (y_notd rfl) rfl ?_) | (show oA (.call _); first | (refine m_call (ent_of Tryz.func131 kr rfl) rfl rfl (fun w c => impl_IsField_ok p) ?_; rintro v H' ⟨rfl, rfl⟩) | (refine m_call (ent_of Tryz.func71 kr rfl) rfl rfl (fun w c => impl_AreDims_ok (q := (V, F, T)) (c.rd h0) (c.rd h1) (c.rd h2)) ?_; rintro v H' ⟨rfl, rfl⟩) | refine sLn tabs rfl rfl rfl ?_) | (show oA (.pick _ _ _); first | refine st_y (y_pickt rfl aS rfl) rfl ?_ | refine st_y (y_pickf rfl aS rfl) rfl ?_ | refine st_y (y_pick rfl rfl rfl) rfl ?_) | (show oA (.box _ _); refine m_box rfl rfl (fun b hb => ?_)) | refine st_gn rfl rfl rfl ?_ | refine st_gfy rfl rfl aS ?_ | refine st_gfn rfl rfl aS rfl ?_ | refine st_gd rfl rfl (fun h => ?_) (fun h => ?_)) | refine xNt ?_ | (show oC; first | refine c_seq ?_ | refine c_region ?_ | refine c_skip (x_then ?_) | refine c_block ?_ | refine c_ret ?_ | refine c_true rfl ?_ | refine c_ifnd rfl (fun h => ?_) (fun h => ?_)) | (show AT _ _ _ _; refine x_then_ret ?_))
  rotate_right
  · have hP : FieldP p := Decidable.not_not.1 aS
    have hD : DimsP (V, F, T) d := Decidable.not_not.1 aS
    have hL : ms.length = F.length := by omega
    obtain ⟨⟨hV, hF6, hTF, hFi, hTi⟩, hdV, hdi, hds⟩ := hD
    simp only at hV hF6 hTF hFi hTi hdV
    refine c_loop (fun i : Nat => [(1, .pointer (some ⟨b, 0, none⟩)), (28, .slice a3 ms.length c3), (29, iV ms.length), (30, .int .i64 i)])
      (fun i w' => (i ≤ ms.length ∧ ∀ j, j < i → MapP ⟨p, (V, F, T), d, ms⟩ j) ∧ Hp [] w [.blk b #[iV p, iV V, .slice a0 F.length c0, .slice a1 T.length c1, .slice a2 d.length c2, .slice a3 ms.length c3] 29] w') (fun i => ms.length - i) 0 ?_ ?_ ?_
    · exact sB
    · intro w' c'
      exact ⟨⟨by omega, fun j hj => by omega⟩, c'⟩
    · intro i
      refine AT.pr (fun ⟨hi, hn⟩ => ?_)
      by_cases hlt : i < ms.length
      · have f0 := inP_get hFi (i := i) om
        have f1 := inP_get hTi (i := i) om
        obtain ⟨m, hm⟩ : ∃ m, ms[i]? = some m := ⟨_, List.getElem?_eq_getElem hlt⟩
        have hmd : ms.getD i mat0 = m := by simp [List.getD, hm]
        obtain ⟨g1, g2, g3, g4, g5, g6⟩ := hg3 i m hm
        have hno : ¬ MapP ⟨p, (V, F, T), d, ms⟩ i → ¬ RepP ⟨p, (V, F, T), d, ms⟩ := fun h hr => h (hr.2.2.2 i hlt)
        unfold MapP at hno
        simp only [hmd] at hno
        have k0 := hg0 i om
        have k1 := hg1 i om
        have k2 := hg2 (F.getD i 0).toNat om
        have k3 := hg2 (T.getD i 0).toNat om
        clear hg0 hg1 hg2 hg3
        repeat' (first | (show oL; first | refine sMv rfl rfl ?_ | refine sAs rfl rfl ?_ | (show oA (.load _ _); refine st_y (y_load3 tabs rfl rfl (hc_w0 g3) (hc_w0 g4) (hc_w0 g5)) rfl ?_) | (show oA (.indexAddr _ _ _); refine st_y (y_ixa tabs rfl rfl rfl mK om om) rfl ?_) | (show oA (.binOp _ _ _ _ _); first | refine sAd rfl rfl om rfl ?_ | refine sLs rfl rfl rfl ?_) | (show oA (.store _ _ _); refine m_storeb 0 tabs rfl rfl rfl rfl rfl rfl rfl ?_) | (show oA (.alloc _); refine m_alloc tabs rfl rfl (fun b2 hb2 => ?_))) | refine xNt ?_ | (show oC; first | refine c_seq ?_ | refine c_region ?_ | refine c_skip (x_then ?_) | refine c_skip (x_blk ?_) | refine c_block ?_ | refine c_ret ?_ | refine c_draw kr kr (fun _ c => Hp.drew c) ?_ | refine c_true rfl ?_ | refine c_ift rfl aO ?_ | refine c_ifnd rfl (fun h => ?_) (fun h => ?_)) | (show QT _ _ _ _ _ _ (_ :: _); first | refine qMv rfl rfl ?_ | refine qFd tabs rfl rfl rfl rfl ?_ | (show qA (.load _ _); first | refine qLb 0 tabs rfl rfl rfl rfl rfl ?_ | refine qLd 0 tabs rfl rfl rfl rfl rfl ?_ | refine qLd 1 tabs rfl rfl rfl rfl rfl ?_ | refine q_y (y_load tabs rfl rfl (hc_w0 k0)) rfl ?_ | refine q_y (y_load tabs rfl rfl (hc_w0 k1)) rfl ?_ | refine q_y (y_load tabs rfl rfl (hc_w0 k2)) rfl ?_ | refine q_y (y_load tabs rfl rfl (hc_w0 k3)) rfl ?_) | (show qA (.indexAddr _ _ _); first | refine q_y (y_ix1 tabs rfl rfl rfl mK rfl om) rfl ?_ | refine q_y (y_ixi tabs rfl rfl rfl mK om om) rfl ?_) | (show qA (.binOp _ _ _ _ _); refine q_y (y_neq rfl rfl) rfl ?_) | (show qA (.unOp _ _ _); refine q_y (y_notd rfl) rfl ?_) | (show qA (.call _); refine q_call (ent_of Tryz.func24 kr rfl) rfl rfl (fun w c => impl_IsMatrix_ok (m := m) (c.rd g6)) (fun u H' h => h.1) ?_) | (show qA (.pick _ _ _); first | refine q_y (y_pickt rfl aS rfl) rfl ?_ | refine q_y (y_pickf rfl aS rfl) rfl ?_ | refine q_y (y_pick rfl rfl rfl) rfl ?_) | refine q_gn rfl rfl rfl ?_ | refine q_gfy rfl rfl aS ?_ | refine q_gfn rfl rfl aS rfl ?_ | refine q_gd rfl rfl (fun h => ?_) (fun h => ?_)) | (show QT _ _ _ _ _ _ []; refine q_nil (x_then ?_)) | (show AT _ _ _ _; first | refine x_then ?_ | refine x_then_ret ?_ | refine x_blk_ret ?_))
        rotate_right
        · refine x_next (i + 1) sB (fun w' c' => ⟨⟨by omega, fun j hj => ?_⟩, c'.drop⟩) om
          by_cases hji : j = i
          · subst hji
            unfold MapP
            simp only [hmd]
            exact ⟨Decidable.not_not.1 aS, by omega, by omega⟩
          · exact hn j om
        all_goals refine x_ret1 Tryz.results52 (res_tmp rfl) (fun w c => ⟨_, _, rfl, ⟨congrArg Value.bool ?_, rfl⟩, c.sub (List.nil_sublist _)⟩)
        all_goals
          have hq := hno (fun hh => by first | exact absurd hh.1 aS | (have := hh.2.1; omega) | (have := hh.2.2; omega))
          simp [hq]
      · repeat' (first | (show oL; first | refine sAs rfl rfl ?_ | refine sLs rfl rfl rfl ?_) | refine xNt ?_ | (show oC; first | refine c_seq ?_ | refine c_region ?_ | refine c_ret ?_ | refine c_exit ?_ | refine c_iff rfl nN ?_) | (show AT _ _ _ _; first | refine x_then ?_ | refine x_then_exit ?_ | refine x_blk_exit rfl ?_))
        refine x_ret1 Tryz.results52 (res_tmp rfl) (fun w c => ⟨_, _, rfl, ⟨congrArg Value.bool ?_, rfl⟩, c.sub (List.nil_sublist _)⟩)
        have : RepP ⟨p, (V, F, T), d, ms⟩ := ⟨hP, ⟨⟨hV, hF6, hTF, hFi, hTi⟩, hdV, hdi, hds⟩, hL, fun j hj => hn j (by simp only at hj; omega)⟩
        simp [this]
  all_goals refine x_ret1 Tryz.results52 (res_tmp rfl) (fun w c => ⟨_, _, rfl, ⟨congrArg Value.bool ?_, rfl⟩, c.sub (List.nil_sublist _)⟩)
  all_goals first | (simp_all [RepP]; done) | (have hq : ¬ RepP ⟨p, (V, F, T), d, ms⟩ := fun hr => (by have := hr.2.2.1; simp only at this; omega); simp [hq])

theorem spec_TotalOf_ok {w : World} {r : Rp} {e : Nat} {u0 u1 u2 u3 : Value} (h0 : Rd w (iT r.q.2.1) u0) (h1 : Rd w (iT r.q.2.2) u1) (h2 : Rd w (iT r.d) u2) (h3 : Rd w (matsT e r.m) u3) :
    Does Tryz.prog 56 [.agg #[iV r.p, iV r.q.1, u0, u1, u2, u3]] w (fun v H => v = iV (if RepP r then r.d.sum else -1) ∧ H = []) := by
  obtain ⟨p, ⟨V, F, T⟩, d, ms⟩ := r
  simp only at h0 h1 h2 h3 ⊢
  obtain ⟨a2, c2, rfl, hs2, hc21, hc22, hg2⟩ := h2.ints
  unfold maxLen at hc22
  refine fn_enter Tryz.func56 rfl Tryz.ntmps56 rfl ?_
  repeat' (first | (show oL; first | refine sAs rfl rfl ?_ | refine sLb 0 tabs rfl rfl rfl rfl rfl ?_ | (show oA (.unOp _ _ _); refine st_y (y_notd rfl) rfl ?_) | (show oA (.call _); (refine m_call (ent_of Tryz.func53 kr rfl) rfl rfl (fun w c => spec_IsRep_ok (r := ⟨p, (V, F, T), d, ms⟩) (c.rd h0) (c.rd h1) (c.rd h2) (c.rd h3)) ?_; rintro v H' ⟨rfl, rfl⟩)) | (show oA (.box _ _); refine m_box rfl rfl (fun b hb => ?_))) | refine xNt ?_ | (show oC; first | refine c_seq ?_ | refine c_region ?_ | refine c_skip (x_then ?_) | refine c_block ?_ | refine c_ret ?_ | refine c_ifnd rfl (fun h => ?_) (fun h => ?_)) | (show AT _ _ _ _; refine x_then_ret ?_))
  · refine x_ret1 Tryz.results56 (res_tmp rfl) (fun w c => ⟨_, _, rfl, ⟨?_, rfl⟩, c.sub (List.nil_sublist _)⟩)
    rw [if_neg h]
  · have hR := h
    have hD := h.2.1
    have hb : ∀ i, i ≤ d.length → 0 ≤ (d.take i).sum ∧ (d.take i).sum ≤ 4000 := fun i hi => by
      have h1 := sum_in (inP_of_take i hD.2.2.1)
      have h2 := hD.2.1
      have h3 := hD.1.1
      simp at h1 h2 h3; omega
    refine c_loop (fun i : Nat => [(1, .pointer (some ⟨b, 0, none⟩)), (3, iV (d.take i).sum), (4, .int .i64 i)])
      (fun i w' => i ≤ d.length ∧ Hp [] w [.blk b #[iV p, iV V, u0, u1, .slice a2 d.length c2, u3] 29] w') (fun i => d.length - i) 0 ?_ ?_ ?_
    · exact sB
    · intro w' c'
      exact ⟨by omega, c'⟩
    · intro i
      refine AT.pr (fun hi => ?_)
      repeat' (first | (show oL; first | refine sMv rfl rfl ?_ | refine sAs rfl rfl ?_ | refine sFd tabs rfl rfl rfl rfl ?_ | (show oA (.load _ _); first | refine st_y (y_load tabs rfl rfl (hc_w0 (hg2 _ om))) rfl ?_ | refine sLd 0 tabs rfl rfl rfl rfl rfl ?_) | (show oA (.indexAddr _ _ _); refine st_y (y_ix1 tabs rfl rfl rfl mK rfl om) rfl ?_) | (show oA (.binOp _ _ _ _ _); first | refine st_y (y_add rfl rfl (by have := sum_next d i om; have := hb (i + 1) om; omega)) rfl ?_ | refine sLs rfl rfl rfl ?_) | refine sLn tabs rfl rfl rfl ?_) | (show oN; first | refine c_nil (x_then ?_) | refine c_nil ?_) | (show oC; first | refine c_seq ?_ | refine c_region ?_ | refine c_skip (x_then ?_) | refine c_block ?_ | refine c_ret ?_ | refine c_exit ?_ | refine c_if rfl (fun h => ?_) (fun h => ?_)) | (show AT _ _ _ _; first | refine x_then ?_ | refine x_then_exit ?_ | refine x_blk_exit rfl ?_ | refine x_blk ?_))
      · refine x_next (i + 1) ?_ (fun w' c' => ⟨by omega, c'⟩) om
        exact Sub.cons rfl (Sub.consi rfl (sum_next d i om).symm (Sub.consi rfl om Sub.nil))
      · refine x_ret1 Tryz.results56 (res_tmp rfl) (fun w c => ⟨_, _, rfl, ⟨?_, rfl⟩, c.sub (List.nil_sublist _)⟩)
        rw [if_pos hR, take_end om]
theorem impl_TotalOf_ok {w : World} {r : Rp} {e : Nat} {u0 u1 u2 u3 : Value} (h0 : Rd w (iT r.q.2.1) u0) (h1 : Rd w (iT r.q.2.2) u1) (h2 : Rd w (iT r.d) u2) (h3 : Rd w (matsT e r.m) u3) :
    Does Tryz.prog 55 [.agg #[iV r.p, iV r.q.1, u0, u1, u2, u3]] w (fun v H => v = iV (if RepP r then r.d.sum else -1) ∧ H = []) := by
  obtain ⟨p, ⟨V, F, T⟩, d, ms⟩ := r
  simp only at h0 h1 h2 h3 ⊢
  have hl : RepP ⟨p, (V, F, T), d, ms⟩ → d.length ≤ 1000 := fun h => by
    have h2 := h.2.1.2.1
    have h3 := h.2.1.1.1
    simp at h2 h3; omega
  refine fn_enter Tryz.func55 rfl Tryz.ntmps55 rfl ?_
  repeat' (first | (show oL; first | refine sAs rfl rfl ?_ | refine sFd tabs rfl rfl rfl rfl ?_ | (show oA (.load _ _); first | refine sLb 0 tabs rfl rfl rfl rfl rfl ?_ | refine sLd 0 tabs rfl rfl rfl rfl rfl ?_) | (show oA (.unOp _ _ _); refine st_y (y_notd rfl) rfl ?_) | (show oA (.call _); first | (refine m_call (ent_of Tryz.func52 kr rfl) rfl rfl (fun w c => impl_IsRep_ok (r := ⟨p, (V, F, T), d, ms⟩) (c.rd h0) (c.rd h1) (c.rd h2) (c.rd h3)) ?_; rintro v H' ⟨rfl, rfl⟩) | (refine m_call (ent_of Tryz.func134 kr rfl) rfl rfl (fun w c => sumOf_ok (c.rd h2) h.2.1.2.2.1 (hl h)) ?_; rintro v H' ⟨rfl, rfl⟩)) | (show oA (.box _ _); refine m_box rfl rfl (fun b hb => ?_))) | refine xNt ?_ | (show oC; first | refine c_seq ?_ | refine c_region ?_ | refine c_skip (x_then ?_) | refine c_ret ?_ | refine c_ifnd rfl (fun h => ?_) (fun h => ?_)) | (show AT _ _ _ _; refine x_then_ret ?_))
  · refine x_ret1 Tryz.results55 (res_tmp rfl) (fun w c => ⟨_, _, rfl, ⟨?_, rfl⟩, c.sub (List.nil_sublist _)⟩)
    rw [if_neg h]
  · refine x_ret1 Tryz.results55 (res_tmp rfl) (fun w c => ⟨_, _, rfl, ⟨?_, rfl⟩, c.sub (List.nil_sublist _)⟩)
    rw [if_pos h]
end Go.Proofs.YtdnhmnnccfoliaaGreatDoor
