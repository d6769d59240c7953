import Derived.Test.YtdnhmnnccfoliaaDoorPrmqqv
namespace Go.Proofs.YtdnhmnnccfoliaaDoor
open Go.Lg Go.Proofs Go.RowKit
attribute [local irreducible] Code.wp wpList bodyPost Exit.then Exit.inBlock Hp Again Calls Y AT ResV QT
set_option maxRecDepth 20000
set_option maxHeartbeats 4000000

def QuivP (q : Qv) : Prop := (1 ≤ q.1 ∧ q.1 ≤ 5) ∧ q.2.1.length ≤ 6 ∧ q.2.2.length = q.2.1.length ∧ InP 0 (q.1 - 1) q.2.1 ∧ InP 0 (q.1 - 1) q.2.2
instance (q : Qv) : Decidable (QuivP q) := by unfold QuivP; infer_instance

theorem spec_IsQuiver_ok {w : World} {q : Qv} {u u' : Value} (h0 : Rd w (iT q.2.1) u) (h1 : Rd w (iT q.2.2) u') : Does Tryd.prog 11 [.agg #[iV q.1, u, u']] w (fun v H => v = .bool (decide (QuivP q)) ∧ H = []) := by
  obtain ⟨V, F, T⟩ := q
  simp only at h0 h1 ⊢
  obtain ⟨a, c, rfl, hs, hc1, hc2, hget⟩ := h0.ints
  obtain ⟨a', c', rfl, hs', hc1', hc2', hget'⟩ := h1.ints
  unfold maxLen at hc2 hc2'
  have hV : 1 ≤ V ∧ V ≤ 5 → IntKind.i64.wrap (V - 1) = V - 1 := fun h => by rw [IntKind.wrap_i64]; omega
  refine fn_enter Tryd.func11 rfl Tryd.ntmps11 rfl ?_
  repeat' (first | (show oL; first | refine sAs rfl rfl ?_ | (show oA (.box _ _); refine m_box rfl rfl (fun b hb => ?_))) | refine xNt ?_ | (show oC; first | refine c_seq ?_ | refine c_region ?_ | refine c_block ?_))
  refine c_loop (fun i : Nat => [(1, .pointer (some ⟨b, 0, none⟩)), (3, .int .i64 i)])
    (fun i w' => (i ≤ F.length ∧ i ≤ T.length ∧ InP 0 (IntKind.i64.wrap (V - 1)) (F.take i) ∧ InP 0 (IntKind.i64.wrap (V - 1)) (T.take i)) ∧ Hp [] w [.blk b #[iV V, .slice a F.length c, .slice a' T.length c'] 26] w') (fun i => F.length - i) 0 ?_ ?_ ?_
  · exact sB
  · intro w' c'
    exact ⟨⟨by omega, by omega, by intro x hx; simp at hx, by intro x hx; simp at hx⟩, c'⟩
  · intro i
    refine AT.pr (fun ⟨hi, hi', hF, hT⟩ => ?_)
    have key : (¬ (i : Int) < F.length ∨ ¬ (i : Int) < T.length) → (1 ≤ V ∧ V ≤ 5) → F.length ≤ 6 → T.length = F.length → QuivP (V, F, T) := fun h1 h2 h3 h4 => by
      rw [hV h2, take_end om] at hF
      rw [hV h2, take_end om] at hT
      exact ⟨h2, h3, h4, hF, hT⟩
    repeat' (first | (show oL; first | refine sMv rfl rfl ?_ | refine sAs rfl rfl ?_ | refine sFd tabs rfl rfl rfl rfl ?_ | refine sLd 0 tabs rfl rfl rfl rfl rfl ?_ | (show oA (.binOp _ _ _ _ _); first | refine sAd rfl rfl om rfl ?_ | refine sLs rfl rfl rfl ?_ | refine st_y (y_leq rfl rfl) rfl ?_ | refine st_y (y_eql rfl rfl) rfl ?_) | (show oA (.call _); first | (refine m_call (ent_of Tryd.func43 kr rfl) rfl rfl (fun w c => l1In_ok _ _ _) ?_; rintro v H' ⟨rfl, rfl⟩) | refine sLn tabs rfl rfl rfl ?_) | (show oA (.pick _ _ _); first | refine st_y (y_pickt rfl aS rfl) rfl ?_ | refine st_y (y_pickf rfl aS rfl) rfl ?_ | refine st_y (y_pick rfl rfl rfl) rfl ?_) | refine st_gn rfl rfl rfl ?_ | refine st_gdy rfl rfl aS ?_ | refine st_gdn rfl rfl aS rfl ?_ | refine st_gd rfl rfl (fun h => ?_) (fun h => ?_)) | refine xNt ?_ | (show oC; first | refine c_seq ?_ | refine c_region ?_ | refine c_skip (x_then ?_) | refine c_skip (x_blk ?_) | refine c_block ?_ | refine c_ret ?_ | refine c_exit ?_ | refine c_draw kr kr (fun _ c => Hp.drew c) ?_ | refine c_true rfl ?_ | refine c_false rfl ?_ | refine c_ifnd rfl (fun h => ?_) (fun h => ?_) | refine c_if rfl (fun h => ?_) (fun h => ?_)) | (show QT _ _ _ _ _ _ (_ :: _); first | refine qMv rfl rfl ?_ | refine qFd tabs rfl rfl rfl rfl ?_ | (show qA (.load _ _); first | refine q_y (y_load tabs rfl rfl (hc_w0 (hget _ om))) rfl ?_ | refine q_y (y_load tabs rfl rfl (hc_w0 (hget' _ om))) rfl ?_ | refine qLd 0 tabs rfl rfl rfl rfl rfl ?_) | (show qA (.indexAddr _ _ _); refine q_y (y_ix1 tabs rfl rfl rfl mK rfl om) rfl ?_) | (show qA (.binOp _ _ _ _ _); refine q_y (y_subw rfl rfl) rfl ?_) | (show qA (.unOp _ _ _); refine q_y (y_notd rfl) rfl ?_) | (show qA (.call _); refine q_call (ent_of Tryd.func43 kr rfl) rfl rfl (fun w c => l1In_ok _ _ _) (fun u H' h => h.1) ?_) | (show qA (.pick _ _ _); first | refine q_y (y_pickt rfl aS rfl) rfl ?_ | refine q_y (y_pickf rfl aS rfl) rfl ?_) | refine q_gfy rfl rfl aS ?_ | refine q_gfn rfl rfl aS rfl ?_ | refine q_gd rfl rfl (fun h => ?_) (fun h => ?_)) | (show QT _ _ _ _ _ _ []; refine q_nil (x_then ?_)) | (show AT _ _ _ _; first | refine x_then ?_ | refine x_then_ret ?_ | refine x_blk_ret ?_ | refine x_then_exit ?_ | refine x_blk_exit rfl ?_))
    · refine x_ret1 Tryd.results11 (res_tmp rfl) (fun w c => ⟨_, _, rfl, ⟨congrArg Value.bool ?_, rfl⟩, c.sub (List.nil_sublist _)⟩)
      have : ¬ QuivP (V, F, T) := fun hv => by
        rw [hV hv.1] at h
        exact inP_not om h hv.2.2.2.1
      simp [this]
    · refine x_ret1 Tryd.results11 (res_tmp rfl) (fun w c => ⟨_, _, rfl, ⟨congrArg Value.bool ?_, rfl⟩, c.sub (List.nil_sublist _)⟩)
      have : ¬ QuivP (V, F, T) := fun hv => by
        rw [hV hv.1] at h
        exact inP_not om h hv.2.2.2.2
      simp [this]
    · refine x_next (i + 1) sB (fun w' c' => ⟨⟨by omega, by omega, inP_take hF om (Decidable.not_not.1 aS), inP_take hT om h⟩, c'⟩) om
    all_goals refine x_ret1 Tryd.results11 (res_tmp rfl) (fun w c => ⟨_, _, rfl, ⟨congrArg Value.bool ?_, rfl⟩, c.sub (List.nil_sublist _)⟩)
    all_goals by_cases hq : QuivP (V, F, T)
    all_goals first
      | (have q1 := hq.1; have q2 := hq.2.1; have q3 := hq.2.2.1; simp only at q1 q2 q3; simp only [hq, decide_true, decide_eq_true_eq]; omega)
      | (exfalso; have q1 := hq.1; have q2 := hq.2.1; have q3 := hq.2.2.1; simp only at q1 q2 q3; omega)
      | (simp [hq]; done)
      | (have hk := fun h2 h3 h4 => hq (key om h2 h3 h4); simp only [hq, decide_false, decide_eq_false_iff_not]; intro h5; exact hk aS om om)

theorem impl_IsQuiver_ok {w : World} {q : Qv} {u u' : Value} (h0 : Rd w (iT q.2.1) u) (h1 : Rd w (iT q.2.2) u') : Does Tryd.prog 13 [.agg #[iV q.1, u, u']] w (fun v H => v = .bool (decide (QuivP q)) ∧ H = []) := by
  obtain ⟨V, F, T⟩ := q
  simp only at h0 h1 ⊢
  obtain ⟨a, c, rfl, hs, hc1, hc2, hget⟩ := h0.ints
  obtain ⟨a', c', rfl, hs', hc1', hc2', hget'⟩ := h1.ints
  unfold maxLen at hc2 hc2'
  refine fn_enter Tryd.func13 rfl Tryd.ntmps13 rfl ?_
  repeat' (first | (show oL; first | refine sMv rfl rfl ?_ | refine sAs rfl rfl ?_ | refine sFd tabs rfl rfl rfl rfl ?_ | refine sLd 0 tabs rfl rfl rfl rfl rfl ?_ | (show oA (.binOp _ _ _ _ _); first | refine st_y (y_sub rfl rfl om) rfl ?_ | refine st_y (y_leq rfl rfl) rfl ?_ | refine st_y (y_eql rfl rfl) rfl ?_) | (show oA (.call _); first | (refine m_call (ent_of Tryd.func45 kr rfl) rfl rfl (fun w c => within_ok _ _ _) ?_; rintro v H' ⟨rfl, rfl⟩) | (refine m_call (ent_of Tryd.func46 kr rfl) rfl rfl (fun w c => allWithin_ok (c.rd h0)) ?_; rintro v H' ⟨rfl, rfl⟩) | (refine m_call (ent_of Tryd.func46 kr rfl) rfl rfl (fun w c => allWithin_ok (c.rd h1)) ?_; rintro v H' ⟨rfl, rfl⟩) | refine sLn tabs rfl rfl rfl ?_) | (show oA (.pick _ _ _); first | refine st_y (y_pickt rfl aS rfl) rfl ?_ | refine st_y (y_pickf rfl aS rfl) rfl ?_ | refine st_y (y_pick rfl rfl rfl) rfl ?_) | (show oA (.box _ _); refine m_box rfl rfl (fun b hb => ?_)) | refine st_gn rfl rfl rfl ?_ | refine st_gdy rfl rfl aS ?_ | refine st_gdn rfl rfl aS rfl ?_ | refine st_gd rfl rfl (fun h => ?_) (fun h => ?_)) | refine xNt ?_ | (show oC; first | refine c_seq ?_ | refine c_region ?_ | refine c_ret ?_))
  all_goals refine x_ret1 Tryd.results13 (res_tmp rfl) (fun w c => ⟨_, _, rfl, ⟨congrArg Value.bool ?_, rfl⟩, c.sub (List.nil_sublist _)⟩)
  all_goals by_cases hq : QuivP (V, F, T)
  all_goals first
    | (have q1 := hq.1; have q2 := hq.2.1; have q3 := hq.2.2.1; have q4 := hq.2.2.2.1; have q5 := hq.2.2.2.2; simp only at q1 q2 q3 q4 q5; simp_all; done)
    | (exfalso; have q1 := hq.1; have q2 := hq.2.1; have q3 := hq.2.2.1; simp only at q1 q2 q3; omega)
    | (simp [hq]; done)
    | (simp only [hq, decide_false, decide_eq_false_iff_not]; intro h5; exact hq ⟨by assumption, show F.length ≤ 6 by omega, show T.length = F.length by omega, by assumption, by assumption⟩)

end Go.Proofs.YtdnhmnnccfoliaaDoor
