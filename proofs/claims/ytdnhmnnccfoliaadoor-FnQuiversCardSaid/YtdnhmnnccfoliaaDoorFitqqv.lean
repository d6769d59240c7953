import Derived.Test.YtdnhmnnccfoliaaDoorEqmqqv
import Derived.Test.YtdnhmnnccfoliaaDoorLCqqv
import Derived.Test.YtdnhmnnccfoliaaDoorQupqqv
namespace Go.Proofs.YtdnhmnnccfoliaaDoor
open Go.Lg Go.Proofs Go.RowKit
attribute [local irreducible] Code.wp wpList bodyPost Exit.then Exit.inBlock Hp Again Calls Y AT ResV QT Qn QI wpAny wpAnyQ
set_option maxRecDepth 20000
set_option maxHeartbeats 4000000

theorem l6Same_ok (w : World) (v u : Value) (xs ys : List Int) (hr : Rd w (iT xs) v) (hr' : Rd w (iT ys) u) :
    Does Tryd.prog 44 [v, u] w (fun r H => r = .bool (decide (xs = ys)) ∧ H = []) := by
  obtain ⟨a, c, rfl, hs, hc1, hc2, hget⟩ := hr.ints
  obtain ⟨a', c', rfl, hs', hc1', hc2', hget'⟩ := hr'.ints
  unfold maxLen at hc2 hc2'
  refine fn_enter Tryd.func44 rfl Tryd.ntmps44 rfl ?_
  repeat' (first | (show oL; first | refine sMv rfl rfl ?_ | refine sAs rfl rfl ?_ | (show oA (.binOp _ _ _ _ _); refine st_y (y_neq rfl rfl) rfl ?_) | refine sLn tabs rfl rfl rfl ?_) | refine xNt ?_ | (show oC; first | refine c_seq ?_ | refine c_region ?_ | refine c_skip (x_then ?_) | refine c_block ?_ | refine c_ret ?_ | refine c_ifnd rfl (fun h => ?_) (fun h => ?_)) | (show AT _ _ _ _; refine x_then_ret ?_))
  · refine x_ret1 Tryd.results44 (res_tmp rfl) (fun w' c' => ⟨_, _, rfl, ⟨?_, rfl⟩, c'⟩)
    have : ¬ xs = ys := fun e => h (by rw [e])
    simp [this]
  · have hl : xs.length = ys.length := by omega
    refine c_loopH (α := Nat) [0, 1] (fun i => [(5, .int .i64 i)]) (fun i => i ≤ xs.length ∧ xs.take i = ys.take i) (fun i => []) (fun i => xs.length - i) 0 rfl sB ?_ ?_ ?_
    · exact ⟨by omega, rfl⟩
    · exact fun w' c' => c'
    · rintro i ⟨hi, he⟩
      by_cases hin : i < xs.length
      · have hin' : i < ys.length := by omega
        repeat' (first | (show oL; first | refine sMv rfl rfl ?_ | refine sAs rfl rfl ?_ | (show oA (.binOp _ _ _ _ _); first | refine sAd rfl rfl om rfl ?_ | refine sLs rfl rfl rfl ?_) | refine sLn tabs rfl rfl rfl ?_) | refine xNt ?_ | (show oC; first | refine c_seq ?_ | refine c_region ?_ | refine c_skip (x_then ?_) | refine c_skip (x_blk ?_) | refine c_block ?_ | refine c_ret ?_ | refine c_draw kr kr (fun _ c => Hp.drew c) ?_ | refine c_ift rfl aO ?_ | refine c_ifnd rfl (fun h => ?_) (fun h => ?_)) | (show QT _ _ _ _ _ _ (_ :: _); first | refine qMv rfl rfl ?_ | (show qA (.load _ _); first | refine q_y (y_load tabs rfl rfl (hc_w0 (hget i hin))) rfl ?_ | refine q_y (y_load tabs rfl rfl (hc_w0 (hget' i hin'))) rfl ?_) | (show qA (.indexAddr _ _ _); first | refine q_y (y_ix1 tabs (j := i) rfl rfl rfl hs rfl hin) rfl ?_ | refine q_y (y_ix1 tabs (j := i) rfl rfl rfl hs' rfl hin') rfl ?_) | (show qA (.binOp _ _ _ _ _); refine q_y (y_neq rfl rfl) rfl ?_)) | (show QT _ _ _ _ _ _ []; refine q_nil (x_then ?_)) | (show AT _ _ _ _; first | refine x_then ?_ | refine x_then_ret ?_ | refine x_blk_ret ?_))
        · refine x_ret1 Tryd.results44 (res_tmp rfl) (fun w' c' => ⟨_, _, rfl, ⟨?_, rfl⟩, c'⟩)
          have : ¬ xs = ys := fun e => h (by rw [e])
          simp [this]
        · have h2 : xs.getD i 0 = ys.getD i 0 := by simpa using h
          refine x_nx (i + 1) sB ⟨by omega, ?_⟩ (fun w' c' => c') om
          rw [take_next (z := 0) om, take_next (z := 0) om, he, h2]
      · repeat' (first | (show oL; first | refine sMv rfl rfl ?_ | refine sAs rfl rfl ?_ | refine sLs rfl rfl rfl ?_ | refine sLn tabs rfl rfl rfl ?_) | refine xNt ?_ | (show oC; first | refine c_seq ?_ | refine c_region ?_ | refine c_ret ?_ | refine c_exit ?_ | refine c_iff rfl nN ?_) | (show AT _ _ _ _; first | refine x_then ?_ | refine x_then_exit ?_ | refine x_blk_exit rfl ?_))
        refine x_ret1 Tryd.results44 (res_tmp rfl) (fun w' c' => ⟨_, _, rfl, ⟨?_, rfl⟩, c'⟩)
        rw [take_end om, take_end om] at he
        simp [he]
theorem spec_EqualQuivers_ok {w : World} {q q' : Qv} {u0 u1 v0 v1 : Value} (h0 : Rd w (iT q.2.1) u0) (h1 : Rd w (iT q.2.2) u1) (k0 : Rd w (iT q'.2.1) v0) (k1 : Rd w (iT q'.2.2) v1) :
    Does Tryd.prog 12 [.agg #[iV q.1, u0, u1], .agg #[iV q'.1, v0, v1]] w (fun r H => r = .bool (decide (q = q')) ∧ H = []) := by
  obtain ⟨x, y, z⟩ := q
  obtain ⟨x', y', z'⟩ := q'
  simp only at h0 h1 k0 k1 ⊢
  refine fn_enter Tryd.func12 rfl Tryd.ntmps12 rfl ?_
  repeat' (first | (show oL; first | refine sMv rfl rfl ?_ | refine sAs rfl rfl ?_ | refine sFd tabs rfl rfl rfl rfl ?_ | (show oA (.load _ _); first | refine sLd 0 tabs rfl rfl rfl rfl rfl ?_ | refine sLd 1 tabs rfl rfl rfl rfl rfl ?_) | (show oA (.binOp _ _ _ _ _); refine st_y (y_eql rfl rfl) rfl ?_) | (show oA (.call _); first | (refine m_call (ent_of Tryd.func44 kr rfl) rfl rfl (fun w c => l6Same_ok w _ _ y y' (c.rd h0) (c.rd k0)) ?_; rintro v H' ⟨rfl, rfl⟩) | (refine m_call (ent_of Tryd.func44 kr rfl) rfl rfl (fun w c => l6Same_ok w _ _ z z' (c.rd h1) (c.rd k1)) ?_; rintro v H' ⟨rfl, rfl⟩)) | (show oA (.pick _ _ _); first | refine st_y (y_pickt rfl aS rfl) rfl ?_ | refine st_y (y_pickf rfl aS rfl) rfl ?_ | refine st_y (y_pick rfl rfl rfl) rfl ?_) | (show oA (.box _ _); refine m_box rfl rfl (fun bq hbq => ?_)) | refine st_gn rfl rfl rfl ?_ | refine st_gdy rfl rfl aS ?_ | refine st_gdn rfl rfl aS rfl ?_ | refine st_gd rfl rfl (fun h => ?_) (fun h => ?_)) | refine xNt ?_ | (show oC; first | refine c_seq ?_ | refine c_region ?_ | refine c_ret ?_))
  all_goals refine x_ret1 Tryd.results12 (res_tmp rfl) (fun w c => ⟨_, _, rfl, ⟨?_, rfl⟩, c.sub (List.nil_sublist _)⟩)
  all_goals simp_all

theorem impl_EqualQuivers_ok {w : World} {q q' : Qv} {u0 u1 v0 v1 : Value} (h0 : Rd w (iT q.2.1) u0) (h1 : Rd w (iT q.2.2) u1) (k0 : Rd w (iT q'.2.1) v0) (k1 : Rd w (iT q'.2.2) v1) :
    Does Tryd.prog 29 [.agg #[iV q.1, u0, u1], .agg #[iV q'.1, v0, v1]] w (fun r H => r = .bool (decide (q = q')) ∧ H = []) := by
  obtain ⟨x, y, z⟩ := q
  obtain ⟨x', y', z'⟩ := q'
  simp only at h0 h1 k0 k1 ⊢
  refine fn_enter Tryd.func29 rfl Tryd.ntmps29 rfl ?_
  repeat' (first | (show oL; first | refine sMv rfl rfl ?_ | refine sAs rfl rfl ?_ | refine sFd tabs rfl rfl rfl rfl ?_ | (show oA (.load _ _); first | refine sLd 0 tabs rfl rfl rfl rfl rfl ?_ | refine sLd 1 tabs rfl rfl rfl rfl rfl ?_) | (show oA (.binOp _ _ _ _ _); refine st_y (y_eql rfl rfl) rfl ?_) | (show oA (.call _); first | (refine m_call (ent_of Tryd.func58 kr rfl) rfl rfl (fun w c => Equal_ok w _ _ y y' (c.rd h0) (c.rd k0)) ?_; rintro v H' ⟨rfl, rfl⟩) | (refine m_call (ent_of Tryd.func58 kr rfl) rfl rfl (fun w c => Equal_ok w _ _ z z' (c.rd h1) (c.rd k1)) ?_; rintro v H' ⟨rfl, rfl⟩)) | (show oA (.pick _ _ _); first | refine st_y (y_pickt rfl aS rfl) rfl ?_ | refine st_y (y_pickf rfl aS rfl) rfl ?_ | refine st_y (y_pick rfl rfl rfl) rfl ?_) | (show oA (.box _ _); refine m_box rfl rfl (fun bq hbq => ?_)) | refine st_gn rfl rfl rfl ?_ | refine st_gdy rfl rfl aS ?_ | refine st_gdn rfl rfl aS rfl ?_ | refine st_gd rfl rfl (fun h => ?_) (fun h => ?_)) | refine xNt ?_ | (show oC; first | refine c_seq ?_ | refine c_region ?_ | refine c_ret ?_))
  all_goals refine x_ret1 Tryd.results29 (res_tmp rfl) (fun w c => ⟨_, _, rfl, ⟨?_, rfl⟩, c.sub (List.nil_sublist _)⟩)
  all_goals simp_all

end Go.Proofs.YtdnhmnnccfoliaaDoor
