import Derived.Test.YtdnhmnnccfoliaaDoorInvqqv
import Derived.Test.YtdnhmnnccfoliaaDoorLCqqv
namespace Go.Proofs.YtdnhmnnccfoliaaDoor
open Go.Lg Go.Proofs Go.RowKit
attribute [local irreducible] Code.wp wpList bodyPost Exit.then Exit.inBlock Hp Again Calls Y AT ResV QT Qn QI wpAny wpAnyQ
set_option maxRecDepth 20000
set_option maxHeartbeats 4000000

theorem Index_ok {w : World} {xs : List Int} {x : Int} {v : Value} (hr : Rd w (iT xs) v) :
    Does Tryd.prog 66 [v, iV x] w (fun r H => (∃ k, r = iV k ∧ (0 ≤ k ↔ x ∈ xs)) ∧ H = []) := by
  obtain ⟨a, c, rfl, hs, hc1, hc2, hget⟩ := hr.ints
  unfold maxLen at hc2
  refine fn_enter Tryd.func66 rfl Tryd.ntmps66 rfl ?_
  repeat' (first | (show oL; first | refine sMv rfl rfl ?_ | refine sAs rfl rfl ?_ | (show oA (.load _ _); refine st_y (y_load tabs rfl rfl (hc_rd aS om)) rfl ?_) | (show oA (.indexAddr _ _ _); first | refine st_y (y_ix1 tabs rfl rfl rfl mK rfl om) rfl ?_ | refine st_y (y_ixi tabs rfl rfl rfl mK om om) rfl ?_ | refine st_y (y_ixa tabs rfl rfl rfl mK om om) rfl ?_) | (show oA (.binOp _ _ _ _ _); first | refine sAd rfl rfl om rfl ?_ | refine sLs rfl rfl rfl ?_ | refine st_y (y_eql rfl rfl) rfl ?_) | refine sLn tabs rfl rfl rfl ?_) | (show oN; first | refine c_nil (x_then ?_) | refine c_nil (x_qn ?_) | refine c_nil ?_) | (show oC; first | refine c_seq ?_ | refine c_region ?_ | refine c_skip (x_then ?_) | refine c_skip (x_blk ?_) | refine c_skip ?_ | refine c_block ?_ | refine c_ret ?_ | refine c_exit ?_ | refine c_true rfl ?_ | refine c_false rfl ?_ | refine c_ift rfl aO ?_ | refine c_iff rfl nN ?_ | refine c_ifnd rfl (fun h => ?_) (fun h => ?_) | refine c_if rfl (fun h => ?_) (fun h => ?_) | refine c_ifn rfl (fun h => ?_) (fun h => ?_)) | (show AT _ _ _ _; first | refine x_then ?_ | refine x_qn ?_ | refine x_then_ret ?_ | refine x_blk_ret ?_ | refine x_then_exit ?_ | refine x_blk_exit rfl ?_ | refine x_blk_other rfl ?_ | refine x_blk ?_))
  refine c_loopH (α := Nat) [0, 1, 7] (fun i => [(8, .int .i64 i)]) (fun i => i ≤ xs.length ∧ x ∉ xs.take i) (fun i => []) (fun i => xs.length - i) 0 rfl sB ?_ ?_ ?_
  · exact ⟨by omega, by simp⟩
  · exact fun w' c' => c'
  · rintro i ⟨hi, hn⟩
    by_cases hin : i < xs.length
    · have hx : xs[i]? = some (xs.getD i 0) := getD_some hin
      repeat' (first | (show oL; first | refine sMv rfl rfl ?_ | refine sAs rfl rfl ?_ | (show oA (.load _ _); first | refine st_y (y_load tabs rfl rfl (hc_w0 (hget i hin))) rfl ?_ | refine st_y (y_load tabs rfl rfl (hc_rd aS om)) rfl ?_) | (show oA (.indexAddr _ _ _); first | refine st_y (y_ix1 tabs (j := i) rfl rfl rfl hs rfl hin) rfl ?_ | refine st_y (y_ix1 tabs rfl rfl rfl mK rfl om) rfl ?_ | refine st_y (y_ixi tabs rfl rfl rfl mK om om) rfl ?_ | refine st_y (y_ixa tabs rfl rfl rfl mK om om) rfl ?_) | (show oA (.binOp _ _ _ _ _); first | refine sAd rfl rfl om rfl ?_ | refine sLs rfl rfl rfl ?_ | refine st_y (y_eql rfl rfl) rfl ?_) | refine sLn tabs rfl rfl rfl ?_) | (show oN; first | refine c_nil (x_then ?_) | refine c_nil (x_qn ?_) | refine c_nil ?_) | (show oC; first | refine c_seq ?_ | refine c_region ?_ | refine c_skip (x_then ?_) | refine c_skip (x_blk ?_) | refine c_skip ?_ | refine c_block ?_ | refine c_ret ?_ | refine c_exit ?_ | refine c_true rfl ?_ | refine c_false rfl ?_ | refine c_ift rfl aO ?_ | refine c_iff rfl nN ?_ | refine c_ifnd rfl (fun h => ?_) (fun h => ?_) | refine c_if rfl (fun h => ?_) (fun h => ?_) | refine c_ifn rfl (fun h => ?_) (fun h => ?_)) | (show AT _ _ _ _; first | refine x_then ?_ | refine x_qn ?_ | refine x_then_ret ?_ | refine x_blk_ret ?_ | refine x_then_exit ?_ | refine x_blk_exit rfl ?_ | refine x_blk_other rfl ?_ | refine x_blk ?_))
      · refine x_ret1 Tryd.results66 (res_tmp rfl) (fun w c => ⟨_, _, rfl, ⟨⟨i, rfl, ?_⟩, rfl⟩, c⟩)
        have : x ∈ xs := by rw [h]; exact List.mem_of_getElem? hx
        exact ⟨fun _ => this, fun _ => by omega⟩
      · refine x_nx (i + 1) sB ⟨by omega, ?_⟩ (fun w' c' => c') om
        rw [List.take_add_one, hx]
        simp only [Option.toList_some, List.mem_append, List.mem_singleton, not_or]
        exact ⟨hn, h⟩
    · repeat' (first | (show oL; first | refine sMv rfl rfl ?_ | refine sAs rfl rfl ?_ | (show oA (.load _ _); refine st_y (y_load tabs rfl rfl (hc_rd aS om)) rfl ?_) | (show oA (.indexAddr _ _ _); first | refine st_y (y_ix1 tabs rfl rfl rfl mK rfl om) rfl ?_ | refine st_y (y_ixi tabs rfl rfl rfl mK om om) rfl ?_ | refine st_y (y_ixa tabs rfl rfl rfl mK om om) rfl ?_) | (show oA (.binOp _ _ _ _ _); first | refine sAd rfl rfl om rfl ?_ | refine sLs rfl rfl rfl ?_ | refine st_y (y_eql rfl rfl) rfl ?_) | refine sLn tabs rfl rfl rfl ?_) | (show oN; first | refine c_nil (x_then ?_) | refine c_nil (x_qn ?_) | refine c_nil ?_) | (show oC; first | refine c_seq ?_ | refine c_region ?_ | refine c_skip (x_then ?_) | refine c_skip (x_blk ?_) | refine c_skip ?_ | refine c_block ?_ | refine c_ret ?_ | refine c_exit ?_ | refine c_true rfl ?_ | refine c_false rfl ?_ | refine c_ift rfl aO ?_ | refine c_iff rfl nN ?_ | refine c_ifnd rfl (fun h => ?_) (fun h => ?_) | refine c_if rfl (fun h => ?_) (fun h => ?_) | refine c_ifn rfl (fun h => ?_) (fun h => ?_)) | (show AT _ _ _ _; first | refine x_then ?_ | refine x_qn ?_ | refine x_then_ret ?_ | refine x_blk_ret ?_ | refine x_then_exit ?_ | refine x_blk_exit rfl ?_ | refine x_blk_other rfl ?_ | refine x_blk ?_))
      refine x_ret1 Tryd.results66 (res_tmp rfl) (fun w c => ⟨_, _, rfl, ⟨⟨-1, rfl, ?_⟩, rfl⟩, c⟩)
      rw [take_end om] at hn
      exact ⟨fun h => by omega, fun h => absurd h hn⟩
theorem Contains_ok {w : World} {xs : List Int} {x : Int} {v : Value} (hr : Rd w (iT xs) v) :
    Does Tryd.prog 49 [v, iV x] w (fun r H => r = .bool (decide (x ∈ xs)) ∧ H = []) := by
  refine fn_enter Tryd.func49 rfl Tryd.ntmps49 rfl ?_
  repeat' (first | (show oL; first | refine sMv rfl rfl ?_ | refine sAs rfl rfl ?_ | (show oA (.binOp _ _ _ _ _); refine st_y (y_geq rfl rfl) rfl ?_) | (show oA (.call _); (refine m_call (ent_of Tryd.func66 kr rfl) rfl rfl (fun w c => Index_ok (x := x) (c.rd hr)) ?_; rintro v H' ⟨⟨k, rfl, hk⟩, rfl⟩))) | (show oN; first | refine c_nil (x_then ?_) | refine c_nil (x_qn ?_) | refine c_nil ?_) | (show oC; first | refine c_seq ?_ | refine c_region ?_ | refine c_skip (x_then ?_) | refine c_skip (x_blk ?_) | refine c_skip ?_ | refine c_ret ?_ | refine c_exit ?_) | (show AT _ _ _ _; first | refine x_then ?_ | refine x_qn ?_ | refine x_then_ret ?_ | refine x_blk_ret ?_ | refine x_then_exit ?_ | refine x_blk_exit rfl ?_ | refine x_blk_other rfl ?_ | refine x_blk ?_))
  refine x_ret1 Tryd.results49 (res_tmp rfl) (fun w' c' => ⟨_, _, rfl, ⟨congrArg Value.bool ?_, rfl⟩, c'⟩)
  exact decide_eq_decide.2 hk
def freeN (piv : List Int) : Nat → List Int
  | 0 => []
  | k + 1 => if (k : Int) ∈ piv then freeN piv k else freeN piv k ++ [(k : Int)]
theorem freeN_yes {piv : List Int} {k : Nat} (h : (k : Int) ∈ piv) : freeN piv (k + 1) = freeN piv k := by rw [freeN, if_pos h]
theorem freeN_no {piv : List Int} {k : Nat} (h : ¬ (k : Int) ∈ piv) : freeN piv (k + 1) = freeN piv k ++ [(k : Int)] := by rw [freeN, if_neg h]
theorem freeN_le (piv : List Int) : ∀ k, (freeN piv k).length ≤ k
  | 0 => by simp [freeN]
  | k + 1 => by
    have := freeN_le piv k
    rw [freeN]
    split
    · omega
    · rw [List.length_append, List.length_singleton]; omega
theorem freeColumns_ok {w : World} {C : Nat} {piv : List Int} {v : Value} (hr : Rd w (iT piv) v) (hC : C ≤ 1024) :
    Does Tryd.prog 48 [iV C, v] w (fun r H => ∃ a c, r = .slice a (freeN piv C).length c ∧ SA a (freeN piv C).length ∧ H = [.own (iT (freeN piv C)) (.slice a (freeN piv C).length c)]) := by
  refine fn_enter Tryd.func48 rfl Tryd.ntmps48 rfl ?_
  repeat' (first | (show oL; first | refine sMv rfl rfl ?_ | refine sAs rfl rfl ?_ | (show oA (.binOp _ _ _ _ _); first | refine sAd rfl rfl om rfl ?_ | refine sLs rfl rfl rfl ?_) | (show oA (.unOp _ _ _); first | refine st_y (y_notd rfl) rfl ?_ | refine st_y (y_not rfl) rfl ?_) | (show oA (.buildSlice _ _ _); refine m_build0 tabs rfl rfl (fun g hg => ?_))) | (show oN; first | refine c_nil (x_then ?_) | refine c_nil (x_qn ?_) | refine c_nil ?_) | (show oC; first | refine c_seq ?_ | refine c_region ?_ | refine c_skip (x_then ?_) | refine c_skip (x_blk ?_) | refine c_skip ?_ | refine c_block ?_ | refine c_ret ?_ | refine c_exit ?_ | refine c_true rfl ?_ | refine c_false rfl ?_ | refine c_ift rfl aO ?_ | refine c_iff rfl nN ?_ | refine c_ifnd rfl (fun h => ?_) (fun h => ?_) | refine c_if rfl (fun h => ?_) (fun h => ?_) | refine c_ifn rfl (fun h => ?_) (fun h => ?_)) | (show AT _ _ _ _; first | refine x_then ?_ | refine x_qn ?_ | refine x_then_ret ?_ | refine x_blk_ret ?_ | refine x_then_exit ?_ | refine x_blk_exit rfl ?_ | refine x_blk_other rfl ?_ | refine x_blk ?_))
  refine c_loopH (α := Nat × Option Addr × Nat) [1, 7] (fun s => [(5, .slice s.2.1 (freeN piv s.1).length s.2.2), (8, .int .i64 s.1)]) (fun s => s.1 ≤ C) (fun s => [.own (iT (freeN piv s.1)) (.slice s.2.1 (freeN piv s.1).length s.2.2)]) (fun s => C - s.1) (0, none, 0) rfl sB ?_ ?_ ?_
  · exact Nat.zero_le _
  · exact fun w' c' => Hp.nilp _ _ c'
  · rintro ⟨i, a, c⟩ hi
    simp only at hi ⊢
    have hfl := freeN_le piv i
    by_cases hin : i < C
    · repeat' (first | (show oL; first | refine sMv rfl rfl ?_ | refine sAs rfl rfl ?_ | (show oA (.binOp _ _ _ _ _); first | refine sAd rfl rfl om rfl ?_ | refine sLs rfl rfl rfl ?_) | (show oA (.unOp _ _ _); first | refine st_y (y_notd rfl) rfl ?_ | refine st_y (y_not rfl) rfl ?_) | (show oA (.call _); first | (refine m_call (ent_of Tryd.func49 kr rfl) rfl rfl (fun w c => Contains_ok (x := (i : Int)) (c.rd hr)) ?_; rintro v H' ⟨rfl, rfl⟩) | refine m_pushn 0 tabs (k := (i : Int)) (m := (freeN piv i).length) rfl rfl rfl rfl rfl rfl om (fun a3 c3 => ?_)) | (show oA (.buildSlice _ _ _); first | refine m_build1 tabs (us := [iV i]) rfl rfl rfl rfl (by decide) rfl (fun g2 hg2 => ?_) | refine m_build0 tabs rfl rfl (fun g hg => ?_))) | (show oN; first | refine c_nil (x_then ?_) | refine c_nil (x_qn ?_) | refine c_nil ?_) | (show oC; first | refine c_seq ?_ | refine c_region ?_ | refine c_skip (x_then ?_) | refine c_skip (x_blk ?_) | refine c_skip ?_ | refine c_block ?_ | refine c_ret ?_ | refine c_exit ?_ | refine c_true rfl ?_ | refine c_false rfl ?_ | refine c_ift rfl aO ?_ | refine c_iff rfl nN ?_ | refine c_ifnd rfl (fun h => ?_) (fun h => ?_) | refine c_if rfl (fun h => ?_) (fun h => ?_) | refine c_ifn rfl (fun h => ?_) (fun h => ?_)) | (show AT _ _ _ _; first | refine x_then ?_ | refine x_qn ?_ | refine x_then_ret ?_ | refine x_blk_ret ?_ | refine x_then_exit ?_ | refine x_blk_exit rfl ?_ | refine x_blk_other rfl ?_ | refine x_blk ?_))
      · refine x_nx (i + 1, a3, c3) (by rw [freeN_no aS, List.length_append, List.length_singleton]; exact sB) (by simp only; omega) (fun w' c' => ?_) (by simp only; omega)
        simp only [freeN_no aS, List.length_append, List.length_singleton]
        exact c'
      · have hm : (i : Int) ∈ piv := by assumption
        refine x_nx (i + 1, a, c) (by rw [freeN_yes hm]; exact sB) (by simp only; omega) (fun w' c' => ?_) (by simp only; omega)
        simp only [freeN_yes hm]
        exact c'
    · have : i = C := by omega
      subst this
      refine AT.fact (own_sl 0 rfl) (fun hsl => ?_)
      obtain ⟨a3, c3, e3, hs3⟩ := hsl
      cases e3
      repeat' (first | (show oL; first | refine sMv rfl rfl ?_ | refine sAs rfl rfl ?_ | (show oA (.binOp _ _ _ _ _); first | refine sAd rfl rfl om rfl ?_ | refine sLs rfl rfl rfl ?_) | (show oA (.unOp _ _ _); first | refine st_y (y_notd rfl) rfl ?_ | refine st_y (y_not rfl) rfl ?_) | (show oA (.buildSlice _ _ _); refine m_build0 tabs rfl rfl (fun g hg => ?_))) | (show oN; first | refine c_nil (x_then ?_) | refine c_nil (x_qn ?_) | refine c_nil ?_) | (show oC; first | refine c_seq ?_ | refine c_region ?_ | refine c_skip (x_then ?_) | refine c_skip (x_blk ?_) | refine c_skip ?_ | refine c_block ?_ | refine c_ret ?_ | refine c_exit ?_ | refine c_true rfl ?_ | refine c_false rfl ?_ | refine c_ift rfl aO ?_ | refine c_iff rfl nN ?_ | refine c_ifnd rfl (fun h => ?_) (fun h => ?_) | refine c_if rfl (fun h => ?_) (fun h => ?_) | refine c_ifn rfl (fun h => ?_) (fun h => ?_)) | (show AT _ _ _ _; first | refine x_then ?_ | refine x_qn ?_ | refine x_then_ret ?_ | refine x_blk_ret ?_ | refine x_then_exit ?_ | refine x_blk_exit rfl ?_ | refine x_blk_other rfl ?_ | refine x_blk ?_))
      exact x_ret1 Tryd.results48 (res_tmp rfl) (fun w' c' => ⟨_, _, rfl, ⟨_, _, rfl, hs3, rfl⟩, c'.sub (.cons_cons _ (List.nil_sublist _))⟩)
end Go.Proofs.YtdnhmnnccfoliaaDoor
