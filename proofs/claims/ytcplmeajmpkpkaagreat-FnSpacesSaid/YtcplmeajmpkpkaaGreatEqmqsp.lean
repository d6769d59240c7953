import Derived.Test.YtcplmeajmpkpkaaGreatLBqsp
import Derived.Test.YtcplmeajmpkpkaaGreatOpnqsp
import Derived.Test.YtcplmeajmpkpkaaGreatTabqsp
namespace Go.Proofs.YtcplmeajmpkpkaaGreat
open Go.Lg Go.Proofs Go.RowKit
attribute [local irreducible] Code.wp wpList bodyPost Exit.then Exit.inBlock Hp Again Calls Y AT ResV QT
set_option maxRecDepth 20000
set_option maxHeartbeats 4000000

theorem Equal_ok (w : World) (v u : Value) (xs ys : List Int) (hr : Rd w (iT xs) v) (hr' : Rd w (iT ys) u) :
    Does Tryz.prog 72 [v, u] w (fun r H => r = .bool (decide (xs = ys)) ∧ H = []) := by
  obtain ⟨a, c, rfl, hs, hc1, hc2, hget⟩ := hr.ints
  obtain ⟨a', c', rfl, hs', hc1', hc2', hget'⟩ := hr'.ints
  unfold maxLen at hc2 hc2'
  refine fn_enter Tryz.func72 rfl Tryz.ntmps72 rfl ?_
  repeat' (first | (show oL; first | refine sMv rfl rfl ?_ | refine sAs rfl rfl ?_ | (show oA (.binOp _ _ _ _ _); refine st_y (y_neq rfl rfl) rfl ?_) | refine sLn tabs rfl rfl rfl ?_) | refine xNt ?_ | (show oC; first | refine c_seq ?_ | refine c_region ?_ | refine c_skip (x_then ?_) | refine c_block ?_ | refine c_ret ?_ | refine c_ifnd rfl (fun h => ?_) (fun h => ?_)) | (show AT _ _ _ _; refine x_then_ret ?_))
  · refine x_ret1 Tryz.results72 (res_tmp rfl) (fun w' c' => ⟨_, _, rfl, ⟨?_, rfl⟩, c'⟩)
    have : ¬ xs = ys := fun e => h (by rw [e])
    simp [this]
  · have hl : xs.length = ys.length := by omega
    refine c_loop (fun i : Nat => [(0, .slice a xs.length c), (1, .slice a' ys.length c'), (12, iV xs.length), (13, .int .i64 i)])
      (fun i w' => (i ≤ xs.length ∧ xs.take i = ys.take i) ∧ Hp [] w [] w') (fun i => xs.length - i) 0 ?_ ?_ ?_
    · exact sB
    · intro w' c'
      exact ⟨⟨by omega, rfl⟩, c'⟩
    · intro i
      refine AT.pr (fun ⟨hi, he⟩ => ?_)
      repeat' (first | (show oL; first | refine sMv rfl rfl ?_ | refine sAs rfl rfl ?_ | (show oA (.binOp _ _ _ _ _); first | refine sAd rfl rfl om rfl ?_ | refine sLs rfl rfl rfl ?_)) | refine xNt ?_ | (show oC; first | refine c_seq ?_ | refine c_region ?_ | refine c_skip (x_then ?_) | refine c_skip (x_blk ?_) | refine c_block ?_ | refine c_ret ?_ | refine c_exit ?_ | refine c_draw kr kr (fun _ c => Hp.drew c) ?_ | refine c_ifnd rfl (fun h => ?_) (fun h => ?_) | refine c_if rfl (fun h => ?_) (fun h => ?_)) | (show QT _ _ _ _ _ _ (_ :: _); first | refine qMv rfl rfl ?_ | (show qA (.load _ _); first | refine q_y (y_load tabs rfl rfl (hc_w0 (hget _ om))) rfl ?_ | refine q_y (y_load tabs rfl rfl (hc_w0 (hget' _ om))) rfl ?_) | (show qA (.indexAddr _ _ _); first | refine q_y (y_ixa tabs rfl rfl rfl hs om om) rfl ?_ | refine q_y (y_ixa tabs rfl rfl rfl hs' om om) rfl ?_) | (show qA (.binOp _ _ _ _ _); refine q_y (y_neq rfl rfl) rfl ?_)) | (show QT _ _ _ _ _ _ []; refine q_nil (x_then ?_)) | (show AT _ _ _ _; first | refine x_then ?_ | refine x_then_ret ?_ | refine x_blk_ret ?_ | refine x_then_exit ?_ | refine x_blk_exit rfl ?_))
      · refine x_ret1 Tryz.results72 (res_tmp rfl) (fun w' c' => ⟨_, _, rfl, ⟨?_, rfl⟩, c'⟩)
        have : ¬ xs = ys := fun e => h (by rw [e])
        simp [this]
      · have h2 : xs.getD i 0 = ys.getD i 0 := by simpa using h
        refine x_next (i + 1) sB (fun w' c' => ⟨⟨by omega, ?_⟩, c'⟩) om
        rw [take_next (z := 0) om, take_next (z := 0) om, he, h2]
      · refine x_ret1 Tryz.results72 (res_tmp rfl) (fun w' c' => ⟨_, _, rfl, ⟨?_, rfl⟩, c'⟩)
        rw [take_end om, take_end om] at he
        simp [he]

end Go.Proofs.YtcplmeajmpkpkaaGreat
