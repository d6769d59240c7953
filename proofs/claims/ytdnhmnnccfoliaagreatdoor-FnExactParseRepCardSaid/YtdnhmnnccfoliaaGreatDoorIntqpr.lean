import Derived.Test.YtdnhmnnccfoliaaGreatDoorLBqpr
import Derived.Test.YtdnhmnnccfoliaaGreatDoorTabqpr
namespace Go.Proofs.YtdnhmnnccfoliaaGreatDoor
open Go.Lg Go.Proofs Go.RowKit
attribute [local irreducible] Code.wp wpList bodyPost Exit.then Exit.inBlock Hp Again Calls Y AT ResV QT
set_option maxRecDepth 20000
set_option maxHeartbeats 4000000

theorem szIntS_ok (w : World) (a : Option Addr) (m c : Nat) (left : Int) (hm : m ≤ maxLen) (h0 : 0 ≤ left) (h1 : left ≤ 1048576) :
    Does Tryz.prog 74 [.slice a m c, .int .i64 left] w (fun v H => v = .int .i64 (if left < m then -1 else left - m) ∧ H = []) := by
  unfold maxLen at hm
  refine fn_enter Tryz.func74 rfl Tryz.ntmps74 rfl ?_
  repeat' (first | (show oL; first | refine sMv rfl rfl ?_ | refine sAs rfl rfl ?_ | (show oA (.binOp _ _ _ _ _); first | refine st_y (y_sub rfl rfl om) rfl ?_ | refine sLs rfl rfl rfl ?_) | refine sLn tabs rfl rfl rfl ?_) | refine xNt ?_ | (show oC; first | refine c_seq ?_ | refine c_region ?_ | refine c_skip (x_then ?_) | refine c_ret ?_ | refine c_if rfl (fun h => ?_) (fun h => ?_)) | (show AT _ _ _ _; refine x_then_ret ?_))
  · refine x_ret1 Tryz.results74 (res_tmp rfl) (fun w c => ⟨_, _, rfl, ⟨?_, rfl⟩, c⟩)
    rw [if_pos om]
  · refine x_ret1 Tryz.results74 (res_tmp rfl) (fun w c => ⟨_, _, rfl, ⟨?_, rfl⟩, c⟩)
    rw [if_neg om]

theorem toIntS_ok (w : World) (v : Value) (xs : List Int) (hr : Rd w (ints 3 xs) v) (hb : xs.length ≤ 1048576) :
    Does Tryz.prog 79 [v] w (fun r H => Gives (ints 3 xs) xs.length r H) := by
  obtain ⟨a, c, rfl, hs, hc1, hc2, hget⟩ := hr.ints
  refine fn_enter Tryz.func79 rfl Tryz.ntmps79 rfl ?_
  repeat' (first | (show oL; first | refine sMv rfl rfl ?_ | refine sAs rfl rfl ?_ | refine sLn tabs rfl rfl rfl ?_ | (show oA (.makeSlice _ _ _); refine m_makei tabs rfl rfl rfl om om rfl (fun b hb1 => ?_))) | refine xNt ?_ | (show oC; first | refine c_seq ?_ | refine c_region ?_ | refine c_block ?_))
  refine c_loop (fun i : Nat => [(0, .slice a xs.length c), (3, .slice (some ⟨b, 0, none⟩) xs.length xs.length), (4, .int .i64 i)])
    (fun i w' => i ≤ xs.length ∧ Hp [] w [.own (ints 3 (xs.take i ++ List.replicate (xs.length - i) 0)) (.slice (some ⟨b, 0, none⟩) xs.length xs.length)] w') (fun i => xs.length - i) 0 ?_ ?_ ?_
  · exact sB
  · intro w' c'
    exact ⟨by omega, by simpa using c'⟩
  · intro i
    refine AT.pr (fun hi => ?_)
    repeat' (first | (show oL; first | refine sMv rfl rfl ?_ | refine sAs rfl rfl ?_ | (show oA (.load _ _); refine st_y (y_load tabs rfl rfl (hc_w0 (hget _ om))) rfl ?_) | (show oA (.indexAddr _ _ _); first | refine st_y (y_ixa tabs rfl rfl rfl hs om om) rfl ?_ | refine st_y (y_ixa tabs rfl rfl rfl .mk om om) rfl ?_) | (show oA (.binOp _ _ _ _ _); first | refine sAd rfl rfl om rfl ?_ | refine sLs rfl rfl rfl ?_) | refine sLn tabs rfl rfl rfl ?_ | (show oA (.store _ _ _); refine m_storeo 0 tabs rfl rfl rfl rfl (by simp; omega) ?_)) | (show oN; first | refine c_nil (x_then ?_) | refine c_nil ?_) | (show oC; first | refine c_seq ?_ | refine c_region ?_ | refine c_skip (x_then ?_) | refine c_block ?_ | refine c_ret ?_ | refine c_exit ?_ | refine c_if rfl (fun h => ?_) (fun h => ?_)) | (show AT _ _ _ _; first | refine x_then ?_ | refine x_then_exit ?_ | refine x_blk_exit rfl ?_ | refine x_blk ?_))
    · have hi' : i < xs.length := by omega
      refine x_next (i + 1) sB (fun w' c' => ⟨by omega, ?_⟩) om
      simp only [List.set_cons_zero, Int.toNat_natCast, Nat.mul_one] at c'
      rwa [set_fill xs i 0 hi' _ (getD_some hi')] at c'
    · refine x_ret1 Tryz.results79 (res_tmp rfl) (fun w' c' => ⟨_, _, rfl, ⟨_, _, rfl, .mk, rfl⟩, ?_⟩)
      have e1 : xs.take i = xs := take_end om
      have e2 : xs.length - i = 0 := by omega
      simpa [e1, e2] using c'

theorem eqIntS_ok (w : World) (v u : Value) (xs ys : List Int) (hr : Rd w (ints 3 xs) v) (hr' : Rd w (ints 3 ys) u) :
    Does Tryz.prog 83 [v, u] w (fun r H => r = .bool (decide (xs = ys)) ∧ H = []) := by
  obtain ⟨a, c, rfl, hs, hc1, hc2, hget⟩ := hr.ints
  obtain ⟨a', c', rfl, hs', hc1', hc2', hget'⟩ := hr'.ints
  unfold maxLen at hc2 hc2'
  refine fn_enter Tryz.func83 rfl Tryz.ntmps83 rfl ?_
  repeat' (first | (show oL; first | refine sMv rfl rfl ?_ | refine sAs rfl rfl ?_ | (show oA (.binOp _ _ _ _ _); refine st_y (y_neq rfl rfl) rfl ?_) | refine sLn tabs rfl rfl rfl ?_) | refine xNt ?_ | (show oC; first | refine c_seq ?_ | refine c_region ?_ | refine c_skip (x_then ?_) | refine c_block ?_ | refine c_ret ?_ | refine c_if rfl (fun h => ?_) (fun h => ?_)) | (show AT _ _ _ _; refine x_then_ret ?_))
  · refine x_ret1 Tryz.results83 (res_tmp rfl) (fun w' c' => ⟨_, _, rfl, ⟨?_, rfl⟩, c'⟩)
    have : ¬ xs = ys := fun e => h (by rw [e])
    simp [this]
  · have hl : xs.length = ys.length := by omega
    refine c_loop (fun i : Nat => [(0, .slice a xs.length c), (1, .slice a' ys.length c'), (5, .int .i64 i)])
      (fun i w' => (i ≤ xs.length ∧ xs.take i = ys.take i) ∧ Hp [] w [] w') (fun i => xs.length - i) 0 ?_ ?_ ?_
    · exact sB
    · intro w' c'
      exact ⟨⟨by omega, rfl⟩, c'⟩
    · intro i
      refine AT.pr (fun ⟨hi, he⟩ => ?_)
      repeat' (first | (show oL; first | refine sMv rfl rfl ?_ | refine sAs rfl rfl ?_ | (show oA (.binOp _ _ _ _ _); first | refine sAd rfl rfl om rfl ?_ | refine sLs rfl rfl rfl ?_) | refine sLn tabs rfl rfl rfl ?_) | refine xNt ?_ | (show oC; first | refine c_seq ?_ | refine c_region ?_ | refine c_skip (x_then ?_) | refine c_skip (x_blk ?_) | refine c_block ?_ | refine c_ret ?_ | refine c_exit ?_ | refine c_draw kr kr (fun _ c => Hp.drew c) ?_ | refine c_if rfl (fun h => ?_) (fun h => ?_)) | (show QT _ _ _ _ _ _ (_ :: _); first | refine qMv rfl rfl ?_ | (show qA (.load _ _); first | refine q_y (y_load tabs rfl rfl (hc_w0 (hget _ om))) rfl ?_ | refine q_y (y_load tabs rfl rfl (hc_w0 (hget' _ om))) rfl ?_) | (show qA (.indexAddr _ _ _); first | refine q_y (y_ixa tabs rfl rfl rfl hs om om) rfl ?_ | refine q_y (y_ixa tabs rfl rfl rfl hs' om om) rfl ?_) | (show qA (.binOp _ _ _ _ _); refine q_y (y_neq rfl rfl) rfl ?_)) | (show QT _ _ _ _ _ _ []; refine q_nil (x_then ?_)) | (show AT _ _ _ _; first | refine x_then ?_ | refine x_then_ret ?_ | refine x_blk_ret ?_ | refine x_then_exit ?_ | refine x_blk_exit rfl ?_))
      · refine x_ret1 Tryz.results83 (res_tmp rfl) (fun w' c' => ⟨_, _, rfl, ⟨?_, rfl⟩, c'⟩)
        have : ¬ xs = ys := fun e => h (by rw [e])
        simp [this]
      · have h2 : xs.getD i 0 = ys.getD i 0 := by simpa using h
        refine x_next (i + 1) sB (fun w' c' => ⟨⟨by omega, ?_⟩, c'⟩) om
        rw [take_next (z := 0) om, take_next (z := 0) om, he, h2]
      · refine x_ret1 Tryz.results83 (res_tmp rfl) (fun w' c' => ⟨_, _, rfl, ⟨?_, rfl⟩, c'⟩)
        rw [take_end om, take_end om] at he
        simp [he]
end Go.Proofs.YtdnhmnnccfoliaaGreatDoor
