import Derived.Test.YtljgmmmgnfgbhaaDoorLBqfr
import Derived.Test.YtljgmmmgnfgbhaaDoorTabqfr
namespace Go.Proofs.YtljgmmmgnfgbhaaDoor
open Go.Lg Go.Proofs Go.RowKit
attribute [local irreducible] Code.wp wpList bodyPost Exit.then Exit.inBlock Hp Again Calls Y AT ResV QT
set_option maxRecDepth 20000
set_option maxHeartbeats 4000000

theorem szIntS_ok (w : World) (a : Option Addr) (m c : Nat) (left : Int) (hm : m ≤ maxLen) (h0 : 0 ≤ left) (h1 : left ≤ 1048576) :
    Does Tryd.prog 10 [.slice a m c, .int .i64 left] w (fun v H => v = .int .i64 (if left < m then -1 else left - m) ∧ H = []) := by
  unfold maxLen at hm
  refine fn_enter Tryd.func10 rfl Tryd.ntmps10 rfl ?_
  repeat' (first
    | (show AT _ _ _ (wpList _ _ _ (_ :: _)); first
       | (show AT _ _ _ (wpList _ _ _ (⟨_, Op.move _, _, _, _, _⟩ :: _)); refine st_y (y_move rfl) rfl ?_)
       | (show AT _ _ _ (wpList _ _ _ (⟨_, Op.assign _, _, _, _, _⟩ :: _)); refine st_y (y_assign rfl) rfl ?_)
       | (show AT _ _ _ (wpList _ _ _ (⟨_, Op.binOp _ _ _ _ _, _, _, _, _⟩ :: _)); first | refine st_y (y_sub rfl rfl (by omega)) rfl ?_ | refine st_y (y_lss rfl rfl) rfl ?_)
       | (show AT _ _ _ (wpList _ _ _ (⟨_, Op.call _, _, _, _, _⟩ :: _)); refine st_y (y_len tabs rfl rfl) rfl ?_))
    | (show AT _ _ _ (wpList _ _ _ []); refine c_nil (x_then ?_))
    | (show AT _ _ _ (Code.wp _ _ _); first | refine c_seq ?_ | refine c_region ?_ | refine c_skip (x_then ?_) | refine c_ret ?_ | refine c_if rfl (fun h => ?_) (fun h => ?_))
    | (show AT _ _ _ _; refine x_then_ret ?_))
  · refine x_ret1 Tryd.results10 (res_tmp rfl) (fun w c => ⟨_, _, rfl, ⟨?_, rfl⟩, c⟩)
    rw [if_pos (by omega)]
  · refine x_ret1 Tryd.results10 (res_tmp rfl) (fun w c => ⟨_, _, rfl, ⟨?_, rfl⟩, c⟩)
    rw [if_neg (by omega)]

theorem toIntS_ok (w : World) (v : Value) (xs : List Int) (hr : Rd w (ints 3 xs) v) (hb : xs.length ≤ 1048576) :
    Does Tryd.prog 16 [v] w (fun r H => Gives (ints 3 xs) xs.length r H) := by
  obtain ⟨a, c, rfl, hs, hc1, hc2, hget⟩ := hr.ints
  refine fn_enter Tryd.func16 rfl Tryd.ntmps16 rfl ?_
  repeat' (first
    | (show AT _ _ _ (wpList _ _ _ (_ :: _)); first
       | (show AT _ _ _ (wpList _ _ _ (⟨_, Op.move _, _, _, _, _⟩ :: _)); refine st_y (y_move rfl) rfl ?_)
       | (show AT _ _ _ (wpList _ _ _ (⟨_, Op.assign _, _, _, _, _⟩ :: _)); refine st_y (y_assign rfl) rfl ?_)
       | (show AT _ _ _ (wpList _ _ _ (⟨_, Op.call _, _, _, _, _⟩ :: _)); refine st_y (y_len tabs rfl rfl) rfl ?_)
       | (show AT _ _ _ (wpList _ _ _ (⟨_, Op.makeSlice _ _ _, _, _, _, _⟩ :: _)); refine m_makei tabs rfl rfl rfl (by omega) (by omega) rfl (fun b hb1 => ?_)))
    | (show AT _ _ _ (wpList _ _ _ []); refine c_nil (x_then ?_))
    | (show AT _ _ _ (Code.wp _ _ _); first | refine c_seq ?_ | refine c_region ?_ | refine c_block ?_))
  refine c_loop (fun i : Nat => [(0, .slice a xs.length c), (3, .slice (some ⟨b, 0, none⟩) xs.length xs.length), (4, .int .i64 i)])
    (fun i w' => i ≤ xs.length ∧ Hp [] w [.own (ints 3 (xs.take i ++ List.replicate (xs.length - i) 0)) (.slice (some ⟨b, 0, none⟩) xs.length xs.length)] w') (fun i => xs.length - i) 0 ?_ ?_ ?_
  · exact (by repeat' (first | exact Sub.nil | refine Sub.cons rfl ?_ | refine Sub.consi rfl (by omega) ?_))
  · intro w' c'
    exact ⟨by omega, by simpa using c'⟩
  · intro i
    refine AT.pr (fun hi => ?_)
    repeat' (first
      | (show AT _ _ _ (wpList _ _ _ (_ :: _)); first
         | (show AT _ _ _ (wpList _ _ _ (⟨_, Op.move _, _, _, _, _⟩ :: _)); refine st_y (y_move rfl) rfl ?_)
         | (show AT _ _ _ (wpList _ _ _ (⟨_, Op.assign _, _, _, _, _⟩ :: _)); refine st_y (y_assign rfl) rfl ?_)
         | (show AT _ _ _ (wpList _ _ _ (⟨_, Op.load _ _, _, _, _, _⟩ :: _)); refine st_y (y_load tabs rfl rfl (hc_w0 (hget _ (by omega)))) rfl ?_)
         | (show AT _ _ _ (wpList _ _ _ (⟨_, Op.indexAddr _ _ _, _, _, _, _⟩ :: _)); first | refine st_y (y_ixa tabs rfl rfl rfl hs (by omega) (by omega)) rfl ?_ | refine st_y (y_ixa tabs rfl rfl rfl .mk (by omega) (by omega)) rfl ?_)
         | (show AT _ _ _ (wpList _ _ _ (⟨_, Op.binOp _ _ _ _ _, _, _, _, _⟩ :: _)); first | refine st_y (y_add rfl rfl (by omega)) rfl ?_ | refine st_y (y_lss rfl rfl) rfl ?_)
         | (show AT _ _ _ (wpList _ _ _ (⟨_, Op.call _, _, _, _, _⟩ :: _)); refine st_y (y_len tabs rfl rfl) rfl ?_)
         | (show AT _ _ _ (wpList _ _ _ (⟨_, Op.store _ _ _, _, _, _, _⟩ :: _)); refine m_storeo 0 tabs rfl rfl rfl rfl (by simp; omega) ?_))
      | (show AT _ _ _ (wpList _ _ _ []); first | refine c_nil (x_then ?_) | refine c_nil ?_)
      | (show AT _ _ _ (Code.wp _ _ _); first | refine c_seq ?_ | refine c_region ?_ | refine c_skip (x_then ?_) | refine c_block ?_ | refine c_ret ?_ | refine c_exit ?_ | refine c_if rfl (fun h => ?_) (fun h => ?_))
      | (show AT _ _ _ _; first | refine x_then ?_ | refine x_then_exit ?_ | refine x_blk_exit rfl ?_ | refine x_blk ?_))
    · have hi' : i < xs.length := by omega
      refine x_next (i + 1) (by repeat' (first | exact Sub.nil | refine Sub.cons rfl ?_ | refine Sub.consi rfl (by omega) ?_)) (fun w' c' => ⟨by omega, ?_⟩) (by omega)
      simp only [List.set_cons_zero, Int.toNat_natCast, Nat.mul_one] at c'
      rwa [set_fill xs i 0 hi' _ (getD_some hi')] at c'
    · refine x_ret1 Tryd.results16 (res_tmp rfl) (fun w' c' => ⟨_, _, rfl, ⟨_, _, rfl, .mk, rfl⟩, ?_⟩)
      have e1 : xs.take i = xs := take_end (by omega)
      have e2 : xs.length - i = 0 := by omega
      simpa [e1, e2] using c'

theorem eqIntS_ok (w : World) (v u : Value) (xs ys : List Int) (hr : Rd w (ints 3 xs) v) (hr' : Rd w (ints 3 ys) u) :
    Does Tryd.prog 22 [v, u] w (fun r H => r = .bool (decide (xs = ys)) ∧ H = []) := by
  obtain ⟨a, c, rfl, hs, hc1, hc2, hget⟩ := hr.ints
  obtain ⟨a', c', rfl, hs', hc1', hc2', hget'⟩ := hr'.ints
  unfold maxLen at hc2 hc2'
  refine fn_enter Tryd.func22 rfl Tryd.ntmps22 rfl ?_
  repeat' (first
    | (show AT _ _ _ (wpList _ _ _ (_ :: _)); first
       | (show AT _ _ _ (wpList _ _ _ (⟨_, Op.move _, _, _, _, _⟩ :: _)); refine st_y (y_move rfl) rfl ?_)
       | (show AT _ _ _ (wpList _ _ _ (⟨_, Op.assign _, _, _, _, _⟩ :: _)); refine st_y (y_assign rfl) rfl ?_)
       | (show AT _ _ _ (wpList _ _ _ (⟨_, Op.binOp _ _ _ _ _, _, _, _, _⟩ :: _)); refine st_y (y_neq rfl rfl) rfl ?_)
       | (show AT _ _ _ (wpList _ _ _ (⟨_, Op.call _, _, _, _, _⟩ :: _)); refine st_y (y_len tabs rfl rfl) rfl ?_))
    | (show AT _ _ _ (wpList _ _ _ []); refine c_nil (x_then ?_))
    | (show AT _ _ _ (Code.wp _ _ _); first | refine c_seq ?_ | refine c_region ?_ | refine c_skip (x_then ?_) | refine c_block ?_ | refine c_ret ?_ | refine c_if rfl (fun h => ?_) (fun h => ?_))
    | (show AT _ _ _ _; refine x_then_ret ?_))
  · refine x_ret1 Tryd.results22 (res_tmp rfl) (fun w' c' => ⟨_, _, rfl, ⟨?_, rfl⟩, c'⟩)
    have : ¬ xs = ys := fun e => h (by rw [e])
    simp [this]
  · have hl : xs.length = ys.length := by omega
    refine c_loop (fun i : Nat => [(0, .slice a xs.length c), (1, .slice a' ys.length c'), (5, .int .i64 i)])
      (fun i w' => (i ≤ xs.length ∧ xs.take i = ys.take i) ∧ Hp [] w [] w') (fun i => xs.length - i) 0 ?_ ?_ ?_
    · exact (by repeat' (first | exact Sub.nil | refine Sub.cons rfl ?_ | refine Sub.consi rfl (by omega) ?_))
    · intro w' c'
      exact ⟨⟨by omega, rfl⟩, c'⟩
    · intro i
      refine AT.pr (fun ⟨hi, he⟩ => ?_)
      repeat' (first
        | (show AT _ _ _ (wpList _ _ _ (_ :: _)); first
           | (show AT _ _ _ (wpList _ _ _ (⟨_, Op.move _, _, _, _, _⟩ :: _)); refine st_y (y_move rfl) rfl ?_)
           | (show AT _ _ _ (wpList _ _ _ (⟨_, Op.assign _, _, _, _, _⟩ :: _)); refine st_y (y_assign rfl) rfl ?_)
           | (show AT _ _ _ (wpList _ _ _ (⟨_, Op.binOp _ _ _ _ _, _, _, _, _⟩ :: _)); first | refine st_y (y_add rfl rfl (by omega)) rfl ?_ | refine st_y (y_lss rfl rfl) rfl ?_)
           | (show AT _ _ _ (wpList _ _ _ (⟨_, Op.call _, _, _, _, _⟩ :: _)); refine st_y (y_len tabs rfl rfl) rfl ?_))
        | (show AT _ _ _ (wpList _ _ _ []); refine c_nil (x_then ?_))
        | (show AT _ _ _ (Code.wp _ _ _); first | refine c_seq ?_ | refine c_region ?_ | refine c_skip (x_then ?_) | refine c_skip (x_blk ?_) | refine c_block ?_ | refine c_ret ?_ | refine c_exit ?_ | refine c_draw (by kernel_rfl) (by kernel_rfl) (fun _ c => Hp.drew c) ?_ | refine c_if rfl (fun h => ?_) (fun h => ?_))
        | (show QT _ _ _ _ _ _ (_ :: _); first
           | (show QT _ _ _ _ _ _ (⟨_, Op.move _, _, _, _, _⟩ :: _); refine q_y (y_move rfl) rfl ?_)
           | (show QT _ _ _ _ _ _ (⟨_, Op.load _ _, _, _, _, _⟩ :: _); first | refine q_y (y_load tabs rfl rfl (hc_w0 (hget _ (by omega)))) rfl ?_ | refine q_y (y_load tabs rfl rfl (hc_w0 (hget' _ (by omega)))) rfl ?_)
           | (show QT _ _ _ _ _ _ (⟨_, Op.indexAddr _ _ _, _, _, _, _⟩ :: _); first | refine q_y (y_ixa tabs rfl rfl rfl hs (by omega) (by omega)) rfl ?_ | refine q_y (y_ixa tabs rfl rfl rfl hs' (by omega) (by omega)) rfl ?_)
           | (show QT _ _ _ _ _ _ (⟨_, Op.binOp _ _ _ _ _, _, _, _, _⟩ :: _); refine q_y (y_neq rfl rfl) rfl ?_))
        | (show QT _ _ _ _ _ _ []; refine q_nil (x_then ?_))
        | (show AT _ _ _ _; first | refine x_then ?_ | refine x_then_ret ?_ | refine x_blk_ret ?_ | refine x_then_exit ?_ | refine x_blk_exit rfl ?_))
      · refine x_ret1 Tryd.results22 (res_tmp rfl) (fun w' c' => ⟨_, _, rfl, ⟨?_, rfl⟩, c'⟩)
        have : ¬ xs = ys := fun e => h (by rw [e])
        simp [this]
      · have h2 : xs.getD i 0 = ys.getD i 0 := by simpa using h
        refine x_next (i + 1) (by repeat' (first | exact Sub.nil | refine Sub.cons rfl ?_ | refine Sub.consi rfl (by omega) ?_)) (fun w' c' => ⟨⟨by omega, ?_⟩, c'⟩) (by omega)
        rw [take_next (z := 0) (by omega), take_next (z := 0) (by omega), he, h2]
      · refine x_ret1 Tryd.results22 (res_tmp rfl) (fun w' c' => ⟨_, _, rfl, ⟨?_, rfl⟩, c'⟩)
        rw [take_end (by omega), take_end (by omega)] at he
        simp [he]
end Go.Proofs.YtljgmmmgnfgbhaaDoor
