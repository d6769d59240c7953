import Derived.Test.YtfhgpkdhhclpbaaMasqcb
import Derived.Test.YtfhgpkdhhclpbaaMstqcb
namespace Go.Proofs.Ytfhgpkdhhclpbaa
open Go.Lg Go.Proofs Go.RowKit
attribute [local irreducible] Code.wp wpList bodyPost Exit.then Exit.inBlock Hp Again Calls Y AT ResV QT Qn QI wpAny wpAnyQ
set_option maxRecDepth 20000
set_option maxHeartbeats 4000000

/-! ### lists of lists of matrices: counted, copied -/
theorem msT_set (rs : List (List Mat)) (i : Nat) (x : List Mat) : (rs.flatMap (msT 81)).set i (matsT 81 x) = (rs.set i x).flatMap (msT 81) := by
  rw [msT_map, msT_map, List.map_set]
theorem mss0_own : ∀ w, OwnL w (msT 81 []) [.slice none 0 0] [] := fun w => by
  simp only [OwnL]
  exact ⟨_, _, [], [], rfl, rfl, .inl ⟨rfl, rfl, rfl⟩, rfl, rfl⟩
theorem szMats_at {w : World} {e : Nat} {ms : List Mat} {u : Value} {left : Int} (hu : Rd w (matsT e ms) u) (h0 : 0 ≤ left) (h1 : left ≤ 1048576) : Does Try.prog 15 [u, iV left] w (fun v H => v = iV (if left < szMs ms then -1 else left - szMs ms) ∧ H = []) := szMatrixS_ok w e ms u left hu h0 h1
theorem toMats_at {w : World} {e : Nat} {ms : List Mat} {v : Value} (hr : Rd w (matsT e ms) v) (hb : szMs ms ≤ 1048576) : Does Try.prog 18 [v] w (fun r H => Gives (matsT 81 ms) ms.length r H) := toMatrixS_ok w e ms v hr hb

theorem szMss_ok {w : World} {e : Nat} {ms : List (List Mat)} {u : Value} {left : Int} (hu : Rd w (mslT e ms) u) (h0 : 0 ≤ left) (h1 : left ≤ 1048576) :
    Does Try.prog 46 [u, iV left] w (fun v H => v = iV (if left < szL (szMs) ms then -1 else left - szL (szMs) ms) ∧ H = []) := by
  obtain ⟨a, c', rfl, hs, hc1, hc2, hget⟩ := rd_mss hu
  unfold maxLen at hc2
  have hsz : ms.length ≤ szL (szMs) ms := by unfold szL; omega
  refine fn_enter Try.func46 rfl Try.ntmps46 rfl ?_
  repeat' (first
    | (show AT _ _ _ (wpList _ _ _ (_ :: _)); first
       | (show AT _ _ _ (wpList _ _ _ (⟨_, Op.move _, _, _, _, _⟩ :: _)); refine st_y (y_move rfl) rfl ?_)
       | (show AT _ _ _ (wpList _ _ _ (⟨_, Op.assign _, _, _, _, _⟩ :: _)); refine st_y (y_assign rfl) rfl ?_)
       | (show AT _ _ _ (wpList _ _ _ (⟨_, Op.binOp _ _ _ _ _, _, _, _, _⟩ :: _)); first | refine st_y (y_sub rfl rfl (by omega)) rfl ?_ | refine st_y (y_lss rfl rfl) rfl ?_)
       | (show AT _ _ _ (wpList _ _ _ (⟨_, Op.call _, _, _, _, _⟩ :: _)); refine st_y (y_len tabs rfl rfl) rfl ?_))
    | (show AT _ _ _ (wpList _ _ _ []); refine c_nil (x_then ?_))
    | (show AT _ _ _ (Code.wp _ _ _); first | refine c_seq ?_ | refine c_region ?_ | refine c_skip (x_then ?_) | refine c_block ?_ | refine c_ret ?_ | refine c_if rfl (fun h => ?_) (fun h => ?_))
    | (show AT _ _ _ _; refine x_then_ret ?_))
  · refine x_ret1 Try.results46 (res_tmp rfl) (fun w c => ⟨_, _, rfl, ⟨?_, rfl⟩, c⟩)
    rw [if_pos (by omega)]
  · have hpart : ∀ i, i ≤ ms.length → ms.length + ((ms.map (szMs)).take i).sum ≤ szL (szMs) ms := fun i _ => by
      have := sum_take_le (ms.map (szMs)) i
      unfold szL; omega
    refine c_loop (fun i : Nat => [(0, .slice a ms.length c'), (1, iV (left - ms.length - ((ms.map (szMs)).take i).sum)), (5, .int .i64 i)])
      (fun i w' => (i ≤ ms.length ∧ (0 : Int) ≤ left - ms.length - ((ms.map (szMs)).take i).sum) ∧ Hp [] w [] w') (fun i => ms.length - i) 0 ?_ ?_ ?_
    · exact Sub.cons rfl (Sub.consi rfl (by simp) (Sub.cons rfl Sub.nil))
    · intro w' c
      exact ⟨⟨by omega, by simp; omega⟩, c⟩
    · intro i
      refine AT.pr (fun ⟨hi, hpos⟩ => ?_)
      repeat' (first
        | (show AT _ _ _ (wpList _ _ _ (_ :: _)); first
           | (show AT _ _ _ (wpList _ _ _ (⟨_, Op.move _, _, _, _, _⟩ :: _)); refine st_y (y_move rfl) rfl ?_)
           | (show AT _ _ _ (wpList _ _ _ (⟨_, Op.assign _, _, _, _, _⟩ :: _)); refine st_y (y_assign rfl) rfl ?_)
           | (show AT _ _ _ (wpList _ _ _ (⟨_, Op.indexAddr _ _ _, _, _, _, _⟩ :: _)); refine st_y (y_ix1 tabs rfl rfl rfl (by first | assumption | exact .mk) rfl (by omega)) rfl ?_)
           | (show AT _ _ _ (wpList _ _ _ (⟨_, Op.binOp _ _ _ _ _, _, _, _, _⟩ :: _)); refine st_y (y_lss rfl rfl) rfl ?_)
           | (show AT _ _ _ (wpList _ _ _ (⟨_, Op.call _, _, _, _, _⟩ :: _)); refine st_y (y_len tabs rfl rfl) rfl ?_))
        | (show AT _ _ _ (wpList _ _ _ []); refine c_nil (x_then ?_))
        | (show AT _ _ _ (Code.wp _ _ _); first | refine c_seq ?_ | refine c_region ?_ | refine c_skip (x_then ?_) | refine c_block ?_ | refine c_ret ?_ | refine c_exit ?_ | refine c_if rfl (fun h => ?_) (fun h => ?_))
        | (show AT _ _ _ _; first | refine x_then ?_ | refine x_then_exit ?_ | refine x_blk_exit rfl ?_))
      · obtain ⟨m, hm⟩ : ∃ m, ms[i]? = some m := ⟨_, List.getElem?_eq_getElem (show i < ms.length by omega)⟩
        have hi' : i < ms.length := by omega
        obtain ⟨g1, g2, g3, g4⟩ := hget i m hm
        have hlen : (ms.map (szMs)).getD i 0 = (szMs) m := by simp [List.getD, hm]
        have hnext := sum_take_next (ms.map (szMs)) i (by simpa using hi')
        have hp := hpart (i + 1) (by omega)
        rw [hlen] at hnext
        try simp only at hnext
        repeat' (first
          | (show AT _ _ _ (wpList _ _ _ (_ :: _)); first
             | (show AT _ _ _ (wpList _ _ _ (⟨_, Op.move _, _, _, _, _⟩ :: _)); refine st_y (y_move rfl) rfl ?_)
             | (show AT _ _ _ (wpList _ _ _ (⟨_, Op.assign _, _, _, _, _⟩ :: _)); refine st_y (y_assign rfl) rfl ?_)
             | (show AT _ _ _ (wpList _ _ _ (⟨_, Op.load _ _, _, _, _, _⟩ :: _)); refine st_y (y_load tabs rfl rfl (hc_w0 g3)) rfl ?_)
             | (show AT _ _ _ (wpList _ _ _ (⟨_, Op.binOp _ _ _ _ _, _, _, _, _⟩ :: _)); first | refine st_y (y_add rfl rfl (by omega)) rfl ?_ | refine st_y (y_lss rfl rfl) rfl ?_)
             | (show AT _ _ _ (wpList _ _ _ (⟨_, Op.call _, _, _, _, _⟩ :: _)); (refine m_call (ent_of Try.func15 (by kernel_rfl) rfl) rfl rfl (fun w c => szMats_at (c.rd g4) hpos (by omega)) ?_; rintro v H' ⟨rfl, rfl⟩)))
          | (show AT _ _ _ (wpList _ _ _ []); refine c_nil (x_then ?_))
          | (show AT _ _ _ (Code.wp _ _ _); first | refine c_seq ?_ | refine c_region ?_ | refine c_skip (x_blk ?_) | refine c_ret ?_ | refine c_if rfl (fun h => ?_) (fun h => ?_))
          | (show AT _ _ _ _; first | refine x_then ?_ | refine x_then_ret ?_ | refine x_blk_ret ?_))
        · refine x_ret1 Try.results46 (res_tmp rfl) (fun w c => ⟨_, _, rfl, ⟨?_, rfl⟩, c⟩)
          rw [if_pos (by split at h <;> omega)]
        · refine x_next (i + 1) ?_ (fun w' c' => ⟨⟨by omega, by split at h <;> omega⟩, c'⟩) (by omega)
          exact Sub.cons rfl (Sub.consi rfl (by split at h <;> split <;> omega) (Sub.cons rfl Sub.nil))
      · refine x_ret1 Try.results46 (res_tmp rfl) (fun w c => ⟨_, _, rfl, ⟨?_, rfl⟩, c⟩)
        have hall : szL (szMs) ms = ms.length + ((ms.map (szMs)).take i).sum := by
          rw [List.take_of_length_le (by simp; omega)]; rfl
        rw [if_neg (by omega), hall]
        exact congrArg iV (by omega)

theorem toMss_ok {w : World} {e : Nat} {ms : List (List Mat)} {v : Value} (hr : Rd w (mslT e ms) v) (hb : szL (szMs) ms ≤ 1048576) :
    Does Try.prog 48 [v] w (fun r H => Gives (mslT 30 ms) ms.length r H) := by
  obtain ⟨a, c, rfl, hs, hc1, hc2, hget⟩ := rd_mss hr
  have hn : ms.length ≤ 1048576 := by unfold szL at hb; omega
  have hcs : ∀ (i : Nat) (m : List Mat), ms[i]? = some m → (szMs) m ≤ 1048576 := fun i m hm => Nat.le_trans (szL_get (f := szMs) hm) hb
  refine fn_enter Try.func48 rfl Try.ntmps48 rfl ?_
  repeat' (first
    | (show AT _ _ _ (wpList _ _ _ (_ :: _)); first
       | (show AT _ _ _ (wpList _ _ _ (⟨_, Op.move _, _, _, _, _⟩ :: _)); refine st_y (y_move rfl) rfl ?_)
       | (show AT _ _ _ (wpList _ _ _ (⟨_, Op.assign _, _, _, _, _⟩ :: _)); refine st_y (y_assign rfl) rfl ?_)
       | (show AT _ _ _ (wpList _ _ _ (⟨_, Op.call _, _, _, _, _⟩ :: _)); refine st_y (y_len tabs rfl rfl) rfl ?_)
       | (show AT _ _ _ (wpList _ _ _ (⟨_, Op.makeSlice _ _ _, _, _, _, _⟩ :: _)); refine m_makeT tabs (tz := msT 81 []) rfl rfl rfl (by omega) (by omega) (by decide) mss0_own rfl (fun b hb1 => ?_)))
    | (show AT _ _ _ (wpList _ _ _ []); refine c_nil (x_then ?_))
    | (show AT _ _ _ (Code.wp _ _ _); first | refine c_seq ?_ | refine c_region ?_ | refine c_block ?_))
  refine c_loop (fun i : Nat => [(0, .slice a ms.length c), (3, .slice (some ⟨b, 0, none⟩) ms.length ms.length), (4, .int .i64 i)])
    (fun i w' => i ≤ ms.length ∧ Hp [] w [.own (mslT 30 (ms.take i ++ List.replicate (ms.length - i) [])) (.slice (some ⟨b, 0, none⟩) ms.length ms.length)] w') (fun i => ms.length - i) 0 ?_ ?_ ?_
  · exact (by repeat' (first | exact Sub.nil | refine Sub.cons rfl ?_ | refine Sub.consi rfl (by omega) ?_))
  · intro w' c'
    exact ⟨by omega, by simpa [mslT, mssT, msM, msT_map, flatMap_rep] using c'⟩
  · intro i
    refine AT.pr (fun hi => ?_)
    repeat' (first
      | (show AT _ _ _ (wpList _ _ _ (_ :: _)); first
         | (show AT _ _ _ (wpList _ _ _ (⟨_, Op.move _, _, _, _, _⟩ :: _)); refine st_y (y_move rfl) rfl ?_)
         | (show AT _ _ _ (wpList _ _ _ (⟨_, Op.assign _, _, _, _, _⟩ :: _)); refine st_y (y_assign rfl) rfl ?_)
         | (show AT _ _ _ (wpList _ _ _ (⟨_, Op.indexAddr _ _ _, _, _, _, _⟩ :: _)); refine st_y (y_ix1 tabs rfl rfl rfl (by first | assumption | exact .mk) rfl (by omega)) rfl ?_)
         | (show AT _ _ _ (wpList _ _ _ (⟨_, Op.binOp _ _ _ _ _, _, _, _, _⟩ :: _)); refine st_y (y_lss rfl rfl) rfl ?_)
         | (show AT _ _ _ (wpList _ _ _ (⟨_, Op.call _, _, _, _, _⟩ :: _)); refine st_y (y_len tabs rfl rfl) rfl ?_))
      | (show AT _ _ _ (wpList _ _ _ []); refine c_nil (x_then ?_))
      | (show AT _ _ _ (Code.wp _ _ _); first | refine c_seq ?_ | refine c_region ?_ | refine c_skip (x_then ?_) | refine c_block ?_ | refine c_ret ?_ | refine c_exit ?_ | refine c_if rfl (fun h => ?_) (fun h => ?_))
      | (show AT _ _ _ _; first | refine x_then ?_ | refine x_then_exit ?_ | refine x_blk_exit rfl ?_))
    · have hi' : i < ms.length := by omega
      obtain ⟨m, hm⟩ : ∃ m, ms[i]? = some m := ⟨_, List.getElem?_eq_getElem hi'⟩
      obtain ⟨g1, g2, g3, g4⟩ := hget i m hm
      repeat' (first
        | (show AT _ _ _ (wpList _ _ _ (_ :: _)); first
           | (show AT _ _ _ (wpList _ _ _ (⟨_, Op.move _, _, _, _, _⟩ :: _)); refine st_y (y_move rfl) rfl ?_)
           | (show AT _ _ _ (wpList _ _ _ (⟨_, Op.assign _, _, _, _, _⟩ :: _)); refine st_y (y_assign rfl) rfl ?_)
           | (show AT _ _ _ (wpList _ _ _ (⟨_, Op.load _ _, _, _, _, _⟩ :: _)); refine st_y (y_load tabs rfl rfl (hc_w0 g3)) rfl ?_)
           | (show AT _ _ _ (wpList _ _ _ (⟨_, Op.indexAddr _ _ _, _, _, _, _⟩ :: _)); refine st_y (y_ix1 tabs rfl rfl rfl (by first | assumption | exact .mk) rfl (by omega)) rfl ?_)
           | (show AT _ _ _ (wpList _ _ _ (⟨_, Op.binOp _ _ _ _ _, _, _, _, _⟩ :: _)); refine st_y (y_add rfl rfl (by omega)) rfl ?_)
           | (show AT _ _ _ (wpList _ _ _ (⟨_, Op.call _, _, _, _, _⟩ :: _)); (refine m_call (ent_of Try.func18 (by kernel_rfl) rfl) rfl rfl (fun w c => toMats_at (c.rd g4) (hcs i m hm)) ?_; rintro v H' ⟨a4, c4, rfl, hs4, rfl⟩))
           | (show AT _ _ _ (wpList _ _ _ (⟨_, Op.store _ _ _, _, _, _, _⟩ :: _)); refine m_storeS1 tabs (m := ms.length) (tn := matsT 81 m) (j := i) rfl rfl rfl rfl (by rw [flatMap_length (msT_length _)]; simp; try omega) hi' (fun w c => c.swap) ?_))
        | (show AT _ _ _ (wpList _ _ _ []); first | refine c_nil (x_then ?_) | refine c_nil ?_)
        | (show AT _ _ _ (Code.wp _ _ _); refine c_region ?_)
        | (show AT _ _ _ _; first | refine x_then ?_ | refine x_blk ?_))
      refine x_next (i + 1) (by repeat' (first | exact Sub.nil | refine Sub.cons rfl ?_ | refine Sub.consi rfl (by omega) ?_)) (fun w' c' => ⟨by omega, ?_⟩) (by omega)
      rw [msT_set, set_fill ms i [] hi' _ hm] at c'
      exact c'
    · refine x_ret1 Try.results48 (res_tmp rfl) (fun w' c' => ⟨_, _, rfl, ⟨_, _, rfl, .mk, rfl⟩, ?_⟩)
      have e1 : ms.take i = ms := take_end (by omega)
      have e2 : ms.length - i = 0 := by omega
      simpa [e1, e2] using c'

theorem szMss_fit {w : World} {left : Int} {e : Nat} {ms : List (List Mat)} {u : Value} (hu : Rd w (mslT e ms) u) (h1 : left ≤ 1048576) (hf : szL szMs ms ≤ left) :
    Does Try.prog 46 [u, iV left] w (fun v H => v = iV (left - szL szMs ms) ∧ H = []) := by
  have := szMss_ok (left := left) hu (by omega) h1
  rwa [if_neg (by omega)] at this
theorem szMss_big {w : World} {left : Int} {e : Nat} {ms : List (List Mat)} {u : Value} (hu : Rd w (mslT e ms) u) (h0 : 0 ≤ left) (h1 : left ≤ 1048576) (hf : left < szL szMs ms) :
    Does Try.prog 46 [u, iV left] w (fun v H => v = iV (-1) ∧ H = []) := by
  have := szMss_ok (left := left) hu h0 h1
  rwa [if_pos (by omega)] at this

end Go.Proofs.Ytfhgpkdhhclpbaa
