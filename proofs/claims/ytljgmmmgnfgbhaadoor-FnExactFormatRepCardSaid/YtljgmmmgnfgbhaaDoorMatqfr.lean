import Derived.Test.YtljgmmmgnfgbhaaDoorDatqfr
import Derived.Test.YtljgmmmgnfgbhaaDoorIntqfr
namespace Go.Proofs.YtljgmmmgnfgbhaaDoor
open Go.Lg Go.Proofs Go.RowKit
attribute [local irreducible] Code.wp wpList bodyPost Exit.then Exit.inBlock Hp Again Calls Y AT ResV QT
set_option maxRecDepth 20000
set_option maxHeartbeats 4000000

theorem szMatrix_ok (w : World) (r c left : Int) (u : Value) (xs : List Int) (hu : Rd w (iT xs) u) (h0 : 0 ≤ left) (h1 : left ≤ 1048576) :
    Does Tryd.prog 24 [.agg #[iV r, iV c, u], iV left] w (fun v H => v = iV (if left < xs.length then -1 else left - xs.length) ∧ H = []) := by
  obtain ⟨a, c', rfl, hs, hc1, hc2, hget⟩ := hu.ints
  refine fn_enter Tryd.func24 rfl Tryd.ntmps24 rfl ?_
  repeat' (first
    | (show AT _ _ _ (wpList _ _ _ (_ :: _)); first
       | (show AT _ _ _ (wpList _ _ _ (⟨_, Op.move _, _, _, _, _⟩ :: _)); refine st_y (y_move rfl) rfl ?_)
       | (show AT _ _ _ (wpList _ _ _ (⟨_, Op.assign _, _, _, _, _⟩ :: _)); refine st_y (y_assign rfl) rfl ?_)
       | (show AT _ _ _ (wpList _ _ _ (⟨_, Op.fieldAddr _ _ _, _, _, _, _⟩ :: _)); refine st_y (y_field tabs rfl rfl rfl) rfl ?_)
       | (show AT _ _ _ (wpList _ _ _ (⟨_, Op.load _ _, _, _, _, _⟩ :: _)); refine st_y (y_load tabs rfl rfl (hc_blk 0 rfl rfl)) rfl ?_)
       | (show AT _ _ _ (wpList _ _ _ (⟨_, Op.call _, _, _, _, _⟩ :: _)); refine m_call (ent_of Tryd.func10 (by kernel_rfl) rfl) rfl rfl (fun w _ => szIntS_ok w a _ _ left (by omega) h0 h1) (fun v H' hv => ?_))
       | (show AT _ _ _ (wpList _ _ _ (⟨_, Op.box _ _, _, _, _, _⟩ :: _)); refine m_box rfl rfl (fun b hb => ?_)))
    | (show AT _ _ _ (wpList _ _ _ []); refine c_nil (x_then ?_))
    | (show AT _ _ _ (Code.wp _ _ _); first | refine c_seq ?_ | refine c_region ?_))
  obtain ⟨rfl, rfl⟩ := hv
  repeat' (first
    | (show AT _ _ _ (wpList _ _ _ (_ :: _)); first
       | (show AT _ _ _ (wpList _ _ _ (⟨_, Op.move _, _, _, _, _⟩ :: _)); refine st_y (y_move rfl) rfl ?_)
       | (show AT _ _ _ (wpList _ _ _ (⟨_, Op.assign _, _, _, _, _⟩ :: _)); refine st_y (y_assign rfl) rfl ?_)
       | (show AT _ _ _ (wpList _ _ _ (⟨_, Op.binOp _ _ _ _ _, _, _, _, _⟩ :: _)); refine st_y (y_lss rfl rfl) rfl ?_))
    | (show AT _ _ _ (wpList _ _ _ []); refine c_nil (x_then ?_))
    | (show AT _ _ _ (Code.wp _ _ _); first | refine c_seq ?_ | refine c_region ?_ | refine c_skip (x_then ?_) | refine c_ret ?_ | refine c_if rfl (fun h => ?_) (fun h => ?_))
    | (show AT _ _ _ _; refine x_then_ret ?_))
  · refine x_ret1 Tryd.results24 (res_tmp rfl) (fun w c => ⟨_, _, rfl, ⟨?_, rfl⟩, c.sub (List.nil_sublist _)⟩)
    rw [if_pos (by split at h <;> omega)]
  · refine x_ret1 Tryd.results24 (res_tmp rfl) (fun w c => ⟨_, _, rfl, ⟨?_, rfl⟩, c.sub (List.nil_sublist _)⟩)
    rfl

theorem toMatrix_ok (w : World) (m : Mat) (u : Value) (hu : Rd w (iT m.2.2) u) (hb : m.2.2.length ≤ 1048576) :
    Does Tryd.prog 28 [.agg #[iV m.1, iV m.2.1, u]] w (GivesM m) := by
  obtain ⟨r, c, xs⟩ := m
  simp only at hu hb ⊢
  refine fn_enter Tryd.func28 rfl Tryd.ntmps28 rfl ?_
  repeat' (first
    | (show AT _ _ _ (wpList _ _ _ (_ :: _)); first
       | (show AT _ _ _ (wpList _ _ _ (⟨_, Op.fieldAddr _ _ _, _, _, _, _⟩ :: _)); refine st_y (y_field tabs rfl rfl rfl) rfl ?_)
       | (show AT _ _ _ (wpList _ _ _ (⟨_, Op.load _ _, _, _, _, _⟩ :: _)); refine st_y (y_load tabs rfl rfl (hc_blk 2 rfl rfl)) rfl ?_)
       | (show AT _ _ _ (wpList _ _ _ (⟨_, Op.call _, _, _, _, _⟩ :: _)); refine m_call (ent_of Tryd.func16 (by kernel_rfl) rfl) rfl rfl (fun w c => toIntS_ok w _ xs (c.rd hu) hb) (fun v H' hv => ?_))
       | (show AT _ _ _ (wpList _ _ _ (⟨_, Op.store _ _ _, _, _, _, _⟩ :: _)); refine m_storef 0 tabs rfl rfl rfl rfl rfl rfl ?_)
       | (show AT _ _ _ (wpList _ _ _ (⟨_, Op.box _ _, _, _, _, _⟩ :: _)); refine m_box rfl rfl (fun b1 hb1 => ?_))
       | (show AT _ _ _ (wpList _ _ _ (⟨_, Op.alloc _, _, _, _, _⟩ :: _)); refine m_alloc tabs rfl rfl (fun b2 hb2 => ?_)))
    | (show AT _ _ _ (wpList _ _ _ []); refine c_nil (x_then ?_))
    | (show AT _ _ _ (Code.wp _ _ _); first | refine c_seq ?_ | refine c_region ?_))
  obtain ⟨a, c', rfl, hs, rfl⟩ := hv
  repeat' (first
    | (show AT _ _ _ (wpList _ _ _ (_ :: _)); first
       | (show AT _ _ _ (wpList _ _ _ (⟨_, Op.load _ _, _, _, _, _⟩ :: _)); refine st_y (y_loadb 1 tabs rfl rfl rfl rfl) rfl ?_)
       | (show AT _ _ _ (wpList _ _ _ (⟨_, Op.store _ _ _, _, _, _, _⟩ :: _)); first | refine m_storef 1 tabs rfl rfl rfl rfl rfl rfl ?_ | refine m_storeb 2 tabs rfl rfl rfl rfl rfl rfl rfl ?_))
    | (show AT _ _ _ (wpList _ _ _ []); refine c_nil (x_then ?_))
    | (show AT _ _ _ (Code.wp _ _ _); first | refine c_seq ?_ | refine c_region ?_ | refine c_ret ?_))
  refine x_ret1 Tryd.results28 (res_cellb 2 tabs rfl rfl rfl rfl) (fun w c => ⟨_, _, rfl, ⟨a, c', rfl, hs, rfl⟩, ?_⟩)
  exact c.sub (.cons_cons _ (List.nil_sublist _))

theorem eqMatrix_ok (w : World) (m m' : Mat) (u u' : Value) (hu : Rd w (iT m.2.2) u) (hu' : Rd w (iT m'.2.2) u') :
    Does Tryd.prog 35 [.agg #[iV m.1, iV m.2.1, u], .agg #[iV m'.1, iV m'.2.1, u']] w (fun v H => v = .bool (decide (m = m')) ∧ H = []) := by
  obtain ⟨r, c, xs⟩ := m
  obtain ⟨r', c', xs'⟩ := m'
  simp only at hu hu' ⊢
  refine fn_enter Tryd.func35 rfl Tryd.ntmps35 rfl ?_
  repeat' (first
    | (show AT _ _ _ (wpList _ _ _ (_ :: _)); first
       | (show AT _ _ _ (wpList _ _ _ (⟨_, Op.assign _, _, _, _, _⟩ :: _)); refine st_y (y_assign rfl) rfl ?_)
       | (show AT _ _ _ (wpList _ _ _ (⟨_, Op.fieldAddr _ _ _, _, _, _, _⟩ :: _)); refine st_y (y_field tabs rfl rfl rfl) rfl ?_)
       | (show AT _ _ _ (wpList _ _ _ (⟨_, Op.load _ _, _, _, _, _⟩ :: _)); first | refine st_y (y_load tabs rfl rfl (hc_blk 0 rfl rfl)) rfl ?_ | refine st_y (y_load tabs rfl rfl (hc_blk 1 rfl rfl)) rfl ?_)
       | (show AT _ _ _ (wpList _ _ _ (⟨_, Op.binOp _ _ _ _ _, _, _, _, _⟩ :: _)); refine st_y (y_neq rfl rfl) rfl ?_)
       | (show AT _ _ _ (wpList _ _ _ (⟨_, Op.unOp _ _ _, _, _, _, _⟩ :: _)); refine st_y (y_notd rfl) rfl ?_)
       | (show AT _ _ _ (wpList _ _ _ (⟨_, Op.call _, _, _, _, _⟩ :: _)); (refine m_call (ent_of Tryd.func22 (by kernel_rfl) rfl) rfl rfl (fun w c => eqIntS_ok w _ _ xs xs' (c.rd hu) (c.rd hu')) ?_; rintro v H' ⟨rfl, rfl⟩))
       | (show AT _ _ _ (wpList _ _ _ (⟨_, Op.box _ _, _, _, _, _⟩ :: _)); refine m_box rfl rfl (fun b hb => ?_)))
    | (show AT _ _ _ (wpList _ _ _ []); refine c_nil (x_then ?_))
    | (show AT _ _ _ (Code.wp _ _ _); first | refine c_seq ?_ | refine c_region ?_ | refine c_skip (x_then ?_) | refine c_ret ?_ | refine c_ifnd rfl (fun h => ?_) (fun h => ?_))
    | (show AT _ _ _ _; refine x_then_ret ?_))
  all_goals refine x_ret1 Tryd.results35 (res_tmp rfl) (fun w c => ⟨_, _, rfl, ⟨?_, rfl⟩, c.sub (List.nil_sublist _)⟩)
  all_goals simp_all

/-- how much a list of matrices counts -/
def szMs (ms : List Mat) : Nat := ms.length + (ms.map (fun m => m.2.2.length)).sum
theorem sum_take_le (l : List Nat) (i : Nat) : (l.take i).sum ≤ l.sum := by
  conv => rhs; rw [← List.take_append_drop i l]
  rw [List.sum_append]; omega
theorem sum_take_next (l : List Nat) (i : Nat) (h : i < l.length) : (l.take (i + 1)).sum = (l.take i).sum + l.getD i 0 := by
  rw [take_next (z := 0) h, List.sum_append]; simp

theorem le_sum : ∀ {l : List Nat} {x : Nat}, x ∈ l → x ≤ l.sum
  | [], x, h => by simp at h
  | y :: l, x, h => by
    rcases List.mem_cons.1 h with rfl | h
    · simp
    · have := le_sum h; simp; omega
theorem szMs_get {ms : List Mat} {i : Nat} {m : Mat} (h : ms[i]? = some m) : m.2.2.length ≤ szMs ms := by
  have := le_sum (List.mem_map_of_mem (f := fun m : Mat => m.2.2.length) (List.mem_of_getElem? h))
  unfold szMs
  omega

theorem szMatrixS_ok (w : World) (e : Nat) (ms : List Mat) (u : Value) (left : Int) (hu : Rd w (matsT e ms) u) (h0 : 0 ≤ left) (h1 : left ≤ 1048576) :
    Does Tryd.prog 11 [u, iV left] w (fun v H => v = iV (if left < szMs ms then -1 else left - szMs ms) ∧ H = []) := by
  obtain ⟨a, c', rfl, hs, hc1, hc2, hget⟩ := rd_mats hu
  unfold maxLen at hc2
  have hsz : ms.length ≤ szMs ms := by unfold szMs; omega
  refine fn_enter Tryd.func11 rfl Tryd.ntmps11 rfl ?_
  repeat' (first
    | (show AT _ _ _ (wpList _ _ _ (_ :: _)); first
       | (show AT _ _ _ (wpList _ _ _ (⟨_, Op.move _, _, _, _, _⟩ :: _)); refine st_y (y_move rfl) rfl ?_)
       | (show AT _ _ _ (wpList _ _ _ (⟨_, Op.assign _, _, _, _, _⟩ :: _)); refine st_y (y_assign rfl) rfl ?_)
       | (show AT _ _ _ (wpList _ _ _ (⟨_, Op.binOp _ _ _ _ _, _, _, _, _⟩ :: _)); first | refine st_y (y_sub rfl rfl (by omega)) rfl ?_ | refine st_y (y_lss rfl rfl) rfl ?_)
       | (show AT _ _ _ (wpList _ _ _ (⟨_, Op.call _, _, _, _, _⟩ :: _)); refine st_y (y_len tabs rfl rfl) rfl ?_))
    | (show AT _ _ _ (wpList _ _ _ []); refine c_nil (x_then ?_))
    | (show AT _ _ _ (Code.wp _ _ _); first | refine c_seq ?_ | refine c_region ?_ | refine c_skip (x_then ?_) | refine c_block ?_ | refine c_ret ?_ | refine c_if rfl (fun h => ?_) (fun h => ?_))
    | (show AT _ _ _ _; refine x_then_ret ?_))
  · refine x_ret1 Tryd.results11 (res_tmp rfl) (fun w c => ⟨_, _, rfl, ⟨?_, rfl⟩, c⟩)
    rw [if_pos (by omega)]
  · have hpart : ∀ i, i ≤ ms.length → ms.length + ((ms.map (fun m => m.2.2.length)).take i).sum ≤ szMs ms := fun i _ => by
      have := sum_take_le (ms.map (fun m => m.2.2.length)) i
      unfold szMs; omega
    refine c_loop (fun i : Nat => [(0, .slice a ms.length c'), (1, iV (left - ms.length - ((ms.map (fun m => m.2.2.length)).take i).sum)), (5, .int .i64 i)])
      (fun i w' => (i ≤ ms.length ∧ (0 : Int) ≤ left - ms.length - ((ms.map (fun m => m.2.2.length)).take i).sum) ∧ Hp [] w [] w') (fun i => ms.length - i) 0 ?_ ?_ ?_
    · exact Sub.cons rfl (Sub.consi rfl (by simp) (Sub.cons rfl Sub.nil))
    · intro w' c
      exact ⟨⟨by omega, by simp; omega⟩, c⟩
    · intro i
      refine AT.pr (fun ⟨hi, hpos⟩ => ?_)
      repeat' (first
        | (show AT _ _ _ (wpList _ _ _ (_ :: _)); first
           | (show AT _ _ _ (wpList _ _ _ (⟨_, Op.move _, _, _, _, _⟩ :: _)); refine st_y (y_move rfl) rfl ?_)
           | (show AT _ _ _ (wpList _ _ _ (⟨_, Op.assign _, _, _, _, _⟩ :: _)); refine st_y (y_assign rfl) rfl ?_)
           | (show AT _ _ _ (wpList _ _ _ (⟨_, Op.indexAddr _ _ _, _, _, _, _⟩ :: _)); refine st_y (y_ixa tabs rfl rfl rfl (by first | assumption | exact .mk) (by omega) (by omega)) rfl ?_)
           | (show AT _ _ _ (wpList _ _ _ (⟨_, Op.binOp _ _ _ _ _, _, _, _, _⟩ :: _)); refine st_y (y_lss rfl rfl) rfl ?_)
           | (show AT _ _ _ (wpList _ _ _ (⟨_, Op.call _, _, _, _, _⟩ :: _)); refine st_y (y_len tabs rfl rfl) rfl ?_))
        | (show AT _ _ _ (wpList _ _ _ []); refine c_nil (x_then ?_))
        | (show AT _ _ _ (Code.wp _ _ _); first | refine c_seq ?_ | refine c_region ?_ | refine c_skip (x_then ?_) | refine c_block ?_ | refine c_ret ?_ | refine c_exit ?_ | refine c_if rfl (fun h => ?_) (fun h => ?_))
        | (show AT _ _ _ _; first | refine x_then ?_ | refine x_then_exit ?_ | refine x_blk_exit rfl ?_))
      · obtain ⟨m, hm⟩ : ∃ m, ms[i]? = some m := ⟨_, List.getElem?_eq_getElem (show i < ms.length by omega)⟩
        have hi' : i < ms.length := by omega
        obtain ⟨a2, c2, g1, g2, g3, g4⟩ := hget i m hm
        have hlen : (ms.map (fun m => m.2.2.length)).getD i 0 = m.2.2.length := by simp [List.getD, hm]
        have hnext := sum_take_next (ms.map (fun m => m.2.2.length)) i (by simpa using hi')
        have hp := hpart (i + 1) (by omega)
        rw [hlen] at hnext
        repeat' (first
          | (show AT _ _ _ (wpList _ _ _ (_ :: _)); first
             | (show AT _ _ _ (wpList _ _ _ (⟨_, Op.move _, _, _, _, _⟩ :: _)); refine st_y (y_move rfl) rfl ?_)
             | (show AT _ _ _ (wpList _ _ _ (⟨_, Op.assign _, _, _, _, _⟩ :: _)); refine st_y (y_assign rfl) rfl ?_)
             | (show AT _ _ _ (wpList _ _ _ (⟨_, Op.load _ _, _, _, _, _⟩ :: _)); refine st_y (y_load3 tabs rfl rfl (hc_w0 g1) (hc_w0 g2) (hc_w0 g3)) rfl ?_)
             | (show AT _ _ _ (wpList _ _ _ (⟨_, Op.binOp _ _ _ _ _, _, _, _, _⟩ :: _)); first | refine st_y (y_add rfl rfl (by omega)) rfl ?_ | refine st_y (y_lss rfl rfl) rfl ?_)
             | (show AT _ _ _ (wpList _ _ _ (⟨_, Op.call _, _, _, _, _⟩ :: _)); (refine m_call (ent_of Tryd.func24 (by kernel_rfl) rfl) rfl rfl (fun w c => szMatrix_ok w _ _ _ _ _ (c.rd g4) hpos (by omega)) ?_; rintro v H' ⟨rfl, rfl⟩)))
          | (show AT _ _ _ (wpList _ _ _ []); refine c_nil (x_then ?_))
          | (show AT _ _ _ (Code.wp _ _ _); first | refine c_seq ?_ | refine c_region ?_ | refine c_skip (x_blk ?_) | refine c_ret ?_ | refine c_if rfl (fun h => ?_) (fun h => ?_))
          | (show AT _ _ _ _; first | refine x_then ?_ | refine x_then_ret ?_ | refine x_blk_ret ?_))
        · refine x_ret1 Tryd.results11 (res_tmp rfl) (fun w c => ⟨_, _, rfl, ⟨?_, rfl⟩, c⟩)
          rw [if_pos (by split at h <;> omega)]
        · refine x_next (i + 1) ?_ (fun w' c' => ⟨⟨by omega, by split at h <;> omega⟩, c'⟩) (by omega)
          exact Sub.cons rfl (Sub.consi rfl (by split at h <;> split <;> omega) (Sub.cons rfl Sub.nil))
      · refine x_ret1 Tryd.results11 (res_tmp rfl) (fun w c => ⟨_, _, rfl, ⟨?_, rfl⟩, c⟩)
        have hall : szMs ms = ms.length + ((ms.map (fun m => m.2.2.length)).take i).sum := by
          rw [List.take_of_length_le (by simp; omega)]; rfl
        rw [if_neg (by omega), hall]
        exact congrArg iV (by omega)

theorem eqMatrixS_ok (w : World) (e e' : Nat) (ms ms' : List Mat) (v u : Value) (hr : Rd w (matsT e ms) v) (hr' : Rd w (matsT e' ms') u) :
    Does Tryd.prog 23 [v, u] w (fun r H => r = .bool (decide (ms = ms')) ∧ H = []) := by
  obtain ⟨a, c, rfl, hs, hc1, hc2, hget⟩ := rd_mats hr
  obtain ⟨a', c', rfl, hs', hc1', hc2', hget'⟩ := rd_mats hr'
  unfold maxLen at hc2 hc2'
  refine fn_enter Tryd.func23 rfl Tryd.ntmps23 rfl ?_
  repeat' (first
    | (show AT _ _ _ (wpList _ _ _ (_ :: _)); first
       | (show AT _ _ _ (wpList _ _ _ (⟨_, Op.move _, _, _, _, _⟩ :: _)); refine st_y (y_move rfl) rfl ?_)
       | (show AT _ _ _ (wpList _ _ _ (⟨_, Op.assign _, _, _, _, _⟩ :: _)); refine st_y (y_assign rfl) rfl ?_)
       | (show AT _ _ _ (wpList _ _ _ (⟨_, Op.binOp _ _ _ _ _, _, _, _, _⟩ :: _)); refine st_y (y_neq rfl rfl) rfl ?_)
       | (show AT _ _ _ (wpList _ _ _ (⟨_, Op.call _, _, _, _, _⟩ :: _)); refine st_y (y_len tabs rfl rfl) rfl ?_))
    | (show AT _ _ _ (wpList _ _ _ []); refine c_nil (x_then ?_))
    | (show AT _ _ _ (Code.wp _ _ _); first | refine c_seq ?_ | refine c_region ?_ | refine c_skip (x_then ?_) | refine c_block ?_ | refine c_ret ?_ | refine c_ifnd rfl (fun h => ?_) (fun h => ?_))
    | (show AT _ _ _ _; refine x_then_ret ?_))
  · refine x_ret1 Tryd.results23 (res_tmp rfl) (fun w' c' => ⟨_, _, rfl, ⟨?_, rfl⟩, c'⟩)
    have : ¬ ms = ms' := fun e => h (by rw [e])
    simp [this]
  · have hl : ms.length = ms'.length := by omega
    refine c_loop (fun i : Nat => [(0, .slice a ms.length c), (1, .slice a' ms'.length c'), (5, .int .i64 i)])
      (fun i w' => (i ≤ ms.length ∧ ms.take i = ms'.take i) ∧ Hp [] w [] w') (fun i => ms.length - i) 0 ?_ ?_ ?_
    · exact (by repeat' (first | exact Sub.nil | refine Sub.cons rfl ?_ | refine Sub.consi rfl (by omega) ?_))
    · intro w' c'
      exact ⟨⟨by omega, rfl⟩, c'⟩
    · intro i
      refine AT.pr (fun ⟨hi, he⟩ => ?_)
      repeat' (first
        | (show AT _ _ _ (wpList _ _ _ (_ :: _)); first
           | (show AT _ _ _ (wpList _ _ _ (⟨_, Op.move _, _, _, _, _⟩ :: _)); refine st_y (y_move rfl) rfl ?_)
           | (show AT _ _ _ (wpList _ _ _ (⟨_, Op.assign _, _, _, _, _⟩ :: _)); refine st_y (y_assign rfl) rfl ?_)
           | (show AT _ _ _ (wpList _ _ _ (⟨_, Op.binOp _ _ _ _ _, _, _, _, _⟩ :: _)); refine st_y (y_lss rfl rfl) rfl ?_)
           | (show AT _ _ _ (wpList _ _ _ (⟨_, Op.call _, _, _, _, _⟩ :: _)); refine st_y (y_len tabs rfl rfl) rfl ?_))
        | (show AT _ _ _ (wpList _ _ _ []); refine c_nil (x_then ?_))
        | (show AT _ _ _ (Code.wp _ _ _); first | refine c_seq ?_ | refine c_region ?_ | refine c_skip (x_then ?_) | refine c_block ?_ | refine c_ret ?_ | refine c_exit ?_ | refine c_draw (by kernel_rfl) (by kernel_rfl) (fun _ c => Hp.drew c) ?_ | refine c_if rfl (fun h => ?_) (fun h => ?_))
        | (show QT _ _ _ _ _ _ (_ :: _); first
           | (show QT _ _ _ _ _ _ (⟨_, Op.move _, _, _, _, _⟩ :: _); refine q_y (y_move rfl) rfl ?_)
           | (show QT _ _ _ _ _ _ (⟨_, Op.indexAddr _ _ _, _, _, _, _⟩ :: _); refine q_y (y_ixa tabs rfl rfl rfl (by first | assumption | exact .mk) (by omega) (by omega)) rfl ?_))
        | (show AT _ _ _ _; first | refine x_then ?_ | refine x_then_exit ?_ | refine x_blk_exit rfl ?_))
      · obtain ⟨m, hm⟩ : ∃ m, ms[i]? = some m := ⟨_, List.getElem?_eq_getElem (show i < ms.length by omega)⟩
        obtain ⟨m', hm'⟩ : ∃ m, ms'[i]? = some m := ⟨_, List.getElem?_eq_getElem (show i < ms'.length by omega)⟩
        obtain ⟨a2, c2, g1, g2, g3, g4⟩ := hget i m hm
        obtain ⟨a3, c3, k1, k2, k3, k4⟩ := hget' i m' hm'
        repeat' (first
          | (show AT _ _ _ (wpList _ _ _ (_ :: _)); first
             | (show AT _ _ _ (wpList _ _ _ (⟨_, Op.move _, _, _, _, _⟩ :: _)); refine st_y (y_move rfl) rfl ?_)
             | (show AT _ _ _ (wpList _ _ _ (⟨_, Op.assign _, _, _, _, _⟩ :: _)); refine st_y (y_assign rfl) rfl ?_)
             | (show AT _ _ _ (wpList _ _ _ (⟨_, Op.binOp _ _ _ _ _, _, _, _, _⟩ :: _)); refine st_y (y_add rfl rfl (by omega)) rfl ?_))
          | (show AT _ _ _ (wpList _ _ _ []); refine c_nil (x_then ?_))
          | (show AT _ _ _ (Code.wp _ _ _); first | refine c_seq ?_ | refine c_region ?_ | refine c_skip (x_blk ?_) | refine c_ret ?_ | refine c_ifnd rfl (fun h => ?_) (fun h => ?_))
          | (show QT _ _ _ _ _ _ (_ :: _); first
             | (show QT _ _ _ _ _ _ (⟨_, Op.move _, _, _, _, _⟩ :: _); refine q_y (y_move rfl) rfl ?_)
             | (show QT _ _ _ _ _ _ (⟨_, Op.load _ _, _, _, _, _⟩ :: _); first | refine q_y (y_load3 tabs rfl rfl (hc_w0 g1) (hc_w0 g2) (hc_w0 g3)) rfl ?_ | refine q_y (y_load3 tabs rfl rfl (hc_w0 k1) (hc_w0 k2) (hc_w0 k3)) rfl ?_)
             | (show QT _ _ _ _ _ _ (⟨_, Op.indexAddr _ _ _, _, _, _, _⟩ :: _); refine q_y (y_ixa tabs rfl rfl rfl hs' (by omega) (by omega)) rfl ?_)
             | (show QT _ _ _ _ _ _ (⟨_, Op.unOp _ _ _, _, _, _, _⟩ :: _); refine q_y (y_notd rfl) rfl ?_)
             | (show QT _ _ _ _ _ _ (⟨_, Op.call _, _, _, _, _⟩ :: _); refine q_call (ent_of Tryd.func35 (by kernel_rfl) rfl) rfl rfl (fun w c => eqMatrix_ok w m m' _ _ (c.rd g4) (c.rd k4)) (fun u H' h => h.1) ?_))
          | (show QT _ _ _ _ _ _ []; refine q_nil (x_then ?_))
          | (show AT _ _ _ _; first | refine x_then ?_ | refine x_then_ret ?_ | refine x_blk_ret ?_))
        · refine x_ret1 Tryd.results23 (res_tmp rfl) (fun w' c' => ⟨_, _, rfl, ⟨?_, rfl⟩, c'⟩)
          have : ¬ ms = ms' := fun e => h (by rw [e, hm'] at hm; exact (Option.some.inj hm).symm)
          simp [this]
        · refine x_next (i + 1) (by repeat' (first | exact Sub.nil | refine Sub.cons rfl ?_ | refine Sub.consi rfl (by omega) ?_)) (fun w' c' => ⟨⟨by omega, ?_⟩, c'⟩) (by omega)
          rw [List.take_add_one, List.take_add_one, he, hm, hm', h]
      · refine x_ret1 Tryd.results23 (res_tmp rfl) (fun w' c' => ⟨_, _, rfl, ⟨?_, rfl⟩, c'⟩)
        rw [take_end (by omega), take_end (by omega)] at he
        simp [he]

end Go.Proofs.YtljgmmmgnfgbhaaDoor
