import Derived.Test.YtnmhdmkfhacdbaaDatqC
import Derived.Test.YtnmhdmkfhacdbaaIntqC
namespace Go.Proofs.Ytnmhdmkfhacdbaa
open Go.Lg Go.Proofs Go.RowKit
attribute [local irreducible] Code.wp wpList bodyPost Exit.then Exit.inBlock Hp Again Calls Y AT ResV QT
set_option maxRecDepth 20000
set_option maxHeartbeats 4000000

theorem szMatrix_ok (w : World) (r c left : Int) (u : Value) (xs : List Int) (hu : Rd w (iT xs) u) (h0 : 0 ≤ left) (h1 : left ≤ 1048576) :
    Does Try.prog 42 [.agg #[iV r, iV c, u], iV left] w (fun v H => v = iV (if left < xs.length then -1 else left - xs.length) ∧ H = []) := by
  obtain ⟨a, c', rfl, hs, hc1, hc2, hget⟩ := hu.ints
  refine fn_enter Try.func42 rfl Try.ntmps42 rfl ?_
  repeat' (first
    | (show AT _ _ _ (wpList _ _ _ (_ :: _)); first
       | (show AT _ _ _ (wpList _ _ _ (⟨_, Op.move _, _, _, _, _⟩ :: _)); refine st_y (y_move rfl) rfl ?_)
       | (show AT _ _ _ (wpList _ _ _ (⟨_, Op.assign _, _, _, _, _⟩ :: _)); refine st_y (y_assign rfl) rfl ?_)
       | (show AT _ _ _ (wpList _ _ _ (⟨_, Op.fieldAddr _ _ _, _, _, _, _⟩ :: _)); refine st_y (y_field tabs rfl rfl rfl) rfl ?_)
       | (show AT _ _ _ (wpList _ _ _ (⟨_, Op.load _ _, _, _, _, _⟩ :: _)); refine st_y (y_load tabs rfl rfl (hc_blk 0 rfl rfl)) rfl ?_)
       | (show AT _ _ _ (wpList _ _ _ (⟨_, Op.call _, _, _, _, _⟩ :: _)); refine m_call (ent_of Try.func65 (by kernel_rfl) rfl) rfl rfl (fun w _ => szIntS_ok w a _ _ left (by omega) h0 h1) (fun v H' hv => ?_))
       | (show AT _ _ _ (wpList _ _ _ (⟨_, Op.box _ _, _, _, _, _⟩ :: _)); refine m_box rfl rfl (fun b hb => ?_)))
    | (show AT _ _ _ (wpList _ _ _ []); refine c_nil (x_then ?_))
    | (show AT _ _ _ (Code.wp _ _ _); first | refine c_seq ?_ | refine c_region ?_))
  obtain ⟨rfl, rfl⟩ := hv
  repeat' (first
    | (show AT _ _ _ (wpList _ _ _ (_ :: _)); first
       | (show AT _ _ _ (wpList _ _ _ (⟨_, Op.move _, _, _, _, _⟩ :: _)); refine st_y (y_move rfl) rfl ?_)
       | (show AT _ _ _ (wpList _ _ _ (⟨_, Op.assign _, _, _, _, _⟩ :: _)); refine st_y (y_assign rfl) rfl ?_)
       | (show AT _ _ _ (wpList _ _ _ (⟨_, Op.binOp _ _ _ _ _, _, _, _, _⟩ :: _)); refine st_y (y_lss rfl rfl) rfl ?_))
    | (show AT _ _ _ (wpList _ _ _ []); refine c_nil (x_then ?_))
    | (show AT _ _ _ (Code.wp _ _ _); first | refine c_seq ?_ | refine c_region ?_ | refine c_skip (x_then ?_) | refine c_ret ?_ | refine c_if rfl (fun h => ?_) (fun h => ?_))
    | (show AT _ _ _ _; refine x_then_ret ?_))
  · refine x_ret1 Try.results42 (res_tmp rfl) (fun w c => ⟨_, _, rfl, ⟨?_, rfl⟩, c.sub (List.nil_sublist _)⟩)
    rw [if_pos (by split at h <;> omega)]
  · refine x_ret1 Try.results42 (res_tmp rfl) (fun w c => ⟨_, _, rfl, ⟨?_, rfl⟩, c.sub (List.nil_sublist _)⟩)
    rfl

theorem toMatrix_ok (w : World) (m : Mat) (u : Value) (hu : Rd w (iT m.2.2) u) (hb : m.2.2.length ≤ 1048576) :
    Does Try.prog 45 [.agg #[iV m.1, iV m.2.1, u]] w (GivesM m) := by
  obtain ⟨r, c, xs⟩ := m
  simp only at hu hb ⊢
  refine fn_enter Try.func45 rfl Try.ntmps45 rfl ?_
  repeat' (first
    | (show AT _ _ _ (wpList _ _ _ (_ :: _)); first
       | (show AT _ _ _ (wpList _ _ _ (⟨_, Op.fieldAddr _ _ _, _, _, _, _⟩ :: _)); refine st_y (y_field tabs rfl rfl rfl) rfl ?_)
       | (show AT _ _ _ (wpList _ _ _ (⟨_, Op.load _ _, _, _, _, _⟩ :: _)); refine st_y (y_load tabs rfl rfl (hc_blk 2 rfl rfl)) rfl ?_)
       | (show AT _ _ _ (wpList _ _ _ (⟨_, Op.call _, _, _, _, _⟩ :: _)); refine m_call (ent_of Try.func17 (by kernel_rfl) rfl) rfl rfl (fun w c => toIntS_ok w _ xs (c.rd hu) hb) (fun v H' hv => ?_))
       | (show AT _ _ _ (wpList _ _ _ (⟨_, Op.store _ _ _, _, _, _, _⟩ :: _)); refine m_storef 0 tabs rfl rfl rfl rfl rfl rfl ?_)
       | (show AT _ _ _ (wpList _ _ _ (⟨_, Op.box _ _, _, _, _, _⟩ :: _)); refine m_box rfl rfl (fun b1 hb1 => ?_))
       | (show AT _ _ _ (wpList _ _ _ (⟨_, Op.alloc _, _, _, _, _⟩ :: _)); refine m_alloc tabs rfl rfl (fun b2 hb2 => ?_)))
    | (show AT _ _ _ (wpList _ _ _ []); refine c_nil (x_then ?_))
    | (show AT _ _ _ (Code.wp _ _ _); first | refine c_seq ?_ | refine c_region ?_))
  obtain ⟨a, c', rfl, hs, rfl⟩ := hv
  repeat' (first
    | (show AT _ _ _ (wpList _ _ _ (_ :: _)); first
       | (show AT _ _ _ (wpList _ _ _ (⟨_, Op.load _ _, _, _, _, _⟩ :: _)); refine st_y (y_loadb 1 tabs rfl rfl rfl rfl) rfl ?_)
       | (show AT _ _ _ (wpList _ _ _ (⟨_, Op.store _ _ _, _, _, _, _⟩ :: _)); first | refine m_storef 1 tabs rfl rfl rfl rfl rfl rfl ?_ | refine m_storeb 2 tabs rfl rfl rfl rfl rfl rfl rfl ?_))
    | (show AT _ _ _ (wpList _ _ _ []); refine c_nil (x_then ?_))
    | (show AT _ _ _ (Code.wp _ _ _); first | refine c_seq ?_ | refine c_region ?_ | refine c_ret ?_))
  refine x_ret1 Try.results45 (res_cellb 2 tabs rfl rfl rfl rfl) (fun w c => ⟨_, _, rfl, ⟨a, c', rfl, hs, rfl⟩, ?_⟩)
  exact c.sub (.cons_cons _ (List.nil_sublist _))

theorem eqMatrix_ok (w : World) (m m' : Mat) (u u' : Value) (hu : Rd w (iT m.2.2) u) (hu' : Rd w (iT m'.2.2) u') :
    Does Try.prog 49 [.agg #[iV m.1, iV m.2.1, u], .agg #[iV m'.1, iV m'.2.1, u']] w (fun v H => v = .bool (decide (m = m')) ∧ H = []) := by
  obtain ⟨r, c, xs⟩ := m
  obtain ⟨r', c', xs'⟩ := m'
  simp only at hu hu' ⊢
  refine fn_enter Try.func49 rfl Try.ntmps49 rfl ?_
  repeat' (first
    | (show AT _ _ _ (wpList _ _ _ (_ :: _)); first
       | (show AT _ _ _ (wpList _ _ _ (⟨_, Op.assign _, _, _, _, _⟩ :: _)); refine st_y (y_assign rfl) rfl ?_)
       | (show AT _ _ _ (wpList _ _ _ (⟨_, Op.fieldAddr _ _ _, _, _, _, _⟩ :: _)); refine st_y (y_field tabs rfl rfl rfl) rfl ?_)
       | (show AT _ _ _ (wpList _ _ _ (⟨_, Op.load _ _, _, _, _, _⟩ :: _)); first | refine st_y (y_load tabs rfl rfl (hc_blk 0 rfl rfl)) rfl ?_ | refine st_y (y_load tabs rfl rfl (hc_blk 1 rfl rfl)) rfl ?_)
       | (show AT _ _ _ (wpList _ _ _ (⟨_, Op.binOp _ _ _ _ _, _, _, _, _⟩ :: _)); refine st_y (y_neq rfl rfl) rfl ?_)
       | (show AT _ _ _ (wpList _ _ _ (⟨_, Op.unOp _ _ _, _, _, _, _⟩ :: _)); refine st_y (y_notd rfl) rfl ?_)
       | (show AT _ _ _ (wpList _ _ _ (⟨_, Op.call _, _, _, _, _⟩ :: _)); (refine m_call (ent_of Try.func20 (by kernel_rfl) rfl) rfl rfl (fun w c => eqIntS_ok w _ _ xs xs' (c.rd hu) (c.rd hu')) ?_; rintro v H' ⟨rfl, rfl⟩))
       | (show AT _ _ _ (wpList _ _ _ (⟨_, Op.box _ _, _, _, _, _⟩ :: _)); refine m_box rfl rfl (fun b hb => ?_)))
    | (show AT _ _ _ (wpList _ _ _ []); refine c_nil (x_then ?_))
    | (show AT _ _ _ (Code.wp _ _ _); first | refine c_seq ?_ | refine c_region ?_ | refine c_skip (x_then ?_) | refine c_ret ?_ | refine c_ifnd rfl (fun h => ?_) (fun h => ?_))
    | (show AT _ _ _ _; refine x_then_ret ?_))
  all_goals refine x_ret1 Try.results49 (res_tmp rfl) (fun w c => ⟨_, _, rfl, ⟨?_, rfl⟩, c.sub (List.nil_sublist _)⟩)
  all_goals simp_all

theorem sum_take_le (l : List Nat) (i : Nat) : (l.take i).sum ≤ l.sum := by
  conv => rhs; rw [← List.take_append_drop i l]
  rw [List.sum_append]; omega
theorem sum_take_next (l : List Nat) (i : Nat) (h : i < l.length) : (l.take (i + 1)).sum = (l.take i).sum + l.getD i 0 := by
  rw [take_next (z := 0) h, List.sum_append]; simp

theorem le_sum : ∀ {l : List Nat} {x : Nat}, x ∈ l → x ≤ l.sum
  | [], x, h => by simp at h
  | y :: l, x, h => by
    rcases List.mem_cons.1 h with rfl | h
    · simp
    · have := le_sum h; simp; omega
end Go.Proofs.Ytnmhdmkfhacdbaa
