import Derived.Test.YtljgmmmgnfgbhaaDoorFmmqfr
import Derived.Test.YtljgmmmgnfgbhaaDoorRksqfr
namespace Go.Proofs.YtljgmmmgnfgbhaaDoor
open Go.Lg Go.Proofs Go.RowKit
attribute [local irreducible] Code.wp wpList bodyPost Exit.then Exit.inBlock Hp Again Calls Y AT ResV QT Qn QI wpAny wpAnyQ
set_option maxRecDepth 20000
set_option maxHeartbeats 4000000

/-! ### texts of representations -/
def fmS (p : Int) (d : List UInt8) (ms : List Mat) : Nat → List UInt8
  | 0 => d
  | i + 1 => fmS p d ms i ++ ([32] ++ fmtM p (ms.getD i mat0))
theorem fmS_eq (p : Int) (d : List UInt8) (ms : List Mat) : ∀ i, i ≤ ms.length → fmS p d ms i = d ++ (ms.take i).flatMap (fun m => 32 :: fmtM p m)
  | 0, _ => by simp [fmS]
  | i + 1, h => by
    have hl : i < ms.length := by omega
    rw [fmS, fmS_eq p d ms i (by omega), List.take_add_one, List.getElem?_eq_getElem hl, List.flatMap_append]
    simp [List.getD, hl]
theorem fmS_len (p : Int) (d : List UInt8) (ms : List Mat) : ∀ i, (fmS p d ms i).length ≤ d.length + 133 * i
  | 0 => by simp [fmS]
  | i + 1 => by
    have h1 := fmS_len p d ms i
    have h2 := fmtM_len p (ms.getD i mat0)
    rw [fmS, List.length_append, List.length_append, List.length_singleton]
    omega
theorem fmR_eq {r : Rp} (h : RepP r) : fmtR r = fmS r.p (digL r.d) r.m r.m.length := by
  rw [fmtR, if_pos h, fmS_eq _ _ _ _ (Nat.le_refl _), List.take_length]
theorem digL_in {xs : List Int} (h : ∀ n, 0 ≤ xs.getD n 0 ∧ xs.getD n 0 ≤ 4) : ∀ i, i < xs.length → 0 ≤ xs.getD i 0 ∧ xs.getD i 0 ≤ 9 := fun i _ => by
  have := h i
  omega
theorem impl_FormatRep_ok {w : World} {r : Rp} {e : Nat} {u0 u1 u2 u3 : Value} (h0 : Rd w (iT r.q.2.1) u0) (h1 : Rd w (iT r.q.2.2) u1) (h2 : Rd w (iT r.d) u2) (h3 : Rd w (matsT e r.m) u3) :
    Does Tryd.prog 7 [.agg #[iV r.p, iV r.q.1, u0, u1, u2, u3]] w (fun v H => v = sV (fmtR r) ∧ H = []) := by
  by_cases hR : RepP r
  · have hdd := RepP.dd hR
    have hml := RepP.ml hR
    have hR1 := not_not_intro hR
    rw [fmR_eq hR]
    obtain ⟨a3, c3, rfl, hs3, hc3, hd3, hg3⟩ := rd_mats h3
    refine fn_enter Tryd.func7 rfl Tryd.ntmps7 rfl ?_
    repeat' (first
      | (show AT _ _ _ (wpList _ _ _ (_ :: _)); first
         | (show AT _ _ _ (wpList _ _ _ (⟨_, Op.move _, _, _, _, _⟩ :: _)); refine st_y (y_move rfl) rfl ?_)
         | (show AT _ _ _ (wpList _ _ _ (⟨_, Op.assign _, _, _, _, _⟩ :: _)); refine st_y (y_assign rfl) rfl ?_)
         | (show AT _ _ _ (wpList _ _ _ (⟨_, Op.fieldAddr _ _ _, _, _, _, _⟩ :: _)); refine st_y (y_field tabs rfl rfl rfl) rfl ?_)
         | (show AT _ _ _ (wpList _ _ _ (⟨_, Op.load _ _, _, _, _, _⟩ :: _)); first | refine st_y (y_load tabs rfl rfl (hc_blk 0 rfl rfl)) rfl ?_ | refine st_y (y_load tabs rfl rfl (hc_blk 1 rfl rfl)) rfl ?_ | refine st_y (y_load tabs rfl rfl (hc_blk 2 rfl rfl)) rfl ?_ | refine st_y (y_load tabs rfl rfl (hc_blk 3 rfl rfl)) rfl ?_ | refine st_y (y_load tabs rfl rfl (hc_blk 4 rfl rfl)) rfl ?_ | refine st_y (y_load tabs rfl rfl (hc_blk 5 rfl rfl)) rfl ?_ | refine st_y (y_loadb 0 tabs rfl rfl rfl rfl) rfl ?_ | refine st_y (y_loadb 1 tabs rfl rfl rfl rfl) rfl ?_ | refine st_y (y_loadb 2 tabs rfl rfl rfl rfl) rfl ?_ | refine st_y (y_loadb 3 tabs rfl rfl rfl rfl) rfl ?_ | refine st_y (y_load tabs rfl rfl (hc_rd (by assumption) (by omega))) rfl ?_)
         | (show AT _ _ _ (wpList _ _ _ (⟨_, Op.indexAddr _ _ _, _, _, _, _⟩ :: _)); first | refine st_y (y_ix1 tabs rfl rfl rfl (by first | assumption | exact .mk) rfl (by omega)) rfl ?_ | refine st_y (y_ixi tabs rfl rfl rfl (by first | assumption | exact .mk) (by omega) (by omega)) rfl ?_ | refine st_y (y_ixa tabs rfl rfl rfl (by first | assumption | exact .mk) (by omega) (by omega)) rfl ?_)
         | (show AT _ _ _ (wpList _ _ _ (⟨_, Op.binOp _ _ _ _ _, _, _, _, _⟩ :: _)); first | refine st_y (y_add rfl rfl (by omega)) rfl ?_ | refine st_y (y_lss rfl rfl) rfl ?_)
         | (show AT _ _ _ (wpList _ _ _ (⟨_, Op.unOp _ _ _, _, _, _, _⟩ :: _)); first | refine st_y (y_notd rfl) rfl ?_ | refine st_y (y_not rfl) rfl ?_)
         | (show AT _ _ _ (wpList _ _ _ (⟨_, Op.call _, _, _, _, _⟩ :: _)); first | (refine m_call (ent_of Tryd.func18 (by kernel_rfl) rfl) rfl rfl (fun w c => impl_IsRep_ok (r := r) (c.rd h0) (c.rd h1) (c.rd h2) (c.rd h3)) ?_; rintro v H' ⟨rfl, rfl⟩) | (refine m_call (ent_of Tryd.func19 (by kernel_rfl) rfl) rfl rfl (fun w c => digits_ok (c.rd h2) (by omega) (digL_in hdd.1)) ?_; rintro v H' ⟨rfl, rfl⟩) | refine st_y (y_len tabs rfl rfl) rfl ?_)
         | (show AT _ _ _ (wpList _ _ _ (⟨_, Op.store _ _ _, _, _, _, _⟩ :: _)); first | refine m_storef 0 tabs rfl rfl rfl rfl rfl rfl ?_ | refine m_storef 1 tabs rfl rfl rfl rfl rfl rfl ?_ | refine m_storef 2 tabs rfl rfl rfl rfl rfl rfl ?_ | refine m_storef 3 tabs rfl rfl rfl rfl rfl rfl ?_ | refine m_storeb 0 tabs rfl rfl rfl rfl rfl rfl rfl ?_ | refine m_storeb 1 tabs rfl rfl rfl rfl rfl rfl rfl ?_ | refine m_storeb 2 tabs rfl rfl rfl rfl rfl rfl rfl ?_ | refine m_storeb 3 tabs rfl rfl rfl rfl rfl rfl rfl ?_)
         | (show AT _ _ _ (wpList _ _ _ (⟨_, Op.box _ _, _, _, _, _⟩ :: _)); first | refine m_box rfl rfl (fun b hb => ?_) | refine m_box rfl rfl (fun bq hbq => ?_))
         | (show AT _ _ _ (wpList _ _ _ (⟨_, Op.alloc _, _, _, _, _⟩ :: _)); refine m_alloc tabs rfl rfl (fun bq hbq => ?_)))
      | (show AT _ _ _ (wpList _ _ _ []); first | refine c_nil (x_then ?_) | refine c_nil (x_qn ?_) | refine c_nil ?_)
      | (show AT _ _ _ (Code.wp _ _ _); first | refine c_seq ?_ | refine c_region ?_ | refine c_skip (x_then ?_) | refine c_skip (x_blk ?_) | refine c_skip ?_ | refine c_block ?_ | refine c_ret ?_ | refine c_exit ?_ | refine c_true rfl ?_ | refine c_false rfl ?_ | refine c_ift rfl (by first | assumption | omega) ?_ | refine c_iff rfl (by first | assumption | exact not_not_intro (by assumption) | omega) ?_ | refine c_ifnd rfl (fun h => ?_) (fun h => ?_) | refine c_if rfl (fun h => ?_) (fun h => ?_) | refine c_ifn rfl (fun h => ?_) (fun h => ?_))
      | (show AT _ _ _ _; first | refine x_then ?_ | refine x_qn ?_ | refine x_then_ret ?_ | refine x_blk_ret ?_ | refine x_then_exit ?_ | refine x_blk_exit rfl ?_ | refine x_blk_other rfl ?_ | refine x_blk ?_))
    all_goals first | exact absurd hR (by assumption) | skip
    refine c_loopH (α := Nat) [1, 13, 14] (fun i => [(3, sV (fmS r.p (digL r.d) r.m i)), (15, .int .i64 i)]) (fun i => i ≤ r.m.length) (fun i => [.blk b #[iV r.p, iV r.q.1, u0, u1, u2, .slice a3 r.m.length c3] 33]) (fun i => r.m.length - i) 0 rfl (by repeat' (first | exact Sub.nil | refine Sub.cons rfl ?_ | refine Sub.consi rfl (by omega) ?_)) ?_ ?_ ?_
    · exact Nat.zero_le _
    · exact fun w' c' => c'
    · intro i hi
      have hfl := fmS_len r.p (digL r.d) r.m i
      have hdl : (digL r.d).length = r.d.length := digL_len
      by_cases hin : i < r.m.length
      · obtain ⟨m, hm⟩ : ∃ m, r.m[i]? = some m := ⟨_, List.getElem?_eq_getElem hin⟩
        obtain ⟨g1, g2, g3, g4, g5, g6⟩ := hg3 i m hm
        have hfm := fmtM_len r.p m
        have en : fmS r.p (digL r.d) r.m (i + 1) = fmS r.p (digL r.d) r.m i ++ ([32] ++ fmtM r.p m) := by rw [fmS, show r.m.getD i mat0 = m by simp [List.getD, hm]]
        repeat' (first
          | (show AT _ _ _ (wpList _ _ _ (_ :: _)); first
             | (show AT _ _ _ (wpList _ _ _ (⟨_, Op.move _, _, _, _, _⟩ :: _)); refine st_y (y_move rfl) rfl ?_)
             | (show AT _ _ _ (wpList _ _ _ (⟨_, Op.assign _, _, _, _, _⟩ :: _)); refine st_y (y_assign rfl) rfl ?_)
             | (show AT _ _ _ (wpList _ _ _ (⟨_, Op.fieldAddr _ _ _, _, _, _, _⟩ :: _)); refine st_y (y_field tabs rfl rfl rfl) rfl ?_)
             | (show AT _ _ _ (wpList _ _ _ (⟨_, Op.load _ _, _, _, _, _⟩ :: _)); first | refine st_y (y_load3 tabs rfl rfl (hc_w0 g3) (hc_w0 g4) (hc_w0 g5)) rfl ?_ | refine st_y (y_load tabs rfl rfl (hc_blk 0 rfl rfl)) rfl ?_ | refine st_y (y_load tabs rfl rfl (hc_blk 1 rfl rfl)) rfl ?_ | refine st_y (y_load tabs rfl rfl (hc_blk 2 rfl rfl)) rfl ?_ | refine st_y (y_load tabs rfl rfl (hc_blk 3 rfl rfl)) rfl ?_ | refine st_y (y_load tabs rfl rfl (hc_blk 4 rfl rfl)) rfl ?_ | refine st_y (y_load tabs rfl rfl (hc_blk 5 rfl rfl)) rfl ?_ | refine st_y (y_loadb 0 tabs rfl rfl rfl rfl) rfl ?_ | refine st_y (y_loadb 1 tabs rfl rfl rfl rfl) rfl ?_ | refine st_y (y_loadb 2 tabs rfl rfl rfl rfl) rfl ?_ | refine st_y (y_loadb 3 tabs rfl rfl rfl rfl) rfl ?_ | refine st_y (y_load tabs rfl rfl (hc_rd (by assumption) (by omega))) rfl ?_)
             | (show AT _ _ _ (wpList _ _ _ (⟨_, Op.indexAddr _ _ _, _, _, _, _⟩ :: _)); first | refine st_y (y_ixa tabs rfl rfl rfl hs3 (by omega) (by omega)) rfl ?_ | refine st_y (y_ix1 tabs rfl rfl rfl (by first | assumption | exact .mk) rfl (by omega)) rfl ?_ | refine st_y (y_ixi tabs rfl rfl rfl (by first | assumption | exact .mk) (by omega) (by omega)) rfl ?_ | refine st_y (y_ixa tabs rfl rfl rfl (by first | assumption | exact .mk) (by omega) (by omega)) rfl ?_)
             | (show AT _ _ _ (wpList _ _ _ (⟨_, Op.binOp _ _ _ _ _, _, _, _, _⟩ :: _)); first | refine st_y (y_cat rfl rfl (by simp) (by omega)) rfl ?_ | refine st_y (y_cat rfl rfl (by omega) (by rw [List.length_append]; simp; omega)) rfl ?_ | refine st_y (y_add rfl rfl (by omega)) rfl ?_ | refine st_y (y_lss rfl rfl) rfl ?_)
             | (show AT _ _ _ (wpList _ _ _ (⟨_, Op.unOp _ _ _, _, _, _, _⟩ :: _)); first | refine st_y (y_notd rfl) rfl ?_ | refine st_y (y_not rfl) rfl ?_)
             | (show AT _ _ _ (wpList _ _ _ (⟨_, Op.call _, _, _, _, _⟩ :: _)); first | (refine m_call (ent_of Tryd.func20 (by kernel_rfl) rfl) rfl rfl (fun w c => impl_FormatMatrix_ok (p := r.p) (m := m) (c.rd g6)) ?_; rintro v H' ⟨rfl, rfl⟩) | refine st_y (y_len tabs rfl rfl) rfl ?_)
             | (show AT _ _ _ (wpList _ _ _ (⟨_, Op.store _ _ _, _, _, _, _⟩ :: _)); first | refine m_storeb 0 tabs rfl rfl rfl rfl rfl rfl rfl ?_ | refine m_storef 0 tabs rfl rfl rfl rfl rfl rfl ?_ | refine m_storef 1 tabs rfl rfl rfl rfl rfl rfl ?_ | refine m_storef 2 tabs rfl rfl rfl rfl rfl rfl ?_ | refine m_storef 3 tabs rfl rfl rfl rfl rfl rfl ?_ | refine m_storeb 1 tabs rfl rfl rfl rfl rfl rfl rfl ?_ | refine m_storeb 2 tabs rfl rfl rfl rfl rfl rfl rfl ?_ | refine m_storeb 3 tabs rfl rfl rfl rfl rfl rfl rfl ?_)
             | (show AT _ _ _ (wpList _ _ _ (⟨_, Op.box _ _, _, _, _, _⟩ :: _)); refine m_box rfl rfl (fun bq hbq => ?_))
             | (show AT _ _ _ (wpList _ _ _ (⟨_, Op.alloc _, _, _, _, _⟩ :: _)); first | refine m_alloc tabs rfl rfl (fun b5 hb5 => ?_) | refine m_alloc tabs rfl rfl (fun bq hbq => ?_)))
          | (show AT _ _ _ (wpList _ _ _ []); first | refine c_nil (x_then ?_) | refine c_nil (x_qn ?_) | refine c_nil ?_)
          | (show AT _ _ _ (Code.wp _ _ _); first | refine c_seq ?_ | refine c_region ?_ | refine c_skip (x_then ?_) | refine c_skip (x_blk ?_) | refine c_skip ?_ | refine c_block ?_ | refine c_ret ?_ | refine c_exit ?_ | refine c_true rfl ?_ | refine c_false rfl ?_ | refine c_ift rfl (by first | assumption | omega) ?_ | refine c_iff rfl (by first | assumption | exact not_not_intro (by assumption) | omega) ?_ | refine c_ifnd rfl (fun h => ?_) (fun h => ?_) | refine c_if rfl (fun h => ?_) (fun h => ?_) | refine c_ifn rfl (fun h => ?_) (fun h => ?_))
          | (show AT _ _ _ _; first | refine x_then ?_ | refine x_qn ?_ | refine x_then_ret ?_ | refine x_blk_ret ?_ | refine x_then_exit ?_ | refine x_blk_exit rfl ?_ | refine x_blk_other rfl ?_ | refine x_blk ?_))
        rw [← en]
        exact x_nx (i + 1) (by repeat' (first | exact Sub.nil | refine Sub.cons rfl ?_ | refine Sub.consi rfl (by omega) ?_)) (by omega) (fun w' c' => c'.sub (by repeat' first | exact List.Sublist.refl _ | exact List.nil_sublist _ | apply List.Sublist.cons_cons | apply List.Sublist.cons)) (by omega)
      · have : i = r.m.length := by omega
        subst this
        repeat' (first
          | (show AT _ _ _ (wpList _ _ _ (_ :: _)); first
             | (show AT _ _ _ (wpList _ _ _ (⟨_, Op.move _, _, _, _, _⟩ :: _)); refine st_y (y_move rfl) rfl ?_)
             | (show AT _ _ _ (wpList _ _ _ (⟨_, Op.assign _, _, _, _, _⟩ :: _)); refine st_y (y_assign rfl) rfl ?_)
             | (show AT _ _ _ (wpList _ _ _ (⟨_, Op.fieldAddr _ _ _, _, _, _, _⟩ :: _)); refine st_y (y_field tabs rfl rfl rfl) rfl ?_)
             | (show AT _ _ _ (wpList _ _ _ (⟨_, Op.load _ _, _, _, _, _⟩ :: _)); first | refine st_y (y_load tabs rfl rfl (hc_blk 0 rfl rfl)) rfl ?_ | refine st_y (y_load tabs rfl rfl (hc_blk 1 rfl rfl)) rfl ?_ | refine st_y (y_load tabs rfl rfl (hc_blk 2 rfl rfl)) rfl ?_ | refine st_y (y_load tabs rfl rfl (hc_blk 3 rfl rfl)) rfl ?_ | refine st_y (y_load tabs rfl rfl (hc_blk 4 rfl rfl)) rfl ?_ | refine st_y (y_load tabs rfl rfl (hc_blk 5 rfl rfl)) rfl ?_ | refine st_y (y_loadb 0 tabs rfl rfl rfl rfl) rfl ?_ | refine st_y (y_loadb 1 tabs rfl rfl rfl rfl) rfl ?_ | refine st_y (y_loadb 2 tabs rfl rfl rfl rfl) rfl ?_ | refine st_y (y_loadb 3 tabs rfl rfl rfl rfl) rfl ?_ | refine st_y (y_load tabs rfl rfl (hc_rd (by assumption) (by omega))) rfl ?_)
             | (show AT _ _ _ (wpList _ _ _ (⟨_, Op.indexAddr _ _ _, _, _, _, _⟩ :: _)); first | refine st_y (y_ix1 tabs rfl rfl rfl (by first | assumption | exact .mk) rfl (by omega)) rfl ?_ | refine st_y (y_ixi tabs rfl rfl rfl (by first | assumption | exact .mk) (by omega) (by omega)) rfl ?_ | refine st_y (y_ixa tabs rfl rfl rfl (by first | assumption | exact .mk) (by omega) (by omega)) rfl ?_)
             | (show AT _ _ _ (wpList _ _ _ (⟨_, Op.binOp _ _ _ _ _, _, _, _, _⟩ :: _)); first | refine st_y (y_add rfl rfl (by omega)) rfl ?_ | refine st_y (y_lss rfl rfl) rfl ?_)
             | (show AT _ _ _ (wpList _ _ _ (⟨_, Op.unOp _ _ _, _, _, _, _⟩ :: _)); first | refine st_y (y_notd rfl) rfl ?_ | refine st_y (y_not rfl) rfl ?_)
             | (show AT _ _ _ (wpList _ _ _ (⟨_, Op.call _, _, _, _, _⟩ :: _)); refine st_y (y_len tabs rfl rfl) rfl ?_)
             | (show AT _ _ _ (wpList _ _ _ (⟨_, Op.store _ _ _, _, _, _, _⟩ :: _)); first | refine m_storef 0 tabs rfl rfl rfl rfl rfl rfl ?_ | refine m_storef 1 tabs rfl rfl rfl rfl rfl rfl ?_ | refine m_storef 2 tabs rfl rfl rfl rfl rfl rfl ?_ | refine m_storef 3 tabs rfl rfl rfl rfl rfl rfl ?_ | refine m_storeb 0 tabs rfl rfl rfl rfl rfl rfl rfl ?_ | refine m_storeb 1 tabs rfl rfl rfl rfl rfl rfl rfl ?_ | refine m_storeb 2 tabs rfl rfl rfl rfl rfl rfl rfl ?_ | refine m_storeb 3 tabs rfl rfl rfl rfl rfl rfl rfl ?_)
             | (show AT _ _ _ (wpList _ _ _ (⟨_, Op.box _ _, _, _, _, _⟩ :: _)); refine m_box rfl rfl (fun bq hbq => ?_))
             | (show AT _ _ _ (wpList _ _ _ (⟨_, Op.alloc _, _, _, _, _⟩ :: _)); refine m_alloc tabs rfl rfl (fun bq hbq => ?_)))
          | (show AT _ _ _ (wpList _ _ _ []); first | refine c_nil (x_then ?_) | refine c_nil (x_qn ?_) | refine c_nil ?_)
          | (show AT _ _ _ (Code.wp _ _ _); first | refine c_seq ?_ | refine c_region ?_ | refine c_skip (x_then ?_) | refine c_skip (x_blk ?_) | refine c_skip ?_ | refine c_block ?_ | refine c_ret ?_ | refine c_exit ?_ | refine c_true rfl ?_ | refine c_false rfl ?_ | refine c_ift rfl (by first | assumption | omega) ?_ | refine c_iff rfl (by first | assumption | exact not_not_intro (by assumption) | omega) ?_ | refine c_ifnd rfl (fun h => ?_) (fun h => ?_) | refine c_if rfl (fun h => ?_) (fun h => ?_) | refine c_ifn rfl (fun h => ?_) (fun h => ?_))
          | (show AT _ _ _ _; first | refine x_then ?_ | refine x_qn ?_ | refine x_then_ret ?_ | refine x_blk_ret ?_ | refine x_then_exit ?_ | refine x_blk_exit rfl ?_ | refine x_blk_other rfl ?_ | refine x_blk ?_))
        exact x_ret1 Tryd.results7 (res_tmp rfl) (fun w' c' => ⟨_, _, rfl, ⟨rfl, rfl⟩, c'.sub (List.nil_sublist _)⟩)
  · have e0 : fmtR r = [] := by rw [fmtR, if_neg hR]
    rw [e0]
    refine fn_enter Tryd.func7 rfl Tryd.ntmps7 rfl ?_
    repeat' (first
      | (show AT _ _ _ (wpList _ _ _ (_ :: _)); first
         | (show AT _ _ _ (wpList _ _ _ (⟨_, Op.move _, _, _, _, _⟩ :: _)); refine st_y (y_move rfl) rfl ?_)
         | (show AT _ _ _ (wpList _ _ _ (⟨_, Op.assign _, _, _, _, _⟩ :: _)); refine st_y (y_assign rfl) rfl ?_)
         | (show AT _ _ _ (wpList _ _ _ (⟨_, Op.fieldAddr _ _ _, _, _, _, _⟩ :: _)); refine st_y (y_field tabs rfl rfl rfl) rfl ?_)
         | (show AT _ _ _ (wpList _ _ _ (⟨_, Op.load _ _, _, _, _, _⟩ :: _)); first | refine st_y (y_load tabs rfl rfl (hc_blk 0 rfl rfl)) rfl ?_ | refine st_y (y_load tabs rfl rfl (hc_blk 1 rfl rfl)) rfl ?_ | refine st_y (y_load tabs rfl rfl (hc_blk 2 rfl rfl)) rfl ?_ | refine st_y (y_load tabs rfl rfl (hc_blk 3 rfl rfl)) rfl ?_ | refine st_y (y_load tabs rfl rfl (hc_blk 4 rfl rfl)) rfl ?_ | refine st_y (y_load tabs rfl rfl (hc_blk 5 rfl rfl)) rfl ?_ | refine st_y (y_loadb 0 tabs rfl rfl rfl rfl) rfl ?_ | refine st_y (y_loadb 1 tabs rfl rfl rfl rfl) rfl ?_ | refine st_y (y_loadb 2 tabs rfl rfl rfl rfl) rfl ?_ | refine st_y (y_loadb 3 tabs rfl rfl rfl rfl) rfl ?_ | refine st_y (y_load tabs rfl rfl (hc_rd (by assumption) (by omega))) rfl ?_)
         | (show AT _ _ _ (wpList _ _ _ (⟨_, Op.indexAddr _ _ _, _, _, _, _⟩ :: _)); first | refine st_y (y_ix1 tabs rfl rfl rfl (by first | assumption | exact .mk) rfl (by omega)) rfl ?_ | refine st_y (y_ixi tabs rfl rfl rfl (by first | assumption | exact .mk) (by omega) (by omega)) rfl ?_ | refine st_y (y_ixa tabs rfl rfl rfl (by first | assumption | exact .mk) (by omega) (by omega)) rfl ?_)
         | (show AT _ _ _ (wpList _ _ _ (⟨_, Op.binOp _ _ _ _ _, _, _, _, _⟩ :: _)); first | refine st_y (y_add rfl rfl (by omega)) rfl ?_ | refine st_y (y_lss rfl rfl) rfl ?_)
         | (show AT _ _ _ (wpList _ _ _ (⟨_, Op.unOp _ _ _, _, _, _, _⟩ :: _)); first | refine st_y (y_notd rfl) rfl ?_ | refine st_y (y_not rfl) rfl ?_)
         | (show AT _ _ _ (wpList _ _ _ (⟨_, Op.call _, _, _, _, _⟩ :: _)); first | (refine m_call (ent_of Tryd.func18 (by kernel_rfl) rfl) rfl rfl (fun w c => impl_IsRep_ok (r := r) (c.rd h0) (c.rd h1) (c.rd h2) (c.rd h3)) ?_; rintro v H' ⟨rfl, rfl⟩) | refine st_y (y_len tabs rfl rfl) rfl ?_)
         | (show AT _ _ _ (wpList _ _ _ (⟨_, Op.store _ _ _, _, _, _, _⟩ :: _)); first | refine m_storef 0 tabs rfl rfl rfl rfl rfl rfl ?_ | refine m_storef 1 tabs rfl rfl rfl rfl rfl rfl ?_ | refine m_storef 2 tabs rfl rfl rfl rfl rfl rfl ?_ | refine m_storef 3 tabs rfl rfl rfl rfl rfl rfl ?_ | refine m_storeb 0 tabs rfl rfl rfl rfl rfl rfl rfl ?_ | refine m_storeb 1 tabs rfl rfl rfl rfl rfl rfl rfl ?_ | refine m_storeb 2 tabs rfl rfl rfl rfl rfl rfl rfl ?_ | refine m_storeb 3 tabs rfl rfl rfl rfl rfl rfl rfl ?_)
         | (show AT _ _ _ (wpList _ _ _ (⟨_, Op.box _ _, _, _, _, _⟩ :: _)); first | refine m_box rfl rfl (fun b hb => ?_) | refine m_box rfl rfl (fun bq hbq => ?_))
         | (show AT _ _ _ (wpList _ _ _ (⟨_, Op.alloc _, _, _, _, _⟩ :: _)); refine m_alloc tabs rfl rfl (fun bq hbq => ?_)))
      | (show AT _ _ _ (wpList _ _ _ []); first | refine c_nil (x_then ?_) | refine c_nil (x_qn ?_) | refine c_nil ?_)
      | (show AT _ _ _ (Code.wp _ _ _); first | refine c_seq ?_ | refine c_region ?_ | refine c_skip (x_then ?_) | refine c_skip (x_blk ?_) | refine c_skip ?_ | refine c_block ?_ | refine c_ret ?_ | refine c_exit ?_ | refine c_true rfl ?_ | refine c_false rfl ?_ | refine c_ift rfl (by first | assumption | omega) ?_ | refine c_iff rfl (by first | assumption | exact not_not_intro (by assumption) | omega) ?_ | refine c_ifnd rfl (fun h => ?_) (fun h => ?_) | refine c_if rfl (fun h => ?_) (fun h => ?_) | refine c_ifn rfl (fun h => ?_) (fun h => ?_))
      | (show AT _ _ _ _; first | refine x_then ?_ | refine x_qn ?_ | refine x_then_ret ?_ | refine x_blk_ret ?_ | refine x_then_exit ?_ | refine x_blk_exit rfl ?_ | refine x_blk_other rfl ?_ | refine x_blk ?_))
    all_goals first | exact absurd (by assumption) hR | skip
    exact x_ret1 Tryd.results7 (res_tmp rfl) (fun w' c' => ⟨_, _, rfl, ⟨rfl, rfl⟩, c'.sub (List.nil_sublist _)⟩)
theorem spec_FormatRep_ok {w : World} {r : Rp} {e : Nat} {u0 u1 u2 u3 : Value} (h0 : Rd w (iT r.q.2.1) u0) (h1 : Rd w (iT r.q.2.2) u1) (h2 : Rd w (iT r.d) u2) (h3 : Rd w (matsT e r.m) u3) :
    Does Tryd.prog 5 [.agg #[iV r.p, iV r.q.1, u0, u1, u2, u3]] w (fun v H => v = sV (fmtR r) ∧ H = []) := by
  by_cases hR : RepP r
  · have hdd := RepP.dd hR
    have hml := RepP.ml hR
    have hd9 := digL_in hdd.1
    rw [fmR_eq hR]
    obtain ⟨a3, c3, rfl, hs3, hc3, hd3, hg3⟩ := rd_mats h3
    obtain ⟨a2, c2, rfl, hs2, hc2, hd2, hg2⟩ := h2.ints
    refine fn_enter Tryd.func5 rfl Tryd.ntmps5 rfl ?_
    repeat' (first
      | (show AT _ _ _ (wpList _ _ _ (_ :: _)); first
         | (show AT _ _ _ (wpList _ _ _ (⟨_, Op.move _, _, _, _, _⟩ :: _)); refine st_y (y_move rfl) rfl ?_)
         | (show AT _ _ _ (wpList _ _ _ (⟨_, Op.assign _, _, _, _, _⟩ :: _)); refine st_y (y_assign rfl) rfl ?_)
         | (show AT _ _ _ (wpList _ _ _ (⟨_, Op.fieldAddr _ _ _, _, _, _, _⟩ :: _)); refine st_y (y_field tabs rfl rfl rfl) rfl ?_)
         | (show AT _ _ _ (wpList _ _ _ (⟨_, Op.load _ _, _, _, _, _⟩ :: _)); first | refine st_y (y_load tabs rfl rfl (hc_blk 0 rfl rfl)) rfl ?_ | refine st_y (y_load tabs rfl rfl (hc_blk 1 rfl rfl)) rfl ?_ | refine st_y (y_load tabs rfl rfl (hc_blk 2 rfl rfl)) rfl ?_ | refine st_y (y_load tabs rfl rfl (hc_blk 3 rfl rfl)) rfl ?_ | refine st_y (y_load tabs rfl rfl (hc_blk 4 rfl rfl)) rfl ?_ | refine st_y (y_load tabs rfl rfl (hc_blk 5 rfl rfl)) rfl ?_ | refine st_y (y_loadb 0 tabs rfl rfl rfl rfl) rfl ?_ | refine st_y (y_loadb 1 tabs rfl rfl rfl rfl) rfl ?_ | refine st_y (y_loadb 2 tabs rfl rfl rfl rfl) rfl ?_ | refine st_y (y_loadb 3 tabs rfl rfl rfl rfl) rfl ?_ | refine st_y (y_load tabs rfl rfl (hc_rd (by assumption) (by omega))) rfl ?_)
         | (show AT _ _ _ (wpList _ _ _ (⟨_, Op.indexAddr _ _ _, _, _, _, _⟩ :: _)); first | refine st_y (y_ix1 tabs rfl rfl rfl (by first | assumption | exact .mk) rfl (by omega)) rfl ?_ | refine st_y (y_ixi tabs rfl rfl rfl (by first | assumption | exact .mk) (by omega) (by omega)) rfl ?_ | refine st_y (y_ixa tabs rfl rfl rfl (by first | assumption | exact .mk) (by omega) (by omega)) rfl ?_)
         | (show AT _ _ _ (wpList _ _ _ (⟨_, Op.binOp _ _ _ _ _, _, _, _, _⟩ :: _)); first | refine st_y (y_add rfl rfl (by omega)) rfl ?_ | refine st_y (y_lss rfl rfl) rfl ?_)
         | (show AT _ _ _ (wpList _ _ _ (⟨_, Op.unOp _ _ _, _, _, _, _⟩ :: _)); first | refine st_y (y_notd rfl) rfl ?_ | refine st_y (y_not rfl) rfl ?_)
         | (show AT _ _ _ (wpList _ _ _ (⟨_, Op.call _, _, _, _, _⟩ :: _)); first | (refine m_call (ent_of Tryd.func12 (by kernel_rfl) rfl) rfl rfl (fun w c => spec_IsRep_ok (r := r) (c.rd h0) (c.rd h1) (c.rd h2) (c.rd h3)) ?_; rintro v H' ⟨rfl, rfl⟩) | refine st_y (y_len tabs rfl rfl) rfl ?_)
         | (show AT _ _ _ (wpList _ _ _ (⟨_, Op.box _ _, _, _, _, _⟩ :: _)); first | refine m_box rfl rfl (fun b hb => ?_) | refine m_box rfl rfl (fun bq hbq => ?_))
         | (show AT _ _ _ (wpList _ _ _ (⟨_, Op.alloc _, _, _, _, _⟩ :: _)); refine m_alloc tabs rfl rfl (fun bq hbq => ?_)))
      | (show AT _ _ _ (wpList _ _ _ []); first | refine c_nil (x_then ?_) | refine c_nil (x_qn ?_) | refine c_nil ?_)
      | (show AT _ _ _ (Code.wp _ _ _); first | refine c_seq ?_ | refine c_region ?_ | refine c_skip (x_then ?_) | refine c_skip (x_blk ?_) | refine c_skip ?_ | refine c_block ?_ | refine c_ret ?_ | refine c_exit ?_ | refine c_true rfl ?_ | refine c_false rfl ?_ | refine c_ift rfl (by first | assumption | omega) ?_ | refine c_iff rfl (by first | assumption | exact not_not_intro (by assumption) | omega) ?_ | refine c_ifnd rfl (fun h => ?_) (fun h => ?_) | refine c_if rfl (fun h => ?_) (fun h => ?_) | refine c_ifn rfl (fun h => ?_) (fun h => ?_))
      | (show QT _ _ _ _ _ _ (_ :: _); first
         | (show QT _ _ _ _ _ _ (⟨_, Op.move _, _, _, _, _⟩ :: _); refine q_y (y_move rfl) rfl ?_)
         | (show QT _ _ _ _ _ _ (⟨_, Op.assign _, _, _, _, _⟩ :: _); refine q_y (y_assign rfl) rfl ?_)
         | (show QT _ _ _ _ _ _ (⟨_, Op.fieldAddr _ _ _, _, _, _, _⟩ :: _); refine q_y (y_field tabs rfl rfl rfl) rfl ?_)
         | (show QT _ _ _ _ _ _ (⟨_, Op.load _ _, _, _, _, _⟩ :: _); first | refine q_y (y_load tabs rfl rfl (hc_blk 0 rfl rfl)) rfl ?_ | refine q_y (y_load tabs rfl rfl (hc_blk 1 rfl rfl)) rfl ?_ | refine q_y (y_load tabs rfl rfl (hc_blk 2 rfl rfl)) rfl ?_ | refine q_y (y_load tabs rfl rfl (hc_blk 3 rfl rfl)) rfl ?_ | refine q_y (y_load tabs rfl rfl (hc_blk 4 rfl rfl)) rfl ?_ | refine q_y (y_load tabs rfl rfl (hc_blk 5 rfl rfl)) rfl ?_ | refine q_y (y_loadb 0 tabs rfl rfl rfl rfl) rfl ?_ | refine q_y (y_loadb 1 tabs rfl rfl rfl rfl) rfl ?_ | refine q_y (y_loadb 2 tabs rfl rfl rfl rfl) rfl ?_ | refine q_y (y_loadb 3 tabs rfl rfl rfl rfl) rfl ?_ | refine q_y (y_load tabs rfl rfl (hc_rd (by assumption) (by omega))) rfl ?_)
         | (show QT _ _ _ _ _ _ (⟨_, Op.indexAddr _ _ _, _, _, _, _⟩ :: _); first | refine q_y (y_ix1 tabs rfl rfl rfl (by first | assumption | exact .mk) rfl (by omega)) rfl ?_ | refine q_y (y_ixi tabs rfl rfl rfl (by first | assumption | exact .mk) (by omega) (by omega)) rfl ?_ | refine q_y (y_ixa tabs rfl rfl rfl (by first | assumption | exact .mk) (by omega) (by omega)) rfl ?_)
         | (show QT _ _ _ _ _ _ (⟨_, Op.binOp _ _ _ _ _, _, _, _, _⟩ :: _); first | refine q_y (y_add rfl rfl (by omega)) rfl ?_ | refine q_y (y_lss rfl rfl) rfl ?_)
         | (show QT _ _ _ _ _ _ (⟨_, Op.unOp _ _ _, _, _, _, _⟩ :: _); first | refine q_y (y_notd rfl) rfl ?_ | refine q_y (y_not rfl) rfl ?_)
         | (show QT _ _ _ _ _ _ (⟨_, Op.call _, _, _, _, _⟩ :: _); refine q_y (y_len tabs rfl rfl) rfl ?_))
      | (show QT _ _ _ _ _ _ []; first | refine q_nil (x_then ?_) | refine q_nil ?_)
      | (show AT _ _ _ (Qk _ _ _); refine x_one ?_)
      | (show AT _ _ _ _; first | refine x_then ?_ | refine x_qn ?_ | refine x_then_ret ?_ | refine x_blk_ret ?_ | refine x_then_exit ?_ | refine x_blk_exit rfl ?_ | refine x_blk_other rfl ?_ | refine x_blk ?_))
    all_goals first | exact absurd hR (by assumption) | skip
    refine c_loopH (α := Nat) [1] (fun i => [(3, sV (digL (r.d.take i))), (4, .int .i64 i)]) (fun i => i ≤ r.d.length) (fun i => [.blk b #[iV r.p, iV r.q.1, u0, u1, .slice a2 r.d.length c2, .slice a3 r.m.length c3] 33]) (fun i => r.d.length - i) 0 rfl (by repeat' (first | exact Sub.nil | refine Sub.cons rfl ?_ | refine Sub.consi rfl (by omega) ?_)) ?_ ?_ ?_
    · exact Nat.zero_le _
    · exact fun w' c' => c'
    · intro i hi
      by_cases hin : i < r.d.length
      · have gd := hg2 i hin
        have hx := hd9 i hin
        have hdl : (digL (r.d.take i)).length ≤ 5 := by rw [digL_len, List.length_take]; omega
        repeat' (first
          | (show AT _ _ _ (wpList _ _ _ (_ :: _)); first
             | (show AT _ _ _ (wpList _ _ _ (⟨_, Op.move _, _, _, _, _⟩ :: _)); refine st_y (y_move rfl) rfl ?_)
             | (show AT _ _ _ (wpList _ _ _ (⟨_, Op.assign _, _, _, _, _⟩ :: _)); refine st_y (y_assign rfl) rfl ?_)
             | (show AT _ _ _ (wpList _ _ _ (⟨_, Op.fieldAddr _ _ _, _, _, _, _⟩ :: _)); refine st_y (y_field tabs rfl rfl rfl) rfl ?_)
             | (show AT _ _ _ (wpList _ _ _ (⟨_, Op.load _ _, _, _, _, _⟩ :: _)); first | refine st_y (y_load tabs rfl rfl (hc_w0 gd)) rfl ?_ | refine st_y (y_load tabs rfl rfl (hc_blk 0 rfl rfl)) rfl ?_ | refine st_y (y_load tabs rfl rfl (hc_blk 1 rfl rfl)) rfl ?_ | refine st_y (y_load tabs rfl rfl (hc_blk 2 rfl rfl)) rfl ?_ | refine st_y (y_load tabs rfl rfl (hc_blk 3 rfl rfl)) rfl ?_ | refine st_y (y_load tabs rfl rfl (hc_blk 4 rfl rfl)) rfl ?_ | refine st_y (y_load tabs rfl rfl (hc_blk 5 rfl rfl)) rfl ?_ | refine st_y (y_loadb 0 tabs rfl rfl rfl rfl) rfl ?_ | refine st_y (y_loadb 1 tabs rfl rfl rfl rfl) rfl ?_ | refine st_y (y_loadb 2 tabs rfl rfl rfl rfl) rfl ?_ | refine st_y (y_loadb 3 tabs rfl rfl rfl rfl) rfl ?_ | refine st_y (y_load tabs rfl rfl (hc_rd (by assumption) (by omega))) rfl ?_)
             | (show AT _ _ _ (wpList _ _ _ (⟨_, Op.indexAddr _ _ _, _, _, _, _⟩ :: _)); first | refine st_y (y_ix1 tabs (j := i) rfl rfl rfl hs2 rfl hin) rfl ?_ | refine st_y (y_ix1 tabs rfl rfl rfl (by first | assumption | exact .mk) rfl (by omega)) rfl ?_ | refine st_y (y_ixi tabs rfl rfl rfl (by first | assumption | exact .mk) (by omega) (by omega)) rfl ?_ | refine st_y (y_ixa tabs rfl rfl rfl (by first | assumption | exact .mk) (by omega) (by omega)) rfl ?_)
             | (show AT _ _ _ (wpList _ _ _ (⟨_, Op.binOp _ _ _ _ _, _, _, _, _⟩ :: _)); first | refine st_y (y_cat rfl rfl (by omega) (by simp)) rfl ?_ | refine st_y (y_add rfl rfl (by omega)) rfl ?_ | refine st_y (y_lss rfl rfl) rfl ?_)
             | (show AT _ _ _ (wpList _ _ _ (⟨_, Op.unOp _ _ _, _, _, _, _⟩ :: _)); first | refine st_y (y_notd rfl) rfl ?_ | refine st_y (y_not rfl) rfl ?_)
             | (show AT _ _ _ (wpList _ _ _ (⟨_, Op.call _, _, _, _, _⟩ :: _)); first | (refine m_call (ent_of Tryd.func13 (by kernel_rfl) rfl) rfl rfl (fun w c => spec_FormatInt_ok (n := r.d.getD i 0) hx.1 hx.2) ?_; rintro v H' ⟨rfl, rfl⟩) | refine st_y (y_len tabs rfl rfl) rfl ?_)
             | (show AT _ _ _ (wpList _ _ _ (⟨_, Op.box _ _, _, _, _, _⟩ :: _)); refine m_box rfl rfl (fun bq hbq => ?_))
             | (show AT _ _ _ (wpList _ _ _ (⟨_, Op.alloc _, _, _, _, _⟩ :: _)); refine m_alloc tabs rfl rfl (fun bq hbq => ?_)))
          | (show AT _ _ _ (wpList _ _ _ []); first | refine c_nil (x_then ?_) | refine c_nil (x_qn ?_) | refine c_nil ?_)
          | (show AT _ _ _ (Code.wp _ _ _); first | refine c_seq ?_ | refine c_region ?_ | refine c_skip (x_then ?_) | refine c_skip (x_blk ?_) | refine c_skip ?_ | refine c_block ?_ | refine c_ret ?_ | refine c_exit ?_ | refine c_true rfl ?_ | refine c_false rfl ?_ | refine c_ift rfl (by first | assumption | omega) ?_ | refine c_iff rfl (by first | assumption | exact not_not_intro (by assumption) | omega) ?_ | refine c_ifnd rfl (fun h => ?_) (fun h => ?_) | refine c_if rfl (fun h => ?_) (fun h => ?_) | refine c_ifn rfl (fun h => ?_) (fun h => ?_))
          | (show QT _ _ _ _ _ _ (_ :: _); first
             | (show QT _ _ _ _ _ _ (⟨_, Op.move _, _, _, _, _⟩ :: _); refine q_y (y_move rfl) rfl ?_)
             | (show QT _ _ _ _ _ _ (⟨_, Op.assign _, _, _, _, _⟩ :: _); refine q_y (y_assign rfl) rfl ?_)
             | (show QT _ _ _ _ _ _ (⟨_, Op.fieldAddr _ _ _, _, _, _, _⟩ :: _); refine q_y (y_field tabs rfl rfl rfl) rfl ?_)
             | (show QT _ _ _ _ _ _ (⟨_, Op.load _ _, _, _, _, _⟩ :: _); first | refine q_y (y_load tabs rfl rfl (hc_w0 gd)) rfl ?_ | refine q_y (y_load tabs rfl rfl (hc_blk 0 rfl rfl)) rfl ?_ | refine q_y (y_load tabs rfl rfl (hc_blk 1 rfl rfl)) rfl ?_ | refine q_y (y_load tabs rfl rfl (hc_blk 2 rfl rfl)) rfl ?_ | refine q_y (y_load tabs rfl rfl (hc_blk 3 rfl rfl)) rfl ?_ | refine q_y (y_load tabs rfl rfl (hc_blk 4 rfl rfl)) rfl ?_ | refine q_y (y_load tabs rfl rfl (hc_blk 5 rfl rfl)) rfl ?_ | refine q_y (y_loadb 0 tabs rfl rfl rfl rfl) rfl ?_ | refine q_y (y_loadb 1 tabs rfl rfl rfl rfl) rfl ?_ | refine q_y (y_loadb 2 tabs rfl rfl rfl rfl) rfl ?_ | refine q_y (y_loadb 3 tabs rfl rfl rfl rfl) rfl ?_ | refine q_y (y_load tabs rfl rfl (hc_rd (by assumption) (by omega))) rfl ?_)
             | (show QT _ _ _ _ _ _ (⟨_, Op.indexAddr _ _ _, _, _, _, _⟩ :: _); first | refine q_y (y_ix1 tabs (j := i) rfl rfl rfl hs2 rfl hin) rfl ?_ | refine q_y (y_ix1 tabs rfl rfl rfl (by first | assumption | exact .mk) rfl (by omega)) rfl ?_ | refine q_y (y_ixi tabs rfl rfl rfl (by first | assumption | exact .mk) (by omega) (by omega)) rfl ?_ | refine q_y (y_ixa tabs rfl rfl rfl (by first | assumption | exact .mk) (by omega) (by omega)) rfl ?_)
             | (show QT _ _ _ _ _ _ (⟨_, Op.binOp _ _ _ _ _, _, _, _, _⟩ :: _); first | refine q_y (y_cat rfl rfl (by omega) (by simp)) rfl ?_ | refine q_y (y_add rfl rfl (by omega)) rfl ?_ | refine q_y (y_lss rfl rfl) rfl ?_)
             | (show QT _ _ _ _ _ _ (⟨_, Op.unOp _ _ _, _, _, _, _⟩ :: _); first | refine q_y (y_notd rfl) rfl ?_ | refine q_y (y_not rfl) rfl ?_)
             | (show QT _ _ _ _ _ _ (⟨_, Op.call _, _, _, _, _⟩ :: _); refine q_y (y_len tabs rfl rfl) rfl ?_))
          | (show QT _ _ _ _ _ _ []; first | refine q_nil (x_then ?_) | refine q_nil ?_)
          | (show AT _ _ _ (Qk _ _ _); refine x_one ?_)
          | (show AT _ _ _ _; first | refine x_then ?_ | refine x_qn ?_ | refine x_then_ret ?_ | refine x_blk_ret ?_ | refine x_then_exit ?_ | refine x_blk_exit rfl ?_ | refine x_blk_other rfl ?_ | refine x_blk ?_))
        rw [← digL_next hin]
        exact x_nx (i + 1) (by repeat' (first | exact Sub.nil | refine Sub.cons rfl ?_ | refine Sub.consi rfl (by omega) ?_)) (by omega) (fun w' c' => c') (by omega)
      · have : i = r.d.length := by omega
        subst this
        rw [List.take_length]
        repeat' (first
          | (show AT _ _ _ (wpList _ _ _ (_ :: _)); first
             | (show AT _ _ _ (wpList _ _ _ (⟨_, Op.move _, _, _, _, _⟩ :: _)); refine st_y (y_move rfl) rfl ?_)
             | (show AT _ _ _ (wpList _ _ _ (⟨_, Op.assign _, _, _, _, _⟩ :: _)); refine st_y (y_assign rfl) rfl ?_)
             | (show AT _ _ _ (wpList _ _ _ (⟨_, Op.fieldAddr _ _ _, _, _, _, _⟩ :: _)); refine st_y (y_field tabs rfl rfl rfl) rfl ?_)
             | (show AT _ _ _ (wpList _ _ _ (⟨_, Op.load _ _, _, _, _, _⟩ :: _)); first | refine st_y (y_load tabs rfl rfl (hc_blk 0 rfl rfl)) rfl ?_ | refine st_y (y_load tabs rfl rfl (hc_blk 1 rfl rfl)) rfl ?_ | refine st_y (y_load tabs rfl rfl (hc_blk 2 rfl rfl)) rfl ?_ | refine st_y (y_load tabs rfl rfl (hc_blk 3 rfl rfl)) rfl ?_ | refine st_y (y_load tabs rfl rfl (hc_blk 4 rfl rfl)) rfl ?_ | refine st_y (y_load tabs rfl rfl (hc_blk 5 rfl rfl)) rfl ?_ | refine st_y (y_loadb 0 tabs rfl rfl rfl rfl) rfl ?_ | refine st_y (y_loadb 1 tabs rfl rfl rfl rfl) rfl ?_ | refine st_y (y_loadb 2 tabs rfl rfl rfl rfl) rfl ?_ | refine st_y (y_loadb 3 tabs rfl rfl rfl rfl) rfl ?_ | refine st_y (y_load tabs rfl rfl (hc_rd (by assumption) (by omega))) rfl ?_)
             | (show AT _ _ _ (wpList _ _ _ (⟨_, Op.indexAddr _ _ _, _, _, _, _⟩ :: _)); first | refine st_y (y_ix1 tabs rfl rfl rfl (by first | assumption | exact .mk) rfl (by omega)) rfl ?_ | refine st_y (y_ixi tabs rfl rfl rfl (by first | assumption | exact .mk) (by omega) (by omega)) rfl ?_ | refine st_y (y_ixa tabs rfl rfl rfl (by first | assumption | exact .mk) (by omega) (by omega)) rfl ?_)
             | (show AT _ _ _ (wpList _ _ _ (⟨_, Op.binOp _ _ _ _ _, _, _, _, _⟩ :: _)); first | refine st_y (y_add rfl rfl (by omega)) rfl ?_ | refine st_y (y_lss rfl rfl) rfl ?_)
             | (show AT _ _ _ (wpList _ _ _ (⟨_, Op.unOp _ _ _, _, _, _, _⟩ :: _)); first | refine st_y (y_notd rfl) rfl ?_ | refine st_y (y_not rfl) rfl ?_)
             | (show AT _ _ _ (wpList _ _ _ (⟨_, Op.call _, _, _, _, _⟩ :: _)); refine st_y (y_len tabs rfl rfl) rfl ?_)
             | (show AT _ _ _ (wpList _ _ _ (⟨_, Op.box _ _, _, _, _, _⟩ :: _)); refine m_box rfl rfl (fun bq hbq => ?_))
             | (show AT _ _ _ (wpList _ _ _ (⟨_, Op.alloc _, _, _, _, _⟩ :: _)); refine m_alloc tabs rfl rfl (fun bq hbq => ?_)))
          | (show AT _ _ _ (wpList _ _ _ []); first | refine c_nil (x_then ?_) | refine c_nil (x_qn ?_) | refine c_nil ?_)
          | (show AT _ _ _ (Code.wp _ _ _); first | refine c_seq ?_ | refine c_region ?_ | refine c_skip (x_then ?_) | refine c_skip (x_blk ?_) | refine c_skip ?_ | refine c_block ?_ | refine c_ret ?_ | refine c_exit ?_ | refine c_true rfl ?_ | refine c_false rfl ?_ | refine c_ift rfl (by first | assumption | omega) ?_ | refine c_iff rfl (by first | assumption | exact not_not_intro (by assumption) | omega) ?_ | refine c_ifnd rfl (fun h => ?_) (fun h => ?_) | refine c_if rfl (fun h => ?_) (fun h => ?_) | refine c_ifn rfl (fun h => ?_) (fun h => ?_))
          | (show QT _ _ _ _ _ _ (_ :: _); first
             | (show QT _ _ _ _ _ _ (⟨_, Op.move _, _, _, _, _⟩ :: _); refine q_y (y_move rfl) rfl ?_)
             | (show QT _ _ _ _ _ _ (⟨_, Op.assign _, _, _, _, _⟩ :: _); refine q_y (y_assign rfl) rfl ?_)
             | (show QT _ _ _ _ _ _ (⟨_, Op.fieldAddr _ _ _, _, _, _, _⟩ :: _); refine q_y (y_field tabs rfl rfl rfl) rfl ?_)
             | (show QT _ _ _ _ _ _ (⟨_, Op.load _ _, _, _, _, _⟩ :: _); first | refine q_y (y_load tabs rfl rfl (hc_blk 0 rfl rfl)) rfl ?_ | refine q_y (y_load tabs rfl rfl (hc_blk 1 rfl rfl)) rfl ?_ | refine q_y (y_load tabs rfl rfl (hc_blk 2 rfl rfl)) rfl ?_ | refine q_y (y_load tabs rfl rfl (hc_blk 3 rfl rfl)) rfl ?_ | refine q_y (y_load tabs rfl rfl (hc_blk 4 rfl rfl)) rfl ?_ | refine q_y (y_load tabs rfl rfl (hc_blk 5 rfl rfl)) rfl ?_ | refine q_y (y_loadb 0 tabs rfl rfl rfl rfl) rfl ?_ | refine q_y (y_loadb 1 tabs rfl rfl rfl rfl) rfl ?_ | refine q_y (y_loadb 2 tabs rfl rfl rfl rfl) rfl ?_ | refine q_y (y_loadb 3 tabs rfl rfl rfl rfl) rfl ?_ | refine q_y (y_load tabs rfl rfl (hc_rd (by assumption) (by omega))) rfl ?_)
             | (show QT _ _ _ _ _ _ (⟨_, Op.indexAddr _ _ _, _, _, _, _⟩ :: _); first | refine q_y (y_ix1 tabs rfl rfl rfl (by first | assumption | exact .mk) rfl (by omega)) rfl ?_ | refine q_y (y_ixi tabs rfl rfl rfl (by first | assumption | exact .mk) (by omega) (by omega)) rfl ?_ | refine q_y (y_ixa tabs rfl rfl rfl (by first | assumption | exact .mk) (by omega) (by omega)) rfl ?_)
             | (show QT _ _ _ _ _ _ (⟨_, Op.binOp _ _ _ _ _, _, _, _, _⟩ :: _); first | refine q_y (y_add rfl rfl (by omega)) rfl ?_ | refine q_y (y_lss rfl rfl) rfl ?_)
             | (show QT _ _ _ _ _ _ (⟨_, Op.unOp _ _ _, _, _, _, _⟩ :: _); first | refine q_y (y_notd rfl) rfl ?_ | refine q_y (y_not rfl) rfl ?_)
             | (show QT _ _ _ _ _ _ (⟨_, Op.call _, _, _, _, _⟩ :: _); refine q_y (y_len tabs rfl rfl) rfl ?_))
          | (show QT _ _ _ _ _ _ []; first | refine q_nil (x_then ?_) | refine q_nil ?_)
          | (show AT _ _ _ (Qk _ _ _); refine x_one ?_)
          | (show AT _ _ _ _; first | refine x_then ?_ | refine x_qn ?_ | refine x_then_ret ?_ | refine x_blk_ret ?_ | refine x_then_exit ?_ | refine x_blk_exit rfl ?_ | refine x_blk_other rfl ?_ | refine x_blk ?_))
        have hdl : (digL r.d).length = r.d.length := digL_len
        refine c_loopH (α := Nat) [1] (fun i => [(3, sV (fmS r.p (digL r.d) r.m i)), (5, .int .i64 i)]) (fun i => i ≤ r.m.length) (fun i => [.blk b #[iV r.p, iV r.q.1, u0, u1, .slice a2 r.d.length c2, .slice a3 r.m.length c3] 33]) (fun i => r.m.length - i) 0 rfl (by repeat' (first | exact Sub.nil | refine Sub.cons rfl ?_ | refine Sub.consi rfl (by omega) ?_)) ?_ ?_ ?_
        · exact Nat.zero_le _
        · exact fun w' c' => c'
        · intro i hi
          have hfl := fmS_len r.p (digL r.d) r.m i
          by_cases hin : i < r.m.length
          · obtain ⟨m, hm⟩ : ∃ m, r.m[i]? = some m := ⟨_, List.getElem?_eq_getElem hin⟩
            obtain ⟨g1, g2, g3, g4, g5, g6⟩ := hg3 i m hm
            have hfm := fmtM_len r.p m
            have en : fmS r.p (digL r.d) r.m (i + 1) = fmS r.p (digL r.d) r.m i ++ ([32] ++ fmtM r.p m) := by rw [fmS, show r.m.getD i mat0 = m by simp [List.getD, hm]]
            repeat' (first
              | (show AT _ _ _ (wpList _ _ _ (_ :: _)); first
                 | (show AT _ _ _ (wpList _ _ _ (⟨_, Op.move _, _, _, _, _⟩ :: _)); refine st_y (y_move rfl) rfl ?_)
                 | (show AT _ _ _ (wpList _ _ _ (⟨_, Op.assign _, _, _, _, _⟩ :: _)); refine st_y (y_assign rfl) rfl ?_)
                 | (show AT _ _ _ (wpList _ _ _ (⟨_, Op.fieldAddr _ _ _, _, _, _, _⟩ :: _)); refine st_y (y_field tabs rfl rfl rfl) rfl ?_)
                 | (show AT _ _ _ (wpList _ _ _ (⟨_, Op.load _ _, _, _, _, _⟩ :: _)); first | refine st_y (y_load3 tabs rfl rfl (hc_w0 g3) (hc_w0 g4) (hc_w0 g5)) rfl ?_ | refine st_y (y_load tabs rfl rfl (hc_blk 0 rfl rfl)) rfl ?_ | refine st_y (y_load tabs rfl rfl (hc_blk 1 rfl rfl)) rfl ?_ | refine st_y (y_load tabs rfl rfl (hc_blk 2 rfl rfl)) rfl ?_ | refine st_y (y_load tabs rfl rfl (hc_blk 3 rfl rfl)) rfl ?_ | refine st_y (y_load tabs rfl rfl (hc_blk 4 rfl rfl)) rfl ?_ | refine st_y (y_load tabs rfl rfl (hc_blk 5 rfl rfl)) rfl ?_ | refine st_y (y_loadb 0 tabs rfl rfl rfl rfl) rfl ?_ | refine st_y (y_loadb 1 tabs rfl rfl rfl rfl) rfl ?_ | refine st_y (y_loadb 2 tabs rfl rfl rfl rfl) rfl ?_ | refine st_y (y_loadb 3 tabs rfl rfl rfl rfl) rfl ?_ | refine st_y (y_load tabs rfl rfl (hc_rd (by assumption) (by omega))) rfl ?_)
                 | (show AT _ _ _ (wpList _ _ _ (⟨_, Op.indexAddr _ _ _, _, _, _, _⟩ :: _)); first | refine st_y (y_ixa tabs rfl rfl rfl hs3 (by omega) (by omega)) rfl ?_ | refine st_y (y_ix1 tabs rfl rfl rfl (by first | assumption | exact .mk) rfl (by omega)) rfl ?_ | refine st_y (y_ixi tabs rfl rfl rfl (by first | assumption | exact .mk) (by omega) (by omega)) rfl ?_ | refine st_y (y_ixa tabs rfl rfl rfl (by first | assumption | exact .mk) (by omega) (by omega)) rfl ?_)
                 | (show AT _ _ _ (wpList _ _ _ (⟨_, Op.binOp _ _ _ _ _, _, _, _, _⟩ :: _)); first | refine st_y (y_cat rfl rfl (by omega) (by simp)) rfl ?_ | refine st_y (y_cat rfl rfl (by rw [List.length_append]; simp; omega) (by omega)) rfl ?_ | refine st_y (y_add rfl rfl (by omega)) rfl ?_ | refine st_y (y_lss rfl rfl) rfl ?_)
                 | (show AT _ _ _ (wpList _ _ _ (⟨_, Op.unOp _ _ _, _, _, _, _⟩ :: _)); first | refine st_y (y_notd rfl) rfl ?_ | refine st_y (y_not rfl) rfl ?_)
                 | (show AT _ _ _ (wpList _ _ _ (⟨_, Op.call _, _, _, _, _⟩ :: _)); refine st_y (y_len tabs rfl rfl) rfl ?_)
                 | (show AT _ _ _ (wpList _ _ _ (⟨_, Op.box _ _, _, _, _, _⟩ :: _)); refine m_box rfl rfl (fun bq hbq => ?_))
                 | (show AT _ _ _ (wpList _ _ _ (⟨_, Op.alloc _, _, _, _, _⟩ :: _)); refine m_alloc tabs rfl rfl (fun bq hbq => ?_)))
              | (show AT _ _ _ (wpList _ _ _ []); first | refine c_nil (x_then ?_) | refine c_nil (x_qn ?_) | refine c_nil ?_)
              | (show AT _ _ _ (Code.wp _ _ _); first | refine c_seq ?_ | refine c_region ?_ | refine c_skip (x_then ?_) | refine c_skip (x_blk ?_) | refine c_skip ?_ | refine c_block ?_ | refine c_ret ?_ | refine c_exit ?_ | refine c_draw (by kernel_rfl) (by kernel_rfl) (fun _ c => Hp.drew c) ?_ | refine c_true rfl ?_ | refine c_false rfl ?_ | refine c_ift rfl (by first | assumption | omega) ?_ | refine c_iff rfl (by first | assumption | exact not_not_intro (by assumption) | omega) ?_ | refine c_ifnd rfl (fun h => ?_) (fun h => ?_) | refine c_if rfl (fun h => ?_) (fun h => ?_) | refine c_ifn rfl (fun h => ?_) (fun h => ?_))
              | (show QT _ _ _ _ _ _ (_ :: _); first
                 | (show QT _ _ _ _ _ _ (⟨_, Op.move _, _, _, _, _⟩ :: _); refine q_y (y_move rfl) rfl ?_)
                 | (show QT _ _ _ _ _ _ (⟨_, Op.assign _, _, _, _, _⟩ :: _); refine q_y (y_assign rfl) rfl ?_)
                 | (show QT _ _ _ _ _ _ (⟨_, Op.fieldAddr _ _ _, _, _, _, _⟩ :: _); refine q_y (y_field tabs rfl rfl rfl) rfl ?_)
                 | (show QT _ _ _ _ _ _ (⟨_, Op.load _ _, _, _, _, _⟩ :: _); first | refine q_y (y_load3 tabs rfl rfl (hc_w0 g3) (hc_w0 g4) (hc_w0 g5)) rfl ?_ | refine q_y (y_load tabs rfl rfl (hc_blk 0 rfl rfl)) rfl ?_ | refine q_y (y_load tabs rfl rfl (hc_blk 1 rfl rfl)) rfl ?_ | refine q_y (y_load tabs rfl rfl (hc_blk 2 rfl rfl)) rfl ?_ | refine q_y (y_load tabs rfl rfl (hc_blk 3 rfl rfl)) rfl ?_ | refine q_y (y_load tabs rfl rfl (hc_blk 4 rfl rfl)) rfl ?_ | refine q_y (y_load tabs rfl rfl (hc_blk 5 rfl rfl)) rfl ?_ | refine q_y (y_loadb 0 tabs rfl rfl rfl rfl) rfl ?_ | refine q_y (y_loadb 1 tabs rfl rfl rfl rfl) rfl ?_ | refine q_y (y_loadb 2 tabs rfl rfl rfl rfl) rfl ?_ | refine q_y (y_loadb 3 tabs rfl rfl rfl rfl) rfl ?_ | refine q_y (y_load tabs rfl rfl (hc_rd (by assumption) (by omega))) rfl ?_)
                 | (show QT _ _ _ _ _ _ (⟨_, Op.indexAddr _ _ _, _, _, _, _⟩ :: _); first | refine q_y (y_ixa tabs rfl rfl rfl hs3 (by omega) (by omega)) rfl ?_ | refine q_y (y_ix1 tabs rfl rfl rfl (by first | assumption | exact .mk) rfl (by omega)) rfl ?_ | refine q_y (y_ixi tabs rfl rfl rfl (by first | assumption | exact .mk) (by omega) (by omega)) rfl ?_ | refine q_y (y_ixa tabs rfl rfl rfl (by first | assumption | exact .mk) (by omega) (by omega)) rfl ?_)
                 | (show QT _ _ _ _ _ _ (⟨_, Op.binOp _ _ _ _ _, _, _, _, _⟩ :: _); first | refine q_y (y_cat rfl rfl (by omega) (by simp)) rfl ?_ | refine q_y (y_cat rfl rfl (by rw [List.length_append]; simp; omega) (by omega)) rfl ?_ | refine q_y (y_add rfl rfl (by omega)) rfl ?_ | refine q_y (y_lss rfl rfl) rfl ?_)
                 | (show QT _ _ _ _ _ _ (⟨_, Op.unOp _ _ _, _, _, _, _⟩ :: _); first | refine q_y (y_notd rfl) rfl ?_ | refine q_y (y_not rfl) rfl ?_)
                 | (show QT _ _ _ _ _ _ (⟨_, Op.call _, _, _, _, _⟩ :: _); first | refine q_call (ent_of Tryd.func14 (by kernel_rfl) rfl) rfl rfl (fun w c => spec_FormatMatrix_ok (p := r.p) (m := m) (c.rd g6)) (fun u H' h => h.1) ?_ | refine q_y (y_len tabs rfl rfl) rfl ?_))
              | (show QT _ _ _ _ _ _ []; first | refine q_nil (x_then ?_) | refine q_nil ?_)
              | (show AT _ _ _ (Qk _ _ _); refine x_one ?_)
              | (show AT _ _ _ _; first | refine x_then ?_ | refine x_qn ?_ | refine x_then_ret ?_ | refine x_blk_ret ?_ | refine x_then_exit ?_ | refine x_blk_exit rfl ?_ | refine x_blk_other rfl ?_ | refine x_blk ?_))
            rw [List.append_assoc, ← en]
            exact x_nx (i + 1) (by repeat' (first | exact Sub.nil | refine Sub.cons rfl ?_ | refine Sub.consi rfl (by omega) ?_)) (by omega) (fun w' c' => c') (by omega)
          · have : i = r.m.length := by omega
            subst this
            repeat' (first
              | (show AT _ _ _ (wpList _ _ _ (_ :: _)); first
                 | (show AT _ _ _ (wpList _ _ _ (⟨_, Op.move _, _, _, _, _⟩ :: _)); refine st_y (y_move rfl) rfl ?_)
                 | (show AT _ _ _ (wpList _ _ _ (⟨_, Op.assign _, _, _, _, _⟩ :: _)); refine st_y (y_assign rfl) rfl ?_)
                 | (show AT _ _ _ (wpList _ _ _ (⟨_, Op.fieldAddr _ _ _, _, _, _, _⟩ :: _)); refine st_y (y_field tabs rfl rfl rfl) rfl ?_)
                 | (show AT _ _ _ (wpList _ _ _ (⟨_, Op.load _ _, _, _, _, _⟩ :: _)); first | refine st_y (y_load tabs rfl rfl (hc_blk 0 rfl rfl)) rfl ?_ | refine st_y (y_load tabs rfl rfl (hc_blk 1 rfl rfl)) rfl ?_ | refine st_y (y_load tabs rfl rfl (hc_blk 2 rfl rfl)) rfl ?_ | refine st_y (y_load tabs rfl rfl (hc_blk 3 rfl rfl)) rfl ?_ | refine st_y (y_load tabs rfl rfl (hc_blk 4 rfl rfl)) rfl ?_ | refine st_y (y_load tabs rfl rfl (hc_blk 5 rfl rfl)) rfl ?_ | refine st_y (y_loadb 0 tabs rfl rfl rfl rfl) rfl ?_ | refine st_y (y_loadb 1 tabs rfl rfl rfl rfl) rfl ?_ | refine st_y (y_loadb 2 tabs rfl rfl rfl rfl) rfl ?_ | refine st_y (y_loadb 3 tabs rfl rfl rfl rfl) rfl ?_ | refine st_y (y_load tabs rfl rfl (hc_rd (by assumption) (by omega))) rfl ?_)
                 | (show AT _ _ _ (wpList _ _ _ (⟨_, Op.indexAddr _ _ _, _, _, _, _⟩ :: _)); first | refine st_y (y_ix1 tabs rfl rfl rfl (by first | assumption | exact .mk) rfl (by omega)) rfl ?_ | refine st_y (y_ixi tabs rfl rfl rfl (by first | assumption | exact .mk) (by omega) (by omega)) rfl ?_ | refine st_y (y_ixa tabs rfl rfl rfl (by first | assumption | exact .mk) (by omega) (by omega)) rfl ?_)
                 | (show AT _ _ _ (wpList _ _ _ (⟨_, Op.binOp _ _ _ _ _, _, _, _, _⟩ :: _)); first | refine st_y (y_add rfl rfl (by omega)) rfl ?_ | refine st_y (y_lss rfl rfl) rfl ?_)
                 | (show AT _ _ _ (wpList _ _ _ (⟨_, Op.unOp _ _ _, _, _, _, _⟩ :: _)); first | refine st_y (y_notd rfl) rfl ?_ | refine st_y (y_not rfl) rfl ?_)
                 | (show AT _ _ _ (wpList _ _ _ (⟨_, Op.call _, _, _, _, _⟩ :: _)); refine st_y (y_len tabs rfl rfl) rfl ?_)
                 | (show AT _ _ _ (wpList _ _ _ (⟨_, Op.box _ _, _, _, _, _⟩ :: _)); refine m_box rfl rfl (fun bq hbq => ?_))
                 | (show AT _ _ _ (wpList _ _ _ (⟨_, Op.alloc _, _, _, _, _⟩ :: _)); refine m_alloc tabs rfl rfl (fun bq hbq => ?_)))
              | (show AT _ _ _ (wpList _ _ _ []); first | refine c_nil (x_then ?_) | refine c_nil (x_qn ?_) | refine c_nil ?_)
              | (show AT _ _ _ (Code.wp _ _ _); first | refine c_seq ?_ | refine c_region ?_ | refine c_skip (x_then ?_) | refine c_skip (x_blk ?_) | refine c_skip ?_ | refine c_block ?_ | refine c_ret ?_ | refine c_exit ?_ | refine c_true rfl ?_ | refine c_false rfl ?_ | refine c_ift rfl (by first | assumption | omega) ?_ | refine c_iff rfl (by first | assumption | exact not_not_intro (by assumption) | omega) ?_ | refine c_ifnd rfl (fun h => ?_) (fun h => ?_) | refine c_if rfl (fun h => ?_) (fun h => ?_) | refine c_ifn rfl (fun h => ?_) (fun h => ?_))
              | (show QT _ _ _ _ _ _ (_ :: _); first
                 | (show QT _ _ _ _ _ _ (⟨_, Op.move _, _, _, _, _⟩ :: _); refine q_y (y_move rfl) rfl ?_)
                 | (show QT _ _ _ _ _ _ (⟨_, Op.assign _, _, _, _, _⟩ :: _); refine q_y (y_assign rfl) rfl ?_)
                 | (show QT _ _ _ _ _ _ (⟨_, Op.fieldAddr _ _ _, _, _, _, _⟩ :: _); refine q_y (y_field tabs rfl rfl rfl) rfl ?_)
                 | (show QT _ _ _ _ _ _ (⟨_, Op.load _ _, _, _, _, _⟩ :: _); first | refine q_y (y_load tabs rfl rfl (hc_blk 0 rfl rfl)) rfl ?_ | refine q_y (y_load tabs rfl rfl (hc_blk 1 rfl rfl)) rfl ?_ | refine q_y (y_load tabs rfl rfl (hc_blk 2 rfl rfl)) rfl ?_ | refine q_y (y_load tabs rfl rfl (hc_blk 3 rfl rfl)) rfl ?_ | refine q_y (y_load tabs rfl rfl (hc_blk 4 rfl rfl)) rfl ?_ | refine q_y (y_load tabs rfl rfl (hc_blk 5 rfl rfl)) rfl ?_ | refine q_y (y_loadb 0 tabs rfl rfl rfl rfl) rfl ?_ | refine q_y (y_loadb 1 tabs rfl rfl rfl rfl) rfl ?_ | refine q_y (y_loadb 2 tabs rfl rfl rfl rfl) rfl ?_ | refine q_y (y_loadb 3 tabs rfl rfl rfl rfl) rfl ?_ | refine q_y (y_load tabs rfl rfl (hc_rd (by assumption) (by omega))) rfl ?_)
                 | (show QT _ _ _ _ _ _ (⟨_, Op.indexAddr _ _ _, _, _, _, _⟩ :: _); first | refine q_y (y_ix1 tabs rfl rfl rfl (by first | assumption | exact .mk) rfl (by omega)) rfl ?_ | refine q_y (y_ixi tabs rfl rfl rfl (by first | assumption | exact .mk) (by omega) (by omega)) rfl ?_ | refine q_y (y_ixa tabs rfl rfl rfl (by first | assumption | exact .mk) (by omega) (by omega)) rfl ?_)
                 | (show QT _ _ _ _ _ _ (⟨_, Op.binOp _ _ _ _ _, _, _, _, _⟩ :: _); first | refine q_y (y_add rfl rfl (by omega)) rfl ?_ | refine q_y (y_lss rfl rfl) rfl ?_)
                 | (show QT _ _ _ _ _ _ (⟨_, Op.unOp _ _ _, _, _, _, _⟩ :: _); first | refine q_y (y_notd rfl) rfl ?_ | refine q_y (y_not rfl) rfl ?_)
                 | (show QT _ _ _ _ _ _ (⟨_, Op.call _, _, _, _, _⟩ :: _); refine q_y (y_len tabs rfl rfl) rfl ?_))
              | (show QT _ _ _ _ _ _ []; first | refine q_nil (x_then ?_) | refine q_nil ?_)
              | (show AT _ _ _ (Qk _ _ _); refine x_one ?_)
              | (show AT _ _ _ _; first | refine x_then ?_ | refine x_qn ?_ | refine x_then_ret ?_ | refine x_blk_ret ?_ | refine x_then_exit ?_ | refine x_blk_exit rfl ?_ | refine x_blk_other rfl ?_ | refine x_blk ?_))
            exact x_ret1 Tryd.results5 (res_tmp rfl) (fun w' c' => ⟨_, _, rfl, ⟨rfl, rfl⟩, c'.sub (List.nil_sublist _)⟩)
  · have e0 : fmtR r = [] := by rw [fmtR, if_neg hR]
    rw [e0]
    refine fn_enter Tryd.func5 rfl Tryd.ntmps5 rfl ?_
    repeat' (first
      | (show AT _ _ _ (wpList _ _ _ (_ :: _)); first
         | (show AT _ _ _ (wpList _ _ _ (⟨_, Op.move _, _, _, _, _⟩ :: _)); refine st_y (y_move rfl) rfl ?_)
         | (show AT _ _ _ (wpList _ _ _ (⟨_, Op.assign _, _, _, _, _⟩ :: _)); refine st_y (y_assign rfl) rfl ?_)
         | (show AT _ _ _ (wpList _ _ _ (⟨_, Op.fieldAddr _ _ _, _, _, _, _⟩ :: _)); refine st_y (y_field tabs rfl rfl rfl) rfl ?_)
         | (show AT _ _ _ (wpList _ _ _ (⟨_, Op.load _ _, _, _, _, _⟩ :: _)); first | refine st_y (y_load tabs rfl rfl (hc_blk 0 rfl rfl)) rfl ?_ | refine st_y (y_load tabs rfl rfl (hc_blk 1 rfl rfl)) rfl ?_ | refine st_y (y_load tabs rfl rfl (hc_blk 2 rfl rfl)) rfl ?_ | refine st_y (y_load tabs rfl rfl (hc_blk 3 rfl rfl)) rfl ?_ | refine st_y (y_load tabs rfl rfl (hc_blk 4 rfl rfl)) rfl ?_ | refine st_y (y_load tabs rfl rfl (hc_blk 5 rfl rfl)) rfl ?_ | refine st_y (y_loadb 0 tabs rfl rfl rfl rfl) rfl ?_ | refine st_y (y_loadb 1 tabs rfl rfl rfl rfl) rfl ?_ | refine st_y (y_loadb 2 tabs rfl rfl rfl rfl) rfl ?_ | refine st_y (y_loadb 3 tabs rfl rfl rfl rfl) rfl ?_ | refine st_y (y_load tabs rfl rfl (hc_rd (by assumption) (by omega))) rfl ?_)
         | (show AT _ _ _ (wpList _ _ _ (⟨_, Op.indexAddr _ _ _, _, _, _, _⟩ :: _)); first | refine st_y (y_ix1 tabs rfl rfl rfl (by first | assumption | exact .mk) rfl (by omega)) rfl ?_ | refine st_y (y_ixi tabs rfl rfl rfl (by first | assumption | exact .mk) (by omega) (by omega)) rfl ?_ | refine st_y (y_ixa tabs rfl rfl rfl (by first | assumption | exact .mk) (by omega) (by omega)) rfl ?_)
         | (show AT _ _ _ (wpList _ _ _ (⟨_, Op.binOp _ _ _ _ _, _, _, _, _⟩ :: _)); first | refine st_y (y_add rfl rfl (by omega)) rfl ?_ | refine st_y (y_lss rfl rfl) rfl ?_)
         | (show AT _ _ _ (wpList _ _ _ (⟨_, Op.unOp _ _ _, _, _, _, _⟩ :: _)); first | refine st_y (y_notd rfl) rfl ?_ | refine st_y (y_not rfl) rfl ?_)
         | (show AT _ _ _ (wpList _ _ _ (⟨_, Op.call _, _, _, _, _⟩ :: _)); first | (refine m_call (ent_of Tryd.func12 (by kernel_rfl) rfl) rfl rfl (fun w c => spec_IsRep_ok (r := r) (c.rd h0) (c.rd h1) (c.rd h2) (c.rd h3)) ?_; rintro v H' ⟨rfl, rfl⟩) | refine st_y (y_len tabs rfl rfl) rfl ?_)
         | (show AT _ _ _ (wpList _ _ _ (⟨_, Op.box _ _, _, _, _, _⟩ :: _)); first | refine m_box rfl rfl (fun b hb => ?_) | refine m_box rfl rfl (fun bq hbq => ?_))
         | (show AT _ _ _ (wpList _ _ _ (⟨_, Op.alloc _, _, _, _, _⟩ :: _)); refine m_alloc tabs rfl rfl (fun bq hbq => ?_)))
      | (show AT _ _ _ (wpList _ _ _ []); first | refine c_nil (x_then ?_) | refine c_nil (x_qn ?_) | refine c_nil ?_)
      | (show AT _ _ _ (Code.wp _ _ _); first | refine c_seq ?_ | refine c_region ?_ | refine c_skip (x_then ?_) | refine c_skip (x_blk ?_) | refine c_skip ?_ | refine c_block ?_ | refine c_ret ?_ | refine c_exit ?_ | refine c_true rfl ?_ | refine c_false rfl ?_ | refine c_ift rfl (by first | assumption | omega) ?_ | refine c_iff rfl (by first | assumption | exact not_not_intro (by assumption) | omega) ?_ | refine c_ifnd rfl (fun h => ?_) (fun h => ?_) | refine c_if rfl (fun h => ?_) (fun h => ?_) | refine c_ifn rfl (fun h => ?_) (fun h => ?_))
      | (show QT _ _ _ _ _ _ (_ :: _); first
         | (show QT _ _ _ _ _ _ (⟨_, Op.move _, _, _, _, _⟩ :: _); refine q_y (y_move rfl) rfl ?_)
         | (show QT _ _ _ _ _ _ (⟨_, Op.assign _, _, _, _, _⟩ :: _); refine q_y (y_assign rfl) rfl ?_)
         | (show QT _ _ _ _ _ _ (⟨_, Op.fieldAddr _ _ _, _, _, _, _⟩ :: _); refine q_y (y_field tabs rfl rfl rfl) rfl ?_)
         | (show QT _ _ _ _ _ _ (⟨_, Op.load _ _, _, _, _, _⟩ :: _); first | refine q_y (y_load tabs rfl rfl (hc_blk 0 rfl rfl)) rfl ?_ | refine q_y (y_load tabs rfl rfl (hc_blk 1 rfl rfl)) rfl ?_ | refine q_y (y_load tabs rfl rfl (hc_blk 2 rfl rfl)) rfl ?_ | refine q_y (y_load tabs rfl rfl (hc_blk 3 rfl rfl)) rfl ?_ | refine q_y (y_load tabs rfl rfl (hc_blk 4 rfl rfl)) rfl ?_ | refine q_y (y_load tabs rfl rfl (hc_blk 5 rfl rfl)) rfl ?_ | refine q_y (y_loadb 0 tabs rfl rfl rfl rfl) rfl ?_ | refine q_y (y_loadb 1 tabs rfl rfl rfl rfl) rfl ?_ | refine q_y (y_loadb 2 tabs rfl rfl rfl rfl) rfl ?_ | refine q_y (y_loadb 3 tabs rfl rfl rfl rfl) rfl ?_ | refine q_y (y_load tabs rfl rfl (hc_rd (by assumption) (by omega))) rfl ?_)
         | (show QT _ _ _ _ _ _ (⟨_, Op.indexAddr _ _ _, _, _, _, _⟩ :: _); first | refine q_y (y_ix1 tabs rfl rfl rfl (by first | assumption | exact .mk) rfl (by omega)) rfl ?_ | refine q_y (y_ixi tabs rfl rfl rfl (by first | assumption | exact .mk) (by omega) (by omega)) rfl ?_ | refine q_y (y_ixa tabs rfl rfl rfl (by first | assumption | exact .mk) (by omega) (by omega)) rfl ?_)
         | (show QT _ _ _ _ _ _ (⟨_, Op.binOp _ _ _ _ _, _, _, _, _⟩ :: _); first | refine q_y (y_add rfl rfl (by omega)) rfl ?_ | refine q_y (y_lss rfl rfl) rfl ?_)
         | (show QT _ _ _ _ _ _ (⟨_, Op.unOp _ _ _, _, _, _, _⟩ :: _); first | refine q_y (y_notd rfl) rfl ?_ | refine q_y (y_not rfl) rfl ?_)
         | (show QT _ _ _ _ _ _ (⟨_, Op.call _, _, _, _, _⟩ :: _); refine q_y (y_len tabs rfl rfl) rfl ?_))
      | (show QT _ _ _ _ _ _ []; first | refine q_nil (x_then ?_) | refine q_nil ?_)
      | (show AT _ _ _ (Qk _ _ _); refine x_one ?_)
      | (show AT _ _ _ _; first | refine x_then ?_ | refine x_qn ?_ | refine x_then_ret ?_ | refine x_blk_ret ?_ | refine x_then_exit ?_ | refine x_blk_exit rfl ?_ | refine x_blk_other rfl ?_ | refine x_blk ?_))
    all_goals first | exact absurd (by assumption) hR | skip
    exact x_ret1 Tryd.results5 (res_tmp rfl) (fun w' c' => ⟨_, _, rfl, ⟨rfl, rfl⟩, c'.sub (List.nil_sublist _)⟩)
end Go.Proofs.YtljgmmmgnfgbhaaDoor
