/- The law FnExactFormatRep returns true for all arguments, and its arguments read behind the call as they read before; there are no conditions. -/
import Derived.Test.YtljgmmmgnfgbhaaDoorCards
import Derived.Test.YtljgmmmgnfgbhaaDoorTie
import Derived.LaidMore
import Derived.Lay
import Derived.SevenTiedAt
import Derived.Stop.Joined
import Derived.OpenShut
import Derived.ShutString
import Derived.Below
import Derived.Test.YtljgmmmgnfgbhaaDoorFinqfr
import Derived.Test.YtljgmmmgnfgbhaaDoorFmrqfr
import Derived.Test.YtljgmmmgnfgbhaaDoorLBqfr
import Derived.Test.YtljgmmmgnfgbhaaDoorOpRqfr
import Derived.Test.YtljgmmmgnfgbhaaDoorOpnqfr
import Derived.Test.YtljgmmmgnfgbhaaDoorRepqfr
import Derived.Test.YtljgmmmgnfgbhaaDoorRplqfr
namespace Go.Proofs.YtljgmmmgnfgbhaaDoor.wFnExactFormatRep
open Go.Lg Go.Proofs Go.RowKit Go.ChangeShapes Go.WideShapes Go.ChangeAt
attribute [local irreducible] Code.wp wpList bodyPost Exit.then Exit.inBlock Hp Again Calls Y AT ResV QT
set_option maxRecDepth 20000
set_option maxHeartbeats 4000000
set_option maxRecDepth 20000
set_option maxHeartbeats 40000000
set_option linter.unusedVariables false

theorem law_ok (w : World) {r0 : Rp} {e0 : Nat} {u0_0 u0_1 u0_2 u0_3 : Value} (h0_0 : Rd w (iT r0.q.2.1) u0_0) (h0_1 : Rd w (iT r0.q.2.2) u0_1) (h0_2 : Rd w (iT r0.d) u0_2) (h0_3 : Rd w (matsT e0 r0.m) u0_3) (g0 : RngRp r0) :
    Does Tryd.prog 3 [.agg #[iV r0.p, iV r0.q.1, u0_0, u0_1, u0_2, u0_3]] w (fun r H => r = .bool true ∧ H = []) := by
  by_cases b0 : ((szR r0 : Nat) : Int) ≤ 1048576
  · refine fn_enter Tryd.func3 rfl Tryd.ntmps3 rfl ?_
    repeat' (first
      | (show AT _ _ _ (wpList _ _ _ (_ :: _)); first
         | (show AT _ _ _ (wpList _ _ _ (⟨_, Op.move _, _, _, _, _⟩ :: _)); refine st_y (y_move rfl) rfl ?_)
         | (show AT _ _ _ (wpList _ _ _ (⟨_, Op.assign _, _, _, _, _⟩ :: _)); refine st_y (y_assign rfl) rfl ?_)
         | (show AT _ _ _ (wpList _ _ _ (⟨_, Op.load _ _, _, _, _, _⟩ :: _)); first | refine st_y (y_loadb 0 tabs rfl rfl rfl rfl) rfl ?_ | refine st_y (y_loadb 1 tabs rfl rfl rfl rfl) rfl ?_ | refine st_y (y_loadb 2 tabs rfl rfl rfl rfl) rfl ?_ | refine st_y (y_loadb 3 tabs rfl rfl rfl rfl) rfl ?_ | refine st_y (y_loadb 4 tabs rfl rfl rfl rfl) rfl ?_ | refine st_y (y_loadb 5 tabs rfl rfl rfl rfl) rfl ?_ | refine st_y (y_loadb 6 tabs rfl rfl rfl rfl) rfl ?_ | refine st_y (y_loadb 7 tabs rfl rfl rfl rfl) rfl ?_ | refine st_y (y_loadb 8 tabs rfl rfl rfl rfl) rfl ?_ | refine st_y (y_loadb 9 tabs rfl rfl rfl rfl) rfl ?_ | refine st_y (y_loadb 10 tabs rfl rfl rfl rfl) rfl ?_ | refine st_y (y_loadb 11 tabs rfl rfl rfl rfl) rfl ?_ | refine st_y (y_loadb 12 tabs rfl rfl rfl rfl) rfl ?_ | refine st_y (y_loadb 13 tabs rfl rfl rfl rfl) rfl ?_ | refine st_y (y_load tabs rfl rfl (hc_blk 0 rfl rfl)) rfl ?_ | refine st_y (y_load tabs rfl rfl (hc_blk 1 rfl rfl)) rfl ?_ | refine st_y (y_load tabs rfl rfl (hc_blk 2 rfl rfl)) rfl ?_ | refine st_y (y_load tabs rfl rfl (hc_blk 3 rfl rfl)) rfl ?_ | refine st_y (y_load tabs rfl rfl (hc_blk 4 rfl rfl)) rfl ?_ | refine st_y (y_load tabs rfl rfl (hc_blk 5 rfl rfl)) rfl ?_ | refine st_y (y_load tabs rfl rfl (hc_rd (by assumption) (by omega))) rfl ?_)
         | (show AT _ _ _ (wpList _ _ _ (⟨_, Op.binOp _ _ _ _ _, _, _, _, _⟩ :: _)); first | refine st_y (y_neqsf rfl rfl) rfl ?_ | refine st_y (y_lss rfl rfl) rfl ?_ | refine st_y (y_neq rfl rfl) rfl ?_ | refine st_y (y_neqb_same Tryd.underlying4 rfl rfl) rfl ?_)
         | (show AT _ _ _ (wpList _ _ _ (⟨_, Op.unOp _ _ _, _, _, _, _⟩ :: _)); first | refine st_y (y_notd rfl) rfl ?_ | refine st_y (y_not rfl) rfl ?_)
         | (show AT _ _ _ (wpList _ _ _ (⟨_, Op.call _, _, _, _, _⟩ :: _)); first | (refine m_call (ent_of Tryd.func5 (by kernel_rfl) rfl) rfl rfl (fun w c => spec_FormatRep_ok (r := r0) (by first | exact c.own_rd (i := 0) rfl | exact c.own_rd (i := 1) rfl | exact c.own_rd (i := 2) rfl | exact c.own_rd (i := 3) rfl | exact c.own_rd (i := 4) rfl | exact c.own_rd (i := 5) rfl | exact c.own_rd (i := 6) rfl | exact c.own_rd (i := 7) rfl | exact c.own_rd (i := 8) rfl | exact c.own_rd (i := 9) rfl) (by first | exact c.own_rd (i := 0) rfl | exact c.own_rd (i := 1) rfl | exact c.own_rd (i := 2) rfl | exact c.own_rd (i := 3) rfl | exact c.own_rd (i := 4) rfl | exact c.own_rd (i := 5) rfl | exact c.own_rd (i := 6) rfl | exact c.own_rd (i := 7) rfl | exact c.own_rd (i := 8) rfl | exact c.own_rd (i := 9) rfl) (by first | exact c.own_rd (i := 0) rfl | exact c.own_rd (i := 1) rfl | exact c.own_rd (i := 2) rfl | exact c.own_rd (i := 3) rfl | exact c.own_rd (i := 4) rfl | exact c.own_rd (i := 5) rfl | exact c.own_rd (i := 6) rfl | exact c.own_rd (i := 7) rfl | exact c.own_rd (i := 8) rfl | exact c.own_rd (i := 9) rfl) (by first | exact c.own_rd (i := 0) rfl | exact c.own_rd (i := 1) rfl | exact c.own_rd (i := 2) rfl | exact c.own_rd (i := 3) rfl | exact c.own_rd (i := 4) rfl | exact c.own_rd (i := 5) rfl | exact c.own_rd (i := 6) rfl | exact c.own_rd (i := 7) rfl | exact c.own_rd (i := 8) rfl | exact c.own_rd (i := 9) rfl)) ?_; rintro v H' ⟨rfl, rfl⟩) | (refine m_call (ent_of Tryd.func7 (by kernel_rfl) rfl) rfl rfl (fun w c => impl_FormatRep_ok (r := r0) (by first | exact c.own_rd (i := 0) rfl | exact c.own_rd (i := 1) rfl | exact c.own_rd (i := 2) rfl | exact c.own_rd (i := 3) rfl | exact c.own_rd (i := 4) rfl | exact c.own_rd (i := 5) rfl | exact c.own_rd (i := 6) rfl | exact c.own_rd (i := 7) rfl | exact c.own_rd (i := 8) rfl | exact c.own_rd (i := 9) rfl) (by first | exact c.own_rd (i := 0) rfl | exact c.own_rd (i := 1) rfl | exact c.own_rd (i := 2) rfl | exact c.own_rd (i := 3) rfl | exact c.own_rd (i := 4) rfl | exact c.own_rd (i := 5) rfl | exact c.own_rd (i := 6) rfl | exact c.own_rd (i := 7) rfl | exact c.own_rd (i := 8) rfl | exact c.own_rd (i := 9) rfl) (by first | exact c.own_rd (i := 0) rfl | exact c.own_rd (i := 1) rfl | exact c.own_rd (i := 2) rfl | exact c.own_rd (i := 3) rfl | exact c.own_rd (i := 4) rfl | exact c.own_rd (i := 5) rfl | exact c.own_rd (i := 6) rfl | exact c.own_rd (i := 7) rfl | exact c.own_rd (i := 8) rfl | exact c.own_rd (i := 9) rfl) (by first | exact c.own_rd (i := 0) rfl | exact c.own_rd (i := 1) rfl | exact c.own_rd (i := 2) rfl | exact c.own_rd (i := 3) rfl | exact c.own_rd (i := 4) rfl | exact c.own_rd (i := 5) rfl | exact c.own_rd (i := 6) rfl | exact c.own_rd (i := 7) rfl | exact c.own_rd (i := 8) rfl | exact c.own_rd (i := 9) rfl)) ?_; rintro v H' ⟨rfl, rfl⟩) | (refine m_call (ent_of Tryd.func4 (by kernel_rfl) rfl) rfl rfl (fun w c => szRep_fit (r := r0) (c.rd h0_0) (c.rd h0_1) (c.rd h0_2) (c.rd h0_3) (by omega) (by omega)) ?_; rintro v H' ⟨rfl, rfl⟩) | (refine m_call (ent_of Tryd.func6 (by kernel_rfl) rfl) rfl rfl (fun w c => toRep_ok (r := r0) (c.rd h0_0) (c.rd h0_1) (c.rd h0_2) (c.rd h0_3) (by omega)) ?_; rintro v H' ⟨a0, c0, a1, c1, a2, c2, a3, c3, rfl, hs0, hs1, hs2, hs3, rfl⟩) | (refine m_call (ent_of Tryd.func8 (by kernel_rfl) rfl) rfl rfl (fun w c => eqRep_same (r := r0) (by first | exact c.own_rd (i := 0) rfl | exact c.own_rd (i := 1) rfl | exact c.own_rd (i := 2) rfl | exact c.own_rd (i := 3) rfl | exact c.own_rd (i := 4) rfl | exact c.own_rd (i := 5) rfl | exact c.own_rd (i := 6) rfl | exact c.own_rd (i := 7) rfl | exact c.own_rd (i := 8) rfl | exact c.own_rd (i := 9) rfl) (by first | exact c.own_rd (i := 0) rfl | exact c.own_rd (i := 1) rfl | exact c.own_rd (i := 2) rfl | exact c.own_rd (i := 3) rfl | exact c.own_rd (i := 4) rfl | exact c.own_rd (i := 5) rfl | exact c.own_rd (i := 6) rfl | exact c.own_rd (i := 7) rfl | exact c.own_rd (i := 8) rfl | exact c.own_rd (i := 9) rfl) (by first | exact c.own_rd (i := 0) rfl | exact c.own_rd (i := 1) rfl | exact c.own_rd (i := 2) rfl | exact c.own_rd (i := 3) rfl | exact c.own_rd (i := 4) rfl | exact c.own_rd (i := 5) rfl | exact c.own_rd (i := 6) rfl | exact c.own_rd (i := 7) rfl | exact c.own_rd (i := 8) rfl | exact c.own_rd (i := 9) rfl) (by first | exact c.own_rd (i := 0) rfl | exact c.own_rd (i := 1) rfl | exact c.own_rd (i := 2) rfl | exact c.own_rd (i := 3) rfl | exact c.own_rd (i := 4) rfl | exact c.own_rd (i := 5) rfl | exact c.own_rd (i := 6) rfl | exact c.own_rd (i := 7) rfl | exact c.own_rd (i := 8) rfl | exact c.own_rd (i := 9) rfl) (by first | exact c.own_rd (i := 0) rfl | exact c.own_rd (i := 1) rfl | exact c.own_rd (i := 2) rfl | exact c.own_rd (i := 3) rfl | exact c.own_rd (i := 4) rfl | exact c.own_rd (i := 5) rfl | exact c.own_rd (i := 6) rfl | exact c.own_rd (i := 7) rfl | exact c.own_rd (i := 8) rfl | exact c.own_rd (i := 9) rfl) (by first | exact c.own_rd (i := 0) rfl | exact c.own_rd (i := 1) rfl | exact c.own_rd (i := 2) rfl | exact c.own_rd (i := 3) rfl | exact c.own_rd (i := 4) rfl | exact c.own_rd (i := 5) rfl | exact c.own_rd (i := 6) rfl | exact c.own_rd (i := 7) rfl | exact c.own_rd (i := 8) rfl | exact c.own_rd (i := 9) rfl) (by first | exact c.own_rd (i := 0) rfl | exact c.own_rd (i := 1) rfl | exact c.own_rd (i := 2) rfl | exact c.own_rd (i := 3) rfl | exact c.own_rd (i := 4) rfl | exact c.own_rd (i := 5) rfl | exact c.own_rd (i := 6) rfl | exact c.own_rd (i := 7) rfl | exact c.own_rd (i := 8) rfl | exact c.own_rd (i := 9) rfl) (by first | exact c.own_rd (i := 0) rfl | exact c.own_rd (i := 1) rfl | exact c.own_rd (i := 2) rfl | exact c.own_rd (i := 3) rfl | exact c.own_rd (i := 4) rfl | exact c.own_rd (i := 5) rfl | exact c.own_rd (i := 6) rfl | exact c.own_rd (i := 7) rfl | exact c.own_rd (i := 8) rfl | exact c.own_rd (i := 9) rfl)) ?_; rintro v H' ⟨rfl, rfl⟩))
         | (show AT _ _ _ (wpList _ _ _ (⟨_, Op.store _ _ _, _, _, _, _⟩ :: _)); first | refine m_storeb 0 tabs rfl rfl rfl rfl rfl rfl rfl ?_ | refine m_storef 0 tabs rfl rfl rfl rfl rfl rfl ?_ | refine m_storef 1 tabs rfl rfl rfl rfl rfl rfl ?_ | refine m_storef 2 tabs rfl rfl rfl rfl rfl rfl ?_ | refine m_storef 3 tabs rfl rfl rfl rfl rfl rfl ?_ | refine m_storeb 1 tabs rfl rfl rfl rfl rfl rfl rfl ?_ | refine m_storeb 2 tabs rfl rfl rfl rfl rfl rfl rfl ?_ | refine m_storeb 3 tabs rfl rfl rfl rfl rfl rfl rfl ?_)
         | (show AT _ _ _ (wpList _ _ _ (⟨_, Op.box _ _, _, _, _, _⟩ :: _)); first | refine m_box rfl rfl (fun b hb => ?_) | refine m_box rfl rfl (fun bq hbq => ?_))
         | (show AT _ _ _ (wpList _ _ _ (⟨_, Op.alloc _, _, _, _, _⟩ :: _)); first | refine m_alloc tabs rfl rfl (fun b hb => ?_) | refine m_alloc tabs rfl rfl (fun bq hbq => ?_)))
      | (show AT _ _ _ (wpList _ _ _ []); first | refine c_nil (x_then ?_) | refine c_nil ?_)
      | (show AT _ _ _ (Code.wp _ _ _); first | (refine c_eqto (by kernel_rfl) (by kernel_rfl) (by kernel_rfl) (by kernel_rfl) (by kernel_rfl) (by kernel_rfl) (by kernel_rfl) rfl rfl rfl ⟨rfl, rfl, rfl⟩ (by first | exact y_loadb 0 tabs rfl rfl rfl rfl | exact y_loadb 1 tabs rfl rfl rfl rfl | exact y_loadb 2 tabs rfl rfl rfl rfl | exact y_loadb 3 tabs rfl rfl rfl rfl | exact y_loadb 4 tabs rfl rfl rfl rfl | exact y_loadb 5 tabs rfl rfl rfl rfl | exact y_loadb 6 tabs rfl rfl rfl rfl | exact y_loadb 7 tabs rfl rfl rfl rfl | exact y_loadb 8 tabs rfl rfl rfl rfl | exact y_loadb 9 tabs rfl rfl rfl rfl | exact y_loadb 10 tabs rfl rfl rfl rfl | exact y_loadb 11 tabs rfl rfl rfl rfl | exact y_loadb 12 tabs rfl rfl rfl rfl | exact y_loadb 13 tabs rfl rfl rfl rfl | exact y_loadb 14 tabs rfl rfl rfl rfl | exact y_loadb 15 tabs rfl rfl rfl rfl | exact y_loadb 16 tabs rfl rfl rfl rfl | exact y_loadb 17 tabs rfl rfl rfl rfl) (by first | exact y_loadb 0 tabs rfl rfl rfl rfl | exact y_loadb 1 tabs rfl rfl rfl rfl | exact y_loadb 2 tabs rfl rfl rfl rfl | exact y_loadb 3 tabs rfl rfl rfl rfl | exact y_loadb 4 tabs rfl rfl rfl rfl | exact y_loadb 5 tabs rfl rfl rfl rfl | exact y_loadb 6 tabs rfl rfl rfl rfl | exact y_loadb 7 tabs rfl rfl rfl rfl | exact y_loadb 8 tabs rfl rfl rfl rfl | exact y_loadb 9 tabs rfl rfl rfl rfl | exact y_loadb 10 tabs rfl rfl rfl rfl | exact y_loadb 11 tabs rfl rfl rfl rfl | exact y_loadb 12 tabs rfl rfl rfl rfl | exact y_loadb 13 tabs rfl rfl rfl rfl | exact y_loadb 14 tabs rfl rfl rfl rfl | exact y_loadb 15 tabs rfl rfl rfl rfl | exact y_loadb 16 tabs rfl rfl rfl rfl | exact y_loadb 17 tabs rfl rfl rfl rfl) (ent_of Tryd.func6 (by kernel_rfl) rfl) rfl (fun w c => toRep_ok (r := r0) (c.rd h0_0) (c.rd h0_1) (c.rd h0_2) (c.rd h0_3) (by omega)) ?_; rintro v H' ⟨a0, c0, a1, c1, a2, c2, a3, c3, rfl, hs0, hs1, hs2, hs3, rfl⟩) | refine c_seq ?_ | refine c_region ?_ | refine c_skip (x_then ?_) | refine c_skip (x_blk ?_) | refine c_skip ?_ | refine c_ret ?_ | refine c_exit ?_ | refine c_draw (by kernel_rfl) (by kernel_rfl) (fun _ c => Hp.drew c) ?_ | refine c_true rfl ?_ | refine c_false rfl ?_ | refine c_ift rfl (by first | assumption | omega) ?_ | refine c_iff rfl (by first | assumption | exact not_not_intro (by assumption) | omega) ?_ | refine c_ifnd rfl (fun h => ?_) (fun h => ?_) | refine c_if rfl (fun h => ?_) (fun h => ?_) | refine c_ifn rfl (fun h => ?_) (fun h => ?_))
      | (show QT _ _ _ _ _ _ (_ :: _); first
         | (show QT _ _ _ _ _ _ (⟨_, Op.move _, _, _, _, _⟩ :: _); refine q_y (y_move rfl) rfl ?_)
         | (show QT _ _ _ _ _ _ (⟨_, Op.assign _, _, _, _, _⟩ :: _); refine q_y (y_assign rfl) rfl ?_)
         | (show QT _ _ _ _ _ _ (⟨_, Op.load _ _, _, _, _, _⟩ :: _); first | refine q_y (y_loadb 0 tabs rfl rfl rfl rfl) rfl ?_ | refine q_y (y_loadb 1 tabs rfl rfl rfl rfl) rfl ?_ | refine q_y (y_loadb 2 tabs rfl rfl rfl rfl) rfl ?_ | refine q_y (y_loadb 3 tabs rfl rfl rfl rfl) rfl ?_ | refine q_y (y_loadb 4 tabs rfl rfl rfl rfl) rfl ?_ | refine q_y (y_loadb 5 tabs rfl rfl rfl rfl) rfl ?_ | refine q_y (y_loadb 6 tabs rfl rfl rfl rfl) rfl ?_ | refine q_y (y_loadb 7 tabs rfl rfl rfl rfl) rfl ?_ | refine q_y (y_loadb 8 tabs rfl rfl rfl rfl) rfl ?_ | refine q_y (y_loadb 9 tabs rfl rfl rfl rfl) rfl ?_ | refine q_y (y_loadb 10 tabs rfl rfl rfl rfl) rfl ?_ | refine q_y (y_loadb 11 tabs rfl rfl rfl rfl) rfl ?_ | refine q_y (y_loadb 12 tabs rfl rfl rfl rfl) rfl ?_ | refine q_y (y_loadb 13 tabs rfl rfl rfl rfl) rfl ?_ | refine q_y (y_load tabs rfl rfl (hc_blk 0 rfl rfl)) rfl ?_ | refine q_y (y_load tabs rfl rfl (hc_blk 1 rfl rfl)) rfl ?_ | refine q_y (y_load tabs rfl rfl (hc_blk 2 rfl rfl)) rfl ?_ | refine q_y (y_load tabs rfl rfl (hc_blk 3 rfl rfl)) rfl ?_ | refine q_y (y_load tabs rfl rfl (hc_blk 4 rfl rfl)) rfl ?_ | refine q_y (y_load tabs rfl rfl (hc_blk 5 rfl rfl)) rfl ?_ | refine q_y (y_load tabs rfl rfl (hc_rd (by assumption) (by omega))) rfl ?_)
         | (show QT _ _ _ _ _ _ (⟨_, Op.binOp _ _ _ _ _, _, _, _, _⟩ :: _); first | refine q_y (y_neqsf rfl rfl) rfl ?_ | refine q_y (y_lss rfl rfl) rfl ?_ | refine q_y (y_neq rfl rfl) rfl ?_ | refine q_y (y_neqb_same Tryd.underlying4 rfl rfl) rfl ?_)
         | (show QT _ _ _ _ _ _ (⟨_, Op.unOp _ _ _, _, _, _, _⟩ :: _); first | refine q_y (y_notd rfl) rfl ?_ | refine q_y (y_not rfl) rfl ?_))
      | (show QT _ _ _ _ _ _ []; first | refine q_nil (x_then ?_) | refine q_nil ?_)
      | (show AT _ _ _ (Qk _ _ _); refine x_one ?_)
      | (show AT _ _ _ _; first | refine x_then ?_ | refine x_then_ret ?_ | refine x_blk_ret ?_ | refine x_then_exit ?_ | refine x_blk_exit rfl ?_ | refine x_blk_other rfl ?_ | refine x_blk ?_))
    exact x_ret1 Tryd.results3 (res_tmp rfl) (fun w' c' => ⟨_, _, rfl, ⟨rfl, rfl⟩, c'.sub (List.nil_sublist _)⟩)
  · refine fn_enter Tryd.func3 rfl Tryd.ntmps3 rfl ?_
    repeat' (first
      | (show AT _ _ _ (wpList _ _ _ (_ :: _)); first
         | (show AT _ _ _ (wpList _ _ _ (⟨_, Op.move _, _, _, _, _⟩ :: _)); refine st_y (y_move rfl) rfl ?_)
         | (show AT _ _ _ (wpList _ _ _ (⟨_, Op.assign _, _, _, _, _⟩ :: _)); refine st_y (y_assign rfl) rfl ?_)
         | (show AT _ _ _ (wpList _ _ _ (⟨_, Op.load _ _, _, _, _, _⟩ :: _)); first | refine st_y (y_loadb 0 tabs rfl rfl rfl rfl) rfl ?_ | refine st_y (y_loadb 1 tabs rfl rfl rfl rfl) rfl ?_ | refine st_y (y_loadb 2 tabs rfl rfl rfl rfl) rfl ?_ | refine st_y (y_loadb 3 tabs rfl rfl rfl rfl) rfl ?_ | refine st_y (y_load tabs rfl rfl (hc_blk 0 rfl rfl)) rfl ?_ | refine st_y (y_load tabs rfl rfl (hc_blk 1 rfl rfl)) rfl ?_ | refine st_y (y_load tabs rfl rfl (hc_blk 2 rfl rfl)) rfl ?_ | refine st_y (y_load tabs rfl rfl (hc_blk 3 rfl rfl)) rfl ?_ | refine st_y (y_load tabs rfl rfl (hc_blk 4 rfl rfl)) rfl ?_ | refine st_y (y_load tabs rfl rfl (hc_blk 5 rfl rfl)) rfl ?_ | refine st_y (y_load tabs rfl rfl (hc_rd (by assumption) (by omega))) rfl ?_)
         | (show AT _ _ _ (wpList _ _ _ (⟨_, Op.binOp _ _ _ _ _, _, _, _, _⟩ :: _)); first | refine st_y (y_lss rfl rfl) rfl ?_ | refine st_y (y_neq rfl rfl) rfl ?_ | refine st_y (y_neqb_same Tryd.underlying4 rfl rfl) rfl ?_)
         | (show AT _ _ _ (wpList _ _ _ (⟨_, Op.unOp _ _ _, _, _, _, _⟩ :: _)); first | refine st_y (y_notd rfl) rfl ?_ | refine st_y (y_not rfl) rfl ?_)
         | (show AT _ _ _ (wpList _ _ _ (⟨_, Op.call _, _, _, _, _⟩ :: _)); (refine m_call (ent_of Tryd.func4 (by kernel_rfl) rfl) rfl rfl (fun w c => szRep_big (r := r0) (c.rd h0_0) (c.rd h0_1) (c.rd h0_2) (c.rd h0_3) (by omega) (by omega) (by omega)) ?_; rintro v H' ⟨rfl, rfl⟩))
         | (show AT _ _ _ (wpList _ _ _ (⟨_, Op.store _ _ _, _, _, _, _⟩ :: _)); first | refine m_storef 0 tabs rfl rfl rfl rfl rfl rfl ?_ | refine m_storef 1 tabs rfl rfl rfl rfl rfl rfl ?_ | refine m_storef 2 tabs rfl rfl rfl rfl rfl rfl ?_ | refine m_storef 3 tabs rfl rfl rfl rfl rfl rfl ?_ | refine m_storeb 0 tabs rfl rfl rfl rfl rfl rfl rfl ?_ | refine m_storeb 1 tabs rfl rfl rfl rfl rfl rfl rfl ?_ | refine m_storeb 2 tabs rfl rfl rfl rfl rfl rfl rfl ?_ | refine m_storeb 3 tabs rfl rfl rfl rfl rfl rfl rfl ?_)
         | (show AT _ _ _ (wpList _ _ _ (⟨_, Op.box _ _, _, _, _, _⟩ :: _)); first | refine m_box rfl rfl (fun b hb => ?_) | refine m_box rfl rfl (fun bq hbq => ?_))
         | (show AT _ _ _ (wpList _ _ _ (⟨_, Op.alloc _, _, _, _, _⟩ :: _)); refine m_alloc tabs rfl rfl (fun bq hbq => ?_)))
      | (show AT _ _ _ (wpList _ _ _ []); first | refine c_nil (x_then ?_) | refine c_nil ?_)
      | (show AT _ _ _ (Code.wp _ _ _); first | refine c_seq ?_ | refine c_region ?_ | refine c_skip (x_then ?_) | refine c_skip (x_blk ?_) | refine c_skip ?_ | refine c_ret ?_ | refine c_exit ?_ | refine c_draw (by kernel_rfl) (by kernel_rfl) (fun _ c => Hp.drew c) ?_ | refine c_true rfl ?_ | refine c_false rfl ?_ | refine c_ift rfl (by first | assumption | omega) ?_ | refine c_iff rfl (by first | assumption | exact not_not_intro (by assumption) | omega) ?_ | refine c_ifnd rfl (fun h => ?_) (fun h => ?_) | refine c_if rfl (fun h => ?_) (fun h => ?_) | refine c_ifn rfl (fun h => ?_) (fun h => ?_))
      | (show QT _ _ _ _ _ _ (_ :: _); first
         | (show QT _ _ _ _ _ _ (⟨_, Op.move _, _, _, _, _⟩ :: _); refine q_y (y_move rfl) rfl ?_)
         | (show QT _ _ _ _ _ _ (⟨_, Op.assign _, _, _, _, _⟩ :: _); refine q_y (y_assign rfl) rfl ?_)
         | (show QT _ _ _ _ _ _ (⟨_, Op.load _ _, _, _, _, _⟩ :: _); first | refine q_y (y_loadb 0 tabs rfl rfl rfl rfl) rfl ?_ | refine q_y (y_loadb 1 tabs rfl rfl rfl rfl) rfl ?_ | refine q_y (y_loadb 2 tabs rfl rfl rfl rfl) rfl ?_ | refine q_y (y_loadb 3 tabs rfl rfl rfl rfl) rfl ?_ | refine q_y (y_load tabs rfl rfl (hc_blk 0 rfl rfl)) rfl ?_ | refine q_y (y_load tabs rfl rfl (hc_blk 1 rfl rfl)) rfl ?_ | refine q_y (y_load tabs rfl rfl (hc_blk 2 rfl rfl)) rfl ?_ | refine q_y (y_load tabs rfl rfl (hc_blk 3 rfl rfl)) rfl ?_ | refine q_y (y_load tabs rfl rfl (hc_blk 4 rfl rfl)) rfl ?_ | refine q_y (y_load tabs rfl rfl (hc_blk 5 rfl rfl)) rfl ?_ | refine q_y (y_load tabs rfl rfl (hc_rd (by assumption) (by omega))) rfl ?_)
         | (show QT _ _ _ _ _ _ (⟨_, Op.binOp _ _ _ _ _, _, _, _, _⟩ :: _); first | refine q_y (y_lss rfl rfl) rfl ?_ | refine q_y (y_neq rfl rfl) rfl ?_ | refine q_y (y_neqb_same Tryd.underlying4 rfl rfl) rfl ?_)
         | (show QT _ _ _ _ _ _ (⟨_, Op.unOp _ _ _, _, _, _, _⟩ :: _); first | refine q_y (y_notd rfl) rfl ?_ | refine q_y (y_not rfl) rfl ?_))
      | (show QT _ _ _ _ _ _ []; first | refine q_nil (x_then ?_) | refine q_nil ?_)
      | (show AT _ _ _ (Qk _ _ _); refine x_one ?_)
      | (show AT _ _ _ _; first | refine x_then ?_ | refine x_then_ret ?_ | refine x_blk_ret ?_ | refine x_then_exit ?_ | refine x_blk_exit rfl ?_ | refine x_blk_other rfl ?_ | refine x_blk ?_))
    exact x_ret1 Tryd.results3 (res_tmp rfl) (fun w' c' => ⟨_, _, rfl, ⟨rfl, rfl⟩, c'.sub (List.nil_sublist _)⟩)

set_option maxRecDepth 100000 in
theorem lifted (os : Os) (started : os.Started) (H : Type) (enc : TypeId × Value → H) :
    ReturnsInHanded {} Tryd.checked os 3 .any (fun w args => (Rows.fnExactFormatRepSpec.pre enc Tryd.prog Tryd.f3 Rows.fnExactFormatRepRow.domain false w args ∧ laidMetH Tryd.prog Rows.fnExactFormatRepRow.laid w) ∧ sizedMet enc Tryd.prog Tryd.f3 (OpenSpec.ofChange Rows.fnExactFormatRepSpec) false w args) (Rows.fnExactFormatRepSpec.post enc Tryd.prog Tryd.f3 false true false false) := by
  refine returnsInHanded_of_change_and (C := Tryd.checked) (X := fun w _ => laidMetH Tryd.prog Rows.fnExactFormatRepRow.laid w) (fun _ _ _ hh h => h.of_heap hh) Tryd.own started (by kernel_rfl) Tryd.func3
    (ChangeSpec.witness_shaped (enc := enc) (C := Tryd.checked) (os := os) (X := fun w _ => laidMetH Tryd.prog Rows.fnExactFormatRepRow.laid w) false (World.laidAll Tryd.prog os Rows.fnExactFormatRepRow.laid) #[.agg #[.int .i64 0, .int .i64 0, .slice none 0 0, .slice none 0 0, .slice none 0 0, .slice none 0 0]] 16 (World.laidAll_os _ _ _) (World.shaped_of_ZipB (by kernel_rfl) (by kernel_rfl)) (by kernel_rfl) (by kernel_rfl) (by kernel_rfl) (by rw [MakeChecks.laidMetH_plain _ _ _ (by kernel_rfl)]; exact laidMet_laidAll _ (by kernel_rfl) (by kernel_rfl))) ?_
  intro W base args ds gs before hval0 hW hcnd _ hL _
  have hval : ∀ (j : Nat) t v, Tryd.f3.params[j]? = some t → args[j]? = some v → Value.okWide Tryd.prog W .any base t v := hval0
  have hW' := hW
  obtain ⟨p, q, hA0, hV, rfl, hfz, hnd⟩ := hW
  have hA : DataW.TrodAll enc Tryd.prog W 0 (fun _ => true) true Tryd.f3.params.toList args.toList ds p := hA0
  rw [Tryd.params3] at hA hval
  obtain ⟨v0, vs0, d0, ds0, p0, q0, hargs, rfl, rfl, k0, r0⟩ := trodAll_cons hA
  obtain ⟨rfl, rfl, rfl⟩ := trodAll_nil r0
  obtain rfl : args = #[v0] := by cases args; simp_all
  obtain ⟨rfl, rfl⟩ := trodVars_none hV
  have lt0 : ∀ x ∈ p0, x.block < W.heap.size := by obtain ⟨m, hm⟩ := k0; exact DataW.trod_lt m _ _ _ hm
  obtain ⟨r0, u0_0, u0_1, u0_2, u0_3, rfl, h0_0, h0_1, h0_2, h0_3, g0⟩ := opn_rep (hval 0 27 v0 rfl rfl) k0
  clear hA0 hval0
  refine (law_ok W h0_0 h0_1 h0_2 h0_3 g0).mono fun e W' ⟨v, H', he, ⟨hv, _⟩, hp⟩ => ?_
  subst he; subst hv
  have bel := hp.below
  exact ⟨_, rfl, _, _, _, [], _, [], hW', trodAll_mk1 (shut_bool Tryd.underlying4 _), (trodAll_cons_mk (Below.trod Tryd.laidOut (by kernel_rfl) (of_decide_eq_true (by kernel_rfl)) k0 bel lt0) trodAll_mk0), rfl, bel.frame _, fun h => by cases h⟩

theorem closed : joinedFacts Tryd.pinned.checked.prog 3 Tryd.f3 Rows.fnExactFormatRepSpec Rows.fnExactFormatRepRow = true := by
  unfold joinedFacts
  repeat' (with_reducible refine band ?_ ?_)
  all_goals first | (with_reducible exact fin_enter) | ((with_reducible refine fin_lifted ?_); rfl) | ((with_reducible refine fin_make ?_); rfl) | (as_aux_lemma => kernel_rfl)
/-- the row -/
theorem rowed : Rows.FnExactFormatRepSaid :=
  OpenClaim.holds_of_wide 3 Tryd.f3 rfl rfl rfl rfl rfl rfl rfl ⟨rfl, rfl, rfl, rfl, rfl⟩ rfl rfl rfl rfl rfl (by kernel_rfl) Tryd.func3 closed
    (of_decide_eq_true (by kernel_rfl)) (by unfold Func.isWrapper; first | (rw [if_pos (by decide +kernel)]; kernel_rfl) | (rw [if_neg (by decide +kernel)]; exact ⟨rfl, rfl⟩))
    (fun os started H enc _ => lifted os started H enc)
/-- the given statement -/
theorem proved : Rows.FnExactFormatRepCardSaid :=
  Claim7.holds_tied_plain_at .later [] [.data, .data, .data] true (true, "ff80f7b88ad404c972b29478f1d8eb088e5d27ea8bbee8f052021c3cdd4e11ab") false rowed (fun _ h => by cases h) (by kernel_rfl) (fun _ h => by cases h) fnExactFormatRep_row_tie rfl ⟨rfl, rfl⟩ (by kernel_rfl) rfl
    (fun f fn hf hfn => by
      obtain rfl : f = 3 := Option.some.inj ((show Tryd.prog.funcNamed "loop.example/g03404/laws.FnExactFormatRep" = some 3 by kernel_rfl).symm.trans hf) |>.symm
      obtain rfl : fn = Tryd.f3 := (Option.some.inj (Tryd.func3.symm.trans hfn)).symm
      exact ⟨by kernel_rfl, fun j t ht => by
        rw [Tryd.params3] at ht
        have hm : t ∈ [27] := by simpa using Array.mem_of_getElem? ht
        have hall : ([27].all fun u => !Tryd.prog.wantsStandIn u) = true := by kernel_rfl
        exact (show Tryd.prog.wantsStandIn t = false by simpa using List.all_eq_true.1 hall t hm)⟩)
    (by kernel_rfl)
#print axioms proved
end Go.Proofs.YtljgmmmgnfgbhaaDoor.wFnExactFormatRep
