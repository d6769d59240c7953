/- The law FnExactEqualSubs returns true for all arguments, and its arguments read behind the call as they read before; there are no conditions. -/
import Derived.Test.YtbpgnnejlablnaaSpa
import Derived.Test.YtbpgnnejlablnaaOpS
import Derived.Test.YtbpgnnejlablnaaOpn
import Derived.OpenShut
import Derived.ShutString
import Derived.Below
namespace Go.Proofs.Ytbpgnnejlablnaa.wFnExactEqualSubs
open Go.Lg Go.Proofs Go.RowKit Go.ChangeShapes Go.WideShapes Go.ChangeAt
attribute [local irreducible] Code.wp wpList bodyPost Exit.then Exit.inBlock Hp Again Calls Y AT ResV QT
set_option maxRecDepth 20000

theorem law_ok (w : World) {e0 : Nat} {m0 : List Sp} {u0 : Value} (h0 : Rd w (spsT e0 m0) u0) (g0 : ∀ s ∈ m0, RngSp s) {e1 : Nat} {m1 : List Sp} {u1 : Value} (h1 : Rd w (spsT e1 m1) u1) (g1 : ∀ s ∈ m1, RngSp s) :
    Does Try.prog 4 [u0, u1] w (fun r H => r = .bool true ∧ H = []) := by
  by_cases b0 : ((szL (fun s : Sp => szRows s.2) m0 : Nat) : Int) ≤ 1048576
  · by_cases b1 : ((szL (fun s : Sp => szRows s.2) m1 : Nat) : Int) ≤ 1048576 - (szL (fun s : Sp => szRows s.2) m0 : Nat)
    · refine fn_enter Try.func4 rfl Try.ntmps4 rfl ?_
      repeat' (first
        | (show AT _ _ _ (wpList _ _ _ (_ :: _)); first
           | (show AT _ _ _ (wpList _ _ _ (⟨_, Op.move _, _, _, _, _⟩ :: _)); refine st_y (y_move rfl) rfl ?_)
           | (show AT _ _ _ (wpList _ _ _ (⟨_, Op.assign _, _, _, _, _⟩ :: _)); refine st_y (y_assign rfl) rfl ?_)
           | (show AT _ _ _ (wpList _ _ _ (⟨_, Op.fieldAddr _ _ _, _, _, _, _⟩ :: _)); refine st_y (y_field tabs rfl rfl rfl) rfl ?_)
           | (show AT _ _ _ (wpList _ _ _ (⟨_, Op.load _ _, _, _, _, _⟩ :: _)); first | refine st_y (y_load tabs rfl rfl (hc_blk 0 rfl rfl)) rfl ?_ | refine st_y (y_load tabs rfl rfl (hc_blk 1 rfl rfl)) rfl ?_ | refine st_y (y_load tabs rfl rfl (hc_blk 2 rfl rfl)) rfl ?_ | refine st_y (y_load tabs rfl rfl (hc_blk 3 rfl rfl)) rfl ?_ | refine st_y (y_load tabs rfl rfl (hc_blk 4 rfl rfl)) rfl ?_ | refine st_y (y_load tabs rfl rfl (hc_blk 5 rfl rfl)) rfl ?_)
           | (show AT _ _ _ (wpList _ _ _ (⟨_, Op.binOp _ _ _ _ _, _, _, _, _⟩ :: _)); first | refine st_y (y_add rfl rfl (by omega)) rfl ?_ | refine st_y (y_sub rfl rfl (by omega)) rfl ?_ | refine st_y (y_lss rfl rfl) rfl ?_ | refine st_y (y_leq rfl rfl) rfl ?_ | refine st_y (y_gtr rfl rfl) rfl ?_ | refine st_y (y_geq rfl rfl) rfl ?_ | refine st_y (y_eql rfl rfl) rfl ?_ | refine st_y (y_neq rfl rfl) rfl ?_ | refine st_y (y_neqb_same Try.underlying4 rfl rfl) rfl ?_)
           | (show AT _ _ _ (wpList _ _ _ (⟨_, Op.unOp _ _ _, _, _, _, _⟩ :: _)); refine st_y (y_not rfl) rfl ?_)
           | (show AT _ _ _ (wpList _ _ _ (⟨_, Op.call _, _, _, _, _⟩ :: _)); first | (refine m_call (ent_of Try.func21 (by kernel_rfl) rfl) rfl rfl (fun w c => spec_EqualSubs_ok w _ _ m0 m1 _ _ (by first | exact c.rd h0 | exact c.rd h1 | exact c.rd h2 | exact c.own_rd (i := 0) rfl | exact c.own_rd (i := 1) rfl | exact c.own_rd (i := 2) rfl | exact c.own_rd (i := 3) rfl | exact c.own_rd (i := 4) rfl | exact c.own_rd (i := 5) rfl | exact c.own_rd (i := 6) rfl | exact c.own_rd (i := 7) rfl | exact c.own_rd (i := 8) rfl | exact c.own_rd (i := 9) rfl) (by first | exact c.rd h0 | exact c.rd h1 | exact c.rd h2 | exact c.own_rd (i := 0) rfl | exact c.own_rd (i := 1) rfl | exact c.own_rd (i := 2) rfl | exact c.own_rd (i := 3) rfl | exact c.own_rd (i := 4) rfl | exact c.own_rd (i := 5) rfl | exact c.own_rd (i := 6) rfl | exact c.own_rd (i := 7) rfl | exact c.own_rd (i := 8) rfl | exact c.own_rd (i := 9) rfl)) ?_; rintro v H' ⟨rfl, rfl⟩) | (refine m_call (ent_of Try.func23 (by kernel_rfl) rfl) rfl rfl (fun w c => impl_EqualSubs_ok w _ _ m0 m1 _ _ (by first | exact c.rd h0 | exact c.rd h1 | exact c.rd h2 | exact c.own_rd (i := 0) rfl | exact c.own_rd (i := 1) rfl | exact c.own_rd (i := 2) rfl | exact c.own_rd (i := 3) rfl | exact c.own_rd (i := 4) rfl | exact c.own_rd (i := 5) rfl | exact c.own_rd (i := 6) rfl | exact c.own_rd (i := 7) rfl | exact c.own_rd (i := 8) rfl | exact c.own_rd (i := 9) rfl) (by first | exact c.rd h0 | exact c.rd h1 | exact c.rd h2 | exact c.own_rd (i := 0) rfl | exact c.own_rd (i := 1) rfl | exact c.own_rd (i := 2) rfl | exact c.own_rd (i := 3) rfl | exact c.own_rd (i := 4) rfl | exact c.own_rd (i := 5) rfl | exact c.own_rd (i := 6) rfl | exact c.own_rd (i := 7) rfl | exact c.own_rd (i := 8) rfl | exact c.own_rd (i := 9) rfl)) ?_; rintro v H' ⟨rfl, rfl⟩) | (refine m_call (ent_of Try.func20 (by kernel_rfl) rfl) rfl rfl (fun w c => szSps_fit (c.rd h0) (by omega) (by omega)) ?_; rintro v H' ⟨rfl, rfl⟩) | (refine m_call (ent_of Try.func20 (by kernel_rfl) rfl) rfl rfl (fun w c => szSps_fit (c.rd h1) (by omega) (by omega)) ?_; rintro v H' ⟨rfl, rfl⟩) | (refine m_call (ent_of Try.func22 (by kernel_rfl) rfl) rfl rfl (fun w c => toSps_ok (c.rd h0) (by omega)) ?_; rintro v H' ⟨a4, c4, rfl, hs4, rfl⟩) | (refine m_call (ent_of Try.func22 (by kernel_rfl) rfl) rfl rfl (fun w c => toSps_ok (c.rd h1) (by omega)) ?_; rintro v H' ⟨a4, c4, rfl, hs4, rfl⟩) | (refine m_call (ent_of Try.func24 (by kernel_rfl) rfl) rfl rfl (fun w c => eqSps_same (by first | exact c.rd h0 | exact c.rd h1 | exact c.rd h2 | exact c.own_rd (i := 0) rfl | exact c.own_rd (i := 1) rfl | exact c.own_rd (i := 2) rfl | exact c.own_rd (i := 3) rfl | exact c.own_rd (i := 4) rfl | exact c.own_rd (i := 5) rfl | exact c.own_rd (i := 6) rfl | exact c.own_rd (i := 7) rfl | exact c.own_rd (i := 8) rfl | exact c.own_rd (i := 9) rfl) (by first | exact c.rd h0 | exact c.rd h1 | exact c.rd h2 | exact c.own_rd (i := 0) rfl | exact c.own_rd (i := 1) rfl | exact c.own_rd (i := 2) rfl | exact c.own_rd (i := 3) rfl | exact c.own_rd (i := 4) rfl | exact c.own_rd (i := 5) rfl | exact c.own_rd (i := 6) rfl | exact c.own_rd (i := 7) rfl | exact c.own_rd (i := 8) rfl | exact c.own_rd (i := 9) rfl)) ?_; rintro v H' ⟨rfl, rfl⟩) | refine st_y (y_len tabs rfl rfl) rfl ?_)
           | (show AT _ _ _ (wpList _ _ _ (⟨_, Op.extract _ _, _, _, _, _⟩ :: _)); refine st_y (y_ext rfl rfl) rfl ?_)
           | (show AT _ _ _ (wpList _ _ _ (⟨_, Op.pick _ _ _, _, _, _, _⟩ :: _)); first | refine st_y (y_pickt rfl (by assumption) rfl) rfl ?_ | refine st_y (y_pickf rfl (by assumption) rfl) rfl ?_ | refine st_y (y_pick rfl rfl rfl) rfl ?_)
           | (show AT _ _ _ (wpList _ _ _ (⟨_, Op.makeFunc _ _ _, _, _, _, _⟩ :: _)); refine st_y (y_fn rfl rfl) rfl ?_)
           | (show AT _ _ _ (wpList _ _ _ (⟨_, Op.buildSlice _ _ _, _, _, _, _⟩ :: _)); refine m_build0 tabs rfl rfl (fun g hg => ?_))
           | refine st_gy rfl rfl ?_ | refine st_gn rfl rfl rfl ?_ | refine st_gdy rfl rfl (by assumption) ?_ | refine st_gdn rfl rfl (by assumption) rfl ?_ | refine st_gfy rfl rfl (by assumption) ?_ | refine st_gfn rfl rfl (by assumption) rfl ?_ | refine st_gd rfl rfl (fun h => ?_) (fun h => ?_))
        | (show AT _ _ _ (wpList _ _ _ []); first | refine c_nil (x_then ?_) | refine c_nil ?_)
        | (show AT _ _ _ (Code.wp _ _ _); first | refine c_seq ?_ | refine c_region ?_ | refine c_skip (x_then ?_) | refine c_skip (x_blk ?_) | refine c_skip ?_ | refine c_block ?_ | refine c_ret ?_ | refine c_exit ?_ | refine c_draw (by kernel_rfl) (by kernel_rfl) (fun _ c => Hp.drew c) ?_ | refine c_true rfl ?_ | refine c_false rfl ?_ | refine c_ift rfl (by first | assumption | omega) ?_ | refine c_iff rfl (by first | assumption | omega) ?_ | refine c_if rfl (fun h => ?_) (fun h => ?_) | refine c_ifn rfl (fun h => ?_) (fun h => ?_))
        | (show QT _ _ _ _ _ _ (_ :: _); first
           | (show QT _ _ _ _ _ _ (⟨_, Op.move _, _, _, _, _⟩ :: _); refine q_y (y_move rfl) rfl ?_)
           | (show QT _ _ _ _ _ _ (⟨_, Op.assign _, _, _, _, _⟩ :: _); refine q_y (y_assign rfl) rfl ?_)
           | (show QT _ _ _ _ _ _ (⟨_, Op.fieldAddr _ _ _, _, _, _, _⟩ :: _); refine q_y (y_field tabs rfl rfl rfl) rfl ?_)
           | (show QT _ _ _ _ _ _ (⟨_, Op.load _ _, _, _, _, _⟩ :: _); first | refine q_y (y_load tabs rfl rfl (hc_blk 0 rfl rfl)) rfl ?_ | refine q_y (y_load tabs rfl rfl (hc_blk 1 rfl rfl)) rfl ?_ | refine q_y (y_load tabs rfl rfl (hc_blk 2 rfl rfl)) rfl ?_ | refine q_y (y_load tabs rfl rfl (hc_blk 3 rfl rfl)) rfl ?_ | refine q_y (y_load tabs rfl rfl (hc_blk 4 rfl rfl)) rfl ?_ | refine q_y (y_load tabs rfl rfl (hc_blk 5 rfl rfl)) rfl ?_)
           | (show QT _ _ _ _ _ _ (⟨_, Op.binOp _ _ _ _ _, _, _, _, _⟩ :: _); first | refine q_y (y_add rfl rfl (by omega)) rfl ?_ | refine q_y (y_sub rfl rfl (by omega)) rfl ?_ | refine q_y (y_lss rfl rfl) rfl ?_ | refine q_y (y_leq rfl rfl) rfl ?_ | refine q_y (y_gtr rfl rfl) rfl ?_ | refine q_y (y_geq rfl rfl) rfl ?_ | refine q_y (y_eql rfl rfl) rfl ?_ | refine q_y (y_neq rfl rfl) rfl ?_ | refine q_y (y_neqb_same Try.underlying4 rfl rfl) rfl ?_)
           | (show QT _ _ _ _ _ _ (⟨_, Op.unOp _ _ _, _, _, _, _⟩ :: _); refine q_y (y_not rfl) rfl ?_)
           | (show QT _ _ _ _ _ _ (⟨_, Op.call _, _, _, _, _⟩ :: _); refine q_y (y_len tabs rfl rfl) rfl ?_)
           | (show QT _ _ _ _ _ _ (⟨_, Op.extract _ _, _, _, _, _⟩ :: _); refine q_y (y_ext rfl rfl) rfl ?_)
           | (show QT _ _ _ _ _ _ (⟨_, Op.pick _ _ _, _, _, _, _⟩ :: _); first | refine q_y (y_pickt rfl (by assumption) rfl) rfl ?_ | refine q_y (y_pickf rfl (by assumption) rfl) rfl ?_ | refine q_y (y_pick rfl rfl rfl) rfl ?_)
           | (show QT _ _ _ _ _ _ (⟨_, Op.makeFunc _ _ _, _, _, _, _⟩ :: _); refine q_y (y_fn rfl rfl) rfl ?_)
           | refine q_gy rfl rfl ?_ | refine q_gn rfl rfl rfl ?_ | refine q_gdy rfl rfl (by assumption) ?_ | refine q_gdn rfl rfl (by assumption) rfl ?_ | refine q_gfy rfl rfl (by assumption) ?_ | refine q_gfn rfl rfl (by assumption) rfl ?_ | refine q_gd rfl rfl (fun h => ?_) (fun h => ?_))
        | (show QT _ _ _ _ _ _ []; first | refine q_nil (x_then ?_) | refine q_nil ?_)
        | (show AT _ _ _ _; first | refine x_then ?_ | refine x_then_ret ?_ | refine x_blk_ret ?_ | refine x_then_exit ?_ | refine x_blk_exit rfl ?_ | refine x_blk_other rfl ?_ | refine x_blk ?_))
      exact x_ret1 Try.results4 (res_tmp rfl) (fun w' c' => ⟨_, _, rfl, ⟨rfl, rfl⟩, c'.sub (List.nil_sublist _)⟩)
    · refine fn_enter Try.func4 rfl Try.ntmps4 rfl ?_
      repeat' (first
        | (show AT _ _ _ (wpList _ _ _ (_ :: _)); first
           | (show AT _ _ _ (wpList _ _ _ (⟨_, Op.move _, _, _, _, _⟩ :: _)); refine st_y (y_move rfl) rfl ?_)
           | (show AT _ _ _ (wpList _ _ _ (⟨_, Op.assign _, _, _, _, _⟩ :: _)); refine st_y (y_assign rfl) rfl ?_)
           | (show AT _ _ _ (wpList _ _ _ (⟨_, Op.fieldAddr _ _ _, _, _, _, _⟩ :: _)); refine st_y (y_field tabs rfl rfl rfl) rfl ?_)
           | (show AT _ _ _ (wpList _ _ _ (⟨_, Op.load _ _, _, _, _, _⟩ :: _)); first | refine st_y (y_load tabs rfl rfl (hc_blk 0 rfl rfl)) rfl ?_ | refine st_y (y_load tabs rfl rfl (hc_blk 1 rfl rfl)) rfl ?_ | refine st_y (y_load tabs rfl rfl (hc_blk 2 rfl rfl)) rfl ?_ | refine st_y (y_load tabs rfl rfl (hc_blk 3 rfl rfl)) rfl ?_ | refine st_y (y_load tabs rfl rfl (hc_blk 4 rfl rfl)) rfl ?_ | refine st_y (y_load tabs rfl rfl (hc_blk 5 rfl rfl)) rfl ?_)
           | (show AT _ _ _ (wpList _ _ _ (⟨_, Op.binOp _ _ _ _ _, _, _, _, _⟩ :: _)); first | refine st_y (y_add rfl rfl (by omega)) rfl ?_ | refine st_y (y_sub rfl rfl (by omega)) rfl ?_ | refine st_y (y_lss rfl rfl) rfl ?_ | refine st_y (y_leq rfl rfl) rfl ?_ | refine st_y (y_gtr rfl rfl) rfl ?_ | refine st_y (y_geq rfl rfl) rfl ?_ | refine st_y (y_eql rfl rfl) rfl ?_ | refine st_y (y_neq rfl rfl) rfl ?_ | refine st_y (y_neqb_same Try.underlying4 rfl rfl) rfl ?_)
           | (show AT _ _ _ (wpList _ _ _ (⟨_, Op.unOp _ _ _, _, _, _, _⟩ :: _)); refine st_y (y_not rfl) rfl ?_)
           | (show AT _ _ _ (wpList _ _ _ (⟨_, Op.call _, _, _, _, _⟩ :: _)); first | (refine m_call (ent_of Try.func20 (by kernel_rfl) rfl) rfl rfl (fun w c => szSps_fit (c.rd h0) (by omega) (by omega)) ?_; rintro v H' ⟨rfl, rfl⟩) | (refine m_call (ent_of Try.func20 (by kernel_rfl) rfl) rfl rfl (fun w c => szSps_big (c.rd h1) (by omega) (by omega) (by omega)) ?_; rintro v H' ⟨rfl, rfl⟩) | refine st_y (y_len tabs rfl rfl) rfl ?_)
           | (show AT _ _ _ (wpList _ _ _ (⟨_, Op.extract _ _, _, _, _, _⟩ :: _)); refine st_y (y_ext rfl rfl) rfl ?_)
           | (show AT _ _ _ (wpList _ _ _ (⟨_, Op.pick _ _ _, _, _, _, _⟩ :: _)); first | refine st_y (y_pickt rfl (by assumption) rfl) rfl ?_ | refine st_y (y_pickf rfl (by assumption) rfl) rfl ?_ | refine st_y (y_pick rfl rfl rfl) rfl ?_)
           | (show AT _ _ _ (wpList _ _ _ (⟨_, Op.makeFunc _ _ _, _, _, _, _⟩ :: _)); refine st_y (y_fn rfl rfl) rfl ?_)
           | (show AT _ _ _ (wpList _ _ _ (⟨_, Op.buildSlice _ _ _, _, _, _, _⟩ :: _)); refine m_build0 tabs rfl rfl (fun g hg => ?_))
           | refine st_gy rfl rfl ?_ | refine st_gn rfl rfl rfl ?_ | refine st_gdy rfl rfl (by assumption) ?_ | refine st_gdn rfl rfl (by assumption) rfl ?_ | refine st_gfy rfl rfl (by assumption) ?_ | refine st_gfn rfl rfl (by assumption) rfl ?_ | refine st_gd rfl rfl (fun h => ?_) (fun h => ?_))
        | (show AT _ _ _ (wpList _ _ _ []); first | refine c_nil (x_then ?_) | refine c_nil ?_)
        | (show AT _ _ _ (Code.wp _ _ _); first | refine c_seq ?_ | refine c_region ?_ | refine c_skip (x_then ?_) | refine c_skip (x_blk ?_) | refine c_skip ?_ | refine c_block ?_ | refine c_ret ?_ | refine c_exit ?_ | refine c_draw (by kernel_rfl) (by kernel_rfl) (fun _ c => Hp.drew c) ?_ | refine c_true rfl ?_ | refine c_false rfl ?_ | refine c_ift rfl (by first | assumption | omega) ?_ | refine c_iff rfl (by first | assumption | omega) ?_ | refine c_if rfl (fun h => ?_) (fun h => ?_) | refine c_ifn rfl (fun h => ?_) (fun h => ?_))
        | (show QT _ _ _ _ _ _ (_ :: _); first
           | (show QT _ _ _ _ _ _ (⟨_, Op.move _, _, _, _, _⟩ :: _); refine q_y (y_move rfl) rfl ?_)
           | (show QT _ _ _ _ _ _ (⟨_, Op.assign _, _, _, _, _⟩ :: _); refine q_y (y_assign rfl) rfl ?_)
           | (show QT _ _ _ _ _ _ (⟨_, Op.fieldAddr _ _ _, _, _, _, _⟩ :: _); refine q_y (y_field tabs rfl rfl rfl) rfl ?_)
           | (show QT _ _ _ _ _ _ (⟨_, Op.load _ _, _, _, _, _⟩ :: _); first | refine q_y (y_load tabs rfl rfl (hc_blk 0 rfl rfl)) rfl ?_ | refine q_y (y_load tabs rfl rfl (hc_blk 1 rfl rfl)) rfl ?_ | refine q_y (y_load tabs rfl rfl (hc_blk 2 rfl rfl)) rfl ?_ | refine q_y (y_load tabs rfl rfl (hc_blk 3 rfl rfl)) rfl ?_ | refine q_y (y_load tabs rfl rfl (hc_blk 4 rfl rfl)) rfl ?_ | refine q_y (y_load tabs rfl rfl (hc_blk 5 rfl rfl)) rfl ?_)
           | (show QT _ _ _ _ _ _ (⟨_, Op.binOp _ _ _ _ _, _, _, _, _⟩ :: _); first | refine q_y (y_add rfl rfl (by omega)) rfl ?_ | refine q_y (y_sub rfl rfl (by omega)) rfl ?_ | refine q_y (y_lss rfl rfl) rfl ?_ | refine q_y (y_leq rfl rfl) rfl ?_ | refine q_y (y_gtr rfl rfl) rfl ?_ | refine q_y (y_geq rfl rfl) rfl ?_ | refine q_y (y_eql rfl rfl) rfl ?_ | refine q_y (y_neq rfl rfl) rfl ?_ | refine q_y (y_neqb_same Try.underlying4 rfl rfl) rfl ?_)
           | (show QT _ _ _ _ _ _ (⟨_, Op.unOp _ _ _, _, _, _, _⟩ :: _); refine q_y (y_not rfl) rfl ?_)
           | (show QT _ _ _ _ _ _ (⟨_, Op.call _, _, _, _, _⟩ :: _); refine q_y (y_len tabs rfl rfl) rfl ?_)
           | (show QT _ _ _ _ _ _ (⟨_, Op.extract _ _, _, _, _, _⟩ :: _); refine q_y (y_ext rfl rfl) rfl ?_)
           | (show QT _ _ _ _ _ _ (⟨_, Op.pick _ _ _, _, _, _, _⟩ :: _); first | refine q_y (y_pickt rfl (by assumption) rfl) rfl ?_ | refine q_y (y_pickf rfl (by assumption) rfl) rfl ?_ | refine q_y (y_pick rfl rfl rfl) rfl ?_)
           | (show QT _ _ _ _ _ _ (⟨_, Op.makeFunc _ _ _, _, _, _, _⟩ :: _); refine q_y (y_fn rfl rfl) rfl ?_)
           | refine q_gy rfl rfl ?_ | refine q_gn rfl rfl rfl ?_ | refine q_gdy rfl rfl (by assumption) ?_ | refine q_gdn rfl rfl (by assumption) rfl ?_ | refine q_gfy rfl rfl (by assumption) ?_ | refine q_gfn rfl rfl (by assumption) rfl ?_ | refine q_gd rfl rfl (fun h => ?_) (fun h => ?_))
        | (show QT _ _ _ _ _ _ []; first | refine q_nil (x_then ?_) | refine q_nil ?_)
        | (show AT _ _ _ _; first | refine x_then ?_ | refine x_then_ret ?_ | refine x_blk_ret ?_ | refine x_then_exit ?_ | refine x_blk_exit rfl ?_ | refine x_blk_other rfl ?_ | refine x_blk ?_))
      exact x_ret1 Try.results4 (res_tmp rfl) (fun w' c' => ⟨_, _, rfl, ⟨rfl, rfl⟩, c'.sub (List.nil_sublist _)⟩)
  · refine fn_enter Try.func4 rfl Try.ntmps4 rfl ?_
    repeat' (first
      | (show AT _ _ _ (wpList _ _ _ (_ :: _)); first
         | (show AT _ _ _ (wpList _ _ _ (⟨_, Op.move _, _, _, _, _⟩ :: _)); refine st_y (y_move rfl) rfl ?_)
         | (show AT _ _ _ (wpList _ _ _ (⟨_, Op.assign _, _, _, _, _⟩ :: _)); refine st_y (y_assign rfl) rfl ?_)
         | (show AT _ _ _ (wpList _ _ _ (⟨_, Op.fieldAddr _ _ _, _, _, _, _⟩ :: _)); refine st_y (y_field tabs rfl rfl rfl) rfl ?_)
         | (show AT _ _ _ (wpList _ _ _ (⟨_, Op.load _ _, _, _, _, _⟩ :: _)); first | refine st_y (y_load tabs rfl rfl (hc_blk 0 rfl rfl)) rfl ?_ | refine st_y (y_load tabs rfl rfl (hc_blk 1 rfl rfl)) rfl ?_ | refine st_y (y_load tabs rfl rfl (hc_blk 2 rfl rfl)) rfl ?_ | refine st_y (y_load tabs rfl rfl (hc_blk 3 rfl rfl)) rfl ?_ | refine st_y (y_load tabs rfl rfl (hc_blk 4 rfl rfl)) rfl ?_ | refine st_y (y_load tabs rfl rfl (hc_blk 5 rfl rfl)) rfl ?_)
         | (show AT _ _ _ (wpList _ _ _ (⟨_, Op.binOp _ _ _ _ _, _, _, _, _⟩ :: _)); first | refine st_y (y_add rfl rfl (by omega)) rfl ?_ | refine st_y (y_sub rfl rfl (by omega)) rfl ?_ | refine st_y (y_lss rfl rfl) rfl ?_ | refine st_y (y_leq rfl rfl) rfl ?_ | refine st_y (y_gtr rfl rfl) rfl ?_ | refine st_y (y_geq rfl rfl) rfl ?_ | refine st_y (y_eql rfl rfl) rfl ?_ | refine st_y (y_neq rfl rfl) rfl ?_ | refine st_y (y_neqb_same Try.underlying4 rfl rfl) rfl ?_)
         | (show AT _ _ _ (wpList _ _ _ (⟨_, Op.unOp _ _ _, _, _, _, _⟩ :: _)); refine st_y (y_not rfl) rfl ?_)
         | (show AT _ _ _ (wpList _ _ _ (⟨_, Op.call _, _, _, _, _⟩ :: _)); first | (refine m_call (ent_of Try.func20 (by kernel_rfl) rfl) rfl rfl (fun w c => szSps_big (c.rd h0) (by omega) (by omega) (by omega)) ?_; rintro v H' ⟨rfl, rfl⟩) | refine st_y (y_len tabs rfl rfl) rfl ?_)
         | (show AT _ _ _ (wpList _ _ _ (⟨_, Op.extract _ _, _, _, _, _⟩ :: _)); refine st_y (y_ext rfl rfl) rfl ?_)
         | (show AT _ _ _ (wpList _ _ _ (⟨_, Op.pick _ _ _, _, _, _, _⟩ :: _)); first | refine st_y (y_pickt rfl (by assumption) rfl) rfl ?_ | refine st_y (y_pickf rfl (by assumption) rfl) rfl ?_ | refine st_y (y_pick rfl rfl rfl) rfl ?_)
         | (show AT _ _ _ (wpList _ _ _ (⟨_, Op.makeFunc _ _ _, _, _, _, _⟩ :: _)); refine st_y (y_fn rfl rfl) rfl ?_)
         | (show AT _ _ _ (wpList _ _ _ (⟨_, Op.buildSlice _ _ _, _, _, _, _⟩ :: _)); refine m_build0 tabs rfl rfl (fun g hg => ?_))
         | refine st_gy rfl rfl ?_ | refine st_gn rfl rfl rfl ?_ | refine st_gdy rfl rfl (by assumption) ?_ | refine st_gdn rfl rfl (by assumption) rfl ?_ | refine st_gfy rfl rfl (by assumption) ?_ | refine st_gfn rfl rfl (by assumption) rfl ?_ | refine st_gd rfl rfl (fun h => ?_) (fun h => ?_))
      | (show AT _ _ _ (wpList _ _ _ []); first | refine c_nil (x_then ?_) | refine c_nil ?_)
      | (show AT _ _ _ (Code.wp _ _ _); first | refine c_seq ?_ | refine c_region ?_ | refine c_skip (x_then ?_) | refine c_skip (x_blk ?_) | refine c_skip ?_ | refine c_block ?_ | refine c_ret ?_ | refine c_exit ?_ | refine c_draw (by kernel_rfl) (by kernel_rfl) (fun _ c => Hp.drew c) ?_ | refine c_true rfl ?_ | refine c_false rfl ?_ | refine c_ift rfl (by first | assumption | omega) ?_ | refine c_iff rfl (by first | assumption | omega) ?_ | refine c_if rfl (fun h => ?_) (fun h => ?_) | refine c_ifn rfl (fun h => ?_) (fun h => ?_))
      | (show QT _ _ _ _ _ _ (_ :: _); first
         | (show QT _ _ _ _ _ _ (⟨_, Op.move _, _, _, _, _⟩ :: _); refine q_y (y_move rfl) rfl ?_)
         | (show QT _ _ _ _ _ _ (⟨_, Op.assign _, _, _, _, _⟩ :: _); refine q_y (y_assign rfl) rfl ?_)
         | (show QT _ _ _ _ _ _ (⟨_, Op.fieldAddr _ _ _, _, _, _, _⟩ :: _); refine q_y (y_field tabs rfl rfl rfl) rfl ?_)
         | (show QT _ _ _ _ _ _ (⟨_, Op.load _ _, _, _, _, _⟩ :: _); first | refine q_y (y_load tabs rfl rfl (hc_blk 0 rfl rfl)) rfl ?_ | refine q_y (y_load tabs rfl rfl (hc_blk 1 rfl rfl)) rfl ?_ | refine q_y (y_load tabs rfl rfl (hc_blk 2 rfl rfl)) rfl ?_ | refine q_y (y_load tabs rfl rfl (hc_blk 3 rfl rfl)) rfl ?_ | refine q_y (y_load tabs rfl rfl (hc_blk 4 rfl rfl)) rfl ?_ | refine q_y (y_load tabs rfl rfl (hc_blk 5 rfl rfl)) rfl ?_)
         | (show QT _ _ _ _ _ _ (⟨_, Op.binOp _ _ _ _ _, _, _, _, _⟩ :: _); first | refine q_y (y_add rfl rfl (by omega)) rfl ?_ | refine q_y (y_sub rfl rfl (by omega)) rfl ?_ | refine q_y (y_lss rfl rfl) rfl ?_ | refine q_y (y_leq rfl rfl) rfl ?_ | refine q_y (y_gtr rfl rfl) rfl ?_ | refine q_y (y_geq rfl rfl) rfl ?_ | refine q_y (y_eql rfl rfl) rfl ?_ | refine q_y (y_neq rfl rfl) rfl ?_ | refine q_y (y_neqb_same Try.underlying4 rfl rfl) rfl ?_)
         | (show QT _ _ _ _ _ _ (⟨_, Op.unOp _ _ _, _, _, _, _⟩ :: _); refine q_y (y_not rfl) rfl ?_)
         | (show QT _ _ _ _ _ _ (⟨_, Op.call _, _, _, _, _⟩ :: _); refine q_y (y_len tabs rfl rfl) rfl ?_)
         | (show QT _ _ _ _ _ _ (⟨_, Op.extract _ _, _, _, _, _⟩ :: _); refine q_y (y_ext rfl rfl) rfl ?_)
         | (show QT _ _ _ _ _ _ (⟨_, Op.pick _ _ _, _, _, _, _⟩ :: _); first | refine q_y (y_pickt rfl (by assumption) rfl) rfl ?_ | refine q_y (y_pickf rfl (by assumption) rfl) rfl ?_ | refine q_y (y_pick rfl rfl rfl) rfl ?_)
         | (show QT _ _ _ _ _ _ (⟨_, Op.makeFunc _ _ _, _, _, _, _⟩ :: _); refine q_y (y_fn rfl rfl) rfl ?_)
         | refine q_gy rfl rfl ?_ | refine q_gn rfl rfl rfl ?_ | refine q_gdy rfl rfl (by assumption) ?_ | refine q_gdn rfl rfl (by assumption) rfl ?_ | refine q_gfy rfl rfl (by assumption) ?_ | refine q_gfn rfl rfl (by assumption) rfl ?_ | refine q_gd rfl rfl (fun h => ?_) (fun h => ?_))
      | (show QT _ _ _ _ _ _ []; first | refine q_nil (x_then ?_) | refine q_nil ?_)
      | (show AT _ _ _ _; first | refine x_then ?_ | refine x_then_ret ?_ | refine x_blk_ret ?_ | refine x_then_exit ?_ | refine x_blk_exit rfl ?_ | refine x_blk_other rfl ?_ | refine x_blk ?_))
    exact x_ret1 Try.results4 (res_tmp rfl) (fun w' c' => ⟨_, _, rfl, ⟨rfl, rfl⟩, c'.sub (List.nil_sublist _)⟩)

set_option maxRecDepth 100000 in
theorem lifted (os : Os) (started : os.Started) (H : Type) (enc : TypeId × Value → H) :
    ReturnsInHanded {} Try.checked os 4 .any (Rows.fnExactEqualSubsSpec.pre6 enc Try.prog Try.f4 Rows.fnExactEqualSubsRow.domain false) (Rows.fnExactEqualSubsSpec.post enc Try.prog Try.f4 false true false false) := by
  refine returnsInHanded_of_change (C := Try.checked) Try.own started (by kernel_rfl) Try.func4
    (ChangeSpec.witness6 (enc := enc) (C := Try.checked) false ⟨#[], #[.slice none 0 0, .slice none 0 0], []⟩ 16 (by kernel_rfl) (by kernel_rfl) (by kernel_rfl) (by kernel_rfl)) ?_
  intro W base args ds gs before hval0 hW hcnd _
  have hval : ∀ (j : Nat) t v, Try.f4.params[j]? = some t → args[j]? = some v → Value.okWide Try.prog W .any base t v := hval0
  have hW' := hW
  obtain ⟨p, q, hA0, hV, rfl, hfz, hnd⟩ := hW
  have hA : DataW.TrodAll enc Try.prog W 0 (fun _ => true) true Try.f4.params.toList args.toList ds p := hA0
  rw [Try.params4] at hA hval
  obtain ⟨v0, vs0, d0, ds0, p0, q0, hargs, rfl, rfl, k0, r0⟩ := trodAll_cons hA
  obtain ⟨v1, vs1, d1, ds1, p1, q1, rfl, rfl, rfl, k1, r1⟩ := trodAll_cons r0
  obtain ⟨rfl, rfl, rfl⟩ := trodAll_nil r1
  obtain rfl : args = #[v0, v1] := by cases args; simp_all
  obtain ⟨rfl, rfl⟩ := trodVars_none hV
  have lt0 : ∀ x ∈ p0, x.block < W.heap.size := by obtain ⟨m, hm⟩ := k0; exact DataW.trod_lt m _ _ _ hm
  obtain ⟨m0, h0, g0⟩ := opn_spaces (hval 0 28 v0 rfl rfl) k0
  have lt1 : ∀ x ∈ p1, x.block < W.heap.size := by obtain ⟨m, hm⟩ := k1; exact DataW.trod_lt m _ _ _ hm
  obtain ⟨m1, h1, g1⟩ := opn_spaces (hval 1 28 v1 rfl rfl) k1
  clear hA0 hval0
  refine (law_ok W h0 g0 h1 g1).mono fun e W' ⟨v, H', he, ⟨hv, _⟩, hp⟩ => ?_
  subst he; subst hv
  have bel := hp.below
  exact ⟨_, rfl, _, _, _, [], _, [], hW', trodAll_mk1 (shut_bool Try.underlying4 _), (trodAll_cons_mk (Below.trod Try.laidOut (by kernel_rfl) (of_decide_eq_true (by kernel_rfl)) k0 bel lt0) (trodAll_cons_mk (Below.trod Try.laidOut (by kernel_rfl) (of_decide_eq_true (by kernel_rfl)) k1 bel lt1) trodAll_mk0)), rfl, bel.frame _, fun h => by cases h⟩

/-- the given statement -/
theorem proved : Rows.FnExactEqualSubsSaid :=
  OpenClaim.holds_of_wide 4 Try.f4 rfl rfl rfl rfl rfl rfl rfl ⟨rfl, rfl, rfl, rfl, rfl⟩ rfl rfl rfl rfl rfl (by kernel_rfl) Try.func4 (by kernel_rfl)
    (of_decide_eq_true (by kernel_rfl)) (by unfold Func.isWrapper; first | (rw [if_pos (by decide +kernel)]; kernel_rfl) | (rw [if_neg (by decide +kernel)]; exact ⟨rfl, rfl⟩))
    (fun os started H enc _ => lifted os started H enc)
#print axioms proved
end Go.Proofs.Ytbpgnnejlablnaa.wFnExactEqualSubs
