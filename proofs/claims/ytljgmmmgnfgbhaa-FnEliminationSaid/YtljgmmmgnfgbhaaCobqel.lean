import Derived.Test.YtljgmmmgnfgbhaaCopqel
import Derived.Test.YtljgmmmgnfgbhaaEqmqel
import Derived.Test.YtljgmmmgnfgbhaaInvqel
import Derived.Test.YtljgmmmgnfgbhaaLCqel
import Derived.Test.YtljgmmmgnfgbhaaLinqel
import Derived.Test.YtljgmmmgnfgbhaaMorqel
import Derived.Test.YtljgmmmgnfgbhaaMulqel
import Derived.Test.YtljgmmmgnfgbhaaOpnqel
import Derived.Test.YtljgmmmgnfgbhaaPrmqel
import Derived.Test.YtljgmmmgnfgbhaaQuiqel
import Derived.Test.YtljgmmmgnfgbhaaRowqel
namespace Go.Proofs.Ytljgmmmgnfgbhaa
open Go.Lg Go.Proofs Go.RowKit
attribute [local irreducible] Code.wp wpList bodyPost Exit.then Exit.inBlock Hp Again Calls Y AT ResV QT Qn QI wpAny wpAnyQ
set_option maxRecDepth 20000
set_option maxHeartbeats 4000000

/-! ### sums of matrices, zero matrices -/
theorem isZero1_ok {w : World} {x : Int} : Does Try.prog 118 [iV x] w (fun r H => r = .bool (decide (x ≠ 0)) ∧ H = []) := by
  refine fn_enter Try.func118 rfl Try.ntmps118 rfl ?_
  repeat' (first
    | (show AT _ _ _ (wpList _ _ _ (_ :: _)); first
       | (show AT _ _ _ (wpList _ _ _ (⟨_, Op.move _, _, _, _, _⟩ :: _)); refine st_y (y_move rfl) rfl ?_)
       | (show AT _ _ _ (wpList _ _ _ (⟨_, Op.assign _, _, _, _, _⟩ :: _)); refine st_y (y_assign rfl) rfl ?_)
       | (show AT _ _ _ (wpList _ _ _ (⟨_, Op.binOp _ _ _ _ _, _, _, _, _⟩ :: _)); refine st_y (y_neq rfl rfl) rfl ?_))
    | (show AT _ _ _ (wpList _ _ _ []); refine c_nil (x_then ?_))
    | (show AT _ _ _ (Code.wp _ _ _); first | refine c_seq ?_ | refine c_region ?_ | refine c_ret ?_))
  exact x_ret1 Try.results118 (res_tmp rfl) (fun w c => ⟨_, _, rfl, ⟨rfl, rfl⟩, c⟩)
theorem isZero_ok {w : World} {m : Mat} {u : Value} (hr : Rd w (iT m.2.2) u) : Does Try.prog 86 [.agg #[iV m.1, iV m.2.1, u]] w (fun r H => r = .bool (decide (∀ x ∈ m.2.2, x = 0)) ∧ H = []) := by
  refine fn_enter Try.func86 rfl Try.ntmps86 rfl ?_
  repeat' (first
    | (show AT _ _ _ (wpList _ _ _ (_ :: _)); first
       | (show AT _ _ _ (wpList _ _ _ (⟨_, Op.assign _, _, _, _, _⟩ :: _)); refine st_y (y_assign rfl) rfl ?_)
       | (show AT _ _ _ (wpList _ _ _ (⟨_, Op.fieldAddr _ _ _, _, _, _, _⟩ :: _)); refine st_y (y_field tabs rfl rfl rfl) rfl ?_)
       | (show AT _ _ _ (wpList _ _ _ (⟨_, Op.load _ _, _, _, _, _⟩ :: _)); refine st_y (y_load tabs rfl rfl (hc_blk 0 rfl rfl)) rfl ?_)
       | (show AT _ _ _ (wpList _ _ _ (⟨_, Op.unOp _ _ _, _, _, _, _⟩ :: _)); refine st_y (y_notd rfl) rfl ?_)
       | (show AT _ _ _ (wpList _ _ _ (⟨_, Op.call _, _, _, _, _⟩ :: _)); (refine m_call (ent_of Try.func117 (by kernel_rfl) rfl) rfl rfl (fun w c => ContainsFunc_ok (p := fun x => x ≠ 0) (c.rd hr) (ent_of Try.func118 (by kernel_rfl) rfl) (fun w' x c' => isZero1_ok)) ?_; rintro v H' ⟨rfl, rfl⟩))
       | (show AT _ _ _ (wpList _ _ _ (⟨_, Op.box _ _, _, _, _, _⟩ :: _)); refine m_box rfl rfl (fun b hb => ?_)))
    | (show AT _ _ _ (wpList _ _ _ []); refine c_nil (x_then ?_))
    | (show AT _ _ _ (Code.wp _ _ _); first | refine c_seq ?_ | refine c_region ?_ | refine c_ret ?_))
  refine x_ret1 Try.results86 (res_tmp rfl) (fun w' c' => ⟨_, _, rfl, ⟨congrArg Value.bool ?_, rfl⟩, c'.sub (List.nil_sublist _)⟩)
  refine decide_eq_decide.2 ?_
  simp
/-! ### morphisms -/
end Go.Proofs.Ytljgmmmgnfgbhaa
