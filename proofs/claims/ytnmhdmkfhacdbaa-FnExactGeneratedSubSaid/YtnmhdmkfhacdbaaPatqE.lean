import Derived.Test.YtnmhdmkfhacdbaaInvqE
import Derived.Test.YtnmhdmkfhacdbaaMorqE
import Derived.Test.YtnmhdmkfhacdbaaMrkqE
import Derived.Test.YtnmhdmkfhacdbaaMulqE
import Derived.Test.YtnmhdmkfhacdbaaOpnqE
import Derived.Test.YtnmhdmkfhacdbaaRepqE
import Derived.Test.YtnmhdmkfhacdbaaRplqE
namespace Go.Proofs.Ytnmhdmkfhacdbaa
open Go.Lg Go.Proofs Go.RowKit
attribute [local irreducible] Code.wp wpList bodyPost Exit.then Exit.inBlock Hp Again Calls Y AT ResV QT Qn QI wpAny wpAnyQ
set_option maxRecDepth 20000
set_option maxHeartbeats 4000000

/-! ### paths of a quiver -/
theorem hasVertex_ok {w : World} {q : Qv} {u0 u1 : Value} {v : Int} (hq : -4611686018427387904 ≤ q.1 ∧ q.1 ≤ 4611686018427387904) : Does Try.prog 118 [.agg #[iV q.1, u0, u1], iV v] w (fun r H => r = .bool (decide (0 ≤ v ∧ v ≤ q.1 - 1)) ∧ H = []) := by
  refine fn_enter Try.func118 rfl Try.ntmps118 rfl ?_
  repeat' (first
    | (show AT _ _ _ (wpList _ _ _ (_ :: _)); first
       | (show AT _ _ _ (wpList _ _ _ (⟨_, Op.move _, _, _, _, _⟩ :: _)); refine st_y (y_move rfl) rfl ?_)
       | (show AT _ _ _ (wpList _ _ _ (⟨_, Op.assign _, _, _, _, _⟩ :: _)); refine st_y (y_assign rfl) rfl ?_)
       | (show AT _ _ _ (wpList _ _ _ (⟨_, Op.fieldAddr _ _ _, _, _, _, _⟩ :: _)); refine st_y (y_field tabs rfl rfl rfl) rfl ?_)
       | (show AT _ _ _ (wpList _ _ _ (⟨_, Op.load _ _, _, _, _, _⟩ :: _)); refine st_y (y_load tabs rfl rfl (hc_blk 0 rfl rfl)) rfl ?_)
       | (show AT _ _ _ (wpList _ _ _ (⟨_, Op.binOp _ _ _ _ _, _, _, _, _⟩ :: _)); refine st_y (y_sub rfl rfl (by omega)) rfl ?_)
       | (show AT _ _ _ (wpList _ _ _ (⟨_, Op.call _, _, _, _, _⟩ :: _)); (refine m_call (ent_of Try.func129 (by kernel_rfl) rfl) rfl rfl (fun w c => within_ok _ _ _) ?_; rintro v H' ⟨rfl, rfl⟩))
       | (show AT _ _ _ (wpList _ _ _ (⟨_, Op.box _ _, _, _, _, _⟩ :: _)); refine m_box rfl rfl (fun b hb => ?_)))
    | (show AT _ _ _ (wpList _ _ _ []); refine c_nil (x_then ?_))
    | (show AT _ _ _ (Code.wp _ _ _); first | refine c_seq ?_ | refine c_region ?_ | refine c_ret ?_))
  exact x_ret1 Try.results118 (res_tmp rfl) (fun w' c' => ⟨_, _, rfl, ⟨rfl, rfl⟩, c'.sub (List.nil_sublist _)⟩)
end Go.Proofs.Ytnmhdmkfhacdbaa
