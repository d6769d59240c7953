import Derived.Test.YtdnhmnnccfoliaaDoorDatqqv
import Derived.Test.YtdnhmnnccfoliaaDoorInvqqv
import Derived.Test.YtdnhmnnccfoliaaDoorLBqqv
import Derived.Test.YtdnhmnnccfoliaaDoorLCqqv
import Derived.Test.YtdnhmnnccfoliaaDoorOpnqqv
import Derived.Test.YtdnhmnnccfoliaaDoorPrmqqv
import Derived.Test.YtdnhmnnccfoliaaDoorQuiqqv
import Derived.Test.YtdnhmnnccfoliaaDoorQupqqv
import Derived.Test.YtdnhmnnccfoliaaDoorRdPqqv
import Derived.Test.YtdnhmnnccfoliaaDoorSpbqqv
import Derived.Test.YtdnhmnnccfoliaaDoorTabqqv
import Derived.Test.YtdnhmnnccfoliaaDoorZerqqv
namespace Go.Proofs.YtdnhmnnccfoliaaDoor
open Go.Lg Go.Proofs Go.RowKit
attribute [local irreducible] Code.wp wpList bodyPost Exit.then Exit.inBlock Hp Again Calls Y AT ResV QT Qn QI wpAny wpAnyQ
set_option maxRecDepth 20000
set_option maxHeartbeats 4000000

theorem hasVertex_ok {w : World} {q : Qv} {u0 u1 : Value} {v : Int} (hq : -4611686018427387904 ≤ q.1 ∧ q.1 ≤ 4611686018427387904) : Does Tryd.prog 67 [.agg #[iV q.1, u0, u1], iV v] w (fun r H => r = .bool (decide (0 ≤ v ∧ v ≤ q.1 - 1)) ∧ H = []) := by
  refine fn_enter Tryd.func67 rfl Tryd.ntmps67 rfl ?_
  repeat' (first | (show oL; first | refine sMv rfl rfl ?_ | refine sAs rfl rfl ?_ | refine sFd tabs rfl rfl rfl rfl ?_ | refine sLd 0 tabs rfl rfl rfl rfl rfl ?_ | (show oA (.binOp _ _ _ _ _); refine st_y (y_sub rfl rfl om) rfl ?_) | (show oA (.call _); (refine m_call (ent_of Tryd.func45 kr rfl) rfl rfl (fun w c => within_ok _ _ _) ?_; rintro v H' ⟨rfl, rfl⟩)) | (show oA (.box _ _); refine m_box rfl rfl (fun b hb => ?_))) | refine xNt ?_ | (show oC; first | refine c_seq ?_ | refine c_region ?_ | refine c_ret ?_))
  exact x_ret1 Tryd.results67 (res_tmp rfl) (fun w' c' => ⟨_, _, rfl, ⟨rfl, rfl⟩, c'.sub (List.nil_sublist _)⟩)
end Go.Proofs.YtdnhmnnccfoliaaDoor
