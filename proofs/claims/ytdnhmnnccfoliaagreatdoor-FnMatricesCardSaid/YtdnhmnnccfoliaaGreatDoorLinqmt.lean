import Derived.Test.YtdnhmnnccfoliaaGreatDoorRdIqmt
namespace Go.Proofs.YtdnhmnnccfoliaaGreatDoor
open Go.Lg Go.Proofs Go.RowKit
attribute [local irreducible] Code.wp wpList bodyPost Exit.then Exit.inBlock Hp Again Calls Y AT ResV QT Qn QI wpAny wpAnyQ
set_option maxRecDepth 20000
set_option maxHeartbeats 4000000

theorem bld_mat0 (w : World) : (Instr.build 41 #[]).run Tryz.prog w = .ok (.agg #[iV 0, iV 0, .slice none 0 0]) w := by kernel_rfl

end Go.Proofs.YtdnhmnnccfoliaaGreatDoor
