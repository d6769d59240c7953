import Derived.Test.YtdnhmnnccfoliaaDoorQupqqv
import Derived.Test.YtdnhmnnccfoliaaDoorSpbqqv
import Derived.Test.YtdnhmnnccfoliaaDoorZerqqv
namespace Go.Proofs.YtdnhmnnccfoliaaDoor
open Go.Lg Go.Proofs Go.RowKit
theorem y_bld1 {P : Program} {n : Nat} {K : World → Prop} {s : List (Nat × Value)} {ty t : Nat} {x0 : Operand} {v0 v : Value} (hb : ∀ w, (Instr.build t #[(0, v0)]).run P w = .ok v w) (h0 : ev s x0 = some v0) : Y P n K s (.build t #[(0, x0)]) ty v := fun a w f c d pos af g => by
  simp [execOp, f.ev h0, hb]
attribute [local irreducible] Code.wp wpList bodyPost Exit.then Exit.inBlock Hp Again Calls Y AT ResV QT Qn QI wpAny wpAnyQ
set_option maxRecDepth 20000
set_option maxHeartbeats 4000000

end Go.Proofs.YtdnhmnnccfoliaaDoor
