import Derived.Test.YtljgmmmgnfgbhaaRdIqel
import Derived.Test.YtljgmmmgnfgbhaaSpbqel
namespace Go.Proofs.Ytljgmmmgnfgbhaa
open Go.Lg Go.Proofs Go.RowKit
theorem y_fld {P : Program} {n : Nat} {K : World → Prop} {s : List (Nat × Value)} {ty t fi : Nat} {x : Operand} {v0 v : Value} (hb : ∀ w, (Instr.field t v0 fi).run P w = .ok v w) (hx : ev s x = some v0) : Y P n K s (.field t x fi) ty v := fun a w f c d pos af g => by
  simp [execOp, f.ev hx, hb]
attribute [local irreducible] Code.wp wpList bodyPost Exit.then Exit.inBlock Hp Again Calls Y AT ResV QT Qn QI wpAny wpAnyQ
set_option maxRecDepth 20000
set_option maxHeartbeats 4000000

/-! ### InSpace, IsWithin -/
end Go.Proofs.Ytljgmmmgnfgbhaa
