import Derived.Test.YtnmhdmkfhacdbaaRdIqE
import Derived.Test.YtnmhdmkfhacdbaaSpeqE
namespace Go.Proofs.Ytnmhdmkfhacdbaa
open Go.Lg Go.Proofs Go.RowKit
theorem y_fld {P : Program} {n : Nat} {K : World → Prop} {s : List (Nat × Value)} {ty t fi : Nat} {x : Operand} {v0 v : Value} (hb : ∀ w, (Instr.field t v0 fi).run P w = .ok v w) (hx : ev s x = some v0) : Y P n K s (.field t x fi) ty v := fun a w f c d pos af g => by
  simp [execOp, f.ev hx, hb]
attribute [local irreducible] Code.wp wpList bodyPost Exit.then Exit.inBlock Hp Again Calls Y AT ResV QT Qn QI wpAny wpAnyQ
set_option maxRecDepth 20000
set_option maxHeartbeats 4000000

/-! ### InSpace, IsWithin -/
/-- all vectors of a belong to b -/
def WthP (p : Int) (a b : Sp) : Prop := SumP p a b ∧ rkL p a.1.toNat (a.2 ++ b.2) = b.2.length
instance (p : Int) (a b : Sp) : Decidable (WthP p a b) := by unfold WthP; infer_instance
end Go.Proofs.Ytnmhdmkfhacdbaa
