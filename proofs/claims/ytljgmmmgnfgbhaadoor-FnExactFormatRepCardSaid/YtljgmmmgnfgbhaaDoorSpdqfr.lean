import Derived.Test.YtljgmmmgnfgbhaaDoorSpbqfr
namespace Go.Proofs.YtljgmmmgnfgbhaaDoor
open Go.Lg Go.Proofs Go.RowKit
attribute [local irreducible] Code.wp wpList bodyPost Exit.then Exit.inBlock Hp Again Calls Y AT ResV QT Qn QI wpAny wpAnyQ
set_option maxRecDepth 20000
set_option maxHeartbeats 4000000

/-! ### SpanOf, IsSpace -/
def SpcP (p : Int) (s : Sp) : Prop := FineP p s.1 s.2 ∧ basL p s.1.toNat s.2 = s.2
instance (p : Int) (s : Sp) : Decidable (SpcP p s) := by unfold SpcP; infer_instance
end Go.Proofs.YtljgmmmgnfgbhaaDoor
