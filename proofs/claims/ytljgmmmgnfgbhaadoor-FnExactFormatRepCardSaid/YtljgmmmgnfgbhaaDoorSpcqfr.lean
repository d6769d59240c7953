import Derived.Test.YtljgmmmgnfgbhaaDoorCopqfr
import Derived.Test.YtljgmmmgnfgbhaaDoorPrmqfr
import Derived.Test.YtljgmmmgnfgbhaaDoorShrqfr
namespace Go.Proofs.YtljgmmmgnfgbhaaDoor
open Go.Lg Go.Proofs Go.RowKit
attribute [local irreducible] Code.wp wpList bodyPost Exit.then Exit.inBlock Hp Again Calls Y AT ResV QT Qn QI wpAny wpAnyQ
set_option maxRecDepth 20000
set_option maxHeartbeats 4000000

/-! ### lists of rows: search -/
/-! ### vectors that fit -/
def FineP (p n : Int) (l : List (List Int)) : Prop := FieldP p ∧ (0 ≤ n ∧ n ≤ 8) ∧ l.length ≤ 16 ∧ ∀ v ∈ l, (v.length : Int) = n ∧ VecP p v
instance (p n : Int) (l : List (List Int)) : Decidable (FineP p n l) := by unfold FineP; infer_instance
end Go.Proofs.YtljgmmmgnfgbhaaDoor
