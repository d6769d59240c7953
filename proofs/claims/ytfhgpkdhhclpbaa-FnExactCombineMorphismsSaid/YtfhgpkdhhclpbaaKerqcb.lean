import Derived.Test.YtfhgpkdhhclpbaaInvqcb
import Derived.Test.YtfhgpkdhhclpbaaLCqcb
namespace Go.Proofs.Ytfhgpkdhhclpbaa
open Go.Lg Go.Proofs Go.RowKit
attribute [local irreducible] Code.wp wpList bodyPost Exit.then Exit.inBlock Hp Again Calls Y AT ResV QT Qn QI wpAny wpAnyQ
set_option maxRecDepth 20000
set_option maxHeartbeats 4000000

/-! ### the kernel -/
/-- the free columns among the first k -/
def freeN (piv : List Int) : Nat → List Int
  | 0 => []
  | k + 1 => if (k : Int) ∈ piv then freeN piv k else freeN piv k ++ [(k : Int)]
end Go.Proofs.Ytfhgpkdhhclpbaa
