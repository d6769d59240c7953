import Derived.Test.YtljgmmmgnfgbhaaDoorLBqfr
import Derived.Test.YtljgmmmgnfgbhaaDoorPrdqfr
namespace Go.Proofs.YtljgmmmgnfgbhaaDoor
open Go.Lg Go.Proofs Go.RowKit
attribute [local irreducible] Code.wp wpList bodyPost Exit.then Exit.inBlock Hp Again Calls Y AT ResV QT
set_option maxRecDepth 20000
set_option maxHeartbeats 4000000

/-- the inverse of x, modulo a p of a field -/
def invM (p x : Int) : Int := if p = 5 ∧ x = 2 then 3 else if p = 5 ∧ x = 3 then 2 else x

end Go.Proofs.YtljgmmmgnfgbhaaDoor
