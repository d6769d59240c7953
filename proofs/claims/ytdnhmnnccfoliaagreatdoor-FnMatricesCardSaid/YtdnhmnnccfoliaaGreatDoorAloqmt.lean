import Derived.Test.YtdnhmnnccfoliaaGreatDoorImgqmt
import Derived.Test.YtdnhmnnccfoliaaGreatDoorLCqmt
import Derived.Test.YtdnhmnnccfoliaaGreatDoorLinqmt
import Derived.Test.YtdnhmnnccfoliaaGreatDoorMorqmt
import Derived.Test.YtdnhmnnccfoliaaGreatDoorMulqmt
import Derived.Test.YtdnhmnnccfoliaaGreatDoorOpnqmt
import Derived.Test.YtdnhmnnccfoliaaGreatDoorQuiqmt
import Derived.Test.YtdnhmnnccfoliaaGreatDoorZerqmt
namespace Go.Proofs.YtdnhmnnccfoliaaGreatDoor
open Go.Lg Go.Proofs Go.RowKit
attribute [local irreducible] Code.wp wpList bodyPost Exit.then Exit.inBlock Hp Again Calls Y AT ResV QT Qn QI wpAny wpAnyQ
set_option maxRecDepth 20000
set_option maxHeartbeats 4000000

theorem RepP.dg {r : Rp} (h : RepP r) (n : Nat) : 0 ≤ r.d.getD n 0 ∧ r.d.getD n 0 ≤ 4 := (RepP.dd h).1 n
end Go.Proofs.YtdnhmnnccfoliaaGreatDoor
