import Derived.Test.YtdnhmnnccfoliaaGreatDoorInvqpr
import Derived.Test.YtdnhmnnccfoliaaGreatDoorLCqpr
import Derived.Test.YtdnhmnnccfoliaaGreatDoorRdPqpr
import Derived.Test.YtdnhmnnccfoliaaGreatDoorRepqpr
namespace Go.Proofs.YtdnhmnnccfoliaaGreatDoor
open Go.Lg Go.Proofs Go.RowKit
attribute [local irreducible] Code.wp wpList bodyPost Exit.then Exit.inBlock Hp Again Calls Y AT ResV QT Qn QI wpAny wpAnyQ
set_option maxRecDepth 20000
set_option maxHeartbeats 4000000

theorem RepP.ml {r : Rp} (h : RepP r) : r.m.length ≤ 6 := by
  have h1 := h.2.1.1.2.1
  have h2 := h.2.2.1
  omega
end Go.Proofs.YtdnhmnnccfoliaaGreatDoor
