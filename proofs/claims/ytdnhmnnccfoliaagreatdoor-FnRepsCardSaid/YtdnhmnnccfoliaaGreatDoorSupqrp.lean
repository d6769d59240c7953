import Derived.Test.YtdnhmnnccfoliaaGreatDoorAloqrp
import Derived.Test.YtdnhmnnccfoliaaGreatDoorCopqrp
import Derived.Test.YtdnhmnnccfoliaaGreatDoorFitqrp
import Derived.Test.YtdnhmnnccfoliaaGreatDoorLCqrp
import Derived.Test.YtdnhmnnccfoliaaGreatDoorPrmqrp
import Derived.Test.YtdnhmnnccfoliaaGreatDoorRepqrp
namespace Go.Proofs.YtdnhmnnccfoliaaGreatDoor
open Go.Lg Go.Proofs Go.RowKit
attribute [local irreducible] Code.wp wpList bodyPost Exit.then Exit.inBlock Hp Again Calls Y AT ResV QT Qn QI wpAny wpAnyQ
set_option maxRecDepth 20000
set_option maxHeartbeats 4000000

theorem AreP.ml {a b : Rp} {ms : List Mat} (h : AreP a b ms) : ms.length ≤ 5 := by
  have h1 := (RepP.dd h.1.1).2
  have h2 := h.2.1
  omega
end Go.Proofs.YtdnhmnnccfoliaaGreatDoor

namespace Go.Proofs.YtdnhmnnccfoliaaGreatDoor
open Go.Lg Go.Proofs Go.RowKit
attribute [local irreducible] Code.wp wpList bodyPost Exit.then Exit.inBlock Hp Again Calls Y AT ResV QT Qn QI wpAny wpAnyQ
set_option maxRecDepth 20000
set_option maxHeartbeats 4000000

def GivesIL (xs : List Int) (v : Value) (H : List HE) : Prop := ∃ a c, v = .slice a xs.length c ∧ SA a xs.length ∧ H = [.own (iT xs) (.slice a xs.length c)]
end Go.Proofs.YtdnhmnnccfoliaaGreatDoor
