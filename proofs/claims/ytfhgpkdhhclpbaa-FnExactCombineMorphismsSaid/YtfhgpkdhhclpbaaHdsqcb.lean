import Derived.Test.YtfhgpkdhhclpbaaFitqcb
import Derived.Test.YtfhgpkdhhclpbaaHmbqcb
import Derived.Test.YtfhgpkdhhclpbaaKerqcb
import Derived.Test.YtfhgpkdhhclpbaaMxfqcb
import Derived.Test.YtfhgpkdhhclpbaaRdIqcb
namespace Go.Proofs.Ytfhgpkdhhclpbaa
open Go.Lg Go.Proofs Go.RowKit
attribute [local irreducible] Code.wp wpList bodyPost Exit.then Exit.inBlock Hp Again Calls Y AT ResV QT Qn QI wpAny wpAnyQ
set_option maxRecDepth 20000
set_option maxHeartbeats 4000000

/-! ### how many morphisms there are -/
def coV (a b : Rp) : Int := if FitP a b then cntN a.p (homN a b) else -1
end Go.Proofs.Ytfhgpkdhhclpbaa
