import Derived.Test.YtnmhdmkfhacdbaaAloqA
import Derived.Test.YtnmhdmkfhacdbaaMorqA
import Derived.Test.YtnmhdmkfhacdbaaMulqA
import Derived.Test.YtnmhdmkfhacdbaaRepqA
import Derived.Test.YtnmhdmkfhacdbaaRksqA
import Derived.Test.YtnmhdmkfhacdbaaSpbqA
namespace Go.Proofs.Ytnmhdmkfhacdbaa
open Go.Lg Go.Proofs Go.RowKit
attribute [local irreducible] Code.wp wpList bodyPost Exit.then Exit.inBlock Hp Again Calls Y AT ResV QT Qn QI wpAny wpAnyQ
set_option maxRecDepth 20000
set_option maxHeartbeats 4000000

/-! ### transposed matrices, the other way round -/
/-! ### the dual -/
def rp00 : Rp := ⟨0, (0, [], []), [], []⟩
end Go.Proofs.Ytnmhdmkfhacdbaa
