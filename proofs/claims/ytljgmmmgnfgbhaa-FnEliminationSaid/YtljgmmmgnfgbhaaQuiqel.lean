import Derived.Test.YtljgmmmgnfgbhaaDatqel
import Derived.Test.YtljgmmmgnfgbhaaLBqel
import Derived.Test.YtljgmmmgnfgbhaaRowqel
import Derived.Test.YtljgmmmgnfgbhaaTabqel
namespace Go.Proofs.Ytljgmmmgnfgbhaa
open Go.Lg Go.Proofs Go.RowKit
attribute [local irreducible] Code.wp wpList bodyPost Exit.then Exit.inBlock Hp Again Calls Y AT ResV QT
set_option maxRecDepth 20000
set_option maxHeartbeats 4000000

/-- a quiver: its vertices, where its arrows begin and end -/
abbrev Qv := Int × List Int × List Int
end Go.Proofs.Ytljgmmmgnfgbhaa
