import Derived.Test.YtdnhmnnccfoliaaDoorDatqqv
import Derived.Test.YtdnhmnnccfoliaaDoorLBqqv
import Derived.Test.YtdnhmnnccfoliaaDoorTabqqv
namespace Go.Proofs.YtdnhmnnccfoliaaDoor
open Go.Lg Go.Proofs Go.RowKit
attribute [local irreducible] Code.wp wpList bodyPost Exit.then Exit.inBlock Hp Again Calls Y AT ResV QT
set_option maxRecDepth 20000
set_option maxHeartbeats 4000000

abbrev Qv := Int × List Int × List Int
abbrev szQ (q : Qv) : Nat := q.2.1.length + q.2.2.length
def GivesQ (q : Qv) (r : Value) (H : List HE) : Prop := ∃ a c a' c', r = .agg #[iV q.1, .slice a q.2.1.length c, .slice a' q.2.2.length c'] ∧ SA a q.2.1.length ∧ SA a' q.2.2.length ∧ H = [.own (iT q.2.2) (.slice a' q.2.2.length c'), .own (iT q.2.1) (.slice a q.2.1.length c)]
end Go.Proofs.YtdnhmnnccfoliaaDoor
