import Derived.Test.YtijjkfbkihgfgaaGreatDatqmo
import Derived.Test.YtijjkfbkihgfgaaGreatLBqmo
import Derived.Test.YtijjkfbkihgfgaaGreatRowqmo
import Derived.Test.YtijjkfbkihgfgaaGreatTabqmo
namespace Go.Proofs.YtijjkfbkihgfgaaGreat
open Go.Lg Go.Proofs Go.RowKit
attribute [local irreducible] Code.wp wpList bodyPost Exit.then Exit.inBlock Hp Again Calls Y AT ResV QT
set_option maxRecDepth 20000
set_option maxHeartbeats 4000000

/-- a quiver: its vertices, where its arrows begin and end -/
abbrev Qv := Int × List Int × List Int
abbrev szQ (q : Qv) : Nat := q.2.1.length + q.2.2.length
/-- a representation: its field's number, its quiver, its dimensions, its maps -/
structure Rp where
  p : Int
  q : Qv
  d : List Int
  m : List Mat
deriving DecidableEq
def GivesQ (q : Qv) (r : Value) (H : List HE) : Prop := ∃ a c a' c', r = .agg #[iV q.1, .slice a q.2.1.length c, .slice a' q.2.2.length c'] ∧ SA a q.2.1.length ∧ SA a' q.2.2.length ∧ H = [.own (iT q.2.2) (.slice a' q.2.2.length c'), .own (iT q.2.1) (.slice a q.2.1.length c)]
def GivesR (r : Rp) (v : Value) (H : List HE) : Prop := ∃ a0 c0 a1 c1 a2 c2 a3 c3, v = .agg #[iV r.p, iV r.q.1, .slice a0 r.q.2.1.length c0, .slice a1 r.q.2.2.length c1, .slice a2 r.d.length c2, .slice a3 r.m.length c3] ∧
  SA a0 r.q.2.1.length ∧ SA a1 r.q.2.2.length ∧ SA a2 r.d.length ∧ SA a3 r.m.length ∧
  H = [.own (matsT 47 r.m) (.slice a3 r.m.length c3), .own (iT r.d) (.slice a2 r.d.length c2), .own (iT r.q.2.2) (.slice a1 r.q.2.2.length c1), .own (iT r.q.2.1) (.slice a0 r.q.2.1.length c0)]

end Go.Proofs.YtijjkfbkihgfgaaGreat
