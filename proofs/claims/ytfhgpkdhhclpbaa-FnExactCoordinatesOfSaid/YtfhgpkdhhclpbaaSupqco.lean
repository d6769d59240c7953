import Derived.Test.YtfhgpkdhhclpbaaLCqco
import Derived.Test.YtfhgpkdhhclpbaaRdPqco
import Derived.Test.YtfhgpkdhhclpbaaRepqco
namespace Go.Proofs.Ytfhgpkdhhclpbaa
open Go.Lg Go.Proofs Go.RowKit
attribute [local irreducible] Code.wp wpList bodyPost Exit.then Exit.inBlock Hp Again Calls Y AT ResV QT Qn QI wpAny wpAnyQ
set_option maxRecDepth 20000
set_option maxHeartbeats 4000000

/-! ### the vertices whose dimension is above zero -/
def GivesIL (xs : List Int) (v : Value) (H : List HE) : Prop := ∃ a c, v = .slice a xs.length c ∧ SA a xs.length ∧ H = [.own (iT xs) (.slice a xs.length c)]
theorem RepP.dl {r : Rp} (h : RepP r) : r.d.length ≤ 5 := by
  obtain ⟨_, ⟨⟨hV, _⟩, hdV, _⟩, _⟩ := h
  omega
end Go.Proofs.Ytfhgpkdhhclpbaa
