import Derived.Test.YtdnhmnnccfoliaaDoorDatqqv
import Derived.Test.YtdnhmnnccfoliaaDoorEqmqqv
import Derived.Test.YtdnhmnnccfoliaaDoorLBqqv
import Derived.Test.YtdnhmnnccfoliaaDoorLDqqv
import Derived.Test.YtdnhmnnccfoliaaDoorMxfqqv
import Derived.Test.YtdnhmnnccfoliaaDoorSpmqqv
import Derived.Test.YtdnhmnnccfoliaaDoorTabqqv
namespace Go.Proofs.YtdnhmnnccfoliaaDoor
open Go.Lg Go.Proofs Go.RowKit
attribute [local irreducible] Code.wp wpList bodyPost Exit.then Exit.inBlock Hp Again Calls Y AT ResV QT Qn QI wpAny wpAnyQ
set_option maxRecDepth 20000
set_option maxHeartbeats 4000000

def NamesAt (w : World) (v : Value) (us : List Value) : Prop := ∃ a c, v = .slice a us.length c ∧ us.length ≤ 1048576 ∧ (us.length = 0 ∨ a = some ⟨ab a, ao a, none⟩) ∧ (∀ (j : Nat) u, us[j]? = some u → w.cell? ⟨ab a, ao a + j, none⟩ = some u) ∧ ∀ u ∈ us, u.oneCell' = true
theorem NamesAt.rd {w w' : World} {H : List HE} {v : Value} {us : List Value} (h : NamesAt w v us) (c : Hp [] w H w') : NamesAt w' v us := by
  obtain ⟨a, cc, h1, h2, h3, h4, h5⟩ := h
  exact ⟨a, cc, h1, h2, h3, fun j u hu => c.cell (h4 j u hu), h5⟩
end Go.Proofs.YtdnhmnnccfoliaaDoor
