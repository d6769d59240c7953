import Derived.Test.YtijjkfbkihgfgaaGreatInvqmo
import Derived.Test.YtijjkfbkihgfgaaGreatLCqmo
import Derived.Test.YtijjkfbkihgfgaaGreatRdPqmo
import Derived.Test.YtijjkfbkihgfgaaGreatRepqmo
namespace Go.Proofs.YtijjkfbkihgfgaaGreat
open Go.Lg Go.Proofs Go.RowKit
attribute [local irreducible] Code.wp wpList bodyPost Exit.then Exit.inBlock Hp Again Calls Y AT ResV QT Qn QI wpAny wpAnyQ
set_option maxRecDepth 20000
set_option maxHeartbeats 4000000

/-! ### the vertices whose dimension is above zero -/
def GivesIL (xs : List Int) (v : Value) (H : List HE) : Prop := ∃ a c, v = .slice a xs.length c ∧ SA a xs.length ∧ H = [.own (iT xs) (.slice a xs.length c)]
theorem RepP.dl {r : Rp} (h : RepP r) : r.d.length ≤ 5 := by
  obtain ⟨_, ⟨⟨hV, _⟩, hdV, _⟩, _⟩ := h
  omega
end Go.Proofs.YtijjkfbkihgfgaaGreat

namespace Go.Proofs.YtijjkfbkihgfgaaGreat
open Go.Lg Go.Proofs Go.RowKit
attribute [local irreducible] Code.wp wpList bodyPost Exit.then Exit.inBlock Hp Again Calls Y AT ResV QT Qn QI wpAny wpAnyQ
set_option maxRecDepth 20000
set_option maxHeartbeats 4000000

/-! ### the ranks of the maps -/
def rkN (p : Int) (ms : List Mat) : Nat → List Int
  | 0 => []
  | n + 1 => rkN p ms n ++ [((redL p (ms.getD n mat0)).length : Int)]
theorem rkN_len (p : Int) (ms : List Mat) : ∀ n, (rkN p ms n).length = n
  | 0 => rfl
  | n + 1 => by rw [rkN, List.length_append, rkN_len p ms n]; rfl
end Go.Proofs.YtijjkfbkihgfgaaGreat
