import Derived.Test.YtnmhdmkfhacdbaaInvqA
import Derived.Test.YtnmhdmkfhacdbaaSupqA
namespace Go.Proofs.Ytnmhdmkfhacdbaa
open Go.Lg Go.Proofs Go.RowKit
attribute [local irreducible] Code.wp wpList bodyPost Exit.then Exit.inBlock Hp Again Calls Y AT ResV QT Qn QI wpAny wpAnyQ
set_option maxRecDepth 20000
set_option maxHeartbeats 4000000

/-! ### the ranks of the maps -/
def rkN (p : Int) (ms : List Mat) : Nat → List Int
  | 0 => []
  | n + 1 => rkN p ms n ++ [((redL p (ms.getD n mat0)).length : Int)]
theorem rkN_len (p : Int) (ms : List Mat) : ∀ n, (rkN p ms n).length = n
  | 0 => rfl
  | n + 1 => by rw [rkN, List.length_append, rkN_len p ms n]; rfl
theorem RepP.ml {r : Rp} (h : RepP r) : r.m.length ≤ 6 := by
  have h1 := h.2.1.1.2.1
  have h2 := h.2.2.1
  omega
end Go.Proofs.Ytnmhdmkfhacdbaa
