import Derived.Test.YtljgmmmgnfgbhaaEqmqcm
import Derived.Test.YtljgmmmgnfgbhaaMasqcm
namespace Go.Proofs.Ytljgmmmgnfgbhaa
open Go.Lg Go.Proofs Go.RowKit
attribute [local irreducible] Code.wp wpList bodyPost Exit.then Exit.inBlock Hp Again Calls Y AT ResV QT
set_option maxRecDepth 20000
set_option maxHeartbeats 4000000

theorem szMatrixS_fit {w : World} {e : Nat} {ms : List Mat} {u : Value} {left : Int} (hu : Rd w (matsT e ms) u) (h1 : left ≤ 1048576) (hf : szMs ms ≤ left) :
    Does Try.prog 6 [u, iV left] w (fun v H => v = iV (left - szMs ms) ∧ H = []) := by
  have := szMatrixS_ok w e ms u left hu (by omega) h1
  rwa [if_neg (by omega)] at this
theorem szMatrixS_big {w : World} {e : Nat} {ms : List Mat} {u : Value} {left : Int} (hu : Rd w (matsT e ms) u) (h0 : 0 ≤ left) (h1 : left ≤ 1048576) (hf : left < szMs ms) :
    Does Try.prog 6 [u, iV left] w (fun v H => v = iV (-1) ∧ H = []) := by
  have := szMatrixS_ok w e ms u left hu h0 h1
  rwa [if_pos (by omega)] at this
theorem eqMatrixS_same {w : World} {e e' : Nat} {ms : List Mat} {v u : Value} (hr : Rd w (matsT e ms) v) (hr' : Rd w (matsT e' ms) u) :
    Does Try.prog 11 [v, u] w (fun r H => r = .bool true ∧ H = []) := by
  have := eqMatrixS_ok w e e' ms ms v u hr hr'
  simpa using this
end Go.Proofs.Ytljgmmmgnfgbhaa
