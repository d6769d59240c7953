import Derived.Test.YtfhgpkdhhclpbaaEqmqcb
import Derived.Test.YtfhgpkdhhclpbaaMasqcb
namespace Go.Proofs.Ytfhgpkdhhclpbaa
open Go.Lg Go.Proofs Go.RowKit
attribute [local irreducible] Code.wp wpList bodyPost Exit.then Exit.inBlock Hp Again Calls Y AT ResV QT
set_option maxRecDepth 20000
set_option maxHeartbeats 4000000

theorem eqMatrixS_same {w : World} {e e' : Nat} {ms : List Mat} {v u : Value} (hr : Rd w (matsT e ms) v) (hr' : Rd w (matsT e' ms) u) :
    Does Try.prog 20 [v, u] w (fun r H => r = .bool true ∧ H = []) := by
  have := eqMatrixS_ok w e e' ms ms v u hr hr'
  simpa using this
end Go.Proofs.Ytfhgpkdhhclpbaa
