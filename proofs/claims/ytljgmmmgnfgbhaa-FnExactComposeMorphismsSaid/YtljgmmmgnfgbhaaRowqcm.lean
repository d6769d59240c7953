import Derived.Test.YtljgmmmgnfgbhaaDatqcm
import Derived.Test.YtljgmmmgnfgbhaaMatqcm
namespace Go.Proofs.Ytljgmmmgnfgbhaa
open Go.Lg Go.Proofs Go.RowKit
attribute [local irreducible] Code.wp wpList bodyPost Exit.then Exit.inBlock Hp Again Calls Y AT ResV QT
set_option maxRecDepth 20000
set_option maxHeartbeats 4000000

theorem szIntS_at {w : World} {xs : List Int} {u : Value} {left : Int} (hu : Rd w (iT xs) u) (h0 : 0 ≤ left) (h1 : left ≤ 1048576) :
    Does Try.prog 47 [u, iV left] w (fun v H => v = iV (if left < xs.length then -1 else left - xs.length) ∧ H = []) := by
  obtain ⟨a, c', rfl, hs, hc1, hc2, hget⟩ := hu.ints
  exact szIntS_ok w a _ _ left (by omega) h0 h1
theorem toIntS_at {w : World} {xs : List Int} {u : Value} (hu : Rd w (iT xs) u) (hb : xs.length ≤ 1048576) :
    Does Try.prog 52 [u] w (fun r H => Gives (iT xs) xs.length r H) := toIntS_ok w u xs hu hb
theorem eqIntS_at (w : World) (xs ys : List Int) (v u : Value) (hr : Rd w (iT xs) v) (hr' : Rd w (iT ys) u) :
    Does Try.prog 58 [v, u] w (fun r H => r = .bool (decide (xs = ys)) ∧ H = []) := eqIntS_ok w v u xs ys hr hr'

end Go.Proofs.Ytljgmmmgnfgbhaa
