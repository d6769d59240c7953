import Derived.Test.YtljgmmmgnfgbhaaDoorQuiqfr
namespace Go.Proofs.YtljgmmmgnfgbhaaDoor
open Go.Lg Go.Proofs Go.RowKit

theorem szRep_fit {w : World} {left : Int} {r : Rp} {e : Nat} {u0 u1 u2 u3 : Value} (k0 : Rd w (iT r.q.2.1) u0) (k1 : Rd w (iT r.q.2.2) u1) (k2 : Rd w (iT r.d) u2) (k3 : Rd w (matsT e r.m) u3) (h1 : left ≤ 1048576) (hf : szR r ≤ left) :
    Does Tryd.prog 4 [.agg #[iV r.p, iV r.q.1, u0, u1, u2, u3], iV left] w (fun v H => v = iV (left - szR r) ∧ H = []) := by
  have := szRep_ok (left := left) k0 k1 k2 k3 (by omega) h1
  rwa [if_neg (by omega)] at this
theorem szRep_big {w : World} {left : Int} {r : Rp} {e : Nat} {u0 u1 u2 u3 : Value} (k0 : Rd w (iT r.q.2.1) u0) (k1 : Rd w (iT r.q.2.2) u1) (k2 : Rd w (iT r.d) u2) (k3 : Rd w (matsT e r.m) u3) (h0 : 0 ≤ left) (h1 : left ≤ 1048576) (hf : left < szR r) :
    Does Tryd.prog 4 [.agg #[iV r.p, iV r.q.1, u0, u1, u2, u3], iV left] w (fun v H => v = iV (-1) ∧ H = []) := by
  have := szRep_ok (left := left) k0 k1 k2 k3 h0 h1
  rwa [if_pos (by omega)] at this

theorem eqRep_same {w : World} {r : Rp} {e e' : Nat} {u0 u1 u2 u3 v0 v1 v2 v3 : Value} (h0 : Rd w (iT r.q.2.1) u0) (h1 : Rd w (iT r.q.2.2) u1) (h2 : Rd w (iT r.d) u2) (h3 : Rd w (matsT e r.m) u3) (k0 : Rd w (iT r.q.2.1) v0) (k1 : Rd w (iT r.q.2.2) v1) (k2 : Rd w (iT r.d) v2) (k3 : Rd w (matsT e' r.m) v3) :
    Does Tryd.prog 8 [.agg #[iV r.p, iV r.q.1, u0, u1, u2, u3], .agg #[iV r.p, iV r.q.1, v0, v1, v2, v3]] w (fun v H => v = .bool true ∧ H = []) := by
  have := eqRep_ok w r r e e' u0 u1 u2 u3 v0 v1 v2 v3 h0 h1 h2 h3 k0 k1 k2 k3
  simpa using this
end Go.Proofs.YtljgmmmgnfgbhaaDoor
