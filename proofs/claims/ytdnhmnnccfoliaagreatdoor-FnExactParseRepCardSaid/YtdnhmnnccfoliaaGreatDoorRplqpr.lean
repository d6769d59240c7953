import Derived.Test.YtdnhmnnccfoliaaGreatDoorQuiqpr
namespace Go.Proofs.YtdnhmnnccfoliaaGreatDoor
open Go.Lg Go.Proofs Go.RowKit

theorem szQuiver_fit {w : World} {left : Int} {q : Qv} {u u' : Value} (hu : Rd w (iT q.2.1) u) (hu' : Rd w (iT q.2.2) u') (h1 : left ≤ 1048576) (hf : szQ q ≤ left) :
    Does Tryz.prog 6 [.agg #[iV q.1, u, u'], iV left] w (fun v H => v = iV (left - szQ q) ∧ H = []) := by
  have := szQuiver_ok (left := left) hu hu' om h1
  rwa [if_neg om] at this
theorem szQuiver_big {w : World} {left : Int} {q : Qv} {u u' : Value} (hu : Rd w (iT q.2.1) u) (hu' : Rd w (iT q.2.2) u') (h0 : 0 ≤ left) (h1 : left ≤ 1048576) (hf : left < szQ q) :
    Does Tryz.prog 6 [.agg #[iV q.1, u, u'], iV left] w (fun v H => v = iV (-1) ∧ H = []) := by
  have := szQuiver_ok (left := left) hu hu' h0 h1
  rwa [if_pos om] at this

theorem eqQuiver_same {w : World} {q : Qv} {u u' v v' : Value} (hu : Rd w (iT q.2.1) u) (hu' : Rd w (iT q.2.2) u') (hv : Rd w (iT q.2.1) v) (hv' : Rd w (iT q.2.2) v') :
    Does Tryz.prog 11 [.agg #[iV q.1, u, u'], .agg #[iV q.1, v, v']] w (fun v H => v = .bool true ∧ H = []) := by
  have := eqQuiver_ok w q q u u' v v' hu hu' hv hv'
  simpa using this
theorem eqRep_same {w : World} {r : Rp} {e e' : Nat} {u0 u1 u2 u3 v0 v1 v2 v3 : Value} (h0 : Rd w (iT r.q.2.1) u0) (h1 : Rd w (iT r.q.2.2) u1) (h2 : Rd w (iT r.d) u2) (h3 : Rd w (matsT e r.m) u3) (k0 : Rd w (iT r.q.2.1) v0) (k1 : Rd w (iT r.q.2.2) v1) (k2 : Rd w (iT r.d) v2) (k3 : Rd w (matsT e' r.m) v3) :
    Does Tryz.prog 10 [.agg #[iV r.p, iV r.q.1, u0, u1, u2, u3], .agg #[iV r.p, iV r.q.1, v0, v1, v2, v3]] w (fun v H => v = .bool true ∧ H = []) := by
  have := eqRep_ok w r r e e' u0 u1 u2 u3 v0 v1 v2 v3 h0 h1 h2 h3 k0 k1 k2 k3
  simpa using this
end Go.Proofs.YtdnhmnnccfoliaaGreatDoor
