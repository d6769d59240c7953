import Derived.Test.YtooffimgfnacoaaQui
namespace Go.Proofs.Ytooffimgfnacoaa
open Go.Lg Go.Proofs Go.RowKit


theorem szQuiver_fit {w : World} {left : Int} {q : Qv} {u u' : Value} (hu : Rd w (iT q.2.1) u) (hu' : Rd w (iT q.2.2) u') (h1 : left ≤ 1048576) (hf : szQ q ≤ left) :
    Does Try.prog 95 [.agg #[iV q.1, u, u'], iV left] w (fun v H => v = iV (left - szQ q) ∧ H = []) := by
  have := szQuiver_ok (left := left) hu hu' (by omega) h1
  rwa [if_neg (by omega)] at this
theorem szQuiver_big {w : World} {left : Int} {q : Qv} {u u' : Value} (hu : Rd w (iT q.2.1) u) (hu' : Rd w (iT q.2.2) u') (h0 : 0 ≤ left) (h1 : left ≤ 1048576) (hf : left < szQ q) :
    Does Try.prog 95 [.agg #[iV q.1, u, u'], iV left] w (fun v H => v = iV (-1) ∧ H = []) := by
  have := szQuiver_ok (left := left) hu hu' h0 h1
  rwa [if_pos (by omega)] at this


theorem szRep_fit {w : World} {left : Int} {r : Rp} {e : Nat} {u0 u1 u2 u3 : Value} (k0 : Rd w (iT r.q.2.1) u0) (k1 : Rd w (iT r.q.2.2) u1) (k2 : Rd w (iT r.d) u2) (k3 : Rd w (matsT e r.m) u3) (h1 : left ≤ 1048576) (hf : szR r ≤ left) :
    Does Try.prog 32 [.agg #[iV r.p, iV r.q.1, u0, u1, u2, u3], iV left] w (fun v H => v = iV (left - szR r) ∧ H = []) := by
  have := szRep_ok (left := left) k0 k1 k2 k3 (by omega) h1
  rwa [if_neg (by omega)] at this
theorem szRep_big {w : World} {left : Int} {r : Rp} {e : Nat} {u0 u1 u2 u3 : Value} (k0 : Rd w (iT r.q.2.1) u0) (k1 : Rd w (iT r.q.2.2) u1) (k2 : Rd w (iT r.d) u2) (k3 : Rd w (matsT e r.m) u3) (h0 : 0 ≤ left) (h1 : left ≤ 1048576) (hf : left < szR r) :
    Does Try.prog 32 [.agg #[iV r.p, iV r.q.1, u0, u1, u2, u3], iV left] w (fun v H => v = iV (-1) ∧ H = []) := by
  have := szRep_ok (left := left) k0 k1 k2 k3 h0 h1
  rwa [if_pos (by omega)] at this

theorem szMatrix_at {w : World} {left : Int} {m : Mat} {u : Value} (hu : Rd w (iT m.2.2) u) (h0 : 0 ≤ left) (h1 : left ≤ 1048576) :
    Does Try.prog 112 [.agg #[iV m.1, iV m.2.1, u], iV left] w (fun v H => v = iV (if left < m.2.2.length then -1 else left - m.2.2.length) ∧ H = []) := szMatrix_ok w _ _ _ _ _ hu h0 h1
theorem szMatrix_fit {w : World} {left : Int} {m : Mat} {u : Value} (hu : Rd w (iT m.2.2) u) (h1 : left ≤ 1048576) (hf : m.2.2.length ≤ left) :
    Does Try.prog 112 [.agg #[iV m.1, iV m.2.1, u], iV left] w (fun v H => v = iV (left - m.2.2.length) ∧ H = []) := by
  have := szMatrix_at (left := left) hu (by omega) h1
  rwa [if_neg (by omega)] at this
theorem szMatrix_big {w : World} {left : Int} {m : Mat} {u : Value} (hu : Rd w (iT m.2.2) u) (h0 : 0 ≤ left) (h1 : left ≤ 1048576) (hf : left < m.2.2.length) :
    Does Try.prog 112 [.agg #[iV m.1, iV m.2.1, u], iV left] w (fun v H => v = iV (-1) ∧ H = []) := by
  have := szMatrix_at (left := left) hu h0 h1
  rwa [if_pos (by omega)] at this
theorem szIntS_fit {w : World} {left : Int} {x : List Int} {u : Value} (hu : Rd w (iT x) u) (h1 : left ≤ 1048576) (hf : x.length ≤ left) :
    Does Try.prog 84 [u, iV left] w (fun v H => v = iV (left - x.length) ∧ H = []) := by
  have := szIntS_at (left := left) hu (by omega) h1
  rwa [if_neg (by omega)] at this
theorem szIntS_big {w : World} {left : Int} {x : List Int} {u : Value} (hu : Rd w (iT x) u) (h0 : 0 ≤ left) (h1 : left ≤ 1048576) (hf : left < x.length) :
    Does Try.prog 84 [u, iV left] w (fun v H => v = iV (-1) ∧ H = []) := by
  have := szIntS_at (left := left) hu h0 h1
  rwa [if_pos (by omega)] at this
theorem eqIntS_same {w : World} {xs : List Int} {v u : Value} (hr : Rd w (iT xs) v) (hr' : Rd w (iT xs) u) : Does Try.prog 49 [v, u] w (fun r H => r = .bool true ∧ H = []) := by
  have := eqIntS_at w xs xs v u hr hr'
  simpa using this
theorem eqMatrix_same {w : World} {m : Mat} {u u' : Value} (hu : Rd w (iT m.2.2) u) (hu' : Rd w (iT m.2.2) u') :
    Does Try.prog 65 [.agg #[iV m.1, iV m.2.1, u], .agg #[iV m.1, iV m.2.1, u']] w (fun v H => v = .bool true ∧ H = []) := by
  have := eqMatrix_ok w m m u u' hu hu'
  simpa using this
theorem eqQuiver_same {w : World} {q : Qv} {u u' v v' : Value} (hu : Rd w (iT q.2.1) u) (hu' : Rd w (iT q.2.2) u') (hv : Rd w (iT q.2.1) v) (hv' : Rd w (iT q.2.2) v') :
    Does Try.prog 101 [.agg #[iV q.1, u, u'], .agg #[iV q.1, v, v']] w (fun v H => v = .bool true ∧ H = []) := by
  have := eqQuiver_ok w q q u u' v v' hu hu' hv hv'
  simpa using this
theorem eqRep_same {w : World} {r : Rp} {e e' : Nat} {u0 u1 u2 u3 v0 v1 v2 v3 : Value} (h0 : Rd w (iT r.q.2.1) u0) (h1 : Rd w (iT r.q.2.2) u1) (h2 : Rd w (iT r.d) u2) (h3 : Rd w (matsT e r.m) u3) (k0 : Rd w (iT r.q.2.1) v0) (k1 : Rd w (iT r.q.2.2) v1) (k2 : Rd w (iT r.d) v2) (k3 : Rd w (matsT e' r.m) v3) :
    Does Try.prog 37 [.agg #[iV r.p, iV r.q.1, u0, u1, u2, u3], .agg #[iV r.p, iV r.q.1, v0, v1, v2, v3]] w (fun v H => v = .bool true ∧ H = []) := by
  have := eqRep_ok w r r e e' u0 u1 u2 u3 v0 v1 v2 v3 h0 h1 h2 h3 k0 k1 k2 k3
  simpa using this
end Go.Proofs.Ytooffimgfnacoaa
