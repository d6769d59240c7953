import Derived.Test.YtnmhdmkfhacdbaaQuiqC
namespace Go.Proofs.Ytnmhdmkfhacdbaa
open Go.Lg Go.Proofs Go.RowKit

theorem szMatrix_at {w : World} {left : Int} {m : Mat} {u : Value} (hu : Rd w (iT m.2.2) u) (h0 : 0 ≤ left) (h1 : left ≤ 1048576) :
    Does Try.prog 42 [.agg #[iV m.1, iV m.2.1, u], iV left] w (fun v H => v = iV (if left < m.2.2.length then -1 else left - m.2.2.length) ∧ H = []) := szMatrix_ok w _ _ _ _ _ hu h0 h1
theorem szMatrix_fit {w : World} {left : Int} {m : Mat} {u : Value} (hu : Rd w (iT m.2.2) u) (h1 : left ≤ 1048576) (hf : m.2.2.length ≤ left) :
    Does Try.prog 42 [.agg #[iV m.1, iV m.2.1, u], iV left] w (fun v H => v = iV (left - m.2.2.length) ∧ H = []) := by
  have := szMatrix_at (left := left) hu (by omega) h1
  rwa [if_neg (by omega)] at this
theorem szMatrix_big {w : World} {left : Int} {m : Mat} {u : Value} (hu : Rd w (iT m.2.2) u) (h0 : 0 ≤ left) (h1 : left ≤ 1048576) (hf : left < m.2.2.length) :
    Does Try.prog 42 [.agg #[iV m.1, iV m.2.1, u], iV left] w (fun v H => v = iV (-1) ∧ H = []) := by
  have := szMatrix_at (left := left) hu h0 h1
  rwa [if_pos (by omega)] at this
theorem eqMatrix_same {w : World} {m : Mat} {u u' : Value} (hu : Rd w (iT m.2.2) u) (hu' : Rd w (iT m.2.2) u') :
    Does Try.prog 49 [.agg #[iV m.1, iV m.2.1, u], .agg #[iV m.1, iV m.2.1, u']] w (fun v H => v = .bool true ∧ H = []) := by
  have := eqMatrix_ok w m m u u' hu hu'
  simpa using this
end Go.Proofs.Ytnmhdmkfhacdbaa
