import Derived.Test.YtijjkfbkihgfgaaGreatInvqmo
namespace Go.Proofs.YtijjkfbkihgfgaaGreat
open Go.Lg Go.Proofs Go.RowKit
attribute [local irreducible] Code.wp wpList bodyPost Exit.then Exit.inBlock Hp Again Calls Y AT ResV QT Qn QI wpAny wpAnyQ
set_option maxRecDepth 20000
set_option maxHeartbeats 4000000

theorem redTo_piv {p : Int} {R : Nat} {f : Nat → Nat → Int} : ∀ k, ∀ x ∈ (redTo p R f k).2, 0 ≤ x ∧ x < (k : Int)
  | 0, x, h => by simp [redTo] at h
  | k + 1, x, h => by
    simp only [redTo, colStep] at h
    split at h
    · rcases List.mem_append.1 h with h | h
      · have := redTo_piv k x h; omega
      · simp at h; omega
    · have := redTo_piv k x h; omega
end Go.Proofs.YtijjkfbkihgfgaaGreat
