import Derived.Test.YtljgmmmgnfgbhaaMxfqcm
namespace Go.Proofs.Ytljgmmmgnfgbhaa
open Go.Lg Go.Proofs Go.RowKit

/-! ### columns go their own ways -/
/-! ### what reduction gives -/
/-! ### sums -/
def sumN (f : Nat → Int) : Nat → Int
  | 0 => 0
  | n + 1 => sumN f n + f n
/-! ### rows that are independent -/
end Go.Proofs.Ytljgmmmgnfgbhaa
