import Derived.Test.YtnmhdmkfhacdbaaRdIqC
import Derived.Test.YtnmhdmkfhacdbaaSpeqC
namespace Go.Proofs.Ytnmhdmkfhacdbaa
open Go.Lg Go.Proofs Go.RowKit
attribute [local irreducible] Code.wp wpList bodyPost Exit.then Exit.inBlock Hp Again Calls Y AT ResV QT Qn QI wpAny wpAnyQ
set_option maxRecDepth 20000
set_option maxHeartbeats 4000000

/-! ### leading ones, what is left of a vector -/
theorem addTo_mkv {p k : Int} {C : Nat} {f : Nat → Int} {ys : List Int} : addTo p k (mkv C f) 0 ys C = mkv C (fun b => (f b + k * ys.getD b 0) % p) := by
  have key : ∀ n, n ≤ C → addTo p k (mkv C f) 0 ys n = mkv C (fun b => if b < n then (f b + k * ys.getD b 0) % p else f b) := fun n => by
    induction n with
    | zero => intro _; simp [addTo]
    | succ n ih =>
      intro hn
      rw [addTo, ih (by omega), Nat.zero_add, mkv_get (by omega), mkv_set]
      exact mkv_ext (fun b hb => by
        by_cases h : b = n
        · subst h; simp
        · rw [if_neg h]
          by_cases h2 : b < n
          · rw [if_pos h2, if_pos (by omega)]
          · rw [if_neg h2, if_neg (by omega)])
  rw [key C (Nat.le_refl _)]
  exact mkv_ext (fun b hb => by rw [if_pos hb])
end Go.Proofs.Ytnmhdmkfhacdbaa
