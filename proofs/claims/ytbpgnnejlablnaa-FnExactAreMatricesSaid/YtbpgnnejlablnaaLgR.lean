import Derived.Test.YtbpgnnejlablnaaLgQ
namespace Go.Lg
open Go.RowKit
section
variable {P : Program} {n : Nat} {C : World → Prop} {s : List (Nat × Value)} {x y : Operand} {t t' ty : Nat} {p q : Int}
theorem y_max {at' : Array Nat} (hx : ev s x = some (.int .i64 p)) (hy : ev s y = some (.int .i64 q)) : Y P n C s (.call ⟨.builtin .max, #[x, y], at'⟩) ty (.int .i64 (max p q)) := fun a w f c d pos af g => by
  simp [execOp, resolve, invoke, builtin, f.ev hx, f.ev hy, Builtin.max_, Builtin.max2]
  split <;> omega
end
theorem tmod_fix {x p : Int} (hp : 0 < p) : (if x.tmod p < 0 then x.tmod p + p else x.tmod p) = x % p := by
  have h := Int.tmod_eq_emod (a := x) (b := p)
  have h1 := Int.emod_nonneg x (show p ≠ 0 by omega)
  have h2 := Int.emod_lt_of_pos x hp
  rw [h]
  split <;> split <;> omega
theorem tmod_pos {x p : Int} (hx : 0 ≤ x) : x.tmod p = x % p := Int.tmod_eq_emod_of_nonneg hx
end Go.Lg
