import Derived.Test.YtbpgnnejlablnaaLgM
import Derived.WalkSpells
namespace Go.Lg
open Go.RowKit
section
variable {P : Program} {n : Nat} {C : World → Prop} {s : List (Nat × Value)} {x y : Operand} {t t' ty : Nat} {p q : Bool}
theorem run_equalIn_bool (w : World) (d : Nat) (t : TypeId) (h : P.underlying t = some .bool) : (Op.equalIn (d + 1) t (.bool p) (.bool q)).run P w = .ok (p == q) w := by
  simp [Op.equalIn, underlying, h]
theorem run_equal_bool (w : World) (t : TypeId) (h : P.underlying t = some .bool) : (Op.equal t (.bool p) (.bool q)).run P w = .ok (p == q) w := run_equalIn_bool w 9999 t h
theorem y_neqb (ht : P.underlying t = some .bool) (hx : ev s x = some (.bool p)) (hy : ev s y = some (.bool q)) : Y P n C s (.binOp .neq t x y t') ty (.bool (p != q)) := fun a w f c d pos af g => by
  have : (binOp .neq t (.bool p) (.bool q)).run P w = .ok (.bool (p != q)) w := by
    simp only [binOp]
    simp [run_equal_bool w t ht]; cases p <;> cases q <;> rfl
  simp [execOp, f.ev hx, f.ev hy, eqGuard, this]
theorem y_eqlb (ht : P.underlying t = some .bool) (hx : ev s x = some (.bool p)) (hy : ev s y = some (.bool q)) : Y P n C s (.binOp .eql t x y t') ty (.bool (p == q)) := fun a w f c d pos af g => by
  have : (binOp .eql t (.bool p) (.bool q)).run P w = .ok (.bool (p == q)) w := by
    simp only [binOp]
    simp [run_equal_bool w t ht]
  simp [execOp, f.ev hx, f.ev hy, eqGuard, this]
theorem y_neqb_same (ht : P.underlying t = some .bool) (hx : ev s x = some (.bool p)) (hy : ev s y = some (.bool p)) : Y P n C s (.binOp .neq t x y t') ty (.bool false) := by
  have := y_neqb (n := n) (C := C) (t' := t') (ty := ty) ht hx hy
  simpa using this
end
end Go.Lg
