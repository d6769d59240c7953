import Derived.Lib.AppendZeros
import Derived.Test.YtfhgpkdhhclpbaaLCqco
namespace Go.Lg
open Go.RowKit
section
variable {P : Program} {n : Nat} {C : World → Prop} {s : List (Nat × Value)} {Q : Exit → Act → World → Prop} {ops : Array Oper} {rest : List Oper}
variable {d ty t t' : Nat} {pos : String} {af : Array Edge} {v : Value} {x y : Operand} {M : List Nat} {w0 w : World} {H : List HE}

theorem y_sln (T : Tabs P) {e k b : Nat} {z : List Value} {hi' : Operand} (ht : lk T.sl t = some (e, k, b, z)) (hx : ev s x = some (.slice none 0 0)) (hh : ev s hi' = some (.int .i64 0)) :
    Y P n C s (.slice t x none (some hi') none) ty (.slice none 0 0) := by
  have h := y_slh (n := n) (C := C) (ty := ty) (hi := 0) T ht hx hh rfl (Nat.zero_le _)
  have e : subA none k 0 0 = none := by unfold subA; simp
  rwa [e] at h
theorem RdC.nil : RdC w [] [] := ⟨rfl, fun j t u ht hu => by simp at ht⟩
theorem RdC.one {tt : T} (h : Rd w tt v) : RdC w [tt] [v] := ⟨rfl, fun j t u ht hu => by
  match j, ht, hu with
  | 0, ht, hu => simp at ht hu; rw [← ht, ← hu]; exact h
  | j + 1, ht, hu => simp at ht⟩
end
section
variable {P : Program} {n : Nat} {M : List Nat} {w0 w : World} {S : World → Prop} {ops : Array Oper} {K : Act → World → Prop} {i0 d0 e0 : Nat} {z : List Value} {H : List HE} {s : List (Nat × Value)} {fuel : Nat} {listed : Array Bool}
end
end Go.Lg
