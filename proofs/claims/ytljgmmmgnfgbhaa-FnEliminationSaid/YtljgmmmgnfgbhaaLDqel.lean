import Derived.Lib.AppendZeros
import Derived.Test.YtljgmmmgnfgbhaaLCqel
namespace Go.Lg
open Go.RowKit
section
variable {P : Program} {n : Nat} {C : World → Prop} {s : List (Nat × Value)} {Q : Exit → Act → World → Prop} {ops : Array Oper} {rest : List Oper}
variable {d ty t t' : Nat} {pos : String} {af : Array Edge} {v : Value} {x y : Operand} {M : List Nat} {w0 w : World} {H : List HE}

theorem RdC.nil : RdC w [] [] := ⟨rfl, fun j t u ht hu => by simp at ht⟩
theorem RdC.one {tt : T} (h : Rd w tt v) : RdC w [tt] [v] := ⟨rfl, fun j t u ht hu => by
  match j, ht, hu with
  | 0, ht, hu => simp at ht hu; rw [← ht, ← hu]; exact h
  | j + 1, ht, hu => simp at ht⟩
end
section
variable {P : Program} {n : Nat} {M : List Nat} {w0 w : World} {S : World → Prop} {ops : Array Oper} {K : Act → World → Prop} {i0 d0 e0 : Nat} {z : List Value} {H : List HE} {s : List (Nat × Value)} {fuel : Nat} {listed : Array Bool}
end
end Go.Lg
