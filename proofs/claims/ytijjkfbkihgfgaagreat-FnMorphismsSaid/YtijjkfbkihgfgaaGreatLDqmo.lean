import Derived.Lib.AppendZeros
import Derived.Test.YtijjkfbkihgfgaaGreatLCqmo
namespace Go.Lg
open Go.RowKit
section
variable {P : Program} {n : Nat} {C : World → Prop} {s : List (Nat × Value)} {Q : Exit → Act → World → Prop} {ops : Array Oper} {rest : List Oper}
variable {d ty t t' : Nat} {pos : String} {af : Array Edge} {v : Value} {x y : Operand} {M : List Nat} {w0 w : World} {H : List HE}

theorem RdC.append {t1 t2 : List T} {c1 c2 : List Value} (h1 : RdC w t1 c1) (h2 : RdC w t2 c2) : RdC w (t1 ++ t2) (c1 ++ c2) := by
  refine ⟨by rw [List.length_append, List.length_append, h1.1, h2.1], fun j t u ht hu => ?_⟩
  have hl := h1.1
  rw [List.getElem?_append] at ht hu
  by_cases hj : j < t1.length
  · rw [if_pos hj] at ht; rw [if_pos om] at hu
    exact h1.2 j t u ht hu
  · rw [if_neg hj] at ht; rw [if_neg om] at hu
    rw [← hl] at ht
    exact h2.2 _ t u ht hu
theorem RdC.nil : RdC w [] [] := ⟨rfl, fun j t u ht hu => by simp at ht⟩
theorem RdC.one {tt : T} (h : Rd w tt v) : RdC w [tt] [v] := ⟨rfl, fun j t u ht hu => by
  match j, ht, hu with
  | 0, ht, hu => simp at ht hu; rw [← ht, ← hu]; exact h
  | j + 1, ht, hu => simp at ht⟩
end
section
variable {P : Program} {n : Nat} {M : List Nat} {w0 w : World} {S : World → Prop} {ops : Array Oper} {K : Act → World → Prop} {i0 d0 e0 : Nat} {z : List Value} {H : List HE} {s : List (Nat × Value)} {fuel : Nat} {listed : Array Bool}
/-- what one operation does, in any larger frame -/
def Stp (P : Program) (n : Nat) (M : List Nat) (w0 : World) (ops : Array Oper) (K : Act → World → Prop) (H : List HE) (s : List (Nat × Value)) (o : Oper) (d : Nat) (φ : Value → List HE → Prop) : Prop :=
  ∀ E X (R : Act → World → Prop), (∀ v H1, φ v H1 → AT n (Hp M w0 (H1 ++ E)) ((d, v) :: (s ++ X)) R) → AT n (Hp M w0 (H ++ E)) (s ++ X) (wpList P ops (Qk R (Qn K)) [o])
/-- an empty slice is made -/
theorem stp_b0 (T : Tabs P) {t d ty e k b : Nat} {pos : String} {af : Array Edge} {zz : List Value} (ht : lk T.sl t = some (e, k, b, zz)) (hd : Nat.blt d n = true) :
    Stp P n M w0 ops K H s ⟨some d, .buildSlice t 0 #[], ty, pos, af, none⟩ d (fun v H1 => ∃ g, w0.heap.size ≤ g ∧ v = .slice (some ⟨g, 0, none⟩) 0 0 ∧ H1 = .own (.s e k []) (.slice (some ⟨g, 0, none⟩) 0 0) :: H) := fun _ _ _ hR =>
  m_build0 T ht hd (fun g hg => c_nil (x_one (by have := hR _ _ ⟨g, hg, rfl, rfl⟩; simpa using this)))
/-- ints are appended to an empty slice of ours -/
theorem stp_dup (i : Nat) (T : Tabs P) {t d ty e c : Nat} {pos : String} {af : Array Edge} {zz : List Value} {ys : List Int} {ad : Option Addr} {v0 : Value} {x y : Operand} (ht : lk T.sl t = some (e, 1, 8, zz)) (hi : H[i]? = some (.own (ints e []) v0)) (hx : ev s x = some v0) (hy : ev s y = some (.slice ad ys.length c)) (hd : Nat.blt d n = true)
    (hb : ys.length ≤ 1099511627776) (hs : ∀ w, Hp M w0 H w → Rd w (ints e ys) (.slice ad ys.length c)) :
    Stp P n M w0 ops K H s ⟨some d, .call ⟨.builtin .append, #[x, y], #[t, t]⟩, ty, pos, af, none⟩ d (fun v H1 => ∃ a cc, SA a ys.length ∧ v = .slice a ys.length cc ∧ H1 = .own (ints e ys) (.slice a ys.length cc) :: H.eraseIdx i) := fun E X R hR => by
  have hil : i < H.length := (List.getElem?_eq_some_iff.1 hi).1
  refine m_dup i T ht (by rw [List.getElem?_append_left hil]; exact hi) (ev_sub sub_left hx) (ev_sub sub_left hy) hd hb (fun w c => hs w (c.sub (List.sublist_append_left _ _))) (fun a cc hsa => c_nil (x_one ?_))
  rw [List.eraseIdx_append_of_lt_length hil]
  exact hR _ _ ⟨a, cc, hsa, rfl, rfl⟩
end
end Go.Lg
