import Derived.Lib.AppendZeros
import Derived.Test.YtdnhmnnccfoliaaGreatDoorLCqrp
namespace Go.Lg
open Go.RowKit
section
variable {P : Program} {n : Nat} {C : World → Prop} {s : List (Nat × Value)} {Q : Exit → Act → World → Prop} {ops : Array Oper} {rest : List Oper}
variable {d ty t t' : Nat} {pos : String} {af : Array Edge} {v : Value} {x y : Operand} {M : List Nat} {w0 w : World} {H : List HE}

theorem RdC.append {t1 t2 : List T} {c1 c2 : List Value} (h1 : RdC w t1 c1) (h2 : RdC w t2 c2) : RdC w (t1 ++ t2) (c1 ++ c2) := by
  refine ⟨by rw [List.length_append, List.length_append, h1.1, h2.1], fun j t u ht hu => ?_⟩
  have hl := h1.1
  rw [List.getElem?_append] at ht hu
  by_cases hj : j < t1.length
  · rw [if_pos hj] at ht; rw [if_pos om] at hu
    exact h1.2 j t u ht hu
  · rw [if_neg hj] at ht; rw [if_neg om] at hu
    rw [← hl] at ht
    exact h2.2 _ t u ht hu
theorem RdC.nil : RdC w [] [] := ⟨rfl, fun j t u ht hu => by simp at ht⟩
theorem RdC.one {tt : T} (h : Rd w tt v) : RdC w [tt] [v] := ⟨rfl, fun j t u ht hu => by
  match j, ht, hu with
  | 0, ht, hu => simp at ht hu; rw [← ht, ← hu]; exact h
  | j + 1, ht, hu => simp at ht⟩
end
section
variable {P : Program} {n : Nat} {M : List Nat} {w0 w : World} {S : World → Prop} {ops : Array Oper} {K : Act → World → Prop} {i0 d0 e0 : Nat} {z : List Value} {H : List HE} {s : List (Nat × Value)} {fuel : Nat} {listed : Array Bool}
def Stp (P : Program) (n : Nat) (M : List Nat) (w0 : World) (ops : Array Oper) (K : Act → World → Prop) (H : List HE) (s : List (Nat × Value)) (o : Oper) (d : Nat) (φ : Value → List HE → Prop) : Prop :=
  ∀ E X (R : Act → World → Prop), (∀ v H1, φ v H1 → AT n (Hp M w0 (H1 ++ E)) ((d, v) :: (s ++ X)) R) → AT n (Hp M w0 (H ++ E)) (s ++ X) (wpList P ops (Qk R (Qn K)) [o])
theorem fl_two (i j : Nat) {o o' : Oper} {d d' ty0 : Nat} {pos0 : String} {af0 : Array Edge} {φ φ' : Value → List HE → Prop} (hi : ops[i]? = some o) (hj : ops[j]? = some o') (hi0 : ops[i0]? = some ⟨some d0, .alloc e0, ty0, pos0, af0, none⟩) (hne : Nat.beq i i0 = false) (hnej : Nat.beq j i0 = false)
    (T : Tabs P) (hz : lk T.sz e0 = some z) (hl0 : lk s d0 = none) (hd0 : Nat.blt d0 n = true)
    (hr : ((Region.ready .any ops listed).all fun q => (Nat.beq q i || Nat.beq q j) || Nat.beq q i0) = true) (hr1 : (Region.ready .any ops listed).isEmpty = false) (hr' : Region.ready .any ops (listed.setIfInBounds i0 true) = [i, j])
    (stepI : Stp P n M w0 ops K H s o d φ) (stepJ : Stp P n M w0 ops K H s o' d' φ') (hS0 : ∀ w, Hp M w0 H w → S w) (hSI : ∀ v H1, φ v H1 → ∀ w, Hp M w0 H1 w → S w) (hSJ : ∀ v H1, φ' v H1 → ∀ w, Hp M w0 H1 w → S w)
    (h : ∀ v H1, φ v H1 → FL P n M w0 S ops K i0 d0 e0 z H1 ((d, v) :: s) fuel (listed.setIfInBounds i true))
    (h' : ∀ v H1, φ' v H1 → FL P n M w0 S ops K i0 d0 e0 z H1 ((d', v) :: s) fuel (listed.setIfInBounds j true)) : FL P n M w0 S ops K i0 d0 e0 z H s (fuel + 1) listed := by
  have hne' : i ≠ i0 := fun h => by subst h; simp at hne
  have hnej' : j ≠ i0 := fun h => by subst h; simp at hnej
  have second : ∀ b, w0.heap.size ≤ b → AT n (Hp M w0 (H ++ [.blk b z.toArray e0])) (s ++ [(d0, .pointer (some ⟨b, 0, none⟩))]) (wpAnyH P .any ops (Qn K) S (fuel + 1) (listed.setIfInBounds i0 true)) := fun b hb => by
    refine h_two i j hi hj hr' (stepI _ _ _ (fun v H1 hφ => h_keep (fun w c => hSI v H1 hφ w (c.sub (List.sublist_append_left _ _))) ?_)) (stepJ _ _ _ (fun v H1 hφ => h_keep (fun w c => hSJ v H1 hφ w (c.sub (List.sublist_append_left _ _))) ?_))
    · have := (h v H1 hφ).2 b hb
      rw [Array.setIfInBounds_comm _ _ hne'] at this
      exact this
    · have := (h' v H1 hφ).2 b hb
      rw [Array.setIfInBounds_comm _ _ hnej'] at this
      exact this
  refine ⟨fun a w fr c => ?_, second⟩
  refine wpAnyH_all rfl (fun h0 => by rw [h0] at hr1; simp at hr1) (fun q hq => ?_)
  have hq' := List.all_eq_true.1 hr q hq
  simp only [Bool.or_eq_true] at hq'
  rcases hq' with (hq' | hq') | hq'
  · have : q = i := Nat.eq_of_beq_eq_true hq'
    subst this
    have h1 : AT n (Hp M w0 H) s (wpList P ops (Qk (fun a' w' => S w' ∧ wpAnyH P .any ops (Qn K) S (fuel + 1) (listed.setIfInBounds q true) a' w') (Qn K)) [o]) := by
      have := stepI [] [] (fun a' w' => S w' ∧ wpAnyH P .any ops (Qn K) S (fuel + 1) (listed.setIfInBounds q true) a' w') (fun v H1 hφ => by
        rw [List.append_nil, List.append_nil]
        exact h_keep (hSI v H1 hφ) (h v H1 hφ).1)
      rwa [List.append_nil, List.append_nil] at this
    exact wpOp_list hi (h1 a w fr c)
  · have : q = j := Nat.eq_of_beq_eq_true hq'
    subst this
    have h1 : AT n (Hp M w0 H) s (wpList P ops (Qk (fun a' w' => S w' ∧ wpAnyH P .any ops (Qn K) S (fuel + 1) (listed.setIfInBounds q true) a' w') (Qn K)) [o']) := by
      have := stepJ [] [] (fun a' w' => S w' ∧ wpAnyH P .any ops (Qn K) S (fuel + 1) (listed.setIfInBounds q true) a' w') (fun v H1 hφ => by
        rw [List.append_nil, List.append_nil]
        exact h_keep (hSJ v H1 hφ) (h' v H1 hφ).1)
      rwa [List.append_nil, List.append_nil] at this
    exact wpOp_list hj (h1 a w fr c)
  · have : q = i0 := Nat.eq_of_beq_eq_true hq'
    subst this
    exact wpOp_list hi0 ((m_alloc T hz hd0 (fun b hb => c_nil (x_one (h_keep (fun w c => hS0 w c.drop) (AT.sub (sub_last hl0) (AT.cls (fun w c => c.last) (second b hb)))))) : AT n (Hp M w0 H) s _) a w fr c)
theorem stp_b0 (T : Tabs P) {t d ty e k b : Nat} {pos : String} {af : Array Edge} {zz : List Value} (ht : lk T.sl t = some (e, k, b, zz)) (hd : Nat.blt d n = true) :
    Stp P n M w0 ops K H s ⟨some d, .buildSlice t 0 #[], ty, pos, af, none⟩ d (fun v H1 => ∃ g, w0.heap.size ≤ g ∧ v = .slice (some ⟨g, 0, none⟩) 0 0 ∧ H1 = .own (.s e k []) (.slice (some ⟨g, 0, none⟩) 0 0) :: H) := fun _ _ _ hR =>
  m_build0 T ht hd (fun g hg => c_nil (x_one (by have := hR _ _ ⟨g, hg, rfl, rfl⟩; simpa using this)))
theorem stp_dup (i : Nat) (T : Tabs P) {t d ty e c : Nat} {pos : String} {af : Array Edge} {zz : List Value} {ys : List Int} {ad : Option Addr} {v0 : Value} {x y : Operand} (ht : lk T.sl t = some (e, 1, 8, zz)) (hi : H[i]? = some (.own (ints e []) v0)) (hx : ev s x = some v0) (hy : ev s y = some (.slice ad ys.length c)) (hd : Nat.blt d n = true)
    (hb : ys.length ≤ 1099511627776) (hs : ∀ w, Hp M w0 H w → Rd w (ints e ys) (.slice ad ys.length c)) :
    Stp P n M w0 ops K H s ⟨some d, .call ⟨.builtin .append, #[x, y], #[t, t]⟩, ty, pos, af, none⟩ d (fun v H1 => ∃ a cc, SA a ys.length ∧ v = .slice a ys.length cc ∧ H1 = .own (ints e ys) (.slice a ys.length cc) :: H.eraseIdx i) := fun E X R hR => by
  have hil : i < H.length := (List.getElem?_eq_some_iff.1 hi).1
  refine m_dup i T ht (by rw [List.getElem?_append_left hil]; exact hi) (ev_sub sub_left hx) (ev_sub sub_left hy) hd hb (fun w c => hs w (c.sub (List.sublist_append_left _ _))) (fun a cc hsa => c_nil (x_one ?_))
  rw [List.eraseIdx_append_of_lt_length hil]
  exact hR _ _ ⟨a, cc, hsa, rfl, rfl⟩
end
end Go.Lg
