import Derived.Test.YtbpgnnejlablnaaLgZa
namespace Go.Lg
open Go.RowKit
section
variable {P : Program} {n : Nat} {S : World → Prop} {s : List (Nat × Value)} {K : Act → World → Prop} {ops : Array Oper} {fuel : Nat} {listed : Array Bool}
variable {M : List Nat} {w0 : World} {H : List HE} {i0 d0 e0 : Nat} {z : List Value}
theorem fl_step (i : Nat) {o : Oper} {d ty0 : Nat} {pos0 : String} {af0 : Array Edge} {φ : Value → List HE → Prop} (hi : ops[i]? = some o) (hi0 : ops[i0]? = some ⟨some d0, .alloc e0, ty0, pos0, af0, none⟩) (hne : Nat.beq i i0 = false)
    (T : Tabs P) (hz : lk T.sz e0 = some z) (hl0 : lk s d0 = none) (hd0 : Nat.blt d0 n = true)
    (hr : ((Region.ready .any ops listed).all fun j => Nat.beq j i || Nat.beq j i0) = true) (hr1 : (Region.ready .any ops listed).isEmpty = false) (hr' : Region.ready .any ops (listed.setIfInBounds i0 true) = [i])
    (hstep : ∀ E X (R : Act → World → Prop), (∀ v H1, φ v H1 → AT n (Hp M w0 (H1 ++ E)) ((d, v) :: (s ++ X)) R) → AT n (Hp M w0 (H ++ E)) (s ++ X) (wpList P ops (Qk R (Qn K)) [o])) (hS0 : ∀ w, Hp M w0 H w → S w) (hS : ∀ v H1, φ v H1 → ∀ w, Hp M w0 H1 w → S w)
    (h : ∀ v H1, φ v H1 → FL P n M w0 S ops K i0 d0 e0 z H1 ((d, v) :: s) fuel (listed.setIfInBounds i true)) : FL P n M w0 S ops K i0 d0 e0 z H s (fuel + 1) listed := by
  have hne' : i ≠ i0 := fun h => by subst h; simp at hne
  have second : ∀ b, w0.heap.size ≤ b → AT n (Hp M w0 (H ++ [.blk b z.toArray e0])) (s ++ [(d0, .pointer (some ⟨b, 0, none⟩))]) (wpAnyH P .any ops (Qn K) S (fuel + 1) (listed.setIfInBounds i0 true)) := fun b hb => by
    refine h_only i hi hr' (hstep _ _ _ (fun v H1 hφ => h_keep (fun w c => hS v H1 hφ w (c.sub (List.sublist_append_left _ _))) ?_))
    have := (h v H1 hφ).2 b hb
    rw [Array.setIfInBounds_comm _ _ hne'] at this
    exact this
  refine ⟨fun a w fr c => ?_, second⟩
  refine wpAnyH_all rfl (fun h0 => by rw [h0] at hr1; simp at hr1) (fun j hj => ?_)
  have hj' := List.all_eq_true.1 hr j hj
  simp only [Bool.or_eq_true] at hj'
  rcases hj' with hj' | hj'
  · have : j = i := Nat.eq_of_beq_eq_true hj'
    subst this
    have h1 : AT n (Hp M w0 H) s (wpList P ops (Qk (fun a' w' => S w' ∧ wpAnyH P .any ops (Qn K) S (fuel + 1) (listed.setIfInBounds j true) a' w') (Qn K)) [o]) := by
      have := hstep [] [] (fun a' w' => S w' ∧ wpAnyH P .any ops (Qn K) S (fuel + 1) (listed.setIfInBounds j true) a' w') (fun v H1 hφ => by
        rw [List.append_nil, List.append_nil]
        exact h_keep (hS v H1 hφ) (h v H1 hφ).1)
      rwa [List.append_nil, List.append_nil] at this
    exact wpOp_list hi (h1 a w fr c)
  · have : j = i0 := Nat.eq_of_beq_eq_true hj'
    subst this
    exact wpOp_list hi0 ((m_alloc T hz hd0 (fun b hb => c_nil (x_one (h_keep (fun w c => hS0 w c.drop) (AT.sub (sub_last hl0) (AT.cls (fun w c => c.last) (second b hb)))))) : AT n (Hp M w0 H) s _) a w fr c)
theorem fl_build1 (i : Nat) {t d ty : Nat} {pos : String} {af : Array Edge} {x : Operand} {ty0 : Nat} {pos0 : String} {af0 : Array Edge} {e k b : Nat} {zz us : List Value} {u : Value} (hi : ops[i]? = some ⟨some d, .buildSlice t 1 #[(0, x)], ty, pos, af, none⟩) (hi0 : ops[i0]? = some ⟨some d0, .alloc e0, ty0, pos0, af0, none⟩) (hne : Nat.beq i i0 = false)
    (T : Tabs P) (hz : lk T.sz e0 = some z) (hl0 : lk s d0 = none) (hd0 : Nat.blt d0 n = true)
    (hr : ((Region.ready .any ops listed).all fun j => Nat.beq j i || Nat.beq j i0) = true) (hr1 : (Region.ready .any ops listed).isEmpty = false) (hr' : Region.ready .any ops (listed.setIfInBounds i0 true) = [i])
    (ht : lk T.sl t = some (e, k, b, zz)) (hx : ev s x = some u) (hc : u.cells = us.toArray) (hu : us.length = k) (hk : k ≤ 64) (hd : Nat.blt d n = true) (hS0 : ∀ w, Hp M w0 H w → S w)
    (h : ∀ g, w0.heap.size ≤ g → FL P n M w0 S ops K i0 d0 e0 z (.blk g us.toArray e :: H) ((d, .slice (some ⟨g, 0, none⟩) 1 1) :: s) fuel (listed.setIfInBounds i true)) : FL P n M w0 S ops K i0 d0 e0 z H s (fuel + 1) listed :=
  fl_step i (φ := fun v H1 => ∃ g, w0.heap.size ≤ g ∧ v = .slice (some ⟨g, 0, none⟩) 1 1 ∧ H1 = .blk g us.toArray e :: H) hi hi0 hne T hz hl0 hd0 hr hr1 hr'
    (fun E X R hR => m_build1 T ht (ev_sub sub_left hx) hc hu hk hd (fun g hg => c_nil (x_one (by have := hR _ _ ⟨g, hg, rfl, rfl⟩; simpa using this)))) hS0
    (fun v H1 ⟨g, hg, hv, hH⟩ w c => by subst hH; exact hS0 w c.drop) (fun v H1 ⟨g, hg, hv, hH⟩ => by subst hv; subst hH; exact h g hg)
end
end Go.Lg
namespace Go.Lg
open Go.RowKit
section
variable {P : Program} {n : Nat} {C S : World → Prop} {s : List (Nat × Value)} {Q : Exit → Act → World → Prop} {K : Act → World → Prop} {ops : Array Oper} {rest : List Oper} {fuel : Nat} {listed : Array Bool}
variable {d ty t t' : Nat} {pos : String} {af : Array Edge} {v : Value} {x y : Operand} {M : List Nat} {w0 w : World} {H : List HE}
/-- one of two operations comes up next -/
theorem h_two (i j : Nat) {o o' : Oper} (hi : ops[i]? = some o) (hj : ops[j]? = some o') (hr : Region.ready .any ops listed = [i, j])
    (h : AT n C s (wpList P ops (Qk (fun a' w' => S w' ∧ wpAnyH P .any ops (Qn K) S fuel (listed.setIfInBounds i true) a' w') (Qn K)) [o]))
    (h' : AT n C s (wpList P ops (Qk (fun a' w' => S w' ∧ wpAnyH P .any ops (Qn K) S fuel (listed.setIfInBounds j true) a' w') (Qn K)) [o'])) : AT n C s (wpAnyH P .any ops (Qn K) S (fuel + 1) listed) := fun a w f c =>
  wpAnyH_all hr (by simp) (fun q hq => by
    rcases List.mem_cons.1 hq with e | hq
    · subst e; exact wpOp_list hi (h a w f c)
    · have e : q = j := by simpa using hq
      subst e; exact wpOp_list hj (h' a w f c))
/-- ints are appended to an empty slice of ours -/
theorem m_dup (i : Nat) (T0 : Tabs P) {e c : Nat} {z : List Value} {ys : List Int} {ad : Option Addr} (ht : lk T0.sl t = some (e, 1, 8, z)) (hi : H[i]? = some (.own (ints e []) v)) (hx : ev s x = some v) (hy : ev s y = some (.slice ad ys.length c)) (hd : Nat.blt d n = true)
    (hb : ys.length ≤ 1099511627776) (hs : ∀ w, Hp M w0 H w → Rd w (ints e ys) (.slice ad ys.length c))
    (h : ∀ a cc, SA a ys.length → AT n (Hp M w0 (.own (ints e ys) (.slice a ys.length cc) :: H.eraseIdx i)) ((d, .slice a ys.length cc) :: s) (wpList P ops Q rest)) :
    AT n (Hp M w0 H) s (wpList P ops Q (⟨some d, .call ⟨.builtin .append, #[x, y], #[t, t]⟩, ty, pos, af, none⟩ :: rest)) := by
  refine m_appi i T0 (xs := []) ht hi hx hy hd (by simpa using hb) (fun w c => rd_src (hs w c)) (fun a cc => ?_)
  simp only [List.nil_append, List.length_nil, Nat.zero_add]
  refine AT.fact (own_sl 0 rfl) (fun hsl => ?_)
  obtain ⟨a', c', e1, h1⟩ := hsl
  cases e1
  exact h a cc h1
variable {x0 x1 x2 x3 : Operand} {v0 v1 v2 v3 : Value}
theorem y_bld2 (hb : ∀ w, (Instr.build t #[(0, v0), (1, v1)]).run P w = .ok v w) (h0 : ev s x0 = some v0) (h1 : ev s x1 = some v1) : Y P n C s (.build t #[(0, x0), (1, x1)]) ty v := fun a w f c d pos af g => by
  simp [execOp, f.ev h0, f.ev h1, hb]
theorem y_bld4 (hb : ∀ w, (Instr.build t #[(0, v0), (1, v1), (2, v2), (3, v3)]).run P w = .ok v w) (h0 : ev s x0 = some v0) (h1 : ev s x1 = some v1) (h2 : ev s x2 = some v2) (h3 : ev s x3 = some v3) : Y P n C s (.build t #[(0, x0), (1, x1), (2, x2), (3, x3)]) ty v := fun a w f c d pos af g => by
  simp [execOp, f.ev h0, f.ev h1, f.ev h2, f.ev h3, hb]
end
end Go.Lg
