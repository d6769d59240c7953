import Derived.Test.YtbpgnnejlablnaaLgO
import Derived.StillTail
namespace Go.Lg
open Go.RowKit
section
variable {P : Program} {n : Nat} {C : World → Prop} {s : List (Nat × Value)} {Q : Exit → Act → World → Prop} {M : List Nat} {w0 : World} {H : List HE}

theorem lk_ne {d k : Nat} {v : Value} (hk : ¬ d = k) : lk ((d, v) :: s) k = lk s k := by
  have : Nat.beq d k = false := by
    cases h : Nat.beq d k
    · rfl
    · exact absurd (Nat.eq_of_beq_eq_true h) hk
  simp only [lk, this, cond_false]
theorem lk_eq {d : Nat} {v : Value} : lk ((d, v) :: s) d = some v := by
  have : Nat.beq d d = true := Nat.beq_refl d
  simp only [lk, this, cond_true]
theorem sub_cons {d : Nat} {v : Value} (h : lk s d = none) : Sub s ((d, v) :: s) := fun k u e => by
  by_cases hk : d = k
  · subst hk; rw [h] at e; cases e
  · rw [lk_ne hk]; exact e
theorem sub_under {d : Nat} {v : Value} {s' : List (Nat × Value)} (h : Sub s' s) : Sub ((d, v) :: s') ((d, v) :: s) := fun k u e => by
  by_cases hk : d = k
  · subst hk; rw [lk_eq] at e ⊢; exact e
  · rw [lk_ne hk] at e ⊢; exact h k u e
theorem sub_swap {d d' : Nat} {v v' : Value} (hd : ¬ d = d') : Sub ((d, v) :: (d', v') :: s) ((d', v') :: (d, v) :: s) := fun k u e => by
  by_cases h1 : d = k
  · subst h1
    rw [lk_eq] at e
    rw [lk_ne (fun h => hd h.symm), lk_eq]; exact e
  · by_cases h2 : d' = k
    · subst h2
      rw [lk_ne h1, lk_eq] at e
      rw [lk_eq]; exact e
    · rw [lk_ne h1, lk_ne h2] at e
      rw [lk_ne h2, lk_ne h1]; exact e
theorem Sub.trans {s1 s2 s3 : List (Nat × Value)} (h : Sub s1 s2) (h' : Sub s2 s3) : Sub s1 s3 := fun k u e => h' k u (h k u e)

theorem ev_sub {s s' : List (Nat × Value)} (hs : Sub s s') {x : Operand} {v : Value} (h : ev s x = some v) : ev s' x = some v := by
  cases x <;> simp only [ev] at h ⊢ <;> first | exact h | exact hs _ _ h
theorem evs_sub {s s' : List (Nat × Value)} (hs : Sub s s') : ∀ {xs : List Operand} {vs : List Value}, evs s xs = some vs → evs s' xs = some vs
  | [], vs, h => by simpa [evs] using h
  | x :: xs, vs, h => by
    simp only [evs] at h ⊢
    cases h1 : ev s x with
    | none => simp [h1] at h
    | some v =>
      cases h2 : evs s xs with
      | none => simp [h1, h2] at h
      | some us =>
        simp [h1, h2] at h
        simp [ev_sub hs h1, evs_sub hs h2, h]

theorem Y.weak {C' : World → Prop} {s' : List (Nat × Value)} {op : Op} {ty : Nat} {v : Value} (h : Y P n C s op ty v) (hs : Sub s s') (hC : ∀ w, C' w → C w) : Y P n C' s' op ty v :=
  fun a w f c => h a w (f.sub hs) (hC w c)

/-- the region 'f(x, g(y))': two loads, a call that makes something, a call and a turn of its answer: three orders, one walk -/
theorem c_eqto {id d0 d1 d2 t0 t1 t2 f : Nat} {op0 op1 : Op} {p0 p1 p2 : String} {a0 a1 a2 : Array Edge} {args : Array Operand} {at' : Array Nat} {o3 o4 : Oper} {v0 v1 : Value} {vs : List Value} {φ : Value → List HE → Prop}
    (hm : P.follows .mixedOrders = true)
    (r0 : Region.ready .any #[⟨some d0, op0, t0, p0, a0, none⟩, ⟨some d1, op1, t1, p1, a1, none⟩, ⟨some d2, .call ⟨.value (.func f), args, at'⟩, t2, p2, a2, none⟩, o3, o4] #[false, false, false, false, false] = [0, 1])
    (r1 : Region.ready .any #[⟨some d0, op0, t0, p0, a0, none⟩, ⟨some d1, op1, t1, p1, a1, none⟩, ⟨some d2, .call ⟨.value (.func f), args, at'⟩, t2, p2, a2, none⟩, o3, o4] #[true, false, false, false, false] = [1])
    (r2 : Region.ready .any #[⟨some d0, op0, t0, p0, a0, none⟩, ⟨some d1, op1, t1, p1, a1, none⟩, ⟨some d2, .call ⟨.value (.func f), args, at'⟩, t2, p2, a2, none⟩, o3, o4] #[false, true, false, false, false] = [0, 2])
    (r3 : Region.ready .any #[⟨some d0, op0, t0, p0, a0, none⟩, ⟨some d1, op1, t1, p1, a1, none⟩, ⟨some d2, .call ⟨.value (.func f), args, at'⟩, t2, p2, a2, none⟩, o3, o4] #[true, true, false, false, false] = [2])
    (r4 : Region.ready .any #[⟨some d0, op0, t0, p0, a0, none⟩, ⟨some d1, op1, t1, p1, a1, none⟩, ⟨some d2, .call ⟨.value (.func f), args, at'⟩, t2, p2, a2, none⟩, o3, o4] #[false, true, true, false, false] = [0])
    (hB : Region.seqB .any #[⟨some d0, op0, t0, p0, a0, none⟩, ⟨some d1, op1, t1, p1, a1, none⟩, ⟨some d2, .call ⟨.value (.func f), args, at'⟩, t2, p2, a2, none⟩, o3, o4] 2 3 #[true, true, true, false, false] = true)
    (f0 : lk s d0 = none) (f1 : lk s d1 = none) (f2 : lk s d2 = none) (hd : Nat.blt d0 d1 = true ∧ Nat.blt d1 d2 = true ∧ Nat.blt d2 n = true)
    (y0 : Y P n (Hp M w0 H) s op0 t0 v0) (y1 : Y P n (Hp M w0 H) s op1 t1 v1) (he : Ent P f) (ha : evs ((d1, v1) :: s) args.toList = some vs)
    (hc : ∀ w, Hp M w0 H w → Does P f vs w φ)
    (h : ∀ v H', φ v H' → AT n (Hp M w0 (H' ++ H)) ((d2, v) :: (d1, v1) :: (d0, v0) :: s) (wpList P #[⟨some d0, op0, t0, p0, a0, none⟩, ⟨some d1, op1, t1, p1, a1, none⟩, ⟨some d2, .call ⟨.value (.func f), args, at'⟩, t2, p2, a2, none⟩, o3, o4] Q [o3, o4])) :
    AT n (Hp M w0 H) s ((Code.region id [⟨some d0, op0, t0, p0, a0, none⟩, ⟨some d1, op1, t1, p1, a1, none⟩, ⟨some d2, .call ⟨.value (.func f), args, at'⟩, t2, p2, a2, none⟩, o3, o4].toArray true).wp P Q) := by
  obtain ⟨e1, e2, e3⟩ := hd
  have e1 : d0 < d1 := by simpa [Nat.blt_eq] using e1
  have e2 : d1 < d2 := by simpa [Nat.blt_eq] using e2
  have b2 := e3
  have b1 : Nat.blt d1 n = true := by simp [Nat.blt_eq] at e3 ⊢; omega
  have b0 : Nat.blt d0 n = true := by simp [Nat.blt_eq] at e3 ⊢; omega
  have drop : ∀ {H' : List HE} w, Hp M w0 (H' ++ H) w → Hp M w0 H w := fun w c => c.sub (List.sublist_append_right _ _)
  refine c_ways hm (fun w c => c.drew) ?_
  generalize hops : ([⟨some d0, op0, t0, p0, a0, none⟩, ⟨some d1, op1, t1, p1, a1, none⟩, ⟨some d2, .call ⟨.value (.func f), args, at'⟩, t2, p2, a2, none⟩, o3, o4] : List Oper) = l at *
  subst hops
  -- the tail
  have tail : ∀ v H', φ v H' → AT n (Hp M w0 (H' ++ H)) ((d2, v) :: (d1, v1) :: (d0, v0) :: s) (wpAny P .any #[⟨some d0, op0, t0, p0, a0, none⟩, ⟨some d1, op1, t1, p1, a1, none⟩, ⟨some d2, .call ⟨.value (.func f), args, at'⟩, t2, p2, a2, none⟩, o3, o4] Q 2 #[true, true, true, false, false]) := fun v H' hφ a w fr c =>
    wpAny_of_seq [o3, o4] 3 _ a w (fun j => by
      match j with
      | 0 => rfl
      | 1 => rfl
      | j + 2 => simp; omega) hB (h v H' hφ a w fr c)
  refine w_all r0 (w_cons rfl ?_ (w_cons rfl ?_ w_nil))
  · -- 0, 1, 2
    refine st_y y0 b0 (c_nil (x_one ?_))
    refine w_all r1 (w_cons rfl (st_y (y1.weak (sub_cons f0) (fun _ c => c)) b1 (c_nil (x_one ?_))) w_nil)
    refine w_all r3 (w_cons rfl (m_call he (vs := vs) ?_ b2 hc (fun v H' hφ => c_nil (x_one (tail v H' hφ)))) w_nil)
    exact evs_sub (sub_under (sub_cons f0)) ha
  · refine st_y y1 b1 (c_nil (x_one ?_))
    refine w_all r2 (w_cons rfl ?_ (w_cons rfl ?_ w_nil))
    · -- 1, 0, 2
      refine st_y (y0.weak (sub_cons f1) (fun _ c => c)) b0 (c_nil (x_one ?_))
      refine w_all r3 (w_cons rfl (m_call he (vs := vs) ?_ b2 hc (fun v H' hφ => c_nil (x_one (AT.sub ?_ (tail v H' hφ))))) w_nil)
      · exact evs_sub (sub_cons (by rw [lk_ne (by omega)]; exact f0)) ha
      · exact sub_under (sub_swap (by omega))
    · -- 1, 2, 0
      refine m_call he ha b2 hc (fun v H' hφ => c_nil (x_one ?_))
      refine w_all r4 (w_cons rfl (st_y (y0.weak ((sub_cons f1).trans (sub_cons ?_)) drop) b0 (c_nil (x_one (AT.sub ?_ (tail v H' hφ))))) w_nil)
      · rw [lk_ne (by omega)]; exact f2
      · exact ((sub_under (sub_swap (by omega))).trans (sub_swap (by omega)))
end
end Go.Lg
