import Derived.Test.YtbpgnnejlablnaaLgH
namespace Go.Lg
open Go.RowKit

section
variable {P : Program} {n : Nat} {C : World → Prop} {s : List (Nat × Value)} {Q : Exit → Act → World → Prop} {ops : Array Oper} {rest : List Oper}
variable {d ty t t' : Nat} {pos : String} {af : Array Edge} {v : Value} {x y : Operand} {M : List Nat} {w0 w : World} {H : List HE}

theorem x_next {α : Type} {S : α → List (Nat × Value)} {D : α → World → Prop} {m : α → Nat} {x : α} (y : α) (hs : Sub (S y) s) (hC : ∀ w, C w → D y w) (hm : m y < m x) :
    AT n C s (Again n S D m x) := fun _ w f c => ⟨y, f.sub hs, hC w c, hm⟩

/-- a region that draws its order, of operations that leave the class of worlds alone -/
def QT (P : Program) (ops : Array Oper) (n : Nat) (C : World → Prop) (K : Act → Prop) (s : List (Nat × Value)) (l : List Oper) : Prop := ∀ a, Fr n s a → wpQuiet P ops C K l a

theorem c_draw {id : Nat} {l : List Oper} (hm : P.follows .mixedOrders = true) (hB : Region.lexB .any l.toArray = true) (hC : ∀ w, C w → C { w with drawn := w.drawn + 1 })
    (h : QT P l.toArray n C (fun a' => ∀ w', C w' → Q .normal a' w') s l) : AT n C s ((Code.region id l.toArray true).wp P Q) := fun a w f c =>
  wp_region_quiet hm hB (hC w c) (by simpa using h a f)
variable {K : Act → Prop} {op : Op} {rest : List Oper}
theorem q_nil (h : AT n C s (Q .normal)) : QT P ops n C (fun a' => ∀ w', C w' → Q .normal a' w') s [] := fun a f w c => h a w f c
theorem q_y (hy : Y P n C s op ty v) (hd : Nat.blt d n = true) (h : QT P ops n C K ((d, v) :: s) rest) : QT P ops n C K s (⟨some d, op, ty, pos, af, none⟩ :: rest) := fun a f => by
  unfold wpQuiet
  rw [if_pos (by simp [Region.wanted])]
  exact ⟨v, fun w c => by unfold Oper.quietAt; rw [hy a w f c]; exact ⟨rfl, rfl⟩, h _ (f.put (by simpa [Nat.blt_eq] using hd) v)⟩
theorem q_gy {j dj : Nat} {b : Bool} {dd : Option Nat} (hj : (ops[j]?).bind (·.dst) = some dj) (hb : lk s dj = some (.bool b)) (h : QT P ops n C K s (⟨dd, op, ty, pos, af, none⟩ :: rest)) :
    QT P ops n C K s (⟨dd, op, ty, pos, af, some (j, b)⟩ :: rest) := fun a f => by
  have := h a f
  unfold wpQuiet at this ⊢
  rw [if_pos (by simp [Region.wanted])] at this
  rw [if_pos (by simp [Region.wanted, yielded, hj, f.has _ _ hb])]
  exact this
theorem q_gn {j dj : Nat} {b : Bool} (hj : (ops[j]?).bind (·.dst) = some dj) (hb : lk s dj = some (.bool !b)) (hd : Nat.blt d n = true) (h : QT P ops n C K ((d, undef) :: s) rest) :
    QT P ops n C K s (⟨some d, op, ty, pos, af, some (j, b)⟩ :: rest) := fun a f => by
  unfold wpQuiet
  rw [if_neg (by cases b <;> simp [Region.wanted, yielded, hj, f.has _ _ hb])]
  exact h _ (f.put (by simpa [Nat.blt_eq] using hd) undef)
/-- a call in such a region: its value is known, what it makes is let go -/
theorem q_call {f : Nat} {args : Array Operand} {vs : List Value} {φ : Value → List HE → Prop} {at' : Array Nat} (he : Ent P f) (ha : evs s args.toList = some vs) (hd : Nat.blt d n = true)
    (hc : ∀ w, Hp M w0 H w → Does P f vs w φ) (hv : ∀ u H', φ u H' → u = v) (h : QT P ops n (Hp M w0 H) K ((d, v) :: s) rest) :
    QT P ops n (Hp M w0 H) K s (⟨some d, .call ⟨.value (.func f), args, at'⟩, ty, pos, af, none⟩ :: rest) := fun a fr => by
  unfold wpQuiet
  rw [if_pos (by simp [Region.wanted])]
  refine ⟨v, fun w c => ?_, h _ (fr.put (by simpa [Nat.blt_eq] using hd) v)⟩
  have hm : args.map a.eval = vs.toArray := by
    rw [← fr.evs ha]
    apply Array.ext'
    simp
  have : (execOp a.eval ⟨some d, .call ⟨.value (.func f), args, at'⟩, ty, pos, af, none⟩).run P w = .ok (.enter f vs.toArray) w := by
    simp [execOp, resolve, Act.eval, Deferred.ofValue, hm, invoke, he vs.toArray w]
  unfold Oper.quietAt
  rw [this]
  refine ⟨rfl, (hc w c).mono ?_⟩
  rintro e w' ⟨u, H', rfl, hφ, hp⟩
  exact ⟨by rw [hv u H' hφ], c.same hp.below⟩
end

/-! ### lists -/
theorem set_fill {α : Type} (xs : List α) (i : Nat) (z : α) (h : i < xs.length) (u : α) (hu : xs[i]? = some u) :
    (xs.take i ++ List.replicate (xs.length - i) z).set i u = xs.take (i + 1) ++ List.replicate (xs.length - (i + 1)) z := by
  apply List.ext_getElem?
  intro q
  grind
theorem getD_some {α : Type} {xs : List α} {i : Nat} {z : α} (h : i < xs.length) : xs[i]? = some (xs.getD i z) := by simp [List.getD, h]
theorem take_end {α : Type} {xs : List α} {i : Nat} (h : xs.length ≤ i) : xs.take i = xs := List.take_of_length_le h
theorem take_next {α : Type} {xs : List α} {i : Nat} {z : α} (h : i < xs.length) : xs.take (i + 1) = xs.take i ++ [xs.getD i z] := by
  rw [List.take_add_one, getD_some (z := z) h]; rfl
end Go.Lg
