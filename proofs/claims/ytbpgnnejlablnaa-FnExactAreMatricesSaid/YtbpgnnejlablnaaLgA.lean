import Derived.Calls
import Derived.Control
import Derived.Tactics
import Derived.Below
import Derived.Orders
import Derived.Deep.Quiet
import Derived.IntWalk
namespace Go.Lg
open Go.RowKit

/-- look up a slot -/
def lk {α : Type} : List (Nat × α) → Nat → Option α
  | [], _ => none
  | (k, v) :: r, j => bif Nat.beq k j then some v else lk r j

/-- what is known of a frame -/
structure Fr (n : Nat) (s : List (Nat × Value)) (a : Act) : Prop where
  size : n ≤ a.tmps.size
  dfr : a.defers = []
  has : ∀ k v, lk s k = some v → a.tmps[k]? = some v

def ev (s : List (Nat × Value)) : Operand → Option Value
  | .tmp t => lk s t
  | .const v => some v
  | .func f => some (.func (.func f) #[] #[])
  | .global g => some (.pointer (some ⟨g, 0, none⟩))

def evs (s : List (Nat × Value)) : List Operand → Option (List Value)
  | [] => some []
  | x :: r => match ev s x, evs s r with
    | some v, some vs => some (v :: vs)
    | _, _ => none

theorem Fr.ev {n : Nat} {s : List (Nat × Value)} {a : Act} (h : Fr n s a) {x : Operand} {v : Value} (e : ev s x = some v) : a.eval x = v := by
  cases x with
  | tmp t => simp only [Lg.ev] at e; simp [Act.eval, Array.getD_eq_getD_getElem?, h.has _ _ e]
  | const c => simp only [Lg.ev, Option.some.injEq] at e; exact e
  | func f => simp only [Lg.ev, Option.some.injEq] at e; exact e
  | global g => simp only [Lg.ev, Option.some.injEq] at e; exact e

theorem Fr.evs {n : Nat} {s : List (Nat × Value)} {a : Act} (h : Fr n s a) : ∀ {xs : List Operand} {vs : List Value}, evs s xs = some vs → xs.map a.eval = vs
  | [], vs, e => by simp only [Lg.evs, Option.some.injEq] at e; simp [← e]
  | x :: r, vs, e => by
    simp only [Lg.evs] at e
    split at e
    · rename_i v vs' h1 h2
      simp only [Option.some.injEq] at e
      rw [← e, List.map_cons, h.ev h1, h.evs h2]
    · cases e

theorem Fr.put {n : Nat} {s : List (Nat × Value)} {a : Act} (h : Fr n s a) {d : Nat} (hd : d < n) (v : Value) : Fr n ((d, v) :: s) (a.put (some d) v) := by
  refine ⟨by simp [Act.put]; exact h.size, h.dfr, fun k u e => ?_⟩
  have hs := h.size
  simp only [lk] at e
  by_cases hk : d = k
  · subst hk
    simp at e
    subst e
    simp [Act.put, show d < a.tmps.size by omega]
  · have : Nat.beq d k = false := by cases hb : Nat.beq d k with
      | false => rfl
      | true => exact absurd (Nat.eq_of_beq_eq_true hb) hk
    simp only [this, cond_false] at e
    simp only [Act.put]
    rw [Array.getElem?_setIfInBounds_ne hk]
    exact h.has _ _ e

theorem Fr.put_none {n : Nat} {s : List (Nat × Value)} {a : Act} (h : Fr n s a) (v : Value) : Fr n s (a.put none v) := h

/-- known of the one, so known of the other -/
def Sub (s' s : List (Nat × Value)) : Prop := ∀ k v, lk s' k = some v → lk s k = some v
theorem Sub.nil {s : List (Nat × Value)} : Sub [] s := fun _ _ h => by cases h
theorem Sub.cons {s' s : List (Nat × Value)} {k : Nat} {v : Value} (h : lk s k = some v) (h' : Sub s' s) : Sub ((k, v) :: s') s := fun j u e => by
  simp only [lk] at e
  by_cases hk : k = j
  · subst hk; simp at e; subst e; exact h
  · have : Nat.beq k j = false := by cases hb : Nat.beq k j with
      | false => rfl
      | true => exact absurd (Nat.eq_of_beq_eq_true hb) hk
    simp only [this, cond_false] at e
    exact h' _ _ e
theorem Sub.consi {s' s : List (Nat × Value)} {k : Nat} {p q : Int} (h : lk s k = some (.int .i64 p)) (e : p = q) (h' : Sub s' s) : Sub ((k, .int .i64 q) :: s') s := by
  subst e; exact Sub.cons h h'
theorem Sub.refl (s : List (Nat × Value)) : Sub s s := fun _ _ h => h
theorem Fr.sub {n : Nat} {s s' : List (Nat × Value)} {a : Act} (h : Fr n s a) (hs : Sub s' s) : Fr n s' a := ⟨h.size, h.dfr, fun k v e => h.has k v (hs k v e)⟩

/-- THE JUDGEMENT: in every frame of which s is known, in every world of the class C, R holds. -/
def AT (n : Nat) (C : World → Prop) (s : List (Nat × Value)) (R : Act → World → Prop) : Prop := ∀ a w, Fr n s a → C w → R a w

section
variable {P : Program} {n : Nat} {C : World → Prop} {s : List (Nat × Value)} {Q : Exit → Act → World → Prop}

theorem AT.sub {s' : List (Nat × Value)} {R : Act → World → Prop} (h : Sub s' s) (hr : AT n C s' R) : AT n C s R := fun a w f c => hr a w (f.sub h) c
theorem AT.cls {C' : World → Prop} {R : Act → World → Prop} (h : ∀ w, C w → C' w) (hr : AT n C' s R) : AT n C s R := fun a w f c => hr a w f (h w c)
/-- what is known of every world of the class may be taken out -/
theorem AT.ex {α : Type} {C : α → World → Prop} {R : Act → World → Prop} (hr : ∀ x, AT n (C x) s R) : AT n (fun w => ∃ x, C x w) s R := fun a w f ⟨x, c⟩ => hr x a w f c
theorem AT.pr {p : Prop} {R : Act → World → Prop} (hr : p → AT n C s R) : AT n (fun w => p ∧ C w) s R := fun a w f ⟨x, c⟩ => hr x a w f c

theorem c_seq {x y : Code} (h : AT n C s (x.wp P (Exit.then (y.wp P Q) Q))) : AT n C s ((Code.seq x y).wp P Q) := fun a w f c => wp_seq (h a w f c)
theorem c_block {id : Nat} {x : Code} (h : AT n C s (x.wp P (Exit.inBlock id Q))) : AT n C s ((Code.block id x).wp P Q) := fun a w f c => wp_block (h a w f c)
theorem c_skip (h : AT n C s (Q .normal)) : AT n C s (Code.skip.wp P Q) := fun a w f c => wp_skip (h a w f c)
theorem c_exit {id : Nat} (h : AT n C s (Q (.exit id))) : AT n C s ((Code.exit id).wp P Q) := fun a w f c => wp_exit (h a w f c)
theorem c_ret (h : AT n C s (Q .ret)) : AT n C s (Code.ret.wp P Q) := fun a w f c => wp_ret (h a w f c)
theorem c_region {id : Nat} {l : List Oper} (h : AT n C s (wpList P l.toArray Q l)) : AT n C s ((Code.region id l.toArray false).wp P Q) := fun a w f c => wp_region_lit (h a w f c)
theorem c_nil {ops : Array Oper} (h : AT n C s (Q .normal)) : AT n C s (wpList P ops Q []) := fun a w f c => h a w f c

theorem c_if {x : Operand} {y z : Code} {p : Prop} [Decidable p] (hx : ev s x = some (.bool (decide p))) (ht : p → AT n C s (y.wp P Q)) (hf : ¬ p → AT n C s (z.wp P Q)) : AT n C s ((Code.cond x y z).wp P Q) := fun a w f c => by
  refine wp_cond (f.ev hx) ?_
  by_cases hp : p
  · simpa [hp] using ht hp a w f c
  · simpa [hp] using hf hp a w f c
theorem c_ifb {x : Operand} {y z : Code} {b : Bool} (hx : ev s x = some (.bool b)) (ht : b = true → AT n C s (y.wp P Q)) (hf : b = false → AT n C s (z.wp P Q)) : AT n C s ((Code.cond x y z).wp P Q) := fun a w f c => by
  refine wp_cond (f.ev hx) ?_
  cases b
  · simpa using hf rfl a w f c
  · simpa using ht rfl a w f c

/-- exits -/
theorem x_then {k : Act → World → Prop} (h : AT n C s k) : AT n C s (Exit.then k Q .normal) := h
theorem x_then_exit {k : Act → World → Prop} {id : Nat} (h : AT n C s (Q (.exit id))) : AT n C s (Exit.then k Q (.exit id)) := h
theorem x_then_ret {k : Act → World → Prop} (h : AT n C s (Q .ret)) : AT n C s (Exit.then k Q .ret) := h
theorem x_blk {id : Nat} (h : AT n C s (Q .normal)) : AT n C s (Exit.inBlock id Q .normal) := h
theorem x_blk_ret {id : Nat} (h : AT n C s (Q .ret)) : AT n C s (Exit.inBlock id Q .ret) := h
theorem x_blk_exit {id j : Nat} (hj : Nat.beq j id = true) (h : AT n C s (Q .normal)) : AT n C s (Exit.inBlock id Q (.exit j)) := fun a w f c => by
  have : j = id := Nat.eq_of_beq_eq_true hj
  simp only [Exit.inBlock, this, if_true]; exact h a w f c
theorem x_blk_other {id j : Nat} (hj : Nat.beq j id = false) (h : AT n C s (Q (.exit j))) : AT n C s (Exit.inBlock id Q (.exit j)) := fun a w f c => by
  have : j ≠ id := Nat.ne_of_beq_eq_false hj
  simp only [Exit.inBlock, this, if_false]; exact h a w f c

/-- a loop: σ, the class and the measure as functions of a state -/
def Again {α : Type} (n : Nat) (S : α → List (Nat × Value)) (C : α → World → Prop) (m : α → Nat) (x : α) (a : Act) (w : World) : Prop := ∃ y, Fr n (S y) a ∧ C y w ∧ m y < m x

theorem wp_loop_ghost {α : Type} {c : Code} {I : α → Act → World → Prop} {m : α → Nat}
    (round : ∀ x a w, I x a w → c.wp P (Exit.then (fun a' w' => ∃ y, I y a' w' ∧ m y < m x) Q) a w) (x : α) (a : Act) (w : World) (h : I x a w) : (Code.loop c).wp P Q a w := by
  have main : ∀ k x a w, m x < k → I x a w → ∀ (b : Frame) (t : List Item) (cs : List Frame),
      ∃ e a' w', Q e a' w' ∧ Arrives P (lone (b.at a (.code c :: .inLoop c :: t)) cs w) b t cs e a' w' := by
    intro k
    induction k with
    | zero => intro x a w hk; omega
    | succ k ih =>
      intro x a w hk hI b t cs
      obtain ⟨e, a1, w1, hq, harr⟩ := round x a w hI b (.inLoop c :: t) cs
      cases e with
      | normal =>
        obtain ⟨y, hy, hlt⟩ := hq
        obtain ⟨e2, a2, w2, hq2, harr2⟩ := ih y a1 w1 (by omega) hy b t cs
        exact ⟨e2, a2, w2, hq2, .of_steps (Steps.trans harr (.one step_inLoop)) harr2⟩
      | exit id => exact ⟨_, a1, w1, hq, .pass (x := .inLoop c) rfl (fun _ _ => .inl (by simp)) harr⟩
      | goto l => exact ⟨_, a1, w1, hq, .pass (x := .inLoop c) rfl (fun _ _ => .inl (by simp)) harr⟩
      | ret => exact ⟨_, a1, w1, hq, .pass (x := .inLoop c) rfl (fun _ _ => .inl (by simp)) harr⟩
      | panic ch => exact ⟨_, a1, w1, hq, .pass (x := .inLoop c) rfl (fun _ _ => .inl (by simp)) harr⟩
      | outgrown => exact ⟨_, a1, w1, hq, .pass (x := .inLoop c) rfl (fun _ _ => .inl (by simp)) harr⟩
  intro b t cs
  obtain ⟨e, a', w', hq, harr⟩ := main (m x + 1) x a w (by omega) h b t cs
  exact ⟨e, a', w', hq, .of_steps (.one step_loop) harr⟩

theorem c_loop {α : Type} (S : α → List (Nat × Value)) (D : α → World → Prop) (m : α → Nat) {c : Code} (x0 : α) (h0 : Sub (S x0) s) (hC : ∀ w, C w → D x0 w)
    (round : ∀ x, AT n (D x) (S x) (c.wp P (Exit.then (Again n S D m x) Q))) : AT n C s ((Code.loop c).wp P Q) := fun a w f hc =>
  wp_loop_ghost (I := fun x a w => Fr n (S x) a ∧ D x w) (m := m) (fun x a w h => Code.wp_mono (fun e a w hq => by
    cases e with
    | normal => obtain ⟨y, g1, g2, g3⟩ := hq; exact ⟨y, ⟨g1, g2⟩, g3⟩
    | _ => exact hq) (round x a w h.1 h.2)) x0 a w ⟨f.sub h0, hC w hc⟩

theorem x_again {α : Type} {S : α → List (Nat × Value)} {D : α → World → Prop} {m : α → Nat} {x : α} (y : α) (hs : Sub (S y) s) (hC : ∀ w, C w → D y w) (hm : m y < m x) :
    AT n C s (Exit.then (Again n S D m x) Q .normal) := fun _ w f c => ⟨y, f.sub hs, hC w c, hm⟩
end
end Go.Lg
