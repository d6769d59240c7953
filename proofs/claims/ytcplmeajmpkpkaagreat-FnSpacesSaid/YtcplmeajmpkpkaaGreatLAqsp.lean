import Derived.Calls
import Derived.Control
import Derived.Tactics
import Derived.Below
import Derived.Orders
import Derived.Deep.Quiet
import Derived.IntWalk
import Derived.WalkKit
import Derived.KernelRfl
namespace Go.Lg
open Go.RowKit

def lk {α : Type} : List (Nat × α) → Nat → Option α
  | [], _ => none
  | (k, v) :: r, j => bif Nat.beq k j then some v else lk r j

class Dfs where
  ds : List Deferred
instance dfs0 : Dfs := ⟨[]⟩
structure Fr [Dfs] (n : Nat) (s : List (Nat × Value)) (a : Act) : Prop where
  size : n ≤ a.tmps.size
  dfr : a.defers = Dfs.ds
  has : ∀ k v, lk s k = some v → a.tmps[k]? = some v

def ev (s : List (Nat × Value)) : Operand → Option Value
  | .tmp t => lk s t
  | .const v => some v
  | .func f => some (.func (.func f) #[] #[])
  | .global g => some (.pointer (some ⟨g, 0, none⟩))

def evs (s : List (Nat × Value)) : List Operand → Option (List Value)
  | [] => some []
  | x :: r => match ev s x, evs s r with
    | some v, some vs => some (v :: vs)
    | _, _ => none

theorem Fr.ev [Dfs] {n : Nat} {s : List (Nat × Value)} {a : Act} (h : Fr n s a) {x : Operand} {v : Value} (e : ev s x = some v) : a.eval x = v := by
  cases x with
  | tmp t => simp only [Lg.ev] at e; simp [Act.eval, Array.getD_eq_getD_getElem?, h.has _ _ e]
  | const c => simp only [Lg.ev, Option.some.injEq] at e; exact e
  | func f => simp only [Lg.ev, Option.some.injEq] at e; exact e
  | global g => simp only [Lg.ev, Option.some.injEq] at e; exact e

theorem Fr.evs [Dfs] {n : Nat} {s : List (Nat × Value)} {a : Act} (h : Fr n s a) : ∀ {xs : List Operand} {vs : List Value}, evs s xs = some vs → xs.map a.eval = vs
  | [], vs, e => by simp only [Lg.evs, Option.some.injEq] at e; simp [← e]
  | x :: r, vs, e => by
    simp only [Lg.evs] at e
    split at e
    · rename_i v vs' h1 h2
      simp only [Option.some.injEq] at e
      rw [← e, List.map_cons, h.ev h1, h.evs h2]
    · cases e

theorem Fr.put [Dfs] {n : Nat} {s : List (Nat × Value)} {a : Act} (h : Fr n s a) {d : Nat} (hd : d < n) (v : Value) : Fr n ((d, v) :: s) (a.put (some d) v) := by
  refine ⟨by simp [Act.put]; exact h.size, h.dfr, fun k u e => ?_⟩
  have hs := h.size
  simp only [lk] at e
  by_cases hk : d = k
  · subst hk
    simp at e
    subst e
    simp [Act.put, show d < a.tmps.size by omega]
  · have : Nat.beq d k = false := by cases hb : Nat.beq d k with
      | false => rfl
      | true => exact absurd (Nat.eq_of_beq_eq_true hb) hk
    simp only [this, cond_false] at e
    simp only [Act.put]
    rw [Array.getElem?_setIfInBounds_ne hk]
    exact h.has _ _ e

def Sub (s' s : List (Nat × Value)) : Prop := ∀ k v, lk s' k = some v → lk s k = some v
theorem Sub.nil {s : List (Nat × Value)} : Sub [] s := fun _ _ h => by cases h
theorem Sub.cons {s' s : List (Nat × Value)} {k : Nat} {v : Value} (h : lk s k = some v) (h' : Sub s' s) : Sub ((k, v) :: s') s := fun j u e => by
  simp only [lk] at e
  by_cases hk : k = j
  · subst hk; simp at e; subst e; exact h
  · have : Nat.beq k j = false := by cases hb : Nat.beq k j with
      | false => rfl
      | true => exact absurd (Nat.eq_of_beq_eq_true hb) hk
    simp only [this, cond_false] at e
    exact h' _ _ e
theorem Sub.consi {s' s : List (Nat × Value)} {k : Nat} {p q : Int} (h : lk s k = some (.int .i64 p)) (e : p = q) (h' : Sub s' s) : Sub ((k, .int .i64 q) :: s') s := by
  subst e; exact Sub.cons h h'
theorem Sub.refl (s : List (Nat × Value)) : Sub s s := fun _ _ h => h
theorem Fr.sub [Dfs] {n : Nat} {s s' : List (Nat × Value)} {a : Act} (h : Fr n s a) (hs : Sub s' s) : Fr n s' a := ⟨h.size, h.dfr, fun k v e => h.has k v (hs k v e)⟩

def AT [Dfs] (n : Nat) (C : World → Prop) (s : List (Nat × Value)) (R : Act → World → Prop) : Prop := ∀ a w, Fr n s a → C w → R a w

section
variable {P : Program} {n : Nat} {C : World → Prop} {s : List (Nat × Value)} {Q : Exit → Act → World → Prop}

theorem AT.sub [Dfs] {s' : List (Nat × Value)} {R : Act → World → Prop} (h : Sub s' s) (hr : AT n C s' R) : AT n C s R := fun a w f c => hr a w (f.sub h) c
theorem AT.cls [Dfs] {C' : World → Prop} {R : Act → World → Prop} (h : ∀ w, C w → C' w) (hr : AT n C' s R) : AT n C s R := fun a w f c => hr a w f (h w c)
theorem AT.ex [Dfs] {α : Type} {C : α → World → Prop} {R : Act → World → Prop} (hr : ∀ x, AT n (C x) s R) : AT n (fun w => ∃ x, C x w) s R := fun a w f ⟨x, c⟩ => hr x a w f c
theorem AT.pr [Dfs] {p : Prop} {R : Act → World → Prop} (hr : p → AT n C s R) : AT n (fun w => p ∧ C w) s R := fun a w f ⟨x, c⟩ => hr x a w f c

theorem c_seq [Dfs] {x y : Code} (h : AT n C s (x.wp P (Exit.then (y.wp P Q) Q))) : AT n C s ((Code.seq x y).wp P Q) := fun a w f c => wp_seq (h a w f c)
theorem c_block [Dfs] {id : Nat} {x : Code} (h : AT n C s (x.wp P (Exit.inBlock id Q))) : AT n C s ((Code.block id x).wp P Q) := fun a w f c => wp_block (h a w f c)
theorem c_skip [Dfs] (h : AT n C s (Q .normal)) : AT n C s (Code.skip.wp P Q) := fun a w f c => wp_skip (h a w f c)
theorem c_exit [Dfs] {id : Nat} (h : AT n C s (Q (.exit id))) : AT n C s ((Code.exit id).wp P Q) := fun a w f c => wp_exit (h a w f c)
theorem c_ret [Dfs] (h : AT n C s (Q .ret)) : AT n C s (Code.ret.wp P Q) := fun a w f c => wp_ret (h a w f c)
theorem c_region [Dfs] {id : Nat} {l : List Oper} (h : AT n C s (wpList P l.toArray Q l)) : AT n C s ((Code.region id l.toArray false).wp P Q) := fun a w f c => wp_region_lit (h a w f c)
theorem c_nil [Dfs] {ops : Array Oper} (h : AT n C s (Q .normal)) : AT n C s (wpList P ops Q []) := fun a w f c => h a w f c

theorem c_if [Dfs] {x : Operand} {y z : Code} {p : Prop} [Decidable p] (hx : ev s x = some (.bool (decide p))) (ht : p → AT n C s (y.wp P Q)) (hf : ¬ p → AT n C s (z.wp P Q)) : AT n C s ((Code.cond x y z).wp P Q) := fun a w f c => by
  refine wp_cond (f.ev hx) ?_
  by_cases hp : p
  · simpa [hp] using ht hp a w f c
  · simpa [hp] using hf hp a w f c
theorem c_ifb [Dfs] {x : Operand} {y z : Code} {b : Bool} (hx : ev s x = some (.bool b)) (ht : b = true → AT n C s (y.wp P Q)) (hf : b = false → AT n C s (z.wp P Q)) : AT n C s ((Code.cond x y z).wp P Q) := fun a w f c => by
  refine wp_cond (f.ev hx) ?_
  cases b
  · simpa using hf rfl a w f c
  · simpa using ht rfl a w f c

theorem x_then [Dfs] {k : Act → World → Prop} (h : AT n C s k) : AT n C s (Exit.then k Q .normal) := h
theorem x_then_exit [Dfs] {k : Act → World → Prop} {id : Nat} (h : AT n C s (Q (.exit id))) : AT n C s (Exit.then k Q (.exit id)) := h
theorem x_then_ret [Dfs] {k : Act → World → Prop} (h : AT n C s (Q .ret)) : AT n C s (Exit.then k Q .ret) := h
theorem x_blk [Dfs] {id : Nat} (h : AT n C s (Q .normal)) : AT n C s (Exit.inBlock id Q .normal) := h
theorem x_blk_ret [Dfs] {id : Nat} (h : AT n C s (Q .ret)) : AT n C s (Exit.inBlock id Q .ret) := h
theorem x_blk_exit [Dfs] {id j : Nat} (hj : Nat.beq j id = true) (h : AT n C s (Q .normal)) : AT n C s (Exit.inBlock id Q (.exit j)) := fun a w f c => by
  have : j = id := Nat.eq_of_beq_eq_true hj
  simp only [Exit.inBlock, this, if_true]; exact h a w f c
theorem x_blk_other [Dfs] {id j : Nat} (hj : Nat.beq j id = false) (h : AT n C s (Q (.exit j))) : AT n C s (Exit.inBlock id Q (.exit j)) := fun a w f c => by
  have : j ≠ id := Nat.ne_of_beq_eq_false hj
  simp only [Exit.inBlock, this, if_false]; exact h a w f c

def Again [Dfs] {α : Type} (n : Nat) (S : α → List (Nat × Value)) (C : α → World → Prop) (m : α → Nat) (x : α) (a : Act) (w : World) : Prop := ∃ y, Fr n (S y) a ∧ C y w ∧ m y < m x

theorem wp_loop_ghost {α : Type} {c : Code} {I : α → Act → World → Prop} {m : α → Nat}
    (round : ∀ x a w, I x a w → c.wp P (Exit.then (fun a' w' => ∃ y, I y a' w' ∧ m y < m x) Q) a w) (x : α) (a : Act) (w : World) (h : I x a w) : (Code.loop c).wp P Q a w := by
  have main : ∀ k x a w, m x < k → I x a w → ∀ (b : Frame) (t : List Item) (cs : List Frame),
      ∃ e a' w', Q e a' w' ∧ Arrives P (lone (b.at a (.code c :: .inLoop c :: t)) cs w) b t cs e a' w' := by
    intro k
    induction k with
    | zero => intro x a w hk; omega
    | succ k ih =>
      intro x a w hk hI b t cs
      obtain ⟨e, a1, w1, hq, harr⟩ := round x a w hI b (.inLoop c :: t) cs
      cases e with
      | normal =>
        obtain ⟨y, hy, hlt⟩ := hq
        obtain ⟨e2, a2, w2, hq2, harr2⟩ := ih y a1 w1 (by omega) hy b t cs
        exact ⟨e2, a2, w2, hq2, .of_steps (Steps.trans harr (.one step_inLoop)) harr2⟩
      | exit id => exact ⟨_, a1, w1, hq, .pass (x := .inLoop c) rfl (fun _ _ => .inl (by simp)) harr⟩
      | goto l => exact ⟨_, a1, w1, hq, .pass (x := .inLoop c) rfl (fun _ _ => .inl (by simp)) harr⟩
      | ret => exact ⟨_, a1, w1, hq, .pass (x := .inLoop c) rfl (fun _ _ => .inl (by simp)) harr⟩
      | panic ch => exact ⟨_, a1, w1, hq, .pass (x := .inLoop c) rfl (fun _ _ => .inl (by simp)) harr⟩
      | outgrown => exact ⟨_, a1, w1, hq, .pass (x := .inLoop c) rfl (fun _ _ => .inl (by simp)) harr⟩
  intro b t cs
  obtain ⟨e, a', w', hq, harr⟩ := main (m x + 1) x a w (by omega) h b t cs
  exact ⟨e, a', w', hq, .of_steps (.one step_loop) harr⟩

theorem c_loop [Dfs] {α : Type} (S : α → List (Nat × Value)) (D : α → World → Prop) (m : α → Nat) {c : Code} (x0 : α) (h0 : Sub (S x0) s) (hC : ∀ w, C w → D x0 w)
    (round : ∀ x, AT n (D x) (S x) (c.wp P (Exit.then (Again n S D m x) Q))) : AT n C s ((Code.loop c).wp P Q) := fun a w f hc =>
  wp_loop_ghost (I := fun x a w => Fr n (S x) a ∧ D x w) (m := m) (fun x a w h => Code.wp_mono (fun e a w hq => by
    cases e with
    | normal => obtain ⟨y, g1, g2, g3⟩ := hq; exact ⟨y, ⟨g1, g2⟩, g3⟩
    | _ => exact hq) (round x a w h.1 h.2)) x0 a w ⟨f.sub h0, hC w hc⟩

end
end Go.Lg
namespace Go.Lg
open Go.RowKit

inductive T where
  | c (v : Value)
  | s (e k : Nat) (ts : List T)

mutual
def Own (w : World) : T → Value → List Nat → Prop
  | .c u, v, fp => v = u ∧ fp = []
  | .s e k ts, v, fp =>
    (ts = [] ∧ v = .slice none 0 0 ∧ fp = []) ∨
    ∃ g n cap cur fp', v = .slice (some ⟨g, 0, none⟩) n cap ∧ w.heap[g]? = some (.cells cur e (0, 0)) ∧ ts.length = n * k ∧ n ≤ cap ∧ cap ≤ maxLen ∧ cur.size = cap * k ∧
      OwnL w ts (cur.toList.take (n * k)) fp' ∧ fp = g :: fp'
def OwnL (w : World) : List T → List Value → List Nat → Prop
  | [], vs, fp => vs = [] ∧ fp = []
  | t :: ts, vs, fp => ∃ v vs' f1 f2, vs = v :: vs' ∧ fp = f1 ++ f2 ∧ Own w t v f1 ∧ OwnL w ts vs' f2
end

mutual
def Rd (w : World) : T → Value → Prop
  | .c u, v => v = u
  | .s _ k ts, v => ∃ a n cap, v = .slice a n cap ∧ n ≤ cap ∧ cap ≤ maxLen ∧ ts.length = n * k ∧ RdL w a 0 ts
def RdL (w : World) (a : Option Addr) (j : Nat) : List T → Prop
  | [] => True
  | t :: ts => (∃ b o u, a = some ⟨b, o, none⟩ ∧ w.cell? ⟨b, o + j, none⟩ = some u ∧ Rd w t u) ∧ RdL w a (j + 1) ts
end

mutual
theorem Own.loc {w w' : World} : ∀ {t : T} {v : Value} {fp : List Nat}, Own w t v fp → (∀ b ∈ fp, w'.heap[b]? = w.heap[b]?) → Own w' t v fp
  | .c u, v, fp, h, _ => by simpa only [Own] using h
  | .s e k ts, v, fp, h, hb => by
    simp only [Own] at h ⊢
    rcases h with h | ⟨g, n, cap, cur, fp', h1, h2, h3, h4, h5, h6, h7, h8⟩
    · exact .inl h
    · subst h8
      exact .inr ⟨g, n, cap, cur, fp', h1, by rw [hb g (by simp)]; exact h2, h3, h4, h5, h6, OwnL.loc h7 (fun b hm => hb b (by simp [hm])), rfl⟩
theorem OwnL.loc {w w' : World} : ∀ {ts : List T} {vs : List Value} {fp : List Nat}, OwnL w ts vs fp → (∀ b ∈ fp, w'.heap[b]? = w.heap[b]?) → OwnL w' ts vs fp
  | [], vs, fp, h, _ => by simpa only [OwnL] using h
  | t :: ts, vs, fp, h, hb => by
    simp only [OwnL] at h ⊢
    obtain ⟨v, vs', f1, f2, h1, h2, h3, h4⟩ := h
    subst h2
    exact ⟨v, vs', f1, f2, h1, rfl, Own.loc h3 (fun b hm => hb b (by simp [hm])), OwnL.loc h4 (fun b hm => hb b (by simp [hm]))⟩
end

mutual
theorem Own.lt {w : World} : ∀ {t : T} {v : Value} {fp : List Nat}, Own w t v fp → ∀ b ∈ fp, b < w.heap.size
  | .c u, v, fp, h => by simp only [Own] at h; simp [h.2]
  | .s e k ts, v, fp, h => by
    simp only [Own] at h
    rcases h with h | ⟨g, n, cap, cur, fp', h1, h2, h3, h4, h5, h6, h7, h8⟩
    · simp [h.2.2]
    · subst h8
      intro b hb
      rcases List.mem_cons.1 hb with rfl | hb
      · exact (Array.getElem?_eq_some_iff.1 h2).1
      · exact OwnL.lt h7 b hb
theorem OwnL.lt {w : World} : ∀ {ts : List T} {vs : List Value} {fp : List Nat}, OwnL w ts vs fp → ∀ b ∈ fp, b < w.heap.size
  | [], vs, fp, h => by simp only [OwnL] at h; simp [h.2]
  | t :: ts, vs, fp, h => by
    simp only [OwnL] at h
    obtain ⟨v, vs', f1, f2, h1, h2, h3, h4⟩ := h
    subst h2
    intro b hb
    rcases List.mem_append.1 hb with hb | hb
    · exact Own.lt h3 b hb
    · exact OwnL.lt h4 b hb
end

theorem OwnL.length {w : World} : ∀ {ts : List T} {vs : List Value} {fp : List Nat}, OwnL w ts vs fp → vs.length = ts.length
  | [], vs, fp, h => by simp only [OwnL] at h; simp [h.1]
  | t :: ts, vs, fp, h => by
    simp only [OwnL] at h
    obtain ⟨v, vs', f1, f2, h1, h2, h3, h4⟩ := h
    simp [h1, OwnL.length h4]

mutual
theorem Rd.mono {w w' : World} (hb : ∀ b, b < w.heap.size → w'.heap[b]? = w.heap[b]?) : ∀ {t : T} {v : Value}, Rd w t v → Rd w' t v
  | .c u, v, h => by simpa only [Rd] using h
  | .s e k ts, v, h => by
    simp only [Rd] at h ⊢
    obtain ⟨a, n, cap, h1, h2, h2', h3, h4⟩ := h
    exact ⟨a, n, cap, h1, h2, h2', h3, RdL.mono hb h4⟩
theorem RdL.mono {w w' : World} (hb : ∀ b, b < w.heap.size → w'.heap[b]? = w.heap[b]?) : ∀ {ts : List T} {a : Option Addr} {j : Nat}, RdL w a j ts → RdL w' a j ts
  | [], a, j, h => by simp only [RdL]
  | t :: ts, a, j, h => by
    simp only [RdL] at h ⊢
    obtain ⟨⟨b, o, u, h1, h2, h3⟩, h4⟩ := h
    exact ⟨⟨b, o, u, h1, by rw [World.cell?_of_block (hb b (World.block_lt_of_cell? w _ h2))]; exact h2, Rd.mono hb h3⟩, RdL.mono hb h4⟩
end

mutual
theorem Own.rd {w : World} : ∀ {t : T} {v : Value} {fp : List Nat}, Own w t v fp → Rd w t v
  | .c u, v, fp, h => by simp only [Own] at h; simp only [Rd]; exact h.1
  | .s e k ts, v, fp, h => by
    simp only [Own] at h
    simp only [Rd]
    rcases h with ⟨h1, h2, h3⟩ | ⟨g, n, cap, cur, fp', h1, h2, h3, h4, h5, h6, h7, h8⟩
    · subst h1
      exact ⟨none, 0, 0, h2, Nat.le_refl _, Nat.zero_le _, by simp, by simp only [RdL]⟩
    · refine ⟨some ⟨g, 0, none⟩, n, cap, h1, h4, h5, h3, OwnL.rd h7 ?_⟩
      intro i u hu
      rw [List.getElem?_take] at hu
      split at hu
      · simp only [World.cell?, h2, Nat.zero_add]
        simpa using hu
      · cases hu
theorem OwnL.rd {w : World} : ∀ {ts : List T} {vs : List Value} {fp : List Nat} {g o j : Nat}, OwnL w ts vs fp → (∀ i u, vs[i]? = some u → w.cell? ⟨g, o + (j + i), none⟩ = some u) → RdL w (some ⟨g, o, none⟩) j ts
  | [], vs, fp, g, o, j, h, hc => by simp only [RdL]
  | t :: ts, vs, fp, g, o, j, h, hc => by
    simp only [OwnL] at h
    simp only [RdL]
    obtain ⟨v, vs', f1, f2, h1, h2, h3, h4⟩ := h
    subst h1
    refine ⟨⟨g, o, v, rfl, hc 0 v (by simp), Own.rd h3⟩, OwnL.rd h4 (fun i u hu => ?_)⟩
    have := hc (i + 1) u (by simpa using hu)
    rwa [show o + (j + (i + 1)) = o + (j + 1 + i) by omega] at this
end

theorem RdL.get {w : World} : ∀ {ts : List T} {a : Option Addr} {j : Nat}, RdL w a j ts → ∀ i t, ts[i]? = some t → ∃ b o u, a = some ⟨b, o, none⟩ ∧ w.cell? ⟨b, o + (j + i), none⟩ = some u ∧ Rd w t u
  | [], a, j, h, i, t, ht => by simp at ht
  | t' :: ts, a, j, h, i, t, ht => by
    simp only [RdL] at h
    cases i with
    | zero =>
      simp at ht; subst ht
      obtain ⟨b, o, u, h1, h2, h3⟩ := h.1
      exact ⟨b, o, u, h1, h2, h3⟩
    | succ i =>
      obtain ⟨b, o, u, h1, h2, h3⟩ := h.2.get i t (by simpa using ht)
      exact ⟨b, o, u, h1, by rw [show o + (j + (i + 1)) = o + (j + 1 + i) by omega]; exact h2, h3⟩

inductive HE where
  | blk (b : Nat) (cur : Array Value) (e : Nat)
  | own (t : T) (v : Value)
  | ownL (ts : List T) (vs : List Value)

def HE.sat (w : World) : HE → List Nat → Prop
  | .blk b cur e, fp => w.heap[b]? = some (.cells cur e (0, 0)) ∧ fp = [b]
  | .own t v, fp => Own w t v fp
  | .ownL ts vs, fp => OwnL w ts vs fp

def satL (w : World) : List HE → List Nat → Prop
  | [], fp => fp = []
  | h :: H, fp => ∃ f1 f2, fp = f1 ++ f2 ∧ h.sat w f1 ∧ satL w H f2

theorem HE.sat.loc {w w' : World} {h : HE} {fp : List Nat} (hs : h.sat w fp) (hb : ∀ b ∈ fp, w'.heap[b]? = w.heap[b]?) : h.sat w' fp := by
  cases h with
  | blk b cur e => obtain ⟨h1, h2⟩ := hs; subst h2; exact ⟨by rw [hb b (by simp)]; exact h1, rfl⟩
  | own t v => exact Own.loc hs hb
  | ownL ts vs => exact OwnL.loc hs hb

theorem HE.sat.lt {w : World} {h : HE} {fp : List Nat} (hs : h.sat w fp) : ∀ b ∈ fp, b < w.heap.size := by
  cases h with
  | blk b cur e => obtain ⟨h1, h2⟩ := hs; subst h2; intro c hc; simp at hc; subst hc; exact (Array.getElem?_eq_some_iff.1 h1).1
  | own t v => exact Own.lt hs
  | ownL ts vs => exact OwnL.lt hs

theorem satL.loc {w w' : World} : ∀ {H : List HE} {fp : List Nat}, satL w H fp → (∀ b ∈ fp, w'.heap[b]? = w.heap[b]?) → satL w' H fp
  | [], fp, h, _ => h
  | h :: H, fp, ⟨f1, f2, h1, h2, h3⟩, hb => by
    subst h1
    exact ⟨f1, f2, rfl, h2.loc (fun b hm => hb b (by simp [hm])), satL.loc h3 (fun b hm => hb b (by simp [hm]))⟩

theorem satL.lt {w : World} : ∀ {H : List HE} {fp : List Nat}, satL w H fp → ∀ b ∈ fp, b < w.heap.size
  | [], fp, h => by simp only [satL] at h; simp [h]
  | h :: H, fp, ⟨f1, f2, h1, h2, h3⟩ => by
    subst h1
    intro b hb
    rcases List.mem_append.1 hb with hb | hb
    · exact h2.lt b hb
    · exact satL.lt h3 b hb

theorem satL.append {w : World} : ∀ {H1 H2 : List HE} {f1 f2 : List Nat}, satL w H1 f1 → satL w H2 f2 → satL w (H1 ++ H2) (f1 ++ f2)
  | [], H2, f1, f2, h1, h2 => by simp only [satL] at h1; subst h1; exact h2
  | h :: H1, H2, f1, f2, ⟨g1, g2, e, a, b⟩, h2 => ⟨g1, g2 ++ f2, by rw [e, List.append_assoc], a, satL.append b h2⟩

structure Kept (M : List Nat) (w0 w : World) : Prop where
  os : w.os = w0.os
  tape : w.tape = w0.tape
  output : w.output = w0.output
  size : w0.heap.size ≤ w.heap.size
  block : ∀ k, k < w0.heap.size → k ∉ M → w.heap[k]? = w0.heap[k]?

def Hp (M : List Nat) (w0 : World) (H : List HE) (w : World) : Prop :=
  ∃ fp, satL w H fp ∧ fp.Nodup ∧ (∀ b ∈ fp, b ∈ M ∨ w0.heap.size ≤ b) ∧ Kept M w0 w

section
variable {M : List Nat} {w0 w w' : World} {H : List HE}

theorem Kept.refl : Kept M w0 w0 := ⟨rfl, rfl, rfl, Nat.le_refl _, fun _ _ _ => rfl⟩
theorem Kept.below (h : Kept [] w0 w) : Below w0.heap.size w0 w := ⟨h.os, h.tape, h.output, h.size, fun k hk => h.block k hk (by simp)⟩
theorem Hp.nil : Hp M w0 [] w0 := ⟨[], rfl, by simp, by simp, Kept.refl⟩
theorem Hp.kept (h : Hp M w0 H w) : Kept M w0 w := let ⟨_, _, _, _, k⟩ := h; k
theorem Hp.below (h : Hp [] w0 H w) : Below w0.heap.size w0 w := h.kept.below
theorem Hp.rd (h : Hp [] w0 H w) {t : T} {v : Value} (hr : Rd w0 t v) : Rd w t v := hr.mono (fun b hb => h.kept.block b hb (by simp))
theorem Hp.cell (h : Hp [] w0 H w) {a : Addr} {v : Value} (hr : w0.cell? a = some v) : w.cell? a = some v := by
  rw [World.cell?_of_block (h.kept.block a.block (World.block_lt_of_cell? w0 a hr) (by simp))]; exact hr

theorem Hp.drop {h : HE} (hp : Hp M w0 (h :: H) w) : Hp M w0 H w := by
  obtain ⟨fp, ⟨f1, f2, e, s1, s2⟩, nd, ge, k⟩ := hp
  subst e
  exact ⟨f2, s2, (List.nodup_append.1 nd).2.1, fun b hb => ge b (by simp [hb]), k⟩

theorem satL.pick : ∀ {H : List HE} {fp : List Nat} {i : Nat} {h : HE}, satL w H fp → H[i]? = some h → ∃ f, h.sat w f ∧ (∀ b ∈ f, b ∈ fp) ∧ (fp.Nodup → f.Nodup) ∧
    ∀ h' w', h'.sat w' f → (∀ b ∈ fp, b ∉ f → w'.heap[b]? = w.heap[b]?) → fp.Nodup → satL w' (H.set i h') fp
  | [], fp, i, h, hs, hi => by simp at hi
  | h0 :: H, fp, 0, h, ⟨f1, f2, e, s1, s2⟩, hi => by
    simp at hi; subst hi; subst e
    refine ⟨f1, s1, by simp_all, fun nd => (List.nodup_append.1 nd).1, fun h' w' a hb nd => ⟨f1, f2, rfl, a, s2.loc (fun b hm => hb b (by simp [hm]) (fun hm' => ?_))⟩⟩
    exact (List.nodup_append.1 nd).2.2 b hm' b hm rfl
  | h0 :: H, fp, i + 1, h, ⟨f1, f2, e, s1, s2⟩, hi => by
    subst e
    obtain ⟨f, a, hin, hnd, c⟩ := satL.pick s2 (by simpa using hi)
    refine ⟨f, a, fun b hb => by simp [hin b hb], fun nd => hnd (List.nodup_append.1 nd).2.1, fun h' w' a' hb nd => ⟨f1, f2, rfl, s1.loc (fun b hm => hb b (by simp [hm]) (fun hm' => ?_)), ?_⟩⟩
    · exact (List.nodup_append.1 nd).2.2 b hm b (hin b hm') rfl
    · exact c h' w' a' (fun b hm hn => hb b (by simp [hm]) hn) (List.nodup_append.1 nd).2.1

theorem satL.front : ∀ {H : List HE} {fp : List Nat} {i : Nat} {h : HE}, satL w H fp → H[i]? = some h → ∃ fp', fp'.Perm fp ∧ satL w (h :: H.eraseIdx i) fp'
  | [], fp, i, h, hs, hi => by simp at hi
  | h0 :: H, fp, 0, h, ⟨f1, f2, e, s1, s2⟩, hi => by
    simp at hi; subst hi
    exact ⟨fp, List.Perm.refl _, f1, f2, e, s1, by simpa using s2⟩
  | h0 :: H, fp, i + 1, h, ⟨f1, f2, e, s1, s2⟩, hi => by
    subst e
    obtain ⟨fp', p, g1, g2, e', a, b⟩ := satL.front s2 (by simpa using hi)
    subst e'
    refine ⟨g1 ++ (f1 ++ g2), ?_, g1, f1 ++ g2, rfl, a, f1, g2, rfl, s1, b⟩
    refine List.Perm.trans ?_ (List.Perm.append_left f1 p)
    rw [← List.append_assoc, ← List.append_assoc]
    exact List.Perm.append_right g2 List.perm_append_comm

theorem Hp.front {i : Nat} {h : HE} (hi : H[i]? = some h) (hp : Hp M w0 H w) : Hp M w0 (h :: H.eraseIdx i) w := by
  obtain ⟨fp, s, nd, ge, k⟩ := hp
  obtain ⟨fp', p, s'⟩ := s.front hi
  exact ⟨fp', s', p.nodup_iff.2 nd, fun b hb => ge b (p.mem_iff.1 hb), k⟩

theorem Hp.sat {i : Nat} {h : HE} (hi : H[i]? = some h) (hp : Hp M w0 H w) : ∃ f, h.sat w f ∧ f.Nodup ∧ ∀ b ∈ f, b ∈ M ∨ w0.heap.size ≤ b := by
  obtain ⟨fp, s, nd, ge, k⟩ := hp
  obtain ⟨f, a, hin, hnd, _⟩ := s.pick hi
  exact ⟨f, a, hnd nd, fun b hb => ge b (hin b hb)⟩

theorem Hp.blk {i b e : Nat} {cur : Array Value} (hp : Hp M w0 H w) (hi : H[i]? = some (.blk b cur e)) : w.heap[b]? = some (.cells cur e (0, 0)) := by
  obtain ⟨f, a, _, _⟩ := hp.sat hi; exact a.1
theorem Hp.own_rd {i : Nat} {t : T} {v : Value} (hp : Hp M w0 H w) (hi : H[i]? = some (.own t v)) : Rd w t v := by
  obtain ⟨f, a, _, _⟩ := hp.sat hi; exact Own.rd a

theorem Hp.turn {i : Nat} {h h' : HE} (hi : H[i]? = some h) (hp : Hp M w0 H w)
    (hw : ∀ f, h.sat w f → h'.sat w' f ∧ (∀ k, k < w.heap.size → k ∉ f → w'.heap[k]? = w.heap[k]?)) (ho : w'.os = w.os) (ht : w'.tape = w.tape) (hu : w'.output = w.output) (hz : w.heap.size ≤ w'.heap.size) : Hp M w0 (H.set i h') w' := by
  obtain ⟨fp, s, nd, ge, k⟩ := hp
  obtain ⟨f, a, hin, hnd, c⟩ := s.pick hi
  obtain ⟨h1, h2⟩ := hw f a
  refine ⟨fp, c h' w' h1 (fun b hb hn => h2 b (s.lt b hb) hn) nd, nd, ge, ho.trans k.os, ht.trans k.tape, hu.trans k.output, Nat.le_trans k.size hz, fun j hj hm => ?_⟩
  rw [h2 j (Nat.lt_of_lt_of_le hj k.size) (fun hf => ?_)]
  · exact k.block j hj hm
  · rcases ge j (hin j hf) with h | h
    · exact hm h
    · omega

theorem Hp.more {H' : List HE} {fp' : List Nat} (hp : Hp M w0 H w) (hb : Below w.heap.size w w') (hs : satL w' H' fp') (nd' : fp'.Nodup) (ge' : ∀ b ∈ fp', w.heap.size ≤ b) : Hp M w0 (H' ++ H) w' := by
  obtain ⟨fp, s, nd, ge, k⟩ := hp
  refine ⟨fp' ++ fp, hs.append (s.loc (fun b hm => hb.block b (s.lt b hm))), List.nodup_append.2 ⟨nd', nd, fun a ha b hm e => ?_⟩, fun b hm => ?_, hb.os.trans k.os, hb.tape.trans k.tape, hb.output.trans k.output, Nat.le_trans k.size hb.size, fun j hj hm => ?_⟩
  · subst e
    have := ge' a ha; have := s.lt a hm; omega
  · rcases List.mem_append.1 hm with hm | hm
    · exact .inr (Nat.le_trans k.size (ge' b hm))
    · exact ge b hm
  · rw [hb.block j (Nat.lt_of_lt_of_le hj k.size)]; exact k.block j hj hm

theorem Hp.same (hp : Hp M w0 H w) (hb : Below w.heap.size w w') : Hp M w0 H w' := by
  have := hp.more hb (H' := []) (fp' := []) rfl (by simp) (by simp)
  simpa using this
theorem Hp.drew (hp : Hp M w0 H w) : Hp M w0 H { w with drawn := w.drawn + 1 } := hp.same ⟨rfl, rfl, rfl, Nat.le_refl _, fun _ _ => rfl⟩

theorem Hp.alloc (hp : Hp M w0 H w) (cur : Array Value) (e : Nat) : Hp M w0 (.blk w.heap.size cur e :: H) (w.alloc (.cells cur e)) :=
  hp.more (H' := [.blk w.heap.size cur e]) (fp' := [w.heap.size]) ((Below.refl _ _).alloc (Nat.le_refl _) _) ⟨[w.heap.size], [], rfl, ⟨heap_alloc_new w _, rfl⟩, rfl⟩ (by simp) (by simp)

theorem satL.sub {w : World} : ∀ {H' H : List HE}, List.Sublist H' H → ∀ {fp : List Nat}, satL w H fp → ∃ fp', fp'.Sublist fp ∧ satL w H' fp'
  | _, _, .slnil, fp, h => ⟨fp, List.Sublist.refl _, h⟩
  | _, _, .cons a h, fp, ⟨f1, f2, e, s1, s2⟩ => by
    obtain ⟨fp', hs, r⟩ := satL.sub h s2
    exact ⟨fp', by rw [e]; exact List.Sublist.trans hs (List.sublist_append_right _ _), r⟩
  | _, _, .cons_cons a h, fp, ⟨f1, f2, e, s1, s2⟩ => by
    obtain ⟨fp', hs, r⟩ := satL.sub h s2
    exact ⟨f1 ++ fp', by rw [e]; exact List.Sublist.append (List.Sublist.refl _) hs, f1, fp', rfl, s1, r⟩

theorem Hp.sub {H' : List HE} (hs : List.Sublist H' H) (hp : Hp M w0 H w) : Hp M w0 H' w := by
  obtain ⟨fp, s, nd, ge, k⟩ := hp
  obtain ⟨fp', hs', s'⟩ := satL.sub hs s
  exact ⟨fp', s', hs'.nodup nd, fun b hb => ge b (hs'.subset hb), k⟩

theorem Hp.say {h : HE} {H1 : List HE} (hp : Hp M w0 (h :: H) w) (hs : ∀ f, h.sat w f → ∃ f', f'.Perm f ∧ satL w H1 f') : Hp M w0 (H1 ++ H) w := by
  obtain ⟨fp, ⟨f1, f2, e, s1, s2⟩, nd, ge, k⟩ := hp
  subst e
  obtain ⟨f', p, s'⟩ := hs f1 s1
  have pp : (f' ++ f2).Perm (f1 ++ f2) := List.Perm.append_right f2 p
  exact ⟨f' ++ f2, s'.append s2, pp.nodup_iff.2 nd, fun b hb => ge b (pp.mem_iff.1 hb), k⟩

theorem Hp.join {H1 : List HE} {h : HE} (hp : Hp M w0 (H1 ++ H) w) (hs : ∀ f, satL w H1 f → ∃ f', f'.Perm f ∧ h.sat w f') : Hp M w0 (h :: H) w := by
  have split : ∀ {H1 H2 : List HE} {fp : List Nat}, satL w (H1 ++ H2) fp → ∃ f1 f2, fp = f1 ++ f2 ∧ satL w H1 f1 ∧ satL w H2 f2 := by
    intro H1
    induction H1 with
    | nil => intro H2 fp h; exact ⟨[], fp, rfl, rfl, h⟩
    | cons a r ih =>
      intro H2 fp ⟨f1, f2, e, s1, s2⟩
      obtain ⟨g1, g2, e', a1, a2⟩ := ih s2
      exact ⟨f1 ++ g1, g2, by rw [e, e', List.append_assoc], ⟨f1, g1, rfl, s1, a1⟩, a2⟩
  obtain ⟨fp, s, nd, ge, k⟩ := hp
  obtain ⟨f1, f2, e, s1, s2⟩ := split s
  subst e
  obtain ⟨f', p, s'⟩ := hs f1 s1
  have pp : (f' ++ f2).Perm (f1 ++ f2) := List.Perm.append_right f2 p
  exact ⟨f' ++ f2, ⟨f', f2, rfl, s', s2⟩, pp.nodup_iff.2 nd, fun b hb => ge b (pp.mem_iff.1 hb), k⟩
end
end Go.Lg
namespace Go.Lg
open Go.RowKit

structure Tabs (P : Program) where
  /-- slice types: element type, cells of an element, bytes of an element, the zero cells -/
  sl : List (Nat × (Nat × Nat × Nat × List Value))
  /-- struct types: the offsets of the fields; one field after the other -/
  st : List (Nat × List Nat)
  /-- types of one cell that are no struct -/
  one : List (Nat × Unit)
  /-- struct types: the zero cells -/
  sz : List (Nat × List Value)
  sl_ok : ∀ t e k b z, lk sl t = some (e, k, b, z) → P.underlying t = some (.slice e) ∧ z.length = k ∧ 0 < k ∧ ∃ i zv, P.info? e = some i ∧ i.size = k ∧ i.bytes = b ∧ i.zero = some zv ∧ zv.cells = z.toArray
  st_ok : ∀ t fs, lk st t = some fs → ∀ f off, fs[f]? = some off → ∀ a w, (Instr.fieldAt t (.pointer (some a)) f).run P w = .ok (.pointer (some (a.add off))) w
  one_ok : ∀ t, lk one t = some () → (∀ a v w, w.cell? a = some v → (Instr.loadAt t (.pointer (some a))).run P w = .ok v w) ∧
    (∀ a v w, v.oneCell' = true → (Instr.storeAt t (.pointer (some a)) v).run P w = stored P w a v .plain)
  sz_ok : ∀ t z, lk sz t = some z → (∀ w, ∃ zv, (zeroValue t).run P w = .ok zv w ∧ zv.cells = z.toArray) ∧
    (∀ a (cs : List Value) w, cs.length = z.length → (∀ j v, cs[j]? = some v → w.cell? (a.add j) = some v) → (Instr.loadAt t (.pointer (some a))).run P w = .ok (.agg cs.toArray) w) ∧
    (∀ a (cs : List Value) w, cs.length = z.length → (Instr.storeAt t (.pointer (some a)) (.agg cs.toArray)).run P w = (storeCells a cs).run P w)

def Y [Dfs] (P : Program) (n : Nat) (C : World → Prop) (s : List (Nat × Value)) (op : Op) (ty : Nat) (v : Value) : Prop :=
  ∀ a w, Fr n s a → C w → ∀ d pos af g, (execOp a.eval ⟨d, op, ty, pos, af, g⟩).run P w = .ok (.value v) w

section
variable {P : Program} {n : Nat} {C : World → Prop} {s : List (Nat × Value)} {Q : Exit → Act → World → Prop} {ops : Array Oper} {rest : List Oper}
variable {d ty : Nat} {op : Op} {pos : String} {af : Array Edge} {v : Value}

theorem wpList_one {o : Oper} {a : Act} {w : World} (hg : o.guard = none) (h : o.wp P a w (wpList P ops Q rest) Q) : wpList P ops Q (o :: rest) a w := by
  unfold wpList
  rw [if_pos (by simp [Region.wanted, hg])]
  exact .inl h

theorem st_y [Dfs] (hy : Y P n C s op ty v) (hd : Nat.blt d n = true) (h : AT n C ((d, v) :: s) (wpList P ops Q rest)) :
    AT n C s (wpList P ops Q (⟨some d, op, ty, pos, af, none⟩ :: rest)) := fun a w f c => by
  refine wpList_one rfl ?_
  unfold Oper.wp
  rw [hy a w f c]
  exact h _ _ (f.put (by simpa [Nat.blt_eq] using hd) v) c
theorem st_gy [Dfs] {j dj : Nat} {b : Bool} {dd : Option Nat} (hj : (ops[j]?).bind (·.dst) = some dj) (hb : lk s dj = some (.bool b)) (h : AT n C s (wpList P ops Q (⟨dd, op, ty, pos, af, none⟩ :: rest))) :
    AT n C s (wpList P ops Q (⟨dd, op, ty, pos, af, some (j, b)⟩ :: rest)) := fun a w f c => by
  have := h a w f c
  unfold wpList at this ⊢
  rw [if_pos (by simp [Region.wanted])] at this
  rw [if_pos (by simp [Region.wanted, yielded, hj, f.has _ _ hb])]
  exact this
theorem st_gn [Dfs] {j dj : Nat} {b : Bool} (hj : (ops[j]?).bind (·.dst) = some dj) (hb : lk s dj = some (.bool !b)) (hd : Nat.blt d n = true) (h : AT n C ((d, undef) :: s) (wpList P ops Q rest)) :
    AT n C s (wpList P ops Q (⟨some d, op, ty, pos, af, some (j, b)⟩ :: rest)) := fun a w f c => by
  unfold wpList
  rw [if_neg (by cases b <;> simp [Region.wanted, yielded, hj, f.has _ _ hb])]
  exact h _ _ (f.put (by simpa [Nat.blt_eq] using hd) undef) c

theorem ibeq (p q : Int) : (p == q) = decide (p = q) := rfl
theorem y_move [Dfs] {x : Operand} (hx : ev s x = some v) : Y P n C s (.move x) ty v := fun a w f c d pos af g => by simp [execOp, f.ev hx]
theorem y_assign [Dfs] {x : Operand} (hx : ev s x = some v) : Y P n C s (.assign x) ty v := fun a w f c d pos af g => by simp [execOp, f.ev hx]
theorem y_pick [Dfs] {x y z : Operand} {b : Bool} {v1 v2 : Value} (hx : ev s x = some (.bool b)) (hy : ev s y = some v1) (hz : ev s z = some v2) : Y P n C s (.pick x y z) ty (bif b then v1 else v2) := fun a w f c d pos af g => by
  cases b <;> simp [execOp, f.ev hx, f.ev hy, f.ev hz, asBool]

variable {t t' : Nat} {x y : Operand} {p q : Int}
theorem y_add [Dfs] (hx : ev s x = some (.int .i64 p)) (hy : ev s y = some (.int .i64 q)) (hr : -9223372036854775808 ≤ p + q ∧ p + q ≤ 9223372036854775807) : Y P n C s (.binOp .add t x y t') ty (.int .i64 (p + q)) := fun a w f c d pos af g => by
  simp [execOp, f.ev hx, f.ev hy, eqGuard, binOp, Op.intArith, IntWalk.i64_in _ hr]
theorem y_sub [Dfs] (hx : ev s x = some (.int .i64 p)) (hy : ev s y = some (.int .i64 q)) (hr : -9223372036854775808 ≤ p - q ∧ p - q ≤ 9223372036854775807) : Y P n C s (.binOp .sub t x y t') ty (.int .i64 (p - q)) := fun a w f c d pos af g => by
  simp [execOp, f.ev hx, f.ev hy, eqGuard, binOp, Op.intArith, IntWalk.i64_in _ hr]
theorem y_mul [Dfs] (hx : ev s x = some (.int .i64 p)) (hy : ev s y = some (.int .i64 q)) (hr : -9223372036854775808 ≤ p * q ∧ p * q ≤ 9223372036854775807) : Y P n C s (.binOp .mul t x y t') ty (.int .i64 (p * q)) := fun a w f c d pos af g => by
  simp [execOp, f.ev hx, f.ev hy, eqGuard, binOp, Op.intArith, IntWalk.i64_in _ hr]
theorem y_addw [Dfs] (hx : ev s x = some (.int .i64 p)) (hy : ev s y = some (.int .i64 q)) : Y P n C s (.binOp .add t x y t') ty (.int .i64 (IntKind.i64.wrap (p + q))) := fun a w f c d pos af g => by
  simp [execOp, f.ev hx, f.ev hy, eqGuard, binOp, Op.intArith]
theorem y_mulw [Dfs] (hx : ev s x = some (.int .i64 p)) (hy : ev s y = some (.int .i64 q)) : Y P n C s (.binOp .mul t x y t') ty (.int .i64 (IntKind.i64.wrap (p * q))) := fun a w f c d pos af g => by
  simp [execOp, f.ev hx, f.ev hy, eqGuard, binOp, Op.intArith]
theorem y_rem [Dfs] (hx : ev s x = some (.int .i64 p)) (hy : ev s y = some (.int .i64 q)) (hq : q ≠ 0) : Y P n C s (.binOp .rem t x y t') ty (.int .i64 (p.tmod q)) := fun a w f c d pos af g => by
  simp [execOp, f.ev hx, f.ev hy, eqGuard, binOp, Op.intDiv, hq]
theorem y_quo [Dfs] (hx : ev s x = some (.int .i64 p)) (hy : ev s y = some (.int .i64 q)) (hq : q ≠ 0) : Y P n C s (.binOp .quo t x y t') ty (.int .i64 (IntKind.i64.wrap (p.tdiv q))) := fun a w f c d pos af g => by
  simp [execOp, f.ev hx, f.ev hy, eqGuard, binOp, Op.intDiv, hq]
theorem y_lss [Dfs] (hx : ev s x = some (.int .i64 p)) (hy : ev s y = some (.int .i64 q)) : Y P n C s (.binOp .lss t x y t') ty (.bool (decide (p < q))) := fun a w f c d pos af g => by
  simp [execOp, f.ev hx, f.ev hy, eqGuard, binOp, Op.intCmp]
theorem y_leq [Dfs] (hx : ev s x = some (.int .i64 p)) (hy : ev s y = some (.int .i64 q)) : Y P n C s (.binOp .leq t x y t') ty (.bool (decide (p ≤ q))) := fun a w f c d pos af g => by
  simp [execOp, f.ev hx, f.ev hy, eqGuard, binOp, Op.intCmp]
theorem y_gtr [Dfs] (hx : ev s x = some (.int .i64 p)) (hy : ev s y = some (.int .i64 q)) : Y P n C s (.binOp .gtr t x y t') ty (.bool (decide (q < p))) := fun a w f c d pos af g => by
  simp [execOp, f.ev hx, f.ev hy, eqGuard, binOp, Op.intCmp]
theorem y_geq [Dfs] (hx : ev s x = some (.int .i64 p)) (hy : ev s y = some (.int .i64 q)) : Y P n C s (.binOp .geq t x y t') ty (.bool (decide (q ≤ p))) := fun a w f c d pos af g => by
  simp [execOp, f.ev hx, f.ev hy, eqGuard, binOp, Op.intCmp]
theorem y_eql [Dfs] (hx : ev s x = some (.int .i64 p)) (hy : ev s y = some (.int .i64 q)) : Y P n C s (.binOp .eql t x y t') ty (.bool (decide (p = q))) := fun a w f c d pos af g => by
  simp [execOp, f.ev hx, f.ev hy, eqGuard, binOp, Op.intCmp, ibeq]
theorem y_neq [Dfs] (hx : ev s x = some (.int .i64 p)) (hy : ev s y = some (.int .i64 q)) : Y P n C s (.binOp .neq t x y t') ty (.bool (decide (p ≠ q))) := fun a w f c d pos af g => by
  simp [execOp, f.ev hx, f.ev hy, eqGuard, binOp, Op.intCmp, bne, ibeq]
theorem y_not [Dfs] {b : Bool} (hx : ev s x = some (.bool b)) : Y P n C s (.unOp .not t x) ty (.bool !b) := fun a w f c d pos af g => by
  simp [execOp, f.ev hx, Op.unary]
theorem y_neg [Dfs] (hx : ev s x = some (.int .i64 p)) (hr : -9223372036854775807 ≤ p ∧ p ≤ 9223372036854775807) : Y P n C s (.unOp .neg t x) ty (.int .i64 (-p)) := fun a w f c d pos af g => by
  simp [execOp, f.ev hx, Op.unary, Op.intArith, IntWalk.i64_in (-p) (by omega)]
theorem y_len [Dfs] (T : Tabs P) {a0 : Option Addr} {m k : Nat} {e : Nat × Nat × Nat × List Value} (ht : lk T.sl t = some e) (hx : ev s x = some (.slice a0 m k)) : Y P n C s (.call ⟨.builtin .len, #[x], #[t]⟩) ty (.int .i64 m) := fun a w f c d pos af g => by
  obtain ⟨e, sz, b, z⟩ := e
  obtain ⟨h1, _⟩ := T.sl_ok _ _ _ _ _ ht
  simp [execOp, resolve, invoke, builtin, f.ev hx, Builtin.len_, run_underlying h1, goInt]
theorem y_field [Dfs] (T : Tabs P) {fs : List Nat} {fi off b o : Nat} (ht : lk T.st t = some fs) (hf : fs[fi]? = some off) (hx : ev s x = some (.pointer (some ⟨b, o, none⟩))) : Y P n C s (.fieldAddr t x fi) ty (.pointer (some ⟨b, o + off, none⟩)) := fun a w f c d pos af g => by
  simp [execOp, f.ev hx, T.st_ok _ _ ht _ _ hf, Addr.add_lit]
theorem y_ix [Dfs] (T : Tabs P) {e k b m cap g o : Nat} {z : List Value} {i : Int} (ht : lk T.sl t = some (e, k, b, z)) (hx : ev s x = some (.slice (some ⟨g, o, none⟩) m cap)) (hy : ev s y = some (.int .i64 i)) (h0 : 0 ≤ i) (h1 : i < m) :
    Y P n C s (.indexAddr t x y) ty (.pointer (some ⟨g, o + i.toNat * k, none⟩)) := fun a w f c d pos af gg => by
  obtain ⟨g1, _, _, i0, zv, g2, g3, _⟩ := T.sl_ok _ _ _ _ _ ht
  simp [execOp, f.ev hx, f.ev hy, Instr.indexAt, asIntOf, run_underlying g1, h0, h1, sizeOf, typeInfo, g2, g3, Addr.add_lit]
theorem y_load [Dfs] (T : Tabs P) {ad : Addr} (ht : lk T.one t = some ()) (hx : ev s x = some (.pointer (some ad))) (hc : ∀ w, C w → w.cell? ad = some v) : Y P n C s (.load t x) ty v := fun a w f c d pos af g => by
  simp [execOp, f.ev hx, (T.one_ok _ ht).1 _ _ _ (hc w c)]
theorem y_loads [Dfs] (T : Tabs P) {ad : Addr} {cs z : List Value} (ht : lk T.sz t = some z) (hl : cs.length = z.length) (hx : ev s x = some (.pointer (some ad))) (hc : ∀ w, C w → ∀ j v, cs[j]? = some v → w.cell? (ad.add j) = some v) : Y P n C s (.load t x) ty (.agg cs.toArray) := fun a w f c d pos af g => by
  simp [execOp, f.ev hx, (T.sz_ok _ _ ht).2.1 _ _ _ hl (hc w c)]
theorem y_ext [Dfs] {vs : Array Value} {i : Nat} (hx : ev s x = some (.tuple vs)) (hi : vs[i]? = some v) : Y P n C s (.extract x i) ty v := fun a w f c d pos af g => by
  simp [execOp, f.ev hx, Instr.extract, hi]
end
end Go.Lg
namespace Go.Lg
open Go.RowKit

theorem al_old (w : World) (o : Obj) (k : Nat) (h : k < w.heap.size) : (w.drew.alloc o).heap[k]? = w.heap[k]? := Below.heap_alloc w.drew o k h
theorem al_new (w : World) (o : Obj) : (w.drew.alloc o).heap[w.heap.size]? = some o := by
  show (w.heap.push o)[w.heap.size]? = some o
  simp
theorem al_le (w : World) (o : Obj) : w.heap.size ≤ (w.drew.alloc o).heap.size := by simp [World.alloc]
theorem OwnL.append {w : World} : ∀ {t1 t2 : List T} {v1 v2 : List Value} {f1 f2 : List Nat}, OwnL w t1 v1 f1 → OwnL w t2 v2 f2 → OwnL w (t1 ++ t2) (v1 ++ v2) (f1 ++ f2)
  | [], t2, v1, v2, f1, f2, h1, h2 => by simp only [OwnL] at h1; obtain ⟨rfl, rfl⟩ := h1; exact h2
  | t :: t1, t2, v1, v2, f1, f2, h1, h2 => by
    simp only [OwnL] at h1
    obtain ⟨v, vs, g1, g2, rfl, rfl, a, b⟩ := h1
    simp only [List.cons_append, OwnL]
    exact ⟨v, vs ++ v2, g1, g2 ++ f2, rfl, by rw [List.append_assoc], a, OwnL.append b h2⟩

def ic (xs : List Int) : List Value := xs.map (Value.int .i64)
def it (xs : List Int) : List T := xs.map (fun n => T.c (.int .i64 n))
def ints (e : Nat) (xs : List Int) : T := .s e 1 (it xs)
@[simp] theorem ic_length (xs : List Int) : (ic xs).length = xs.length := by simp [ic]
@[simp] theorem it_length (xs : List Int) : (it xs).length = xs.length := by simp [it]
theorem it_append (a b : List Int) : it (a ++ b) = it a ++ it b := by simp [it]

theorem OwnL.consts {w : World} : ∀ (us : List Value), OwnL w (us.map T.c) us []
  | [] => by simp [OwnL]
  | u :: us => by
    simp only [List.map_cons, OwnL]
    exact ⟨u, us, [], [], rfl, rfl, by simp [Own], OwnL.consts us⟩
theorem OwnL.consts_inv {w : World} : ∀ {us vs : List Value} {f : List Nat}, OwnL w (us.map T.c) vs f → vs = us ∧ f = []
  | [], vs, f, h => by simpa [OwnL] using h
  | u :: us, vs, f, h => by
    simp only [List.map_cons, OwnL, Own] at h
    obtain ⟨v, vs', f1, f2, rfl, rfl, ⟨rfl, rfl⟩, b⟩ := h
    obtain ⟨rfl, rfl⟩ := OwnL.consts_inv b
    exact ⟨rfl, rfl⟩
theorem it_eq (xs : List Int) : it xs = (ic xs).map T.c := by simp [it, ic]
theorem OwnL.ints {w : World} (xs : List Int) : OwnL w (it xs) (ic xs) [] := by rw [it_eq]; exact OwnL.consts _
theorem OwnL.ints_inv {w : World} {xs : List Int} {vs : List Value} {f : List Nat} (h : OwnL w (it xs) vs f) : vs = ic xs ∧ f = [] := by rw [it_eq] at h; exact OwnL.consts_inv h

section
variable {P : Program} {M : List Nat} {w0 w : World} {H : List HE}

theorem run_app {t ty e k b : Nat} {z : List Value} (T0 : Tabs P) (ht : lk T0.sl t = some (e, k, b, z)) {v : Value} {ts tn : List T} {ad : Option Addr} {m c : Nat} {news : List Value}
    (hp : Hp M w0 (.own (.s e k ts) v :: .ownL tn news :: H) w) (hl : news.length = m * k) (h1 : ∀ u ∈ news, u.oneCell' = true)
    (hs : m = 0 ∨ ∃ a, ad = some a ∧ ∀ j u, news[j]? = some u → w.cell? (a.add j) = some u) (hb : (ts.length + news.length) * b ≤ 140737488355328) (hb1 : 1 ≤ b) :
    ∃ v' w', (Builtin.append_ #[t, t] ty #[v, .slice ad m c]).run P w = .ok v' w' ∧ Hp M w0 (.own (.s e k (ts ++ tn)) v' :: H) w' := by
  obtain ⟨q1, q2, q3, i, zv, q4, q5, q6, q7, q8⟩ := T0.sl_ok _ _ _ _ _ ht
  obtain ⟨fp, ⟨f1, f23, e1, s1, f2, f3, e2, s2, s3⟩, nd, ge, kp⟩ := hp
  subst e1; subst e2
  have hzs : zv.cells.size = k := by rw [q8]; simp [q2]
  have htn : tn.length = news.length := (OwnL.length s2).symm
  have hbig : ts.length + news.length ≤ 140737488355328 := Nat.le_trans (Nat.le_mul_of_pos_right _ hb1) hb
  have hmk : m ≤ m * k := Nat.le_mul_of_pos_right m q3
  by_cases hm : m = 0
  · -- nothing is appended
    subst hm
    simp only [Nat.zero_mul] at hl
    obtain rfl := List.eq_nil_of_length_eq_zero hl
    obtain rfl := List.eq_nil_of_length_eq_zero htn
    simp only [HE.sat, OwnL] at s2
    obtain ⟨_, rfl⟩ := s2
    rw [List.append_nil]
    refine ⟨v, w, ?_, ⟨f1 ++ f3, ⟨f1, f3, rfl, s1, s3⟩, by simpa using nd, by simpa using ge, kp⟩⟩
    simp only [HE.sat, Own] at s1
    rcases s1 with ⟨_, rfl, _⟩ | ⟨g, n, cap, cur, fp', rfl, _, _, hle, _⟩
    · cases ad <;> simp [Builtin.append_, run_underlying q1, sizeOf, typeInfo, q4, Builtin.lenOf, Builtin.firstCells, loadCells, loadCellsFrom]
    · cases ad <;> simp [Builtin.append_, run_underlying q1, sizeOf, typeInfo, q4, Builtin.lenOf, Builtin.firstCells, loadCells, loadCellsFrom, storeCells, hle]
  · rcases hs with hs | ⟨a, rfl, hcells⟩
    · exact absurd hs hm
    · have hl' : news.length = m * i.size := by rw [q5]; exact hl
      simp only [HE.sat, Own] at s1
      rcases s1 with ⟨rfl, rfl, rfl⟩ | ⟨g, n, cap, cur, fp', rfl, hg, hlen, hnc, hcm, hcs, hol, rfl⟩
      · -- onto nil
        have hr := run_append_nil (P := P) w t ty e i zv q1 q4 q7 a m c news hl' hcells (by omega) (by simp only [List.length_nil] at hbig; omega) (by
          rw [q6]; refine Nat.le_trans (Nat.mul_le_mul_right b hmk) ?_; rw [← hl]; simp only [List.length_nil, Nat.zero_add] at hb; omega)
        have hge := grownCap_ge w m 0 e
        have hcm := grownCap_le_maxLen w m 0 e (by unfold maxLen; simp only [List.length_nil] at hbig; omega)
        refine ⟨_, _, hr, ⟨(w.heap.size :: f2) ++ f3, ⟨w.heap.size :: f2, f3, rfl, ?_, ?_⟩, ?_, ?_, ?_⟩⟩
        · simp only [HE.sat, Own, List.nil_append]
          refine .inr ⟨w.heap.size, m, _, _, f2, rfl, al_new w _, by rw [htn, hl], hge, hcm, ?_, ?_, rfl⟩
          · simp only [Array.size_append, List.size_toArray, size_zeroCells, hzs, hl, ← Nat.add_mul]
            congr 1; omega
          · simp only [Array.toList_append, ← hl, List.take_left']
            exact OwnL.loc s2 (fun b hb => al_old w _ b (OwnL.lt s2 b hb))
        · exact s3.loc (fun b hb => al_old w _ b (s3.lt b hb))
        · have nd' : (f2 ++ f3).Nodup := by simpa using nd
          rw [List.cons_append, List.nodup_cons]
          refine ⟨fun h => ?_, nd'⟩
          rcases List.mem_append.1 h with h | h
          · exact Nat.lt_irrefl _ (OwnL.lt s2 _ h)
          · exact Nat.lt_irrefl _ (s3.lt _ h)
        · intro b hb
          rcases List.mem_cons.1 hb with rfl | hb
          · exact .inr kp.size
          · exact ge b (by simpa using hb)
        · exact ⟨kp.os, kp.tape, kp.output, Nat.le_trans kp.size (al_le w _), fun j hj hM => by
            rw [al_old w _ j (Nat.lt_of_lt_of_le hj kp.size)]; exact kp.block j hj hM⟩
      · have hnk : n ≤ n * k := Nat.le_mul_of_pos_right n q3
        have hnm : (n + m) * i.bytes ≤ 140737488355328 := by
          rw [q6]
          refine Nat.le_trans (Nat.mul_le_mul_right b ?_) hb
          rw [hlen, hl]; omega
        by_cases hroom : n + m ≤ cap
        · -- there is room
          have hfit : n * i.size + news.length ≤ cur.size := by rw [hl', hcs, q5, ← Nat.add_mul]; exact Nat.mul_le_mul_right _ hroom
          have hr := run_append_room (P := P) w t ty e i q1 q4 g n cap cur hg a m c news hl' hcells h1 hroom hfit
          have keep : ∀ b, b ≠ g → (w.setRow g (cur.toList.take (n * i.size) ++ news ++ cur.toList.drop (n * i.size + news.length)).toArray).heap[b]? = w.heap[b]? := fun b hb => setRow_other w g b _ hb
          have hgn : g ∉ fp' ++ (f2 ++ f3) := (List.nodup_cons.1 (by simpa using nd)).1
          simp only [List.mem_append, not_or] at hgn
          refine ⟨_, _, hr, ⟨(g :: (fp' ++ f2)) ++ f3, ⟨g :: (fp' ++ f2), f3, rfl, ?_, ?_⟩, ?_, ?_, ?_⟩⟩
          · simp only [HE.sat, Own]
            refine .inr ⟨g, n + m, cap, _, fp' ++ f2, rfl, setRow_heap w g cur _ e _ hg, ?_, hroom, hcm, ?_, ?_, rfl⟩
            · rw [List.length_append, hlen, htn, hl, Nat.add_mul]
            · simp only [List.size_toArray, List.length_append, List.length_take, List.length_drop, Array.length_toList]
              omega
            · simp only [q5]
              rw [show (n + m) * k = (cur.toList.take (n * k) ++ news).length by rw [List.length_append, List.length_take, Array.length_toList, hl, Nat.add_mul]; have : n * k ≤ cur.size := (by rw [hcs]; exact Nat.mul_le_mul_right _ hnc); omega]
              rw [List.take_left]
              exact OwnL.append (OwnL.loc hol (fun b hb => by simpa only [q5] using keep b (fun e => hgn.1 (e ▸ hb)))) (OwnL.loc s2 (fun b hb => by simpa only [q5] using keep b (fun e => hgn.2.1 (e ▸ hb))))
          · exact s3.loc (fun b hb => keep b (fun e => hgn.2.2 (e ▸ hb)))
          · simpa using nd
          · intro b hb; exact ge b (by simpa using hb)
          · refine ⟨kp.os, kp.tape, kp.output, by simpa using kp.size, fun j hj hM => ?_⟩
            rw [keep j (fun e => ?_)]
            · exact kp.block j hj hM
            · subst e
              rcases ge j (by simp) with h | h
              · exact hM h
              · omega
        · -- it grows
          have holds : ∀ j u, (cur.toList.take (n * k))[j]? = some u → w.cell? ((⟨g, 0, none⟩ : Addr).add j) = some u := by
            intro j u hu
            rw [List.getElem?_take] at hu
            split at hu
            · simp only [Addr.add_lit, World.cell?, hg, Nat.zero_add]; simpa using hu
            · cases hu
          have hcur : (cur.toList.take (n * k)).length = n * i.size := by
            rw [List.length_take, Array.length_toList, q5, hcs]
            exact Nat.min_eq_left (Nat.mul_le_mul_right _ hnc)
          have hr := run_append_grow (P := P) w t ty e i zv q1 q4 q7 ⟨g, 0, none⟩ n cap (cur.toList.take (n * k)) hcur holds a m c news hl' hcells (by omega) (by omega) (by
            have := nextslicecap_le (need := n + m) (old := cap) (by omega)
            refine Nat.le_trans (Nat.mul_le_mul_right _ this) ?_
            rw [Nat.mul_assoc]; omega)
          have hge := grownCap_ge w (n + m) cap e
          have hcm' := grownCap_le_maxLen w (n + m) cap e (by unfold maxLen; omega)
          have hgn : g ∉ fp' ++ (f2 ++ f3) := (List.nodup_cons.1 (by simpa using nd)).1
          have nd' : (fp' ++ (f2 ++ f3)).Nodup := (List.nodup_cons.1 (by simpa using nd)).2
          refine ⟨_, _, hr, ⟨(w.heap.size :: (fp' ++ f2)) ++ f3, ⟨w.heap.size :: (fp' ++ f2), f3, rfl, ?_, ?_⟩, ?_, ?_, ?_⟩⟩
          · simp only [HE.sat, Own]
            refine .inr ⟨w.heap.size, n + m, _, _, fp' ++ f2, rfl, al_new w _, ?_, hge, hcm', ?_, ?_, rfl⟩
            · rw [List.length_append, hlen, htn, hl, Nat.add_mul]
            · simp only [Array.size_append, List.size_toArray, size_zeroCells, hzs, hcur, hl, q5, ← Nat.add_mul]
              congr 1; omega
            · simp only [Array.toList_append]
              rw [show (n + m) * k = (cur.toList.take (n * k) ++ news).length by rw [List.length_append, hcur, hl, q5, Nat.add_mul]]
              rw [List.take_left]
              exact OwnL.append (OwnL.loc hol (fun b hb => al_old w _ b (OwnL.lt hol b hb))) (OwnL.loc s2 (fun b hb => al_old w _ b (OwnL.lt s2 b hb)))
          · exact s3.loc (fun b hb => al_old w _ b (s3.lt b hb))
          · rw [List.cons_append, List.nodup_cons, List.append_assoc]
            refine ⟨fun h => ?_, nd'⟩
            rcases List.mem_append.1 h with h | h
            · exact Nat.lt_irrefl _ (OwnL.lt hol _ h)
            · rcases List.mem_append.1 h with h | h
              · exact Nat.lt_irrefl _ (OwnL.lt s2 _ h)
              · exact Nat.lt_irrefl _ (s3.lt _ h)
          · intro b hb
            rcases List.mem_cons.1 hb with rfl | hb
            · exact .inr kp.size
            · exact ge b (by
              have hb' : b ∈ (fp' ++ f2) ++ f3 := hb
              rw [List.append_assoc] at hb'
              exact List.mem_cons_of_mem _ hb')
          · exact ⟨kp.os, kp.tape, kp.output, Nat.le_trans kp.size (al_le w _), fun j hj hM => by
              rw [al_old w _ j (Nat.lt_of_lt_of_le hj kp.size)]; exact kp.block j hj hM⟩
end
end Go.Lg
namespace Go.Lg
open Go.RowKit

def DoesB (P : Program) (f : Nat) (vs : List Value) (w : World) (M : List Nat) (φ : Value → List HE → Prop) : Prop :=
  Calls P f vs.toArray w fun e w' => ∃ v H, e = .returned v ∧ φ v H ∧ Hp M w H w'
abbrev Does (P : Program) (f : Nat) (vs : List Value) (w : World) (φ : Value → List HE → Prop) : Prop := DoesB P f vs w [] φ

def Ent (P : Program) (f : Nat) : Prop := ∀ args w, (callFunc f args).run P w = .ok (.enter f args) w
theorem ent_of {P : Program} {f : Nat} {fn : Func} (h : P.funcs[f]? = some fn) (hn : (fn.name == "runtime.NumGoroutine") = false) (hb : fn.body.isNone = false) : Ent P f := fun args w => by
  have h1 : ¬ fn.name = "runtime.NumGoroutine" := by simpa using hn
  have h2 : ¬ fn.body = none := fun h => by rw [h] at hb; cases hb
  simp [callFunc, h, h1, h2]

section
variable {P : Program} {n : Nat} {C : World → Prop} {s : List (Nat × Value)} {Q : Exit → Act → World → Prop} {ops : Array Oper} {rest : List Oper}
variable {d ty t t' : Nat} {pos : String} {af : Array Edge} {v : Value} {x y : Operand} {M : List Nat} {w0 : World} {H : List HE}

theorem st_go [Dfs] {op : Op} {C' : World → Prop} (hd : Nat.blt d n = true)
    (hr : ∀ a w, Fr n s a → C w → ∃ w', C' w' ∧ (execOp a.eval ⟨some d, op, ty, pos, af, none⟩).run P w = .ok (.value v) w')
    (h : AT n C' ((d, v) :: s) (wpList P ops Q rest)) : AT n C s (wpList P ops Q (⟨some d, op, ty, pos, af, none⟩ :: rest)) := fun a w f c => by
  obtain ⟨w', hc', hrun⟩ := hr a w f c
  refine wpList_one rfl ?_
  unfold Oper.wp
  rw [hrun]
  exact h _ _ (f.put (by simpa [Nat.blt_eq] using hd) v) hc'
theorem st_skip [Dfs] {op : Op} {C' : World → Prop}
    (hr : ∀ a w, Fr n s a → C w → ∃ w', C' w' ∧ (execOp a.eval ⟨none, op, ty, pos, af, none⟩).run P w = .ok .skip w')
    (h : AT n C' s (wpList P ops Q rest)) : AT n C s (wpList P ops Q (⟨none, op, ty, pos, af, none⟩ :: rest)) := fun a w f c => by
  obtain ⟨w', hc', hrun⟩ := hr a w f c
  refine wpList_one rfl ?_
  unfold Oper.wp
  rw [hrun]
  exact h _ _ f hc'

theorem m_box [Dfs] {e : Nat} {u : Value} (hx : ev s x = some u) (hd : Nat.blt d n = true)
    (h : ∀ b, w0.heap.size ≤ b → AT n (Hp M w0 (.blk b u.cells e :: H)) ((d, .pointer (some ⟨b, 0, none⟩)) :: s) (wpList P ops Q rest)) :
    AT n (Hp M w0 H) s (wpList P ops Q (⟨some d, .box e x, ty, pos, af, none⟩ :: rest)) := fun a w f c => by
  refine wpList_one rfl ?_
  unfold Oper.wp
  have : (execOp a.eval ⟨some d, .box e x, ty, pos, af, none⟩).run P w = .ok (.value (.pointer (some ⟨w.heap.size, 0, none⟩))) (w.alloc (.cells u.cells e)) := by
    simp [execOp, f.ev hx, Instr.box, newVar, newRow]
  rw [this]
  exact h _ c.kept.size _ _ (f.put (by simpa [Nat.blt_eq] using hd) _) (c.alloc _ _)

theorem m_alloc [Dfs] (T : Tabs P) {e : Nat} {z : List Value} (ht : lk T.sz e = some z) (hd : Nat.blt d n = true)
    (h : ∀ b, w0.heap.size ≤ b → AT n (Hp M w0 (.blk b z.toArray e :: H)) ((d, .pointer (some ⟨b, 0, none⟩)) :: s) (wpList P ops Q rest)) :
    AT n (Hp M w0 H) s (wpList P ops Q (⟨some d, .alloc e, ty, pos, af, none⟩ :: rest)) := fun a w f c => by
  refine wpList_one rfl ?_
  unfold Oper.wp
  obtain ⟨zv, h1, h2⟩ := (T.sz_ok _ _ ht).1 w
  have : (execOp a.eval ⟨some d, .alloc e, ty, pos, af, none⟩).run P w = .ok (.value (.pointer (some ⟨w.heap.size, 0, none⟩))) (w.alloc (.cells z.toArray e)) := by
    simp [execOp, Instr.alloc, h1, newVar, newRow, h2]
  rw [this]
  exact h _ c.kept.size _ _ (f.put (by simpa [Nat.blt_eq] using hd) _) (c.alloc _ _)

theorem hc_blk (i : Nat) {b o e : Nat} {cur : Array Value} (hi : H[i]? = some (.blk b cur e)) (hv : cur[o]? = some v) : ∀ w, Hp M w0 H w → w.cell? ⟨b, o, none⟩ = some v := fun w c => by
  have := c.blk hi
  simp only [World.cell?, this]
  simpa using hv
theorem hc_w0 {a : Addr} (hv : w0.cell? a = some v) : ∀ w, Hp [] w0 H w → w.cell? a = some v := fun _ c => c.cell hv
theorem hcs_blk (i : Nat) {b o e : Nat} {cur : Array Value} {cs : List Value} (hi : H[i]? = some (.blk b cur e)) (hv : ∀ j v, cs[j]? = some v → cur[o + j]? = some v) :
    ∀ w, Hp M w0 H w → ∀ j v, cs[j]? = some v → w.cell? ((⟨b, o, none⟩ : Addr).add j) = some v := fun w c j v hj => by
  rw [Addr.add_lit]
  exact hc_blk i hi (hv j v hj) w c

theorem m_store [Dfs] (i : Nat) (T : Tabs P) {b o e : Nat} {cur : Array Value} {u : Value} (ht : lk T.one t = some ()) (hx : ev s x = some (.pointer (some ⟨b, o, none⟩))) (hy : ev s y = some u) (hu : u.oneCell' = true)
    (hi : H[i]? = some (.blk b cur e)) (ho : o < cur.size) (h : AT n (Hp M w0 (H.set i (.blk b (cur.setIfInBounds o u) e))) s (wpList P ops Q rest)) :
    AT n (Hp M w0 H) s (wpList P ops Q (⟨none, .store t x y, ty, pos, af, none⟩ :: rest)) := st_skip (fun a w f c => by
  have hb := c.blk hi
  have hcell : w.cell? ⟨b, o, none⟩ = some cur[o] := by simp [World.cell?, hb, ho]
  have hfro : w.frozen? ⟨b, o, none⟩ = false := by simp [World.frozen?, hb]
  refine ⟨w.setCell ⟨b, o, none⟩ u, c.turn hi (fun f hf => ?_) rfl rfl rfl (by simp [World.setCell]), ?_⟩
  · obtain ⟨h1, h2⟩ := hf
    subst h2
    refine ⟨⟨?_, rfl⟩, fun k _ hk => Below.heap_setCell w ⟨b, o, none⟩ u k (by simpa using hk)⟩
    simp [World.setCell, Array.getElem?_modify, h1]
  · simp [execOp, f.ev hx, f.ev hy, (T.one_ok _ ht).2 _ _ w hu, stored, hcell, hfro]) h

theorem m_stores [Dfs] (i : Nat) (T : Tabs P) {b o e : Nat} {cur : Array Value} {cs z : List Value} (ht : lk T.sz t = some z) (hl : cs.length = z.length) (hx : ev s x = some (.pointer (some ⟨b, o, none⟩))) (hy : ev s y = some (.agg cs.toArray)) (hu : ∀ u ∈ cs, u.oneCell' = true)
    (hi : H[i]? = some (.blk b cur e)) (ho : o + cs.length ≤ cur.size) (h : AT n (Hp M w0 (H.set i (.blk b (cur.toList.take o ++ cs ++ cur.toList.drop (o + cs.length)).toArray e))) s (wpList P ops Q rest)) :
    AT n (Hp M w0 H) s (wpList P ops Q (⟨none, .store t x y, ty, pos, af, none⟩ :: rest)) := st_skip (fun a w f c => by
  have hb := c.blk hi
  refine ⟨w.setRow b (cur.toList.take o ++ cs ++ cur.toList.drop (o + cs.length)).toArray, c.turn hi (fun f hf => ?_) rfl rfl rfl (by simp), ?_⟩
  · obtain ⟨h1, h2⟩ := hf
    subst h2
    exact ⟨⟨setRow_heap w b cur _ e _ h1, rfl⟩, fun k _ hk => setRow_other w b k _ (by simpa using hk)⟩
  · have := run_storeCells_at P b o e cs 0 cur w hb (by omega) hu
    simp only [Nat.add_zero] at this
    simp [execOp, f.ev hx, f.ev hy, (T.sz_ok _ _ ht).2.2 _ _ w hl, this]) h

def zeros (z : List Value) (m : Nat) : Array Value := madeCells z.toArray (m * z.length)
theorem m_make [Dfs] (T : Tabs P) {e k by' : Nat} {z : List Value} {l c : Int} (ht : lk T.sl t = some (e, k, by', z)) (hx : ev s x = some (.int .i64 l)) (hy : ev s y = some (.int .i64 c)) (h0 : 0 ≤ l) (hlc : l ≤ c) (hb : by' * c.toNat ≤ 281474976710656) (hc : c ≤ 140737488355328) (hd : Nat.blt d n = true)
    (h : ∀ b, w0.heap.size ≤ b → AT n (Hp M w0 (.blk b (zeros z c.toNat) e :: H)) ((d, .slice (some ⟨b, 0, none⟩) l.toNat c.toNat) :: s) (wpList P ops Q rest)) :
    AT n (Hp M w0 H) s (wpList P ops Q (⟨some d, .makeSlice t x y, ty, pos, af, none⟩ :: rest)) := fun a w f cc => by
  refine wpList_one rfl ?_
  unfold Oper.wp
  obtain ⟨q1, q2, q3, i, zv, q4, q5, q6, q7, q8⟩ := T.sl_ok _ _ _ _ _ ht
  have hr := run_make (P := P) w t e i zv q1 q4 q7 .i64 .i64 l c h0 hlc (by rw [q6]; rw [show c = ((c.toNat : Nat) : Int) by omega, ← Int.natCast_mul]; omega) (by omega)
  have : (execOp a.eval ⟨some d, .makeSlice t x y, ty, pos, af, none⟩).run P w = .ok (.value (.slice (some ⟨w.heap.size, 0, none⟩) l.toNat c.toNat)) (w.alloc (.cells (zeros z c.toNat) e)) := by
    simp [execOp, f.ev hx, f.ev hy, hr, zeros, q8, q5, q2]
  rw [this]
  exact h _ cc.kept.size _ _ (f.put (by simpa [Nat.blt_eq] using hd) _) (cc.alloc _ _)

theorem m_call [Dfs] {f : Nat} {args : Array Operand} {vs : List Value} {φ : Value → List HE → Prop} {at' : Array Nat} (he : Ent P f) (ha : evs s args.toList = some vs) (hd : Nat.blt d n = true)
    (hc : ∀ w, Hp M w0 H w → Does P f vs w φ) (h : ∀ v H', φ v H' → AT n (Hp M w0 (H' ++ H)) ((d, v) :: s) (wpList P ops Q rest)) :
    AT n (Hp M w0 H) s (wpList P ops Q (⟨some d, .call ⟨.value (.func f), args, at'⟩, ty, pos, af, none⟩ :: rest)) := fun a w fr c => by
  refine wpList_one rfl ?_
  unfold Oper.wp
  have hm : args.map a.eval = vs.toArray := by
    rw [← fr.evs ha]
    apply Array.ext'
    simp
  have : (execOp a.eval ⟨some d, .call ⟨.value (.func f), args, at'⟩, ty, pos, af, none⟩).run P w = .ok (.enter f vs.toArray) w := by
    simp [execOp, resolve, Act.eval, Deferred.ofValue, hm, invoke, he vs.toArray w]
  rw [this]
  refine (hc w c).mono ?_
  rintro e w' ⟨v, H', rfl, hφ, fp, hs, nd, ge, kp⟩
  refine h v H' hφ _ _ (fr.put (by simpa [Nat.blt_eq] using hd) v) (c.more kp.below hs nd (fun b hb => (ge b hb).resolve_left (by simp)))

theorem Hp.lend {w w' : World} {H0 H1 : List HE} {M' : List Nat} (hp : ∃ f2, satL w H0 M' ∧ satL w H f2 ∧ (M' ++ f2).Nodup ∧ (∀ b ∈ M' ++ f2, b ∈ M ∨ w0.heap.size ≤ b) ∧ Kept M w0 w) (hb : Hp M' w H1 w') : Hp M w0 (H1 ++ H) w' := by
  obtain ⟨f2, s1, s2, nd, ge, kp⟩ := hp
  obtain ⟨f1, t1, nd1, ge1, kp1⟩ := hb
  have nd2 := List.nodup_append.1 nd
  refine ⟨f1 ++ f2, t1.append (s2.loc (fun b hb => kp1.block b (s2.lt b hb) (fun h => nd2.2.2 b h b hb rfl))), List.nodup_append.2 ⟨nd1, nd2.2.1, fun a ha b hb e => ?_⟩, fun b hb => ?_, kp1.os.trans kp.os, kp1.tape.trans kp.tape, kp1.output.trans kp.output, Nat.le_trans kp.size kp1.size, fun j hj hM => ?_⟩
  · subst e
    rcases ge1 a ha with h | h
    · exact nd2.2.2 a h a hb rfl
    · have := s2.lt a hb; omega
  · rcases List.mem_append.1 hb with hb | hb
    · rcases ge1 b hb with h | h
      · exact ge b (by simp [h])
      · exact .inr (Nat.le_trans kp.size h)
    · exact ge b (by simp [hb])
  · rw [kp1.block j (Nat.lt_of_lt_of_le hj kp.size) (fun h => ?_)]
    · exact kp.block j hj hM
    · rcases ge j (by simp [h]) with h' | h'
      · exact hM h'
      · omega

theorem m_callB [Dfs] (i : Nat) {h0 : HE} {f : Nat} {args : Array Operand} {vs : List Value} {φ : Value → List HE → Prop} {at' : Array Nat} (he : Ent P f) (ha : evs s args.toList = some vs) (hd : Nat.blt d n = true) (hi : H[i]? = some h0)
    (hc : ∀ w M', Hp M w0 H w → h0.sat w M' → M'.Nodup → DoesB P f vs w M' φ) (h : ∀ v H', φ v H' → AT n (Hp M w0 (H' ++ H.eraseIdx i)) ((d, v) :: s) (wpList P ops Q rest)) :
    AT n (Hp M w0 H) s (wpList P ops Q (⟨some d, .call ⟨.value (.func f), args, at'⟩, ty, pos, af, none⟩ :: rest)) := fun a w fr c => by
  refine wpList_one rfl ?_
  unfold Oper.wp
  have hm : args.map a.eval = vs.toArray := by
    rw [← fr.evs ha]
    apply Array.ext'
    simp
  have : (execOp a.eval ⟨some d, .call ⟨.value (.func f), args, at'⟩, ty, pos, af, none⟩).run P w = .ok (.enter f vs.toArray) w := by
    simp [execOp, resolve, Act.eval, Deferred.ofValue, hm, invoke, he vs.toArray w]
  rw [this]
  obtain ⟨fp, ⟨f1, f2, e, s1, s2⟩, nd, ge, kp⟩ := c.front hi
  subst e
  refine (hc w f1 c s1 (List.nodup_append.1 nd).1).mono ?_
  rintro e w' ⟨v, H', rfl, hφ, hp'⟩
  exact h v H' hφ _ _ (fr.put (by simpa [Nat.blt_eq] using hd) v) (Hp.lend (H0 := [h0]) ⟨f2, ⟨f1, [], by simp, s1, rfl⟩, s2, nd, ge, kp⟩ hp')

theorem m_callv [Dfs] {f : Nat} {g : Operand} {cap : Array Value} {args : Array Operand} {vs : List Value} {φ : Value → List HE → Prop} {at' : Array Nat} (hg : ev s g = some (.func (.func f) #[] cap)) (he : Ent P f) (ha : evs s args.toList = some vs) (hd : Nat.blt d n = true)
    (hc : ∀ w, Hp M w0 H w → Does P f (vs ++ cap.toList) w φ) (h : ∀ v H', φ v H' → AT n (Hp M w0 (H' ++ H)) ((d, v) :: s) (wpList P ops Q rest)) :
    AT n (Hp M w0 H) s (wpList P ops Q (⟨some d, .call ⟨.value g, args, at'⟩, ty, pos, af, none⟩ :: rest)) := fun a w fr c => by
  refine wpList_one rfl ?_
  unfold Oper.wp
  have hm : args.map a.eval = vs.toArray := by
    rw [← fr.evs ha]
    apply Array.ext'
    simp
  have hm2 : vs.toArray ++ cap = (vs ++ cap.toList).toArray := by apply Array.ext'; simp
  have : (execOp a.eval ⟨some d, .call ⟨.value g, args, at'⟩, ty, pos, af, none⟩).run P w = .ok (.enter f (vs ++ cap.toList).toArray) w := by
    have := he (vs ++ cap.toList).toArray w
    rw [← hm2] at this ⊢
    simp [execOp, resolve, fr.ev hg, Deferred.ofValue, hm, invoke, this]
  rw [this]
  refine (hc w c).mono ?_
  rintro e w' ⟨v, H', rfl, hφ, fp, hs, nd, ge, kp⟩
  refine h v H' hφ _ _ (fr.put (by simpa [Nat.blt_eq] using hd) v) (c.more kp.below hs nd (fun b hb => (ge b hb).resolve_left (by simp)))

def en : Nat → List Value → List (Nat × Value)
  | _, [] => []
  | k, v :: r => (k, v) :: en (k + 1) r
theorem lk_en : ∀ {l : List Value} {k j : Nat} {v : Value}, lk (en k l) j = some v → k ≤ j ∧ l[j - k]? = some v
  | [], k, j, v, h => by cases h
  | u :: l, k, j, v, h => by
    simp only [en, lk] at h
    by_cases hk : k = j
    · subst hk; simp at h; subst h; simp
    · have : Nat.beq k j = false := by
        cases hb : Nat.beq k j with
        | false => rfl
        | true => exact absurd (Nat.eq_of_beq_eq_true hb) hk
      simp only [this, cond_false] at h
      obtain ⟨h1, h2⟩ := lk_en h
      exact ⟨by omega, by rw [show j - k = (j - (k + 1)) + 1 by omega]; simpa using h2⟩

theorem fnb_enter {f : Nat} {fn : Func} {c : Code} {vs : List Value} {w : World} {R : Ending → World → Prop} {H0 : List HE} (hf : P.funcs[f]? = some fn) (hb : fn.body = some c) (hn : fn.ntmps = n) (hs : Nat.ble vs.length n = true)
    (hp : Hp M w H0 w) (h : AT n (Hp M w H0) (en 0 vs) (c.wp P (bodyPost P fn R))) : Calls P f vs.toArray w R := by
  refine calls_of_wp hf hb (h _ _ ⟨?_, rfl, fun k v hk => ?_⟩ hp)
  · have := Nat.le_of_ble_eq_true hs
    simp [hn]; omega
  · obtain ⟨_, h2⟩ := lk_en hk
    simp only [Nat.sub_zero] at h2
    have := (List.getElem?_eq_some_iff.1 h2).1
    rw [Array.getElem?_append_left (by simpa using this)]
    simpa using h2
theorem fn_enter {f : Nat} {fn : Func} {c : Code} {vs : List Value} {w : World} {φ : Value → List HE → Prop} (hf : P.funcs[f]? = some fn) (hb : fn.body = some c) (hn : fn.ntmps = n) (hs : Nat.ble vs.length n = true)
    (h : AT n (Hp [] w []) (en 0 vs) (c.wp P (bodyPost P fn (fun e w' => ∃ v H, e = .returned v ∧ φ v H ∧ Hp [] w H w')))) : Does P f vs w φ :=
  fnb_enter hf hb hn hs Hp.nil h
theorem fnb_start {f : Nat} {fn : Func} {c : Code} {vs : List Value} {w : World} {φ : Value → List HE → Prop} {H0 : List HE} (hf : P.funcs[f]? = some fn) (hb : fn.body = some c) (hn : fn.ntmps = n) (hs : Nat.ble vs.length n = true)
    (hp : satL w H0 M) (nd : M.Nodup)
    (h : AT n (Hp M w H0) (en 0 vs) (c.wp P (bodyPost P fn (fun e w' => ∃ v H, e = .returned v ∧ φ v H ∧ Hp M w H w')))) : DoesB P f vs w M φ :=
  fnb_enter hf hb hn hs ⟨M, hp, nd, fun _ hb => .inl hb, Kept.refl⟩ h

def ResV (P : Program) (C : World → Prop) (s : List (Nat × Value)) : ResultVar → Value → Prop
  | .tmp t, v => lk s t = some v
  | .cell t ty, v => ∃ a, lk s t = some (.pointer (some a)) ∧ ∀ w, C w → (loadVar ty a).run P w = .ok v w
theorem res_tmp {t : Nat} (h : lk s t = some v) : ResV P C s (.tmp t) v := h
theorem res_cell (T : Tabs P) {t ty : Nat} {a : Addr} {cs z : List Value} (ht : lk T.sz ty = some z) (hl : cs.length = z.length) (h : lk s t = some (.pointer (some a))) (hc : ∀ w, C w → ∀ j v, cs[j]? = some v → w.cell? (a.add j) = some v) : ResV P C s (.cell t ty) (.agg cs.toArray) :=
  ⟨a, h, fun w c => by have := (T.sz_ok _ _ ht).2.1 a cs w hl (hc w c); simpa [Instr.loadAt, Instr.sureAddr] using this⟩
def resM (tmps : Array Value) : ResultVar → Sem Value
  | .tmp t => pure (tmps.getD t undef)
  | .cell a t => do loadVar t (← asAddr (tmps.getD a undef))
theorem ResV.run [Dfs] {r : ResultVar} {v : Value} (h : ResV P C s r v) {a : Act} {w : World} (f : Fr n s a) (c : C w) : (resM a.tmps r).run P w = .ok v w := by
  cases r with
  | tmp t => simp [resM, Array.getD_eq_getD_getElem?, f.has _ _ h]
  | cell t ty =>
    obtain ⟨ad, h1, h2⟩ := h
    simp [resM, Array.getD_eq_getD_getElem?, f.has _ _ h1, asAddr, h2 w c]
theorem results1 {fn : Func} {r1 : ResultVar} (hf : fn.results = #[r1]) (tmps : Array Value) (w : World) : (results fn tmps).run P w = (resM tmps r1).run P w := by
  cases r1 <;> simp [results, hf, resM]
theorem andThen_assoc {α β γ : Type} (r : Result α) (f : α → World → Result β) (g : β → World → Result γ) : (r.andThen f).andThen g = r.andThen fun a w => (f a w).andThen g := by cases r <;> rfl
theorem results2 {fn : Func} {r1 r2 : ResultVar} (hf : fn.results = #[r1, r2]) (tmps : Array Value) (w : World) : (results fn tmps).run P w = ((resM tmps r1).run P w).andThen fun v1 w1 => ((resM tmps r2).run P w1).andThen fun v2 w2 => .ok (.tuple #[v1, v2]) w2 := by
  cases r1 <;> cases r2 <;> simp [results, hf, resM, andThen_assoc]
theorem results3 {fn : Func} {r1 r2 r3 : ResultVar} (hf : fn.results = #[r1, r2, r3]) (tmps : Array Value) (w : World) : (results fn tmps).run P w = ((resM tmps r1).run P w).andThen fun v1 w1 => ((resM tmps r2).run P w1).andThen fun v2 w2 => ((resM tmps r3).run P w2).andThen fun v3 w3 => .ok (.tuple #[v1, v2, v3]) w3 := by
  cases r1 <;> cases r2 <;> cases r3 <;> simp [results, hf, resM, andThen_assoc]

theorem x_end {fn : Func} {R : Ending → World → Prop} {e : Exit} (he : e = .ret ∨ e = .normal) (hr : ∀ a w, Fr n s a → C w → (results fn a.tmps).run P w = .ok v w) (h : ∀ w, C w → R (.returned v) w) : AT n C s (bodyPost P fn R e) := fun a w f c => by
  rcases he with rfl | rfl
  · exact ⟨f.dfr, v, hr a w f c, h w c⟩
  · exact ⟨f.dfr, v, hr a w f c, h w c⟩
theorem x_ret1 {fn : Func} {R : Ending → World → Prop} {r1 : ResultVar} {v1 : Value} (hf : fn.results = #[r1]) (h1 : ResV P C s r1 v1) (h : ∀ w, C w → R (.returned v1) w) : AT n C s (bodyPost P fn R .ret) :=
  x_end (.inl rfl) (fun a w f c => by rw [results1 hf, h1.run f c]) h
theorem x_ret2 {fn : Func} {R : Ending → World → Prop} {r1 r2 : ResultVar} {v1 v2 : Value} (hf : fn.results = #[r1, r2]) (h1 : ResV P C s r1 v1) (h2 : ResV P C s r2 v2) (h : ∀ w, C w → R (.returned (.tuple #[v1, v2])) w) : AT n C s (bodyPost P fn R .ret) :=
  x_end (.inl rfl) (fun a w f c => by simp only [results2 hf, h1.run f c, h2.run f c, Result.andThen]) h
theorem x_ret3 {fn : Func} {R : Ending → World → Prop} {r1 r2 r3 : ResultVar} {v1 v2 v3 : Value} (hf : fn.results = #[r1, r2, r3]) (h1 : ResV P C s r1 v1) (h2 : ResV P C s r2 v2) (h3 : ResV P C s r3 v3) (h : ∀ w, C w → R (.returned (.tuple #[v1, v2, v3])) w) : AT n C s (bodyPost P fn R .ret) :=
  x_end (.inl rfl) (fun a w f c => by simp only [results3 hf, h1.run f c, h2.run f c, h3.run f c, Result.andThen]) h
end
end Go.Lg
namespace Go.Lg
open Go.RowKit

section
variable {P : Program} {n : Nat} {C : World → Prop} {s : List (Nat × Value)} {Q : Exit → Act → World → Prop} {ops : Array Oper} {rest : List Oper}
variable {d ty t t' : Nat} {pos : String} {af : Array Edge} {v : Value} {x y : Operand} {M : List Nat} {w0 w : World} {H : List HE}

theorem Hp.free (us : List Value) (hp : Hp M w0 H w) : Hp M w0 (.ownL (us.map T.c) us :: H) w := by
  obtain ⟨fp, s, r⟩ := hp
  exact ⟨fp, ⟨[], fp, rfl, OwnL.consts us, s⟩, r⟩
theorem Hp.nilp (e k : Nat) (hp : Hp M w0 H w) : Hp M w0 (.own (.s e k []) (.slice none 0 0) :: H) w := by
  obtain ⟨fp, s, r⟩ := hp
  exact ⟨fp, ⟨[], fp, rfl, by simp [HE.sat, Own], s⟩, r⟩
theorem Hp.swap {a b : HE} (hp : Hp M w0 (a :: b :: H) w) : Hp M w0 (b :: a :: H) w := hp.front (i := 1) rfl
theorem Hp.form {e k : Nat} {ts : List T} {m : Nat} (hk : 0 < k) (hm : ts.length = m * k) (hp : Hp M w0 (.own (.s e k ts) v :: H) w) : ∃ a c, v = .slice a m c := by
  obtain ⟨fp, ⟨f1, f2, _, h, _⟩, _⟩ := hp
  simp only [HE.sat, Own] at h
  rcases h with ⟨rfl, rfl, _⟩ | ⟨g, n, cap, cur, fp', rfl, _, h3, _⟩
  · simp only [List.length_nil] at hm
    have : m = 0 := by rcases Nat.mul_eq_zero.1 hm.symm with h | h <;> omega
    exact ⟨none, 0, by rw [this]⟩
  · have : n = m := Nat.eq_of_mul_eq_mul_right hk (by rw [← h3, hm])
    exact ⟨some ⟨g, 0, none⟩, cap, by rw [this]⟩
theorem Hp.single {t : T} (hp : Hp M w0 (.own t v :: H) w) : Hp M w0 (.ownL [t] [v] :: H) w :=
  hp.say (H1 := [.ownL [t] [v]]) (fun f h => ⟨f, List.Perm.refl _, f, [], by simp, ⟨v, [], f, [], rfl, by simp, h, rfl, rfl⟩, rfl⟩)
theorem Hp.ahead (u : Value) {ts : List T} {vs : List Value} (hp : Hp M w0 (.ownL ts vs :: H) w) : Hp M w0 (.ownL (.c u :: ts) (u :: vs) :: H) w :=
  hp.say (H1 := [.ownL (.c u :: ts) (u :: vs)]) (fun f h => ⟨f, List.Perm.refl _, f, [], by simp, by
    simp only [HE.sat, OwnL]; exact ⟨u, vs, [], f, rfl, rfl, by simp [Own], h⟩, rfl⟩)
theorem Hp.cat {t1 t2 : List T} {v1 v2 : List Value} (hp : Hp M w0 (.ownL t1 v1 :: .ownL t2 v2 :: H) w) : Hp M w0 (.ownL (t1 ++ t2) (v1 ++ v2) :: H) w :=
  Hp.join (H1 := [.ownL t1 v1, .ownL t2 v2]) hp (fun f h => by
    obtain ⟨f1, f2, rfl, h1, f3, f4, rfl, h3, h4⟩ := h
    simp only [satL] at h4; subst h4
    exact ⟨f1 ++ (f3 ++ []), List.Perm.refl _, by simpa [HE.sat] using OwnL.append h1 h3⟩)

theorem m_app [Dfs] (T0 : Tabs P) {e k b m' m c : Nat} {z : List Value} {ts tn : List T} {news : List Value} {ad : Option Addr} {H' : List HE} (ht : lk T0.sl t = some (e, k, b, z)) (hx : ev s x = some v) (hy : ev s y = some (.slice ad m c)) (hd : Nat.blt d n = true)
    (hl : news.length = m * k) (h1 : ∀ u ∈ news, u.oneCell' = true) (hm : ts.length + tn.length = m' * k) (hb : (ts.length + news.length) * b ≤ 140737488355328) (hb1 : 1 ≤ b)
    (hp : ∀ w, Hp M w0 H w → Hp M w0 (.own (.s e k ts) v :: .ownL tn news :: H') w)
    (hs : ∀ w, Hp M w0 H w → m = 0 ∨ ∃ a, ad = some a ∧ ∀ j u, news[j]? = some u → w.cell? (a.add j) = some u)
    (h : ∀ a cc, AT n (Hp M w0 (.own (.s e k (ts ++ tn)) (.slice a m' cc) :: H')) ((d, .slice a m' cc) :: s) (wpList P ops Q rest)) :
    AT n (Hp M w0 H) s (wpList P ops Q (⟨some d, .call ⟨.builtin .append, #[x, y], #[t, t]⟩, ty, pos, af, none⟩ :: rest)) := fun a w f cw => by
  obtain ⟨v', w', hr, hp'⟩ := run_app (ty := ty) (c := c) T0 ht (hp w cw) hl h1 (hs w cw) hb hb1
  obtain ⟨a', c', rfl⟩ := hp'.form (T0.sl_ok _ _ _ _ _ ht).2.2.1 (by rw [List.length_append]; exact hm)
  refine wpList_one rfl ?_
  unfold Oper.wp
  have : (execOp a.eval ⟨some d, .call ⟨.builtin .append, #[x, y], #[t, t]⟩, ty, pos, af, none⟩).run P w = .ok (.value (.slice a' m' c')) w' := by
    simp [execOp, resolve, invoke, builtin, f.ev hx, f.ev hy, hr]
  rw [this]
  exact h a' c' _ _ (f.put (by simpa [Nat.blt_eq] using hd) _) hp'

theorem m_appi [Dfs] (i : Nat) (T0 : Tabs P) {e c : Nat} {z : List Value} {xs ys : List Int} {ad : Option Addr} (ht : lk T0.sl t = some (e, 1, 8, z)) (hi : H[i]? = some (.own (ints e xs) v)) (hx : ev s x = some v) (hy : ev s y = some (.slice ad ys.length c)) (hd : Nat.blt d n = true)
    (hb : xs.length + ys.length ≤ 1099511627776)
    (hs : ∀ w, Hp M w0 H w → ys = [] ∨ ∃ a, ad = some a ∧ ∀ j u, (ic ys)[j]? = some u → w.cell? (a.add j) = some u)
    (h : ∀ a cc, AT n (Hp M w0 (.own (ints e (xs ++ ys)) (.slice a (xs.length + ys.length) cc) :: H.eraseIdx i)) ((d, .slice a (xs.length + ys.length) cc) :: s) (wpList P ops Q rest)) :
    AT n (Hp M w0 H) s (wpList P ops Q (⟨some d, .call ⟨.builtin .append, #[x, y], #[t, t]⟩, ty, pos, af, none⟩ :: rest)) := by
  refine m_app (ts := it xs) (tn := it ys) (news := ic ys) (m' := xs.length + ys.length) (H' := H.eraseIdx i) T0 ht hx hy hd (by simp) (ints_oneCell .i64 ys) (by simp) (by simp; omega) (by omega)
    (fun w c => ?_) (fun w c => ?_) ?_
  · have := (c.front hi).free (ic ys)
    rw [← it_eq] at this
    exact this.swap
  · rcases hs w c with h | h
    · exact .inl (by simp [h])
    · exact .inr h
  · intro a cc
    have := h a cc
    unfold ints at this
    rwa [it_append] at this

theorem fold_set : ∀ (us : List Value) (j : Nat) (cur : Array Value) (q : Nat), j + us.length ≤ cur.size →
    ((us.zipIdx j).foldl (fun cs (p : Value × Nat) => cs.setIfInBounds p.2 p.1) cur)[q]? = if j ≤ q ∧ q < j + us.length then us[q - j]? else cur[q]?
  | [], j, cur, q, h => by
    simp
    intro h1 h2; omega
  | u :: us, j, cur, q, h => by
    simp only [List.length_cons] at h
    rw [List.zipIdx_cons, List.foldl_cons, fold_set us (j + 1) _ q (by simp; omega)]
    simp only [List.length_cons, Array.getElem?_setIfInBounds]
    by_cases h1 : j = q
    · subst h1
      rw [if_neg (by omega), if_pos (by omega)]
      simp; omega
    · by_cases h2 : j + 1 ≤ q ∧ q < j + 1 + us.length
      · rw [if_pos h2, if_pos (by omega), show q - j = (q - (j + 1)) + 1 by omega]; simp
      · rw [if_neg h2, if_neg h1, if_neg (by omega)]
theorem fold_all (us : List Value) (cur : Array Value) (h : us.length = cur.size) : (us.zipIdx 0).foldl (fun cs (p : Value × Nat) => cs.setIfInBounds (0 + p.2) p.1) cur = us.toArray := by
  apply Array.ext_getElem?
  intro q
  simp only [Nat.zero_add]
  rw [fold_set us 0 cur q (by omega)]
  by_cases hq : q < us.length
  · rw [if_pos (by omega)]; simp
  · rw [if_neg (by omega)]
    have h1 : us.toArray[q]? = none := by simp; omega
    have h2 : cur[q]? = none := by simp; omega
    rw [h1, h2]

theorem m_build1 [Dfs] (T : Tabs P) {e k b : Nat} {z us : List Value} {u : Value} (ht : lk T.sl t = some (e, k, b, z)) (hx : ev s x = some u) (hc : u.cells = us.toArray) (hu : us.length = k) (hk : k ≤ 64) (hd : Nat.blt d n = true)
    (h : ∀ g, w0.heap.size ≤ g → AT n (Hp M w0 (.blk g us.toArray e :: H)) ((d, .slice (some ⟨g, 0, none⟩) 1 1) :: s) (wpList P ops Q rest)) :
    AT n (Hp M w0 H) s (wpList P ops Q (⟨some d, .buildSlice t 1 #[(0, x)], ty, pos, af, none⟩ :: rest)) := fun a w f c => by
  refine wpList_one rfl ?_
  unfold Oper.wp
  obtain ⟨q1, q2, q3, i, zv, q4, q5, q6, q7, q8⟩ := T.sl_ok _ _ _ _ _ ht
  have hfill : Instr.fill (fun i => some (i * k, k)) ((Array.range k).map (zv.cells[· % zv.cells.size]!)) [(0, u)] = some us.toArray := by
    simp only [Instr.fill, Nat.zero_mul, hc]
    rw [if_neg (by simp [hu])]
    have := fold_all us ((Array.range k).map (zv.cells[· % zv.cells.size]!)) (by simp [hu])
    simp only [← Array.foldl_toList, Array.toList_zipIdx]
    rw [this]
  have : (execOp a.eval ⟨some d, .buildSlice t 1 #[(0, x)], ty, pos, af, none⟩).run P w = .ok (.value (.slice (some ⟨w.heap.size, 0, none⟩) 1 1)) (w.alloc (.cells us.toArray e)) := by
    have hk0 : k ≠ 0 := by omega
    have hk1 : ¬ (2 ^ 24 < k) := by omega
    simp [execOp, f.ev hx, Instr.buildSlice, run_underlying q1, sizeOf, typeInfo, q4, q5, zeroValue, q7, hk0, hk1, newRow]
    simp [hfill]
  rw [this]
  exact h _ c.kept.size _ _ (f.put (by simpa [Nat.blt_eq] using hd) _) (c.alloc _ _)
theorem m_build0 [Dfs] (T : Tabs P) {e k b : Nat} {z : List Value} (ht : lk T.sl t = some (e, k, b, z)) (hd : Nat.blt d n = true)
    (h : ∀ g, w0.heap.size ≤ g → AT n (Hp M w0 (.own (.s e k []) (.slice (some ⟨g, 0, none⟩) 0 0) :: H)) ((d, .slice (some ⟨g, 0, none⟩) 0 0) :: s) (wpList P ops Q rest)) :
    AT n (Hp M w0 H) s (wpList P ops Q (⟨some d, .buildSlice t 0 #[], ty, pos, af, none⟩ :: rest)) := fun a w f c => by
  refine wpList_one rfl ?_
  unfold Oper.wp
  obtain ⟨q1, q2, q3, i, zv, q4, q5, q6, q7, q8⟩ := T.sl_ok _ _ _ _ _ ht
  have : (execOp a.eval ⟨some d, .buildSlice t 0 #[], ty, pos, af, none⟩).run P w = .ok (.value (.slice (some ⟨w.heap.size, 0, none⟩) 0 0)) (w.alloc (.cells #[] e)) := by
    simp [execOp, Instr.buildSlice, run_underlying q1, sizeOf, typeInfo, q4, newRow, Instr.fill, Array.range_zero']
  rw [this]
  refine h _ c.kept.size _ _ (f.put (by simpa [Nat.blt_eq] using hd) _) ?_
  exact (c.alloc #[] e).say (H1 := [.own (.s e k []) (.slice (some ⟨w.heap.size, 0, none⟩) 0 0)]) (fun f hf => by
    obtain ⟨h1, rfl⟩ := hf
    refine ⟨[w.heap.size], List.Perm.refl _, [w.heap.size], [], rfl, ?_, rfl⟩
    simp only [HE.sat, Own]
    exact .inr ⟨w.heap.size, 0, 0, #[], [], rfl, h1, by simp, Nat.le_refl _, Nat.zero_le _, by simp, by simp [OwnL], rfl⟩)
theorem m_buildn [Dfs] (T : Tabs P) {e b : Nat} {z vs : List Value} {parts : Array (Nat × Operand)} {m : Nat} (ht : lk T.sl t = some (e, 1, b, z)) (hp : evs s (parts.toList.map (·.2)) = some vs) (hi : parts.toList.map (·.1) = List.range m) (hc : ∀ u ∈ vs, u.cells = #[u]) (hm : Nat.ble m 64 = true) (hm0 : Nat.blt 0 m = true) (hd : Nat.blt d n = true)
    (h : ∀ g, w0.heap.size ≤ g → AT n (Hp M w0 (.blk g vs.toArray e :: H)) ((d, .slice (some ⟨g, 0, none⟩) m m) :: s) (wpList P ops Q rest)) :
    AT n (Hp M w0 H) s (wpList P ops Q (⟨some d, .buildSlice t m parts, ty, pos, af, none⟩ :: rest)) := fun a w f c => by
  refine wpList_one rfl ?_
  unfold Oper.wp
  obtain ⟨q1, q2, q3, i, zv, q4, q5, q6, q7, q8⟩ := T.sl_ok _ _ _ _ _ ht
  have hvs := f.evs hp
  have hlen : vs.length = m := by rw [← hvs]; have := congrArg List.length hi; simp at this; simpa using this
  have hm' : m ≤ 64 := Nat.le_of_ble_eq_true hm
  have hm0' : m ≠ 0 := by have := Nat.le_of_ble_eq_true hm0; omega
  have fillgen : ∀ (us : List Value) (j : Nat) (cur : Array Value), (∀ u ∈ us, u.cells = #[u]) → j + us.length ≤ cur.size →
      Instr.fill (fun i => some (i * 1, 1)) cur ((us.zipIdx j).map fun p => (p.2, p.1)) = some ((us.zipIdx j).foldl (fun cs (p : Value × Nat) => cs.setIfInBounds p.2 p.1) cur) := by
    intro us
    induction us with
    | nil => intro j cur _ _; simp [Instr.fill]
    | cons u us ih =>
      intro j cur hu hj
      simp only [List.length_cons] at hj
      simp only [List.zipIdx_cons, List.map_cons, Instr.fill, hu u (by simp), Nat.mul_one, List.foldl_cons]
      rw [if_neg (by simp; omega)]
      have := ih (j + 1) (cur.setIfInBounds j u) (fun x hx => hu x (by simp [hx])) (by simp; omega)
      simp at this ⊢
      exact this
  have hparts : (parts.map fun p => (p.1, a.eval p.2)).toList = (vs.zipIdx 0).map fun p => (p.2, p.1) := by
    rw [Array.toList_map]
    apply List.ext_getElem?
    intro q
    have h1 := congrArg (fun l => l[q]?) hi
    have h2 := congrArg (fun l => l[q]?) hvs
    simp only [List.getElem?_map, List.getElem?_zipIdx] at h1 h2 ⊢
    by_cases hq : q < m
    · rw [List.getElem?_range hq] at h1
      cases hpq : parts.toList[q]? with
      | none => rw [hpq] at h1; simp at h1
      | some p =>
        rw [hpq] at h1 h2
        simp only [Option.map_some, Option.some.injEq] at h1 h2
        rw [← h2]
        simp [h1]
    · rw [show (List.range m)[q]? = none from List.getElem?_eq_none (by simpa using hq)] at h1
      cases hpq : parts.toList[q]? with
      | none => rw [hpq] at h2; simp at h2; simp [h2]
      | some p => rw [hpq] at h1; simp at h1
  have hfill : Instr.fill (fun i => some (i * 1, 1)) ((Array.range m).map (zv.cells[· % zv.cells.size]!)) (parts.map fun p => (p.1, a.eval p.2)).toList = some vs.toArray := by
    rw [hparts, fillgen vs 0 _ hc (by simp [hlen])]
    have := fold_all vs ((Array.range m).map (zv.cells[· % zv.cells.size]!)) (by simp [hlen])
    simp only [Nat.zero_add] at this
    rw [this]
  have : (execOp a.eval ⟨some d, .buildSlice t m parts, ty, pos, af, none⟩).run P w = .ok (.value (.slice (some ⟨w.heap.size, 0, none⟩) m m)) (w.alloc (.cells vs.toArray e)) := by
    have hk1 : ¬ (2 ^ 24 < m) := by omega
    simp [execOp, Instr.buildSlice, run_underlying q1, sizeOf, typeInfo, q4, q5, zeroValue, q7, hm0', hk1, newRow]
    simp at hfill
    simp [hfill]
  rw [this]
  exact h _ c.kept.size _ _ (f.put (by simpa [Nat.blt_eq] using hd) _) (c.alloc _ _)
end
end Go.Lg
namespace Go.Lg
open Go.RowKit

theorem all_lk {α : Type} {G : Nat → α → Prop} : ∀ {l : List (Nat × α)}, (∀ p ∈ l, G p.1 p.2) → ∀ t x, lk l t = some x → G t x
  | [], _, t, x, h => by cases h
  | (k, v) :: l, hl, t, x, h => by
    simp only [lk] at h
    by_cases hk : k = t
    · subst hk; simp at h; subst h; exact hl (k, v) (by simp)
    · have : Nat.beq k t = false := by
        cases hb : Nat.beq k t with
        | false => rfl
        | true => exact absurd (Nat.eq_of_beq_eq_true hb) hk
      simp only [this, cond_false] at h
      exact all_lk (fun q hq => hl q (by simp [hq])) t x h

section
variable {P : Program}

structure SlF (P : Program) (t : Nat) (q : Nat × Nat × Nat × List Value) : Prop where
  und : P.underlying t = some (.slice q.1)
  info : ∃ zv, (P.info? q.1).map (fun i => (i.zero, i.size, i.bytes)) = some (some zv, q.2.1, q.2.2.1) ∧ zv.cells = q.2.2.2.toArray
  len : q.2.2.2.length = q.2.1
  pos : 0 < q.2.1
def StF (P : Program) (t : Nat) (fs : List Nat) : Prop := ∀ f off, fs[f]? = some off → ∀ a w, (Instr.fieldAt t (.pointer (some a)) f).run P w = .ok (.pointer (some (a.add off))) w
structure OneF (P : Program) (t : Nat) : Prop where
  agg : ∀ w, (isAgg t).run P w = .ok false w
  size : ∀ w, (sizeOf t).run P w = .ok 1 w
structure SzF (P : Program) (t : Nat) (z : List Value) : Prop where
  zero : ∃ zv, (∀ w, (zeroValue t).run P w = .ok zv w) ∧ zv.cells = z.toArray
  agg : ∀ w, (isAgg t).run P w = .ok true w
  size : ∀ w, (sizeOf t).run P w = .ok z.length w

theorem cells_one {v : Value} (h : v.oneCell' = true) : v.cells = #[v] := by cases v <;> first | rfl | cases h

theorem stF_nil {t : Nat} : StF P t [] := fun f off h => by simp at h
theorem stF_cons {t : Nat} {pre : List Nat} {o : Nat} (h : StF P t pre) (ho : ∀ a w, (Instr.fieldAt t (.pointer (some a)) pre.length).run P w = .ok (.pointer (some (a.add o))) w) : StF P t (pre ++ [o]) := fun f off hf a w => by
  rw [List.getElem?_append] at hf
  split at hf
  · exact h f off hf a w
  · have : f = pre.length := by
      have := (List.getElem?_eq_some_iff.1 hf).1
      simp at this; omega
    subst this
    simp at hf; subst hf
    exact ho a w

def mkTabs (sl : List (Nat × (Nat × Nat × Nat × List Value))) (st : List (Nat × List Nat)) (one : List (Nat × Unit)) (sz : List (Nat × List Value))
    (h1 : ∀ p ∈ sl, SlF P p.1 p.2) (h2 : ∀ p ∈ st, StF P p.1 p.2) (h3 : ∀ p ∈ one, OneF P p.1) (h4 : ∀ p ∈ sz, SzF P p.1 p.2) : Tabs P where
  sl := sl
  st := st
  one := one
  sz := sz
  sl_ok := fun t e k b z h => by
    have := all_lk (G := fun t q => SlF P t q) h1 t _ h
    obtain ⟨zv, hi, hz⟩ := this.info
    obtain ⟨i, q1, q2, q3, q4⟩ := info_parts hi
    exact ⟨this.und, this.len, this.pos, i, zv, q1, q3, q4, q2, hz⟩
  st_ok := fun t fs h => all_lk (G := fun t q => StF P t q) h2 t _ h
  one_ok := fun t h => by
    have := all_lk (G := fun t _ => OneF P t) h3 t _ h
    refine ⟨fun a v w hc => ?_, fun a v w hv => ?_⟩
    · simp only [Instr.loadAt, Instr.sureAddr, loadVar, Sem.run_bind, Sem.run_pure, Result.andThen_ok, this.agg w]
      simp [hc]
    · have h1 := this.size w
      simp only [Instr.storeAt, Instr.sureAddr, storeVar, Sem.run_bind, Sem.run_pure, Result.andThen_ok, h1, cells_one hv]
      have h0 : a.add 0 = a := by simp [Addr.add]
      have hs : (storeCells a [v]).run P w = stored P w a v .plain := by
        have h2 : (store a v .plain).run P w = stored P w a v .plain := run_store P w a v .plain hv
        simp only [storeCells, Sem.run_bind, h0, h2]
        cases stored P w a v .plain <;> simp [Result.andThen]
      simpa using hs
  sz_ok := fun t z h => by
    have := all_lk (G := fun t q => SzF P t q) h4 t _ h
    obtain ⟨zv, hz1, hz2⟩ := this.zero
    refine ⟨fun w => ⟨zv, hz1 w, hz2⟩, fun a cs w hl hc => ?_, fun a cs w hl => ?_⟩
    · have h1 := run_loadCells_list (P := P) (w := w) a cs hc
      rw [hl] at h1
      simp [Instr.loadAt, Instr.sureAddr, loadVar, this.agg w, this.size w, h1]
    · simp [Instr.storeAt, Instr.sureAddr, storeVar, this.size w, hl, Value.cells]
end
theorem sL {p : Prop} (h : p := by repeat' first | exact List.Sublist.refl _ | exact List.nil_sublist _ | apply List.Sublist.cons_cons | apply List.Sublist.cons) : p := h
theorem sB {p : Prop} (h : p := by repeat' (first | exact Sub.nil | refine Sub.cons rfl ?_ | refine Sub.consi rfl (by omega) ?_)) : p := h
theorem nN {p : Prop} (h : p := by first | assumption | exact not_not_intro (by assumption) | omega) : p := h
theorem aO {p : Prop} (h : p := by first | assumption | omega) : p := h
theorem kr {p : Prop} (h : p := by kernel_rfl) : p := h
theorem om {p : Prop} (h : p := by omega) : p := h
theorem aS {p : Prop} (h : p := by assumption) : p := h
abbrev oA [Dfs] {n : Nat} {C : World → Prop} {s : List (Nat × Value)} {P : Program} {ops : Array Oper} {Q : Exit → Act → World → Prop} {d : Option Tmp} {ty : TypeId} {ps : String} {es : Array Edge} {ws : Option (Nat × Bool)} {r : List Oper} (o : Op) : Prop := AT n C s (wpList P ops Q (⟨d, o, ty, ps, es, ws⟩ :: r))
abbrev oL [Dfs] {n : Nat} {C : World → Prop} {s : List (Nat × Value)} {P : Program} {ops : Array Oper} {Q : Exit → Act → World → Prop} {o : Oper} {r : List Oper} : Prop := AT n C s (wpList P ops Q (o :: r))
abbrev oN [Dfs] {n : Nat} {C : World → Prop} {s : List (Nat × Value)} {P : Program} {ops : Array Oper} {Q : Exit → Act → World → Prop} : Prop := AT n C s (wpList P ops Q [])
abbrev oC [Dfs] {n : Nat} {C : World → Prop} {s : List (Nat × Value)} {P : Program} {c : Code} {Q : Exit → Act → World → Prop} : Prop := AT n C s (Code.wp P c Q)

theorem sC {p : Prop} (h : p := by intro w c; first | exact c | exact c.drop | exact c.drop.drop | exact Hp.sub (List.sublist_append_right _ _) c | exact c.sub (by repeat' first | exact List.Sublist.refl _ | exact List.nil_sublist _ | apply List.Sublist.cons_cons | apply List.Sublist.cons)) : p := h
theorem mK {p : Prop} (h : p := by first | assumption | exact .mk) : p := h
section
variable {P : Program} {n : Nat} {C : World → Prop} {s : List (Nat × Value)} {Q : Exit → Act → World → Prop} {ops : Array Oper} {rest : List Oper} {d ty t t' : Nat} {pos : String} {af : Array Edge} {v : Value} {x y : Operand} {p q : Int} {M : List Nat} {w0 : World} {H H' : List HE}
theorem sS (h : List.Sublist H' H := by repeat' first | exact List.Sublist.refl _ | exact List.nil_sublist _ | apply List.Sublist.cons_cons | apply List.Sublist.cons) : ∀ w, Hp M w0 H w → Hp M w0 H' w := fun _ c => c.sub h
theorem xNt [Dfs] {k : Act → World → Prop} (h : AT n C s k) : AT n C s (wpList P ops (Exit.then k Q) []) := c_nil (x_then h)
theorem sMv [Dfs] (hx : ev s x = some v) (hd : Nat.blt d n = true) (h : AT n C ((d, v) :: s) (wpList P ops Q rest)) : AT n C s (wpList P ops Q (⟨some d, .move x, ty, pos, af, none⟩ :: rest)) := st_y (y_move hx) hd h
theorem sAs [Dfs] (hx : ev s x = some v) (hd : Nat.blt d n = true) (h : AT n C ((d, v) :: s) (wpList P ops Q rest)) : AT n C s (wpList P ops Q (⟨some d, .assign x, ty, pos, af, none⟩ :: rest)) := st_y (y_assign hx) hd h
theorem sFd [Dfs] (T : Tabs P) {fs : List Nat} {fi off b o : Nat} (ht : lk T.st t = some fs) (hf : fs[fi]? = some off) (hx : ev s x = some (.pointer (some ⟨b, o, none⟩))) (hd : Nat.blt d n = true) (h : AT n C ((d, .pointer (some ⟨b, o + off, none⟩)) :: s) (wpList P ops Q rest)) : AT n C s (wpList P ops Q (⟨some d, .fieldAddr t x fi, ty, pos, af, none⟩ :: rest)) := st_y (y_field T ht hf hx) hd h
theorem sLd [Dfs] (i : Nat) (T : Tabs P) {b o e : Nat} {cur : Array Value} (ht : lk T.one t = some ()) (hx : ev s x = some (.pointer (some ⟨b, o, none⟩))) (hi : H[i]? = some (.blk b cur e)) (hv : cur[o]? = some v) (hd : Nat.blt d n = true) (h : AT n (Hp M w0 H) ((d, v) :: s) (wpList P ops Q rest)) : AT n (Hp M w0 H) s (wpList P ops Q (⟨some d, .load t x, ty, pos, af, none⟩ :: rest)) := st_y (y_load T ht hx (hc_blk i hi hv)) hd h
theorem sLn [Dfs] (T : Tabs P) {a0 : Option Addr} {m k : Nat} {e : Nat × Nat × Nat × List Value} (ht : lk T.sl t = some e) (hx : ev s x = some (.slice a0 m k)) (hd : Nat.blt d n = true) (h : AT n C ((d, .int .i64 m) :: s) (wpList P ops Q rest)) : AT n C s (wpList P ops Q (⟨some d, .call ⟨.builtin .len, #[x], #[t]⟩, ty, pos, af, none⟩ :: rest)) := st_y (y_len T ht hx) hd h
theorem sLs [Dfs] (hx : ev s x = some (.int .i64 p)) (hy : ev s y = some (.int .i64 q)) (hd : Nat.blt d n = true) (h : AT n C ((d, .bool (decide (p < q))) :: s) (wpList P ops Q rest)) : AT n C s (wpList P ops Q (⟨some d, .binOp .lss t x y t', ty, pos, af, none⟩ :: rest)) := st_y (y_lss hx hy) hd h
theorem sAd [Dfs] (hx : ev s x = some (.int .i64 p)) (hy : ev s y = some (.int .i64 q)) (hr : -9223372036854775808 ≤ p + q ∧ p + q ≤ 9223372036854775807) (hd : Nat.blt d n = true) (h : AT n C ((d, .int .i64 (p + q)) :: s) (wpList P ops Q rest)) : AT n C s (wpList P ops Q (⟨some d, .binOp .add t x y t', ty, pos, af, none⟩ :: rest)) := st_y (y_add hx hy hr) hd h
end
end Go.Lg
