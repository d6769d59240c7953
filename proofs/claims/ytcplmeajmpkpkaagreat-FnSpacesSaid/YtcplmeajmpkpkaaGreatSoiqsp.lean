import Derived.RangeFuncRecord
import Derived.RangeFuncCalls
import Derived.OrdersIn
import Derived.TacticsIn
import Derived.Shelf.Bits.Mul64
import Derived.Shelf.SlSortCmp.WholeK
import Derived.Test.YtcplmeajmpkpkaaGreatClxqsp
import Derived.Test.YtcplmeajmpkpkaaGreatCobqsp
import Derived.Test.YtcplmeajmpkpkaaGreatDrwqsp
import Derived.Test.YtcplmeajmpkpkaaGreatDuaqsp
import Derived.Test.YtcplmeajmpkpkaaGreatElmqsp
import Derived.Test.YtcplmeajmpkpkaaGreatImgqsp
import Derived.Test.YtcplmeajmpkpkaaGreatKerqsp
import Derived.Test.YtcplmeajmpkpkaaGreatLCqsp
import Derived.Test.YtcplmeajmpkpkaaGreatLEqsp
import Derived.Test.YtcplmeajmpkpkaaGreatLGqsp
import Derived.Test.YtcplmeajmpkpkaaGreatLfnqsp
import Derived.Test.YtcplmeajmpkpkaaGreatLlsqsp
import Derived.Test.YtcplmeajmpkpkaaGreatLsoqsp
import Derived.Test.YtcplmeajmpkpkaaGreatLspqsp
import Derived.Test.YtcplmeajmpkpkaaGreatLwsqsp
import Derived.Test.YtcplmeajmpkpkaaGreatMorqsp
import Derived.Test.YtcplmeajmpkpkaaGreatMulqsp
import Derived.Test.YtcplmeajmpkpkaaGreatMxfqsp
import Derived.Test.YtcplmeajmpkpkaaGreatOpnqsp
import Derived.Test.YtcplmeajmpkpkaaGreatQuiqsp
import Derived.Test.YtcplmeajmpkpkaaGreatRdIqsp
import Derived.Test.YtcplmeajmpkpkaaGreatShrqsp
import Derived.Test.YtcplmeajmpkpkaaGreatSpaqsp
import Derived.Test.YtcplmeajmpkpkaaGreatStrqsp
import Derived.Test.YtcplmeajmpkpkaaGreatWhoqsp
namespace Go.Lg
open Go.RowKit
theorem y_eqlin [Dfs] {P : Program} {n : Nat} {C : World → Prop} {s : List (Nat × Value)} {x y : Operand} {p q : Int} {t t' ty : Nat} (hx : ev s x = some (.int .i64 p)) (hy : ev s y = some (.int .i64 q)) (h : ¬ p = q) : Y P n C s (.binOp .eql t x y t') ty (.bool false) := by
  have := y_eql (P := P) (n := n) (C := C) (s := s) (t := t) (t' := t') (ty := ty) hx hy
  rwa [decide_eq_false h] at this
theorem y_eqlie [Dfs] {P : Program} {n : Nat} {C : World → Prop} {s : List (Nat × Value)} {x y : Operand} {p q : Int} {t t' ty : Nat} (hx : ev s x = some (.int .i64 p)) (hy : ev s y = some (.int .i64 q)) (h : p = q) : Y P n C s (.binOp .eql t x y t') ty (.bool true) := by
  have := y_eql (P := P) (n := n) (C := C) (s := s) (t := t) (t' := t') (ty := ty) hx hy
  rwa [decide_eq_true h] at this
end Go.Lg

namespace Go.Lg
open Go.RowKit

def NO (Q : Exit → Act → World → Prop) : Prop := ∀ a w, ¬ Q .outgrown a w
theorem no_then {k : Act → World → Prop} {Q : Exit → Act → World → Prop} (h : NO Q) : NO (Exit.then k Q) := h
theorem no_blk {id : Nat} {Q : Exit → Act → World → Prop} (h : NO Q) : NO (Exit.inBlock id Q) := h
theorem no_out {Q : Exit → Act → World → Prop} (h : NO Q) : ¬ LetsOut Q := fun ⟨a, w, q⟩ => h a w q
abbrev FR (l : Nat) : Fence := Fence.wide.inRound l
theorem rows_in {P : Program} {row : String} {args : Array Value} {w : World} {R : Value → World → Prop} (h : Rows P row args w R) (l k : Nat) : RowsIn (FR l) k P row args w R :=
  fun c cs _ => let ⟨v, w', r, s⟩ := h c cs; ⟨v, w', r, stepsIn_wide.2 s⟩
section
variable {P : Program} {Q : Exit → Act → World → Prop} {ops : Array Oper}
theorem op_in {o : Oper} {a : Act} {w : World} {next : Act → World → Prop} (l k : Nat) (hd : ∀ c, o.op ≠ .defer c) (h : o.wp P a w next Q) : o.wpIn (FR l) k P a w next Q := by
  refine ⟨fun _ _ => trivial, ?_⟩
  rw [show (FR l).round = some l from rfl, Oper.semAt_some l _ _ hd]
  unfold Oper.wp at h
  generalize (execOp a.eval o).run P w = r at h ⊢
  cases r with
  | ok n w' =>
    cases n with
    | enter f args => exact ⟨(fun h' => by cases h'), CallsIn.inRound l (callsIn_wide.2 h)⟩
    | row row args => exact ⟨(fun h' => by cases h'), rows_in h l _⟩
    | round l' f tmps assign body => exact False.elim h
    | _ => exact h
  | halt x w' => cases x <;> exact h
theorem list_in (l k : Nat) (hQ : NO Q) : ∀ (rest : List Oper) (a : Act) (w : World), (∀ o ∈ rest, ∀ c, o.op ≠ .defer c) → wpList P ops Q rest a w → wpListIn (FR l) k P ops Q rest a w
  | [], _, _, _, h => h
  | o :: rest, a, w, hd, h => by
    unfold wpList at h
    unfold wpListIn
    split
    · rename_i hw
      rw [if_pos hw] at h
      rcases h with h | h
      · exact Oper.wpIn_mono (fun a w h => list_in l k hQ rest a w (fun o ho => hd o (List.mem_cons_of_mem _ ho)) h) (op_in l k (hd o List.mem_cons_self) h)
      · exact absurd h.2 (no_out hQ)
    · rename_i hw
      rw [if_neg hw] at h
      exact ⟨fun _ _ => trivial, list_in l k hQ rest _ w (fun o ho => hd o (List.mem_cons_of_mem _ ho)) h⟩
theorem wpOp_in {i : Nat} {K : Act → World → Prop} {a : Act} {w : World} (l k : Nat) (hQ : NO Q) (hd : ∀ o ∈ ops.toList, ∀ c, o.op ≠ .defer c) (h : wpOp P ops Q i K a w) : wpOpIn (FR l) k P ops Q i K a w := by
  unfold wpOp at h
  unfold wpOpIn
  cases ho : ops[i]? with
  | none => simpa [ho] using h
  | some o =>
    simp only [ho] at h ⊢
    have hm : o ∈ ops.toList := by
      have := List.mem_of_getElem? (l := ops.toList) (i := i) (by simpa using ho)
      exact this
    split
    · rename_i hw
      rw [if_pos hw] at h
      rcases h with h | h
      · exact op_in l k (hd o hm) h
      · exact absurd h.2 (no_out hQ)
    · rename_i hw
      rw [if_neg hw] at h
      exact ⟨fun _ _ => trivial, h⟩
theorem any_in (l k : Nat) (hQ : NO Q) (hd : ∀ o ∈ ops.toList, ∀ c, o.op ≠ .defer c) {md : Region.Mode} : ∀ (fuel : Nat) (listed : Array Bool) (a : Act) (w : World), wpAny P md ops Q fuel listed a w → wpAnyIn (FR l) k P md ops Q fuel listed a w
  | 0, _, _, _, h => h
  | fuel + 1, _, _, _, h => ⟨h.1, fun i hi => wpOpIn_mono (fun a' w' h' => any_in l k hQ hd fuel _ a' w' h') (wpOp_in l k hQ hd (h.2 i hi))⟩
end
def ndf (l : List Oper) : Bool := l.all (fun o => match o.op with | .defer _ => false | _ => true)
theorem ndf_ok {l : List Oper} (h : ndf l = true) : ∀ o ∈ l, ∀ c, o.op ≠ .defer c := fun o ho c e => by
  have := List.all_eq_true.1 h o ho
  rw [e] at this
  cases this
section
variable {P : Program} {n k l : Nat} {C : World → Prop} {s : List (Nat × Value)} {Q : Exit → Act → World → Prop}
theorem ci_seq [Dfs] {x y : Code} (h : AT n C s (x.wpIn (FR l) k P (Exit.then (y.wpIn (FR l) k P Q) Q))) : AT n C s ((Code.seq x y).wpIn (FR l) k P Q) := fun a w f c => wpIn_seq (h a w f c)
theorem ci_block [Dfs] {id : Nat} {x : Code} (h : AT n C s (x.wpIn (FR l) k P (Exit.inBlock id Q))) : AT n C s ((Code.block id x).wpIn (FR l) k P Q) := fun a w f c => wpIn_block (h a w f c)
theorem ci_skip [Dfs] (h : AT n C s (Q .normal)) : AT n C s (Code.skip.wpIn (FR l) k P Q) := fun a w f c => wpIn_skip (h a w f c)
theorem ci_exit [Dfs] {id : Nat} (h : AT n C s (Q (.exit id))) : AT n C s ((Code.exit id).wpIn (FR l) k P Q) := fun a w f c => wpIn_exit (h a w f c)
theorem ci_region [Dfs] {id : Nat} {ops : List Oper} (hn : NO Q) (hd : ndf ops = true) (h : AT n C s (wpList P ops.toArray Q ops)) : AT n C s ((Code.region id ops.toArray false).wpIn (FR l) k P Q) := fun a w f c => wpIn_region_lit (list_in l k hn ops a w (ndf_ok hd) (h a w f c))
theorem ci_if [Dfs] {x : Operand} {y z : Code} {p : Prop} [Decidable p] (hx : ev s x = some (.bool (decide p))) (ht : p → AT n C s (y.wpIn (FR l) k P Q)) (hf : ¬ p → AT n C s (z.wpIn (FR l) k P Q)) : AT n C s ((Code.cond x y z).wpIn (FR l) k P Q) := fun a w f c => by
  refine wpIn_cond (f.ev hx) ?_
  by_cases hp : p
  · simpa [hp] using ht hp a w f c
  · simpa [hp] using hf hp a w f c
theorem ci_ift [Dfs] {x : Operand} {p : Prop} [Decidable p] {y z : Code} (hx : ev s x = some (.bool (decide p))) (hp : p) (h : AT n C s (y.wpIn (FR l) k P Q)) : AT n C s ((Code.cond x y z).wpIn (FR l) k P Q) := ci_if hx (fun _ => h) (fun hn => absurd hp hn)
theorem ci_iff [Dfs] {x : Operand} {p : Prop} [Decidable p] {y z : Code} (hx : ev s x = some (.bool (decide p))) (hp : ¬ p) (h : AT n C s (z.wpIn (FR l) k P Q)) : AT n C s ((Code.cond x y z).wpIn (FR l) k P Q) := ci_if hx (fun hn => absurd hn hp) (fun _ => h)
theorem ci_mixR [Dfs] (S : World → Prop) (j : Nat) {id : Nat} {ops : List Oper} (hn : NO Q) (hd : ndf ops = true) (hm : P.follows .mixedOrders = true) (hb : backB .any (ops.take j) = true) (hl : lastR .any (ops.take j).length (ops.take j ++ ops.drop j).toArray = true)
    (hc : Region.chainB .any (ops.take j ++ ops.drop j).toArray (ops.take j).length = true) (hs : Region.seqB .any (ops.take j ++ ops.drop j).toArray (ops.drop j).length (ops.take j).length (pad (Array.replicate (ops.take j).length true) (ops.drop j).length) = true)
    (hC : ∀ w, C w → C { w with drawn := w.drawn + 1 })
    (h : AT n C s (wpAnyH P .any (ops.take j).toArray (Qn (wpList P ops.toArray Q (ops.drop j))) S (ops.take j).length (Array.replicate (ops.take j).length false))) : AT n C s ((Code.region id ops.toArray true).wpIn (FR l) k P Q) := fun a w f c => by
  have e : ops.take j ++ ops.drop j = ops := List.take_append_drop j ops
  refine wpIn_region_any hm (any_in l k hn (by simpa using ndf_ok hd) _ _ _ _ ?_)
  have h1 := wpAny_of_held _ _ _ _ (h a _ f (hC w c))
  have h2 := any_tail2R (md := .any) (Q' := Q) (tail := ops.drop j) (m := (ops.drop j).length) hb hl hc (fun g a' w' hk => any_seq g (ops.drop j) (ops.take j).length _ a' w' (fun i => by simp only [List.getElem?_toArray]; rw [List.getElem?_append_right om]; congr 1; omega) hs (by rw [e]; exact hk)) (ops.take j).length _ a _ (by simp) closed_none h1
  have e1 : pad (Array.replicate (ops.take j).length false) (ops.drop j).length = Array.replicate ops.toArray.size false := by
    apply Array.ext'
    simp only [pad, Array.toList_append, Array.toList_replicate, List.replicate_append_replicate, ← List.length_append, e]
    rfl
  rw [e1, e, ← List.length_append, e] at h2
  exact h2
theorem wpIn_loop_ghost {α : Type} {c : Code} {I : α → Act → World → Prop} {m : α → Nat}
    (round : ∀ x a w, I x a w → c.wpIn (FR l) k P (Exit.then (fun a' w' => ∃ y, I y a' w' ∧ m y < m x) Q) a w) (x : α) (a : Act) (w : World) (h : I x a w) : (Code.loop c).wpIn (FR l) k P Q a w := by
  intro b t cs hro hb hr
  have main : ∀ j x a w, m x < j → I x a w → ∃ e a' w', Q e a' w' ∧ ArrivesIn (Machine.fenced P (FR l)) P (lone (b.atR a (.code c :: .inLoop c :: t)) cs w) b t cs e a' w' := by
    intro j
    induction j with
    | zero => intro x a w hk; omega
    | succ j ih =>
      intro x a w hk hI
      obtain ⟨e, a1, w1, hq, harr⟩ := round x a w hI b (.inLoop c :: t) cs hro hb hr
      cases e with
      | normal =>
        obtain ⟨y, hy, hlt⟩ := hq
        obtain ⟨e2, a2, w2, hq2, harr2⟩ := ih y a1 w1 om hy
        exact ⟨e2, a2, w2, hq2, .of_steps (StepsIn.trans harr (.one (fenced_calm hb hr rfl) stepR_inLoop)) harr2⟩
      | exit id => exact ⟨_, a1, w1, hq, .pass (x := .inLoop c) rfl (fun _ _ => .inl (by simp)) harr⟩
      | goto l => exact ⟨_, a1, w1, hq, .pass (x := .inLoop c) rfl (fun _ _ => .inl (by simp)) harr⟩
      | ret => exact ⟨_, a1, w1, hq, .pass (x := .inLoop c) rfl (fun _ _ => .inl (by simp)) harr⟩
      | panic ch => exact ⟨_, a1, w1, hq, .pass (x := .inLoop c) rfl (fun _ _ => .inl (by simp)) harr⟩
      | outgrown => exact ⟨_, a1, w1, hq, .pass (x := .inLoop c) rfl (fun _ _ => .inl (by simp)) harr⟩
  obtain ⟨e, a', w', hq, harr⟩ := main (m x + 1) x a w om h
  exact ⟨e, a', w', hq, .of_steps (.one (fenced_calm hb hr rfl) stepR_loop) harr⟩
theorem ci_loop [Dfs] {α : Type} (S : α → List (Nat × Value)) (D : α → World → Prop) (m : α → Nat) {c : Code} (x0 : α) (h0 : Sub (S x0) s) (hC : ∀ w, C w → D x0 w)
    (round : ∀ x, AT n (D x) (S x) (c.wpIn (FR l) k P (Exit.then (Again n S D m x) Q))) : AT n C s ((Code.loop c).wpIn (FR l) k P Q) := fun a w f hc =>
  wpIn_loop_ghost (I := fun x a w => Fr n (S x) a ∧ D x w) (m := m) (fun x a w h => Code.wpIn_mono (fun e a w hq => by
    cases e with
    | normal => obtain ⟨y, g1, g2, g3⟩ := hq; exact ⟨y, ⟨g1, g2⟩, g3⟩
    | _ => exact hq) (round x a w h.1 h.2)) x0 a w ⟨f.sub h0, hC w hc⟩
theorem ci_loopH [Dfs] {α : Type} {M : List Nat} {w0 : World} {H : List HE} (ks : List Nat) (ch : α → List (Nat × Value)) (pu : α → Prop) (pc : α → List HE) (m : α → Nat) {c : Code} (x0 : α) {vs : List Value} (hk : lks s ks = some vs) (h0 : Sub (ch x0) s) (hp : pu x0) (hC : ∀ w, Hp M w0 H w → Hp M w0 (pc x0) w)
    (round : ∀ x, pu x → AT n (Hp M w0 (pc x)) (ch x ++ zk ks vs) (c.wpIn (FR l) k P (Exit.then (Again n (fun x => ch x ++ zk ks vs) (fun x w => pu x ∧ Hp M w0 (pc x) w) m x) Q))) : AT n (Hp M w0 H) s ((Code.loop c).wpIn (FR l) k P Q) :=
  ci_loop (fun x => ch x ++ zk ks vs) (fun x w => pu x ∧ Hp M w0 (pc x) w) m x0 (h0.app (zk_sub hk)) (fun w c => ⟨hp, hC w c⟩) (fun x => AT.pr (round x))
end
def HpF (M : List Nat) (w0 : World) (H : List HE) (fp : List Nat) (w : World) : Prop := satL w H fp ∧ fp.Nodup ∧ (∀ b ∈ fp, b ∈ M ∨ w0.heap.size ≤ b) ∧ Kept M w0 w
section
variable {M fp : List Nat} {w0 w w' : World} {H H' : List HE}
theorem Hp.name (h : Hp M w0 H w) : ∃ fp, HpF M w0 H fp w := h
theorem HpF.hp (h : HpF M w0 H fp w) : Hp M w0 H w := ⟨fp, h⟩
theorem HpF.lent (h : HpF M w0 H fp w) : Hp fp w H w := ⟨fp, h.1, h.2.1, fun _ hb => .inl hb, Kept.refl⟩
theorem HpF.lt (h : HpF M w0 H fp w) : ∀ b ∈ fp, b < w.heap.size := h.1.lt
theorem HpF.back (h : HpF M w0 H fp w) {fp' : List Nat} (h' : HpF fp w H' fp' w') : HpF M w0 H' fp' w' := by
  obtain ⟨s, nd, ge, kp⟩ := h
  obtain ⟨s', nd', ge', kp'⟩ := h'
  refine ⟨s', nd', fun b hb => ?_, kp'.os.trans kp.os, kp'.tape.trans kp.tape, kp'.output.trans kp.output, Nat.le_trans kp.size kp'.size, fun j hj hm => ?_⟩
  · rcases ge' b hb with h | h
    · exact ge b h
    · exact .inr (Nat.le_trans kp.size h)
  · rw [kp'.block j (Nat.lt_of_lt_of_le hj kp.size) (fun hf => ?_)]
    · exact kp.block j hj hm
    · rcases ge j hf with h | h
      · exact hm h
      · omega
theorem HpF.rest (h : HpF M w0 H fp w) (h' : Hp fp w H' w') : Hp M w0 H' w' := by
  obtain ⟨fp', h'⟩ := h'
  exact (h.back h').hp
theorem HpF.still {fp' : List Nat} (h' : HpF fp w H' fp' w') {b : Nat} {o : Obj} (hb : w.heap[b]? = some o) (hn : b ∉ fp) : w'.heap[b]? = some o ∧ b ∉ fp' := by
  have hlt := (Array.getElem?_eq_some_iff.1 hb).1
  refine ⟨(h'.2.2.2.block b hlt hn).trans hb, fun hf => ?_⟩
  rcases h'.2.2.1 b hf with h | h
  · exact hn h
  · omega
theorem HpF.put (h : HpF M w0 H fp w) {l : Nat} (o : Obj) (hl : l ∉ fp) (hw : w0.heap.size ≤ l ∨ l ∈ M) : HpF M w0 H fp (w.putObj l o) := by
  obtain ⟨s, nd, ge, kp⟩ := h
  refine ⟨s.loc (fun b hb => World.putObj_heap_other (fun e => hl (e ▸ hb))), nd, ge, kp.os, kp.tape, kp.output, by rw [World.putObj_size]; exact kp.size, fun j hj hm => ?_⟩
  rw [World.putObj_heap_other (fun e => by
    subst e
    rcases hw with h | h
    · omega
    · exact hm h)]
  exact kp.block j hj hm
theorem HpF.lay (h : HpF M w0 H fp w) (o : Obj) : HpF M w0 H fp (w.alloc o) ∧ (w.alloc o).heap[w.heap.size]? = some o ∧ w.heap.size ∉ fp := by
  obtain ⟨s, nd, ge, kp⟩ := h
  have hb : Below w.heap.size w (w.alloc o) := (Below.refl _ _).alloc (Nat.le_refl _) _
  refine ⟨⟨s.loc (fun b hm => hb.block b (s.lt b hm)), nd, ge, ⟨hb.os.trans kp.os, hb.tape.trans kp.tape, hb.output.trans kp.output, Nat.le_trans kp.size hb.size, fun j hj hm => ?_⟩⟩, World.alloc_heap_new w o, fun hm => Nat.lt_irrefl _ (s.lt _ hm)⟩
  rw [hb.block j (Nat.lt_of_lt_of_le hj kp.size)]
  exact kp.block j hj hm
end
end Go.Lg

namespace Go.Lg
open Go.RowKit
def HpX (X : List (Nat × Obj)) (M : List Nat) (w0 : World) (H : List HE) (w : World) : Prop := ∃ fp, HpF M w0 H fp w ∧ ∀ x ∈ X, x.1 ∉ fp ∧ w0.heap.size ≤ x.1 ∧ w.heap[x.1]? = some x.2
section
variable {P : Program} {n : Nat} {s : List (Nat × Value)} {R : Act → World → Prop} {M : List Nat} {w0 : World} {H : List HE}
theorem AT.lend [Dfs] {X : List (Nat × Obj)} (h : ∀ fp w1, HpF M w0 H fp w1 → (∀ x ∈ X, x.1 ∉ fp ∧ w0.heap.size ≤ x.1 ∧ w1.heap[x.1]? = some x.2) → AT n (Hp fp w1 H) s R) : AT n (HpX X M w0 H) s R :=
  fun a w f ⟨fp, h1, h2⟩ => h fp w h1 h2 a w f h1.lent
theorem HpX.back {X Y : List (Nat × Obj)} {fp : List Nat} {w1 w' : World} {H' : List HE} (h : HpF M w0 H fp w1) (hX : ∀ x ∈ X, x.1 ∉ fp ∧ w0.heap.size ≤ x.1 ∧ w1.heap[x.1]? = some x.2) (h' : HpX Y fp w1 H' w') : HpX (Y ++ X) M w0 H' w' := by
  obtain ⟨fp', h1, h2⟩ := h'
  refine ⟨fp', h.back h1, fun x hx => ?_⟩
  rcases List.mem_append.1 hx with hx | hx
  · obtain ⟨a1, a2, a3⟩ := h2 x hx
    exact ⟨a1, Nat.le_trans h.2.2.2.size a2, a3⟩
  · obtain ⟨a1, a2, a3⟩ := hX x hx
    obtain ⟨b1, b2⟩ := h1.still a3 a1
    exact ⟨b2, a2, b1⟩
theorem HpX.none {w : World} (h : Hp M w0 H w) : HpX [] M w0 H w := by
  obtain ⟨fp, h⟩ := h
  exact ⟨fp, h, fun x hx => by cases hx⟩
theorem HpX.hp {X : List (Nat × Obj)} {w : World} (h : HpX X M w0 H w) : Hp M w0 H w := by
  obtain ⟨fp, h, _⟩ := h
  exact h.hp
end
section
variable {P : Program} {n k : Nat} {C : World → Prop} {s : List (Nat × Value)} {Q : Exit → Act → World → Prop} {ops : Array Oper} {rest : List Oper} {d ty : Nat} {op : Op} {pos : String} {af : Array Edge} {v : Value}
theorem c_regionY [Dfs] {id : Nat} {l : List Oper} (h : AT n C s (wpListIn Fence.wide 0 P l.toArray Q l)) : AT n C s ((Code.region id l.toArray false).wp P Q) := fun a w f c => wpIn_wide.1 (wpIn_region_lit (h a w f c))
theorem y_nil [Dfs] (h : AT n C s (Q .normal)) : AT n C s (wpListIn Fence.wide 0 P ops Q []) := h
theorem sy_y [Dfs] (hy : Y P n C s op ty v) (hnd : ∀ c, op ≠ .defer c) (hd : Nat.blt d n = true) (h : AT n C ((d, v) :: s) (wpListIn Fence.wide 0 P ops Q rest)) :
    AT n C s (wpListIn Fence.wide 0 P ops Q (⟨some d, op, ty, pos, af, none⟩ :: rest)) := fun a w f c => by
  unfold wpListIn
  rw [if_pos (by simp [Region.wanted])]
  refine ⟨fun _ _ => trivial, ?_⟩
  rw [show Fence.wide.round = none from rfl, Oper.semAt_eq none _ _ hnd, hy a w f c]
  exact h _ _ (f.put (by simpa [Nat.blt_eq] using hd) v) c
def rPost {A : Type} (M : List Nat) (w0 : World) (H : A → List HE) : Exit → Act → World → Prop
  | .normal, _, w => ∃ x, Hp M w0 (H x) w
  | _, _, _ => False
theorem no_rPost {A : Type} {M : List Nat} {w0 : World} {H : A → List HE} : NO (rPost M w0 H) := fun _ _ h => h
theorem x_round [Dfs] {A : Type} {M : List Nat} {w0 : World} {H : A → List HE} (x : A) (h : ∀ w, C w → Hp M w0 (H x) w) : AT n C s (rPost M w0 H .normal) := fun _ w _ c => ⟨x, h w c⟩
theorem round_ok {A : Type} {l : Nat} {rc : Loop} {M : List Nat} {W : World} {H : List HE} {H' : A → List HE} {s0 s1 : List (Nat × Value)} {T : Array Value} (hl : W.heap[l]? = some (.loop rc)) (hlM : l ∉ M) (hst : rc.state = .ready) (hpe : rc.pending = none) (hfr : Fr n s0 { tmps := T, defers := [] })
    (hassign : ∀ K : Act → World → Prop, AT n (Hp M W H) s1 K → AT n (Hp M W H) s0 (rc.assign.wpIn (FR l) k P (Exit.then K (fun _ _ _ => False))))
    (hbody : ∀ M1 w2, AT n (Hp M1 w2 H) s1 (rc.body.wpIn (FR l) k P (rPost M1 w2 H')))
    {w : World} (hw : Hp M W H w) : RoundIn Fence.wide k P l rc.fn T rc.assign rc.body w (fun e w' => e = .returned (.bool true) ∧ ∃ x, Hp M W (H' x) w') := by
  refine roundIn_of_wpIn trivial (hassign _ (fun a1 w1 f1 c1 => ?_) _ w hfr hw)
  obtain ⟨fp, c1⟩ := c1
  have hlt := (Array.getElem?_eq_some_iff.1 hl).1
  have h1 : w1.heap[l]? = some (.loop rc) := (c1.2.2.2.block l hlt hlM).trans hl
  have hlf : l ∉ fp := fun hm => by
    rcases c1.2.2.1 l hm with h | h
    · exact hlM h
    · omega
  refine ⟨_, run_beginRound h1 hst, ?_⟩
  have h2 : (w1.putObj l (.loop { rc with state := .busy })).heap[l]? = some (.loop { rc with state := .busy }) := World.putObj_heap_same (Array.getElem?_eq_some_iff.1 h1).1
  have hsat : satL (w1.putObj l (.loop { rc with state := .busy })) H fp := c1.1.loc (fun b hb => World.putObj_heap_other (fun e => hlf (e ▸ hb)))
  refine Go.wpIn_mono (hbody fp _ a1 _ f1 ⟨fp, hsat, c1.2.1, fun _ hb => .inl hb, Kept.refl⟩) (fun e a2 w3 q => ?_)
  cases e with
  | normal =>
    obtain ⟨x, fp', q⟩ := q
    obtain ⟨h3, hlf'⟩ := HpF.still q h2 hlf
    refine ⟨_, _, run_endRound none h3, rfl, x, fp', ?_⟩
    have hrc : ({ { rc with state := .busy } with state := if (none : Option Code).isNone then .ready else .done, pending := none } : Loop) = rc := by
      cases rc; simp_all
    rw [hrc]
    obtain ⟨s3, nd3, ge3, kp3⟩ := q
    refine ⟨s3.loc (fun b hb => World.putObj_heap_other (fun e => hlf' (e ▸ hb))), nd3, fun b hb => ?_, kp3.os.trans c1.2.2.2.os, kp3.tape.trans c1.2.2.2.tape, kp3.output.trans c1.2.2.2.output, ?_, fun j hj hm => ?_⟩
    · rcases ge3 b hb with h | h
      · exact c1.2.2.1 b h
      · rw [World.putObj_size] at h
        exact .inr (Nat.le_trans c1.2.2.2.size h)
    · have := kp3.size
      rw [World.putObj_size] at this ⊢
      exact Nat.le_trans c1.2.2.2.size this
    · have hjs : j < (w1.putObj l (.loop { rc with state := .busy })).heap.size := by
        rw [World.putObj_size]; exact Nat.lt_of_lt_of_le hj c1.2.2.2.size
      by_cases hjl : j = l
      · subst hjl
        rw [World.putObj_heap_same (Array.getElem?_eq_some_iff.1 h3).1, hl]
      · rw [World.putObj_heap_other hjl, kp3.block j hjs (fun hf => ?_), World.putObj_heap_other hjl]
        · exact c1.2.2.2.block j hj hm
        · rcases c1.2.2.1 j hf with h | h
          · exact hm h
          · omega
  | _ => exact False.elim q
theorem my_yield [Dfs] {A : Type} {l : Nat} {rc : Loop} {M : List Nat} {W : World} {H : List HE} {H' : A → List HE} {x y : Operand} {at' : Array Nat} (hl : W.heap[l]? = some (.loop rc)) (hlM : l ∉ M) (hx : ev s x = some (.func (.yield l) #[] #[])) (hy : ev s y = some v) (hps : rc.params.size = 1) (hd : Nat.blt d n = true)
    (hr : ∀ w, Hp M W H w → RoundIn Fence.wide 0 P l rc.fn ((rc.params.zip #[v]).foldl (fun t (p, u) => t.setIfInBounds p u) rc.tmps) rc.assign rc.body w (fun e w' => e = .returned (.bool true) ∧ ∃ x, Hp M W (H' x) w'))
    (h : ∀ x, AT n (Hp M W (H' x)) ((d, .bool true) :: s) (wpListIn Fence.wide 0 P ops Q rest)) :
    AT n (Hp M W H) s (wpListIn Fence.wide 0 P ops Q (⟨some d, .call ⟨.value x, #[y], at'⟩, ty, pos, af, none⟩ :: rest)) := fun a w f c => by
  unfold wpListIn
  rw [if_pos (by simp [Region.wanted])]
  refine ⟨fun _ _ => trivial, ?_⟩
  have h1 : w.heap[l]? = some (.loop rc) := (c.kept.block l (Array.getElem?_eq_some_iff.1 hl).1 hlM).trans hl
  have hrun : (execOp a.eval ⟨some d, .call ⟨.value x, #[y], at'⟩, ty, pos, af, none⟩).run P w = .ok (.round l rc.fn ((rc.params.zip #[v]).foldl (fun t (p, u) => t.setIfInBounds p u) rc.tmps) rc.assign rc.body) w := by
    have := run_yield (P := P) (args := #[v]) h1 (by simp [hps])
    have e : (execOp a.eval ⟨some d, .call ⟨.value x, #[y], at'⟩, ty, pos, af, none⟩).run P w = (Instr.yield l #[v]).run P w := by
      simp [execOp, resolve, invoke, Deferred.ofValue, f.ev hx, f.ev hy]
    exact e.trans this
  rw [show Fence.wide.round = none from rfl, Oper.semAt_eq none _ _ (by simp), hrun]
  refine ⟨(fun h' => by cases h'), (hr w c).mono (fun e w' he => ?_)⟩
  obtain ⟨rfl, x, hp⟩ := he
  exact h x _ _ (f.put (by simpa [Nat.blt_eq] using hd) _) hp
end
def mark (D : Nat) : Deferred := { target := .collected D, args := #[] }
section
variable {P : Program} {n k : Nat} {C : World → Prop} {s : List (Nat × Value)} {Q : Exit → Act → World → Prop}
theorem Fr.round {D : Dfs} {a : Act} (f : @Fr D n s a) : @Fr dfs0 n s { tmps := a.tmps, defers := [] } := @Fr.mk dfs0 n s _ (@Fr.size D n s a f) rfl (@Fr.has D n s a f)
theorem c_rangeFunc {A : Type} {ds : List Deferred} {g : Operand} {pt gf : Nat} {assign body : Code} {lb : Array Value} {M : List Nat} {w0 : World} {H : List HE} {H' : A → List HE} (hg : ev s g = some (.func (.func gf) #[] lb)) (eg : ∀ args w, (callFunc gf args).run P w = .ok (.enter gf args) w)
    (hcall : ∀ (l D fn : Nat) (T : Array Value) (M1 : List Nat) (W : World), W.heap[l]? = some (.loop { state := .ready, pending := none, fn := fn, tmps := T, params := #[pt], assign := assign, body := body, defers := D }) → l ∉ M1 → @Fr dfs0 n s { tmps := T, defers := [] } → Hp M1 W H W →
      Calls P gf (#[.func (.yield l) #[] #[]] ++ lb) W (fun e w' => (∃ v, e = .returned v) ∧ ∃ x, Hp M1 W (H' x) w'))
    (h : ∀ D x, w0.heap.size ≤ D → @AT ⟨mark D :: ds⟩ n (HpX [(D, .deferred (some []))] M w0 (H' x)) s (Q .normal)) : @AT ⟨ds⟩ n (Hp M w0 H) s ((Code.rangeFunc g #[pt] assign body).wp P Q) := fun a w f c => by
  letI : Dfs := ⟨ds⟩
  obtain ⟨fp, c⟩ := c
  have c : HpF M w0 H fp w := c
  refine wpIn_wide.1 (wpIn_rangeFunc (F := Fence.wide) (n := 0) (fun fn _ => ?_))
  obtain ⟨k1, k2, k3⟩ := c.lay (.deferred (some []))
  obtain ⟨j1, j2, j3⟩ := k1.lay (.loop { state := .ready, pending := none, fn := fn, tmps := a.tmps, params := #[pt], assign := assign, body := body, defers := w.heap.size })
  rw [World.size_alloc] at j2 j3
  have k4 : ((w.alloc (.deferred (some []))).alloc (.loop { state := .ready, pending := none, fn := fn, tmps := a.tmps, params := #[pt], assign := assign, body := body, defers := w.heap.size })).heap[w.heap.size]? = some (.deferred (some [])) := (Below.heap_alloc _ _ _ (by simp)).trans k2
  obtain ⟨W, hW⟩ : ∃ W, W = (w.alloc (.deferred (some []))).alloc (.loop { state := .ready, pending := none, fn := fn, tmps := a.tmps, params := #[pt], assign := assign, body := body, defers := w.heap.size }) := ⟨_, rfl⟩
  refine ⟨w.heap.size + 1, [mark w.heap.size], W, { target := .fn (.func gf) lb, args := #[.func (.yield (w.heap.size + 1)) #[] #[]] }, W, gf, #[.func (.yield (w.heap.size + 1)) #[] #[]] ++ lb, W, ?_, ?_, fun _ _ => trivial, ?_, (fun h' => by cases h'), callsIn_wide.2 ?_⟩
  · rw [hW]; exact run_enterLoop_outer _ _ _ _ _
  · simp only [resolve, f.ev hg]
    simp [go_sem]
  · simp [invoke, go_sem, eg]
  · rw [← hW] at j1 j2 k4
    refine (hcall _ _ _ _ fp W j2 j3 (Fr.round (D := ⟨ds⟩) f) j1.lent).mono ?_
    rintro e w3 ⟨⟨v, rfl⟩, x, fp', q⟩
    obtain ⟨a1, a2⟩ := HpF.still q j2 j3
    obtain ⟨b1, b2⟩ := HpF.still q k4 k3
    refine ⟨none, _, run_endLoop a1 (by simp), ?_⟩
    refine h w.heap.size x c.2.2.2.size _ _ (@Fr.mk ⟨mark w.heap.size :: ds⟩ n s _ f.size (by rw [show a.defers = ds from f.dfr]; rfl) f.has) ⟨fp', ((j1.back q).put _ a2 (.inl (Nat.le_trans c.2.2.2.size (Nat.le_succ _)))), fun x hx => ?_⟩
    simp only [List.mem_singleton] at hx
    subst hx
    exact ⟨b2, c.2.2.2.size, by rw [World.putObj_heap_other (by simp)]; exact b1⟩
theorem fn_enterM {f : Nat} {fn : Func} {c : Code} {vs : List Value} {w : World} {φ : Value → List HE → Prop} (hf : P.funcs[f]? = some fn) (hb : fn.body = some c) (hn : fn.ntmps = n) (hs : Nat.ble vs.length n = true)
    (h : AT n (Hp [] w []) (en 0 vs) (c.wp P (bodyPostM Fence.wide 0 P fn (fun e w' => ∃ v H, e = .returned v ∧ φ v H ∧ Hp [] w H w')))) : Does P f vs w φ := by
  refine callsIn_wide.1 (callsIn_of_wp_marks hf hb trivial (wpIn_wide.2 (h _ _ ⟨?_, rfl, fun k v hk => ?_⟩ Hp.nil)))
  · have := Nat.le_of_ble_eq_true hs
    simp [hn]; omega
  · obtain ⟨_, h2⟩ := lk_en hk
    simp only [Nat.sub_zero] at h2
    have := (List.getElem?_eq_some_iff.1 h2).1
    rw [Array.getElem?_append_left (by simpa using this)]
    simpa using h2
theorem leaves_marks {fn : Func} {T : Array Value} {v : Value} {R : Ending → World → Prop} : ∀ (bs : List Nat), bs.Nodup → ∀ w, (∀ b ∈ bs, w.heap[b]? = some (.deferred (some []))) → (∀ w', (∀ j, j ∉ bs → w'.heap[j]? = w.heap[j]?) → w'.heap.size = w.heap.size → w'.os = w.os → w'.tape = w.tape → w'.output = w.output → (results fn T).run P w' = .ok v w' ∧ R (.returned v) w') →
    LeavesInM Fence.wide 0 P fn T R (bs.map mark) .returning w
  | [], _, w, _, h => ⟨v, h w (fun _ _ => rfl) rfl rfl rfl rfl⟩
  | b :: bs, hn, w, hb, h => by
    obtain ⟨hnb, hn⟩ := List.nodup_cons.1 hn
    refine ⟨by simp, .inl ⟨b, _, rfl, run_takeDeferred (hb b List.mem_cons_self), leaves_marks (v := v) bs hn _ (fun j hj => ?_) (fun w' h1 h2 h3 h4 h5 => ?_)⟩⟩
    · have hne : j ≠ b := fun e => by subst e; exact hnb hj
      rw [World.putObj_heap_other hne]
      exact hb j (List.mem_cons_of_mem _ hj)
    · refine h w' (fun j hj => ?_) (by rw [h2, World.putObj_size]) h3 h4 h5
      have hne : j ≠ b := fun e => by subst e; exact hj List.mem_cons_self
      rw [h1 j (fun hm => hj (List.mem_cons_of_mem _ hm)), World.putObj_heap_other hne]
theorem c_loopD {α : Type} {Dm : α → List Deferred} (ks : List Nat) (ch : α → List (Nat × Value)) (D : α → World → Prop) (m : α → Nat) {c : Code} (x0 : α) {vs : List Value} (hk : lks s ks = some vs) (h0 : Sub (ch x0) s) (hC : ∀ w, C w → D x0 w)
    (round : ∀ x, @AT ⟨Dm x⟩ n (D x) (ch x ++ zk ks vs) (c.wp P (Exit.then (fun a w => ∃ y, @Fr ⟨Dm y⟩ n (ch y ++ zk ks vs) a ∧ D y w ∧ m y < m x) Q))) : @AT ⟨Dm x0⟩ n C s ((Code.loop c).wp P Q) := fun a w f hc =>
  wp_loop_ghost (I := fun x a w => @Fr ⟨Dm x⟩ n (ch x ++ zk ks vs) a ∧ D x w) (m := m) (fun x a w h => Code.wp_mono (fun e a w hq => by
    cases e with
    | normal => obtain ⟨y, g1, g2, g3⟩ := hq; exact ⟨y, ⟨g1, g2⟩, g3⟩
    | _ => exact hq) (round x a w h.1 h.2)) x0 a w ⟨@Fr.sub ⟨Dm x0⟩ _ _ _ _ f (h0.app (zk_sub hk)), hC w hc⟩
theorem x_nxD {α : Type} {Dm : α → List Deferred} {S : α → List (Nat × Value)} {D : α → World → Prop} {m : α → Nat} {x : α} (y : α) (hs : Sub (S y) s) (hC : ∀ w, C w → D y w) (hm : m y < m x) :
    @AT ⟨Dm y⟩ n C s (fun a w => ∃ y, @Fr ⟨Dm y⟩ n (S y) a ∧ D y w ∧ m y < m x) := fun _ w f c => ⟨y, @Fr.sub ⟨Dm y⟩ _ _ _ _ f hs, hC w c, hm⟩
theorem x_retM {bs : List Nat} {fn : Func} {φ : Value → List HE → Prop} {fp : List Nat} {w0 w1 : World} {H0 H : List HE} {r1 : ResultVar} {v : Value} (hf : fn.results = #[r1]) (hr : ∃ t, r1 = .tmp t ∧ lk s t = some v) (hnd : bs.Nodup)
    (h1 : HpF [] w0 H0 fp w1) (hX : ∀ b ∈ bs, b ∉ fp ∧ w0.heap.size ≤ b ∧ w1.heap[b]? = some (.deferred (some []))) (hC : ∀ w, C w → Hp fp w1 H w) (hφ : φ v H) :
    @AT ⟨bs.map mark⟩ n C s (bodyPostM Fence.wide 0 P fn (fun e w' => ∃ v H, e = .returned v ∧ φ v H ∧ Hp [] w0 H w') .ret) := fun a w f c => by
  letI : Dfs := ⟨bs.map mark⟩
  obtain ⟨fp', q⟩ := hC w c
  show LeavesInM Fence.wide 0 P fn a.tmps _ a.defers .returning w
  rw [show a.defers = bs.map mark from f.dfr]
  have hst := fun b hb => HpF.still q (hX b hb).2.2 (hX b hb).1
  refine leaves_marks (v := v) bs hnd w (fun b hb => (hst b hb).1) (fun w' g1 g2 g3 g4 g5 => ⟨?_, v, H, rfl, hφ, fp', ?_⟩)
  · obtain ⟨t, rfl, ht⟩ := hr
    rw [results1 hf]
    simp [resM, Array.getD_eq_getD_getElem?, f.has _ _ ht]
  · obtain ⟨s3, nd3, ge3, kp3⟩ := h1.back q
    refine ⟨s3.loc (fun b hb => g1 b (fun hm => (hst b hm).2 hb)), nd3, ge3, g3.trans kp3.os, g4.trans kp3.tape, g5.trans kp3.output, by rw [g2]; exact kp3.size, fun j hj hm => ?_⟩
    rw [g1 j (fun hb => by have := (hX j hb).2.1; omega)]
    exact kp3.block j hj hm
end
section
variable {P : Program} {n : Nat} {s : List (Nat × Value)} {Q : Exit → Act → World → Prop} {ops : Array Oper} {rest : List Oper} {d ty t : Nat} {pos : String} {af : Array Edge} {v : Value} {x y : Operand} {M : List Nat} {w0 : World} {H : List HE}
theorem m_alloc1 [Dfs] {e : Nat} {z : Value} (hz : ∀ w, (zeroValue e).run P w = .ok z w) (hc : z.cells = #[z]) (hd : Nat.blt d n = true)
    (h : ∀ b, w0.heap.size ≤ b → AT n (Hp M w0 (.blk b #[z] e :: H)) ((d, .pointer (some ⟨b, 0, none⟩)) :: s) (wpList P ops Q rest)) :
    AT n (Hp M w0 H) s (wpList P ops Q (⟨some d, .alloc e, ty, pos, af, none⟩ :: rest)) := fun a w f c => by
  refine wpList_one rfl ?_
  unfold Oper.wp
  have : (execOp a.eval ⟨some d, .alloc e, ty, pos, af, none⟩).run P w = .ok (.value (.pointer (some ⟨w.heap.size, 0, none⟩))) (w.alloc (.cells #[z] e)) := by
    simp [execOp, Instr.alloc, hz, newVar, newRow, hc]
  rw [this]
  exact h _ c.kept.size _ _ (f.put (by simpa [Nat.blt_eq] using hd) _) (c.alloc _ _)
theorem m_pushk [Dfs] (i : Nat) (T0 : Tabs P) {e g e' k b c m' : Nat} {z us news : List Value} (ht : lk T0.sl t = some (e, k, b, z)) (hi : H[i]? = some (.own (.s e k (us.map T.c)) v)) (hx : ev s x = some v) (hy : ev s y = some (.slice (some ⟨g, 0, none⟩) 1 c)) (hd : Nat.blt d n = true)
    (hk : news.length = k) (hu : ∀ u ∈ news, u.oneCell' = true) (hm : us.length = m' * k) (hb : (us.length + k) * b ≤ 140737488355328) (hb1 : 1 ≤ b)
    (h : ∀ a cc, AT n (Hp M w0 (.own (.s e k ((us ++ news).map T.c)) (.slice a (m' + 1) cc) :: H.eraseIdx i)) ((d, .slice a (m' + 1) cc) :: s) (wpList P ops Q rest)) :
    AT n (Hp M w0 (.blk g news.toArray e' :: H)) s (wpList P ops Q (⟨some d, .call ⟨.builtin .append, #[x, y], #[t, t]⟩, ty, pos, af, none⟩ :: rest)) := by
  refine m_app (ts := us.map T.c) (tn := news.map T.c) (news := news) (m' := m' + 1) (m := 1) (H' := H.eraseIdx i) T0 ht hx hy hd om hu (by simp [hm, hk, Nat.succ_mul]) (by rw [List.length_map, hk]; exact hb) hb1
    (fun w c => ?_) (fun w c => .inr ⟨_, rfl, fun j q hq => ?_⟩) ?_
  · have := (c.drop.front hi).free news
    exact this.swap
  · have := hc_blk (M := M) (w0 := w0) 0 (o := j) (v := q) (H := .blk g news.toArray e' :: H) rfl (by simpa using hq) w c
    rw [Addr.add_lit, Nat.zero_add]
    exact this
  · intro a cc
    have := h a cc
    rwa [List.map_append] at this
theorem y_shl {C : World → Prop} {t' : Nat} {p : Int} {k : Nat} {q : Int} (hx : ev s x = some (.int .i64 p)) (hy : ev s y = some (.int .i64 q)) (hq : q = (k : Int)) (hk : k ≤ 62) (hw : -9223372036854775808 ≤ p * 2 ^ k ∧ p * 2 ^ k ≤ 9223372036854775807) : Y P n C s (.binOp .shl t x y t') ty (.int .i64 (p * 2 ^ k)) := fun a w f c d pos af g => by
  subst hq
  have h3 : IntKind.i64.wrap (p * 2 ^ k) = p * 2 ^ k := by rw [IntKind.wrap_i64]; omega
  simp only [execOp, f.ev hx, f.ev hy, eqGuard, binOp]
  simp [h3]
end
end Go.Lg

namespace Go.Lg
open Go.RowKit
section
variable {P : Program} {n : Nat} {C : World → Prop} {M : List Nat} {w0 : World} {H : List HE} {s : List (Nat × Value)} {Q : Exit → Act → World → Prop} {ops : Array Oper} {rest : List Oper}
variable {d ty t t' : Nat} {pos : String} {af : Array Edge} {v : Value} {x y : Operand}
theorem y_convi {k k' : IntKind} {p q : Int} (hs : (P.underlying t).isSome = true) (hd : P.underlying t' = some (.int k')) (hk : P.intKind t' = k') (hx : ev s x = some (.int k p)) (hq : k'.wrap p = q) : Y P n C s (.convert t t' x) ty (.int k' q) := fun a w f c d pos af g => by
  have h := run_convert_int (P := P) w t t' k p hs (by rw [hk]; exact hd)
  rw [hk, hq] at h
  simp [execOp, f.ev hx, h]
theorem y_gtru {p q : Int} (hx : ev s x = some (.int .u64 p)) (hy : ev s y = some (.int .u64 q)) : Y P n C s (.binOp .gtr t x y t') ty (.bool (decide (q < p))) := fun a w f c d pos af g => by
  simp [execOp, f.ev hx, f.ev hy, eqGuard, binOp, Op.intCmp]
theorem m_copyb (i : Nat) (T0 : Tabs P) {e0 k bz e g o m c m' c' : Nat} {z us : List Value} {cur : Array Value} {ad : Addr} (ht : lk T0.sl t = some (e0, k, bz, z)) (hx : ev s x = some (.slice (some ⟨g, o, none⟩) m c)) (hy : ev s y = some (.slice (some ad) m' c')) (hd : Nat.blt d n = true)
    (hi : H[i]? = some (.blk g cur e)) (hl : us.length = Nat.min m' m * k) (hs : ∀ w, Hp M w0 H w → ∀ j u, us[j]? = some u → w.cell? (ad.add j) = some u) (hu : ∀ u ∈ us, u.oneCell' = true) (ho : o + us.length ≤ cur.size)
    (h : AT n (Hp M w0 (H.set i (.blk g (cur.toList.take o ++ us ++ cur.toList.drop (o + us.length)).toArray e))) ((d, .int .i64 (Nat.min m' m : Nat)) :: s) (wpList P ops Q rest)) :
    AT n (Hp M w0 H) s (wpList P ops Q (⟨some d, .call ⟨.builtin .copy, #[x, y], #[t, t]⟩, ty, pos, af, none⟩ :: rest)) := st_go hd (fun a w f cw => by
  have hb := cw.blk hi
  obtain ⟨q1, q2, q3, i0, zv, q4, q5, q6, q7, q8⟩ := T0.sl_ok _ _ _ _ _ ht
  have h1 := run_loadCells_list (P := P) w ad us (hs w cw)
  have h2 := run_storeCells_at P g o e us 0 cur w hb om hu
  simp only [Nat.add_zero] at h2
  refine ⟨w.setRow g (cur.toList.take o ++ us ++ cur.toList.drop (o + us.length)).toArray, cw.turn hi (fun f hf => ?_) rfl rfl rfl (by simp), ?_⟩
  · obtain ⟨h1, h2⟩ := hf
    subst h2
    exact ⟨⟨setRow_heap w g cur _ e _ h1, rfl⟩, fun k _ hk => setRow_other w g k _ (by simpa using hk)⟩
  · have hr : (Builtin.copy_ #[t, t] ty #[.slice (some ⟨g, o, none⟩) m c, .slice (some ad) m' c']).run P w = .ok (.int .i64 (Nat.min m' m : Nat)) (w.setRow g (cur.toList.take o ++ us ++ cur.toList.drop (o + us.length)).toArray) := by
      simp [Builtin.copy_, run_underlying q1, Builtin.lenOf, Builtin.firstCells, sizeOf, typeInfo, q4, q5, ← hl, h1, h2, goInt]
    simp [execOp, resolve, invoke, builtin, f.ev hx, f.ev hy, hr]) h
theorem y_slol (T : Tabs P) {e k b m cap lo g o : Nat} {z : List Value} {p : Int} {lo' : Operand} (ht : lk T.sl t = some (e, k, b, z)) (hx : ev s x = some (.slice (some ⟨g, o, none⟩) m cap)) (hl : ev s lo' = some (.int .i64 p)) (hp : p = (lo : Int)) (h1 : lo ≤ m) (h2 : lo < cap) :
    Y P n C s (.slice t x (some lo') none none) ty (.slice (some ⟨g, o + lo * k, none⟩) (m - lo) (cap - lo)) := by
  have h := y_slo (n := n) (C := C) (ty := ty) T ht hx hl hp h1
  have e : subA (some ⟨g, o, none⟩) k lo cap = some ⟨g, o + lo * k, none⟩ := by unfold subA; rw [if_neg om]; simp [Addr.add_lit]
  rwa [e] at h
theorem y_slhl (T : Tabs P) {e k b m cap hi g o : Nat} {z : List Value} {p : Int} {hi' : Operand} (ht : lk T.sl t = some (e, k, b, z)) (hx : ev s x = some (.slice (some ⟨g, o, none⟩) m cap)) (hh : ev s hi' = some (.int .i64 p)) (hp : p = (hi : Int)) (h1 : hi ≤ cap) (h2 : 0 < cap) :
    Y P n C s (.slice t x none (some hi') none) ty (.slice (some ⟨g, o, none⟩) hi cap) := by
  have h := y_slh (n := n) (C := C) (ty := ty) T ht hx hh hp h1
  have e : subA (some ⟨g, o, none⟩) k 0 cap = some ⟨g, o, none⟩ := by unfold subA; rw [if_neg om]; simp [Addr.add_lit]
  rwa [e] at h
end
end Go.Lg
namespace Go.Proofs.YtcplmeajmpkpkaaGreat
open Go.Lg Go.Proofs Go.RowKit Go.Shelf
def mulRen : Ren := ⟨fun k => match k with | 212 => 118 | 263 => 130 | 264 => 131 | _ => 0,
  fun k => match k with | 46 => 119 | 51 => 127 | 53 => 130 | 146 => 128 | 148 => 131 | _ => 4, fun _ => 0⟩
theorem mulLays : Lays.n212 Tryz.prog mulRen := by
  constructor <;> first | kernel_rfl | (intro w; kernel_rfl) | rfl
attribute [local irreducible] Code.wp wpList bodyPost Exit.then Exit.inBlock Hp Again Calls Y AT ResV QT Qn QI wpAny wpAnyQ
set_option maxRecDepth 20000
set_option maxHeartbeats 4000000
theorem bitsMul_ok {w : World} {x y : Nat} (hx : x < 18446744073709551616) (hy : y < 18446744073709551616) :
    Does Tryz.prog 118 [.int .u64 x, .int .u64 y] w (fun r H => r = .tuple #[.int .u64 ((x * y / 18446744073709551616 : Nat) : Int), .int .u64 ((x * y % 18446744073709551616 : Nat) : Int)] ∧ H = []) :=
  (Any.bits_Mul mulLays x y hx hy w).mono (by
    rintro e w' ⟨rfl, rfl⟩
    exact ⟨_, _, rfl, ⟨rfl, rfl⟩, Hp.nil⟩)

def rptC (us z : List Value) (n i : Nat) : List Value := (List.replicate i us).flatten ++ (List.replicate (n - i) z).flatten
theorem rflat_len {z : List Value} {m n : Nat} (h : z.length = m) : ((List.replicate n z).flatten).length = n * m := by
  simp [h]
theorem rptC_len {us z : List Value} {m n i : Nat} (h1 : us.length = m) (h2 : z.length = m) (hi : i ≤ n) : (rptC us z n i).length = n * m := by
  rw [rptC, List.length_append, rflat_len h1, rflat_len h2, ← Nat.add_mul]
  congr 1; omega
theorem rptC_take {us z : List Value} {m n i : Nat} (h1 : us.length = m) : (rptC us z n i).take (i * m) = (List.replicate i us).flatten := by
  rw [rptC, List.take_append_of_le_length (by rw [rflat_len h1]; exact Nat.le_refl _), List.take_of_length_le (by rw [rflat_len h1]; exact Nat.le_refl _)]
theorem rptC_drop {us z : List Value} {m n i d : Nat} (h1 : us.length = m) (h2 : z.length = m) : (rptC us z n i).drop (i * m + d * m) = (List.replicate (n - (i + d)) z).flatten := by
  rw [rptC, List.drop_append, rflat_len h1, List.drop_of_length_le (by rw [rflat_len h1]; omega), List.nil_append, Nat.add_sub_cancel_left]
  have e : n - (i + d) = n - i - d := by omega
  rw [e]
  generalize n - i = q
  by_cases hd : d ≤ q
  · have e2 : List.replicate q z = List.replicate d z ++ List.replicate (q - d) z := by rw [List.replicate_append_replicate]; congr 1; omega
    conv => lhs; rw [e2]
    rw [List.flatten_append, List.drop_append, rflat_len h2, List.drop_of_length_le (by rw [rflat_len h2]; exact Nat.le_refl _), Nat.sub_self]
    rfl
  · rw [List.drop_of_length_le (by rw [rflat_len h2]; exact Nat.mul_le_mul_right _ om), show q - d = 0 by omega]
    rfl
theorem rptC_next {us z : List Value} {m n i d : Nat} (h1 : us.length = m) (h2 : z.length = m) : (rptC us z n i).take (i * m) ++ (List.replicate d us).flatten ++ (rptC us z n i).drop (i * m + ((List.replicate d us).flatten).length) = rptC us z n (i + d) := by
  rw [rflat_len h1, rptC_take h1, rptC_drop h1 h2, rptC, ← List.flatten_append, List.replicate_append_replicate]
theorem rptC_get {us z : List Value} {n i j : Nat} {u : Value} (h : ((List.replicate i us).flatten)[j]? = some u) : (rptC us z n i)[j]? = some u := by
  rw [rptC, List.getElem?_append_left ((List.getElem?_eq_some_iff.1 h).1)]; exact h
theorem flat_pre2 {us : List Value} {d i j : Nat} {u : Value} (hd : d ≤ i) (h : ((List.replicate d us).flatten)[j]? = some u) : ((List.replicate i us).flatten)[j]? = some u := by
  have e2 : List.replicate i us = List.replicate d us ++ List.replicate (i - d) us := by rw [List.replicate_append_replicate]; congr 1; omega
  rw [e2, List.flatten_append, List.getElem?_append_left ((List.getElem?_eq_some_iff.1 h).1)]; exact h
end Go.Proofs.YtcplmeajmpkpkaaGreat

namespace Go.Proofs.YtcplmeajmpkpkaaGreat
open Go.Lg Go.Proofs Go.RowKit Go.Shelf
attribute [local irreducible] Code.wp wpList bodyPost Exit.then Exit.inBlock Hp Again Calls Y AT ResV QT Qn QI wpAny wpAnyQ
set_option maxRecDepth 20000
set_option maxHeartbeats 4000000
theorem blk_ownI {M : List Nat} {w0 w : World} {H : List HE} {g e k m : Nat} {us : List Value} (hm : us.length = m * k) (h64 : m ≤ 64) (c : Hp M w0 (.blk g us.toArray e :: H) w) : Hp M w0 (.own (.s e k (us.map T.c)) (.slice (some ⟨g, 0, none⟩) m m) :: H) w := by
  refine c.say (H1 := [.own (.s e k (us.map T.c)) (.slice (some ⟨g, 0, none⟩) m m)]) (fun f hf => ?_)
  obtain ⟨h1, rfl⟩ := hf
  refine ⟨[g], List.Perm.refl _, [g], [], rfl, ?_, rfl⟩
  simp only [HE.sat, Lg.Own]
  refine .inr ⟨g, m, m, _, [], rfl, h1, by simp [hm], Nat.le_refl _, by unfold maxLen; omega, by simp [hm], ?_, rfl⟩
  rw [List.toList_toArray, List.take_of_length_le om]
  exact OwnL.consts _
theorem RepeatB_ok {w : World} {us : List Value} {g o c nn : Nat} (hu : us.length = 1) (hu1 : ∀ u ∈ us, u.oneCell' = true) (hc : ∀ j u, us[j]? = some u → w.cell? ⟨g, o + j, none⟩ = some u) (h1 : 1 ≤ nn) (h8 : nn ≤ 16) :
    Does Tryz.prog 94 [.slice (some ⟨g, o, none⟩) 1 c, iV nn] w (fun r H => ∃ b, r = .slice (some ⟨b, 0, none⟩) nn nn ∧ H = [.blk b ((List.replicate nn us).flatten).toArray 3]) := by
  have hz6 : ([.int .i64 0] : List Value).length = 1 := rfl
  have e1 : (1 * nn : Nat) / 18446744073709551616 = 0 := by omega
  have e2 : (1 * nn : Nat) % 18446744073709551616 = nn := by omega
  refine fn_enter Tryz.func94 rfl Tryz.ntmps94 rfl ?_
  repeat' (first | (show oL; first | refine sMv rfl rfl ?_ | refine sAs rfl rfl ?_ | (show oA (.binOp _ _ _ _ _); first | refine st_y (y_gtru rfl rfl) rfl ?_ | refine sLs rfl rfl rfl ?_) | (show oA (.call _); first | (refine m_call (ent_of Tryz.func118 kr rfl) rfl rfl (fun w c' => bitsMul_ok (x := 1) (y := nn) om om) ?_; rintro v H' ⟨rfl, rfl⟩; rw [e1, e2]) | refine sLn tabs rfl rfl rfl ?_) | (show oA (.extract _ _); refine st_y (y_ext rfl rfl) rfl ?_) | (show oA (.pick _ _ _); refine st_y (y_pickf rfl aO rfl) rfl ?_) | (show oA (.makeSlice _ _ _); refine m_make tabs rfl rfl rfl om om om om rfl (fun b hb => ?_)) | (show oA (.convert _ _ _); first | refine st_y (y_convi (t' := 119) (k' := .u64) (p := ((1 : Nat) : Int)) (q := ((1 : Nat) : Int)) kr kr kr rfl (by decide)) rfl ?_ | refine st_y (y_convi (t' := 119) (k' := .u64) (p := ((nn : Nat) : Int)) (q := ((nn : Nat) : Int)) kr kr kr rfl (by rw [IntKind.wrap_u64]; omega)) rfl ?_ | refine st_y (y_convi (t' := 3) (k' := .i64) (q := ((nn : Nat) : Int)) kr kr kr rfl (by rw [IntKind.wrap_i64]; omega)) rfl ?_) | refine st_gy rfl rfl ?_) | refine xNt ?_ | (show oC; first | refine c_seq ?_ | refine c_region ?_ | refine c_skip (x_then ?_) | refine c_false rfl ?_ | refine c_iff rfl nN ?_))
  all_goals first | (exfalso; omega) | skip
  obtain ⟨z, hz⟩ : ∃ z : List Value, z = [.int .i64 0] := ⟨_, rfl⟩
  rw [← hz] at hz6 ⊢
  have ez : zeros z ((nn : Nat) : Int).toNat = (rptC us z nn 0).toArray := by
    have h := zeros_eq z nn om
    rw [rptC, List.replicate_zero, List.flatten_nil, List.nil_append, Nat.sub_zero, ← h]
    rfl
  have em : Nat.min 1 nn = 1 := Nat.min_eq_left h1
  have hlen : ∀ i, i ≤ nn → (rptC us z nn i).length = nn * 1 := fun i hi => rptC_len hu hz6 hi
  have e0 : (List.take 0 (rptC us z nn 0) ++ us ++ List.drop (0 + us.length) (rptC us z nn 0)) = rptC us z nn 1 := by
    have h := rptC_next (us := us) (z := z) (n := nn) (i := 0) (d := 1) hu hz6
    simpa using h
  rw [ez]
  repeat' (first | (show oL; first | refine sAs rfl rfl ?_ | (show oA (.call _); refine m_copyb 0 tabs (m := nn) (c := nn) (us := us) rfl rfl rfl rfl rfl (by rw [em, hu]) (fun w' c' j u hj => by rw [Addr.add_lit]; exact c'.cell (hc j u hj)) hu1 (by have := hlen 0 (Nat.zero_le _); simp only [List.size_toArray]; omega) ?_)) | refine xNt ?_ | (show oC; first | refine c_seq ?_ | refine c_block ?_))
  rw [em]
  simp only [e0, List.set_cons_zero]
  refine c_loopH (α := Nat) [7] (fun i => [(8, .int .i64 i)]) (fun i => 1 ≤ i ∧ i ≤ nn) (fun i => [.blk b (rptC us z nn i).toArray 3]) (fun i => nn - i) 1 rfl sB ?_ ?_ ?_
  · omega
  · exact fun w' c' => c'
  · rintro i ⟨hi1, hi⟩
    by_cases hin : i < nn
    · have hd1 : Nat.min i (nn - i) ≤ i := Nat.min_le_left _ _
      have hd2 : Nat.min i (nn - i) ≤ nn - i := Nat.min_le_right _ _
      have hd0 : 0 < Nat.min i (nn - i) := Nat.lt_min.2 ⟨by omega, by omega⟩
      generalize hd : Nat.min i (nn - i) = d at *
      have hfl := rflat_len (n := d) hu
      have hw := hlen i hi
      have hmul := Nat.mul_le_mul_right 1 (show i + d ≤ nn by omega)
      rw [Nat.add_mul] at hmul
      have enx := rptC_next (us := us) (z := z) (n := nn) (i := i) (d := d) hu hz6
      repeat' (first | (show oL; first | refine sMv rfl rfl ?_ | refine sLs rfl rfl rfl ?_ | refine sLn tabs rfl rfl rfl ?_) | refine xNt ?_ | (show oC; first | refine c_seq ?_ | refine c_region ?_ | refine c_skip (x_then ?_) | refine c_block ?_ | refine c_ift rfl aO ?_))
      refine c_all (Hp [] w []) kr (fun _ c => Hp.drew c) ?_
      refine h_take 0 rfl kr kr kr (by exact y_move rfl) rfl (fun w c => by exact c.drop) ?_
      refine h_take 1 rfl kr kr kr (by exact y_move rfl) rfl (fun w c => by exact c.drop) ?_
      refine h_take 2 rfl kr kr kr (by exact y_move rfl) rfl (fun w c => by exact c.drop) ?_
      refine h_take 3 rfl kr kr kr (by exact y_slol (lo := i) (m := nn) (cap := nn) tabs rfl rfl rfl rfl om om) rfl (fun w c => by exact c.drop) ?_
      refine h_take 4 rfl kr kr kr (by exact y_move rfl) rfl (fun w c => by exact c.drop) ?_
      refine h_take 5 rfl kr kr kr (by exact y_move rfl) rfl (fun w c => by exact c.drop) ?_
      refine h_take 6 rfl kr kr kr (by exact y_slhl (hi := i) (m := nn) (cap := nn) tabs rfl rfl rfl rfl om om) rfl (fun w c => by exact c.drop) ?_
      refine h_only 7 rfl kr ?_
      (refine m_copyb 0 tabs (us := (List.replicate d us).flatten) rfl rfl rfl rfl rfl (by rw [hd, hfl]) (fun w' c' j u hj => by rw [Addr.add_lit]; exact hc_blk 0 rfl (by rw [Nat.zero_add, List.getElem?_toArray]; exact rptC_get (flat_pre2 om hj)) w' c') (fun u hm => by obtain ⟨l, hl, hm⟩ := List.mem_flatten.1 hm; rw [List.eq_of_mem_replicate hl] at hm; exact hu1 u hm) (by simp only [List.size_toArray]; omega) ?_)
      refine c_nil (x_one (h_keep (fun w c => by exact c.drop) ?_))
      refine h_take 8 rfl kr kr kr (by exact y_add rfl rfl om) rfl (fun w c => by exact c.drop) ?_
      refine h_take 9 rfl kr kr kr (by exact y_assign rfl) rfl (fun w c => by exact c.drop) ?_
      refine h_end kr ?_
      repeat' (first | (show AT _ _ _ _; first | refine x_then ?_ | refine x_blk ?_))
      refine x_nx (i + d) sB om (fun w' c' => ?_) om
      simp only [Nat.zero_add, enx, List.set_cons_zero] at c'
      exact c'
    · have : i = nn := by omega
      subst this
      repeat' (first | (show oL; first | refine sMv rfl rfl ?_ | refine sAs rfl rfl ?_ | refine sLs rfl rfl rfl ?_ | refine sLn tabs rfl rfl rfl ?_) | refine xNt ?_ | (show oC; first | refine c_seq ?_ | refine c_region ?_ | refine c_ret ?_ | refine c_exit ?_ | refine c_iff rfl nN ?_) | (show AT _ _ _ _; first | refine x_then ?_ | refine x_then_exit ?_ | refine x_blk_exit rfl ?_))
      refine x_ret1 Tryz.results94 (res_tmp rfl) (fun w' c' => ⟨_, _, rfl, ⟨b, rfl, rfl⟩, ?_⟩)
      have ee : rptC us z i i = (List.replicate i us).flatten := by rw [rptC, Nat.sub_self]; simp
      rw [ee] at c'
      exact c'
theorem RepeatB_no {w : World} {g o c : Nat} : Does Tryz.prog 94 [.slice (some ⟨g, o, none⟩) 1 c, iV 0] w (fun r H => ∃ b, r = .slice (some ⟨b, 0, none⟩) 0 0 ∧ H = [.blk b #[] 3]) := by
  refine fn_enter Tryz.func94 rfl Tryz.ntmps94 rfl ?_
  repeat' (first | (show oL; first | refine sMv rfl rfl ?_ | refine sAs rfl rfl ?_ | (show oA (.binOp _ _ _ _ _); first | refine st_y (y_gtru rfl rfl) rfl ?_ | refine sLs rfl rfl rfl ?_) | (show oA (.call _); first | (refine m_call (ent_of Tryz.func118 kr rfl) rfl rfl (fun w c' => bitsMul_ok (x := 1) (y := 0) om om) ?_; rintro v H' ⟨rfl, rfl⟩) | refine sLn tabs rfl rfl rfl ?_) | (show oA (.extract _ _); refine st_y (y_ext rfl rfl) rfl ?_) | (show oA (.pick _ _ _); refine st_y (y_pickf rfl aO rfl) rfl ?_) | (show oA (.makeSlice _ _ _); refine m_make tabs (l := 0) (c := 0) rfl rfl rfl om om om om rfl (fun b hb => ?_)) | (show oA (.convert _ _ _); first | refine st_y (y_convi (t' := 119) (k' := .u64) (p := ((1 : Nat) : Int)) (q := ((1 : Nat) : Int)) kr kr kr rfl (by decide)) rfl ?_ | refine st_y (y_convi (t' := 119) (k' := .u64) (p := ((0 : Nat) : Int)) (q := ((0 : Nat) : Int)) kr kr kr rfl (by decide)) rfl ?_ | refine st_y (y_convi (t' := 3) (k' := .i64) (q := ((0 : Nat) : Int)) kr kr kr rfl (by decide)) rfl ?_) | refine st_gy rfl rfl ?_) | refine xNt ?_ | (show oC; first | refine c_seq ?_ | refine c_region ?_ | refine c_skip (x_then ?_) | refine c_false rfl ?_))
  all_goals first | (exfalso; omega) | skip
  repeat' (first | (show oL; first | refine sAs rfl rfl ?_ | (show oA (.call _); refine m_copyb 0 tabs (m := 0) (c := 0) (us := []) rfl rfl rfl rfl rfl rfl (fun w' c' j u hj => by simp at hj) (fun u hu => by cases hu) (by simp) ?_)) | refine xNt ?_ | (show oC; first | refine c_seq ?_ | refine c_block ?_))
  refine c_loopH (α := Nat) [7] (fun i => [(8, .int .i64 i)]) (fun i => i = 0) (fun i => [.blk b #[] 3]) (fun i => 0) 0 rfl sB ?_ ?_ ?_
  · rfl
  · intro w' c'
    have ez : zeros [Value.int .i64 0] (Int.toNat 0) = #[] := Array.ext' (zeros_eq [Value.int .i64 0] 0 (by show 0 < 1; omega))
    rw [ez] at c'
    exact c'
  · rintro i rfl
    repeat' (first | (show oL; first | refine sMv rfl rfl ?_ | refine sAs rfl rfl ?_ | refine sLs rfl rfl rfl ?_ | refine sLn tabs rfl rfl rfl ?_) | refine xNt ?_ | (show oC; first | refine c_seq ?_ | refine c_region ?_ | refine c_ret ?_ | refine c_exit ?_ | refine c_false rfl ?_) | (show AT _ _ _ _; first | refine x_then ?_ | refine x_then_exit ?_ | refine x_blk_exit rfl ?_))
    exact x_ret1 Tryz.results94 (res_tmp rfl) (fun w' c' => ⟨_, _, rfl, ⟨b, rfl, rfl⟩, c'⟩)
theorem RepeatI_ok {w : World} {x : Int} {g c nn : Nat} (hc : w.cell? ⟨g, 0, none⟩ = some (iV x)) (h8 : nn ≤ 16) : Does Tryz.prog 94 [.slice (some ⟨g, 0, none⟩) 1 c, iV nn] w (fun r H => ∃ b, r = .slice (some ⟨b, 0, none⟩) nn nn ∧ H = [.own (iT (List.replicate nn x)) (.slice (some ⟨b, 0, none⟩) nn nn)]) := by
  have hm : ∀ {b : Nat} {w' : World} {us : List Value}, us = (List.replicate nn x).map iV → Hp [] w [.blk b us.toArray 3] w' → Hp [] w [.own (iT (List.replicate nn x)) (.slice (some ⟨b, 0, none⟩) nn nn)] w' := by
    intro b w' us e c
    subst e
    have h := blk_ownI (m := nn) (k := 1) (by simp) om c
    show Hp [] w [HE.own (ints _ _) _] w'
    rw [ints, it_eq]
    exact h
  by_cases h0 : nn = 0
  · subst h0
    refine RepeatB_no.mono ?_
    rintro e w' ⟨v, H, rfl, ⟨b, rfl, rfl⟩, c⟩
    exact ⟨_, _, rfl, ⟨b, rfl, rfl⟩, hm (us := []) rfl c⟩
  · refine (RepeatB_ok (us := [iV x]) (o := 0) rfl (by simp; rfl) (fun j u hj => ?_) om h8).mono ?_
    · match j, hj with
      | 0, hj => simp at hj; subst hj; exact hc
      | j + 1, hj => simp at hj
    · rintro e w' ⟨v, H, rfl, ⟨b, rfl, rfl⟩, c⟩
      exact ⟨_, _, rfl, ⟨b, rfl, rfl⟩, hm (by simp) c⟩
end Go.Proofs.YtcplmeajmpkpkaaGreat

namespace Go.Lg
open Go.RowKit
theorem x_ret0 {P : Program} {n : Nat} {C : World → Prop} {s : List (Nat × Value)} {fn : Func} {R : Ending → World → Prop} {e : Exit} (he : e = .ret ∨ e = .normal) (hf : fn.results = #[]) (h : ∀ w, C w → R (.returned (.tuple #[])) w) : AT n C s (bodyPost P fn R e) :=
  x_end he (fun a w f c => by simp [results, hf]) h
end Go.Lg
namespace Go.Proofs.YtcplmeajmpkpkaaGreat
open Go.Lg Go.Proofs Go.RowKit
attribute [local irreducible] Code.wp wpList bodyPost Exit.then Exit.inBlock Hp Again Calls Y AT ResV QT Qn QI wpAny wpAnyQ
set_option maxRecDepth 20000
set_option maxHeartbeats 4000000

theorem boxes_ok {w : World} {u : Value} (hu : u.oneCell' = true) : Does Tryz.prog 93 [u] w (fun r H => ∃ b, r = .func (.func 117) #[] #[.pointer (some ⟨b, 0, none⟩)] ∧ H = [.blk b #[u] 43]) := by
  refine fn_enter Tryz.func93 rfl Tryz.ntmps93 rfl ?_
  repeat' (first | (show oL; first | refine sAs rfl rfl ?_ | (show oA (.makeFunc _ _ _); refine st_y (y_fn rfl rfl) rfl ?_) | (show oA (.box _ _); refine m_box rfl rfl (fun bq hbq => ?_))) | refine xNt ?_ | (show oC; first | refine c_seq ?_ | refine c_region ?_ | refine c_ret ?_))
  have hcs : u.cells = #[u] := by cases u <;> first | rfl | simp [Value.oneCell'] at hu
  exact x_ret1 Tryz.results93 (res_tmp rfl) (fun w' c' => ⟨_, _, rfl, ⟨_, rfl, rfl⟩, by rw [hcs] at c'; exact c'⟩)
theorem last_dgt {p L j q : Nat} (hp : 2 ≤ p) (hj : j + 1 = p ^ L) (hq : q < L) : j / p ^ q % p = p - 1 := by
  obtain ⟨r, hr⟩ : ∃ r, L = q + 1 + r := ⟨L - (q + 1), by omega⟩
  have hpos : 0 < p ^ q := Nat.pow_pos om
  have hrp : 0 < p ^ r := Nat.pow_pos om
  rw [hr, Nat.pow_add, Nat.pow_succ, Nat.mul_assoc] at hj
  obtain ⟨x, hx⟩ : ∃ x, p * p ^ r = x + 1 := ⟨p * p ^ r - 1, by have := Nat.mul_pos (show 0 < p by omega) hrp; omega⟩
  rw [hx] at hj
  have e1 : j / p ^ q = x := by
    refine Nat.div_eq_of_lt_le ?_ ?_
    · rw [Nat.mul_comm]; rw [Nat.mul_add, Nat.mul_one] at hj; omega
    · rw [Nat.mul_comm]; omega
  rw [e1]
  obtain ⟨y, hy⟩ : ∃ y, p ^ r = y + 1 := ⟨p ^ r - 1, by omega⟩
  rw [hy, Nat.mul_add, Nat.mul_one] at hx
  have : x = (p - 1) + p * y := by omega
  rw [this, Nat.add_mul_mod_self_left, Nat.mod_eq_of_lt om]
theorem boxes1_ok {l : Nat} {rc : Loop} {M : List Nat} {W : World} {p L bm : Nat} {am : Option Addr} {cm : Nat} {A : Type} {x0 : A} {R : Nat → A → List HE} (hl : W.heap[l]? = some (.loop rc)) (hlM : l ∉ M) (hps : rc.params.size = 1) (hp : 2 ≤ p) (hp2 : p ≤ 1000) (hL : L ≤ 16)
    (hround : ∀ j, j < p ^ L → ∀ x av cv, SA av L → ∀ w, Hp M W (.own (iT (vl p L j)) (.slice av L cv) :: .blk bm #[.slice am L cm] 43 :: .own (iT (List.replicate L ((p : Int) - 1))) (.slice am L cm) :: R j x) w →
      RoundIn Fence.wide 0 Tryz.prog l rc.fn ((rc.params.zip #[.slice av L cv]).foldl (fun t (p, u) => t.setIfInBounds p u) rc.tmps) rc.assign rc.body w (fun e w' => e = .returned (.bool true) ∧ ∃ x, Hp M W (.own (iT (vl p L j)) (.slice av L cv) :: .blk bm #[.slice am L cm] 43 :: .own (iT (List.replicate L ((p : Int) - 1))) (.slice am L cm) :: R (j + 1) x) w'))
    (h0 : Hp M W (.blk bm #[.slice am L cm] 43 :: .own (iT (List.replicate L ((p : Int) - 1))) (.slice am L cm) :: R 0 x0) W) :
    Calls Tryz.prog 117 (#[.func (.yield l) #[] #[]] ++ #[.pointer (some ⟨bm, 0, none⟩)]) W (fun e w' => (∃ v, e = .returned v) ∧ ∃ x, Hp M W (.blk bm #[.slice am L cm] 43 :: .own (iT (List.replicate L ((p : Int) - 1))) (.slice am L cm) :: R (p ^ L) x) w') := by
  have hpos : 0 < p ^ L := Nat.pow_pos om
  show Calls Tryz.prog 117 [.func (.yield l) #[] #[], .pointer (some ⟨bm, 0, none⟩)].toArray W _
  refine fnb_enter Tryz.func117 rfl Tryz.ntmps117 rfl h0 ?_
  repeat' (first | (show oL; first | refine sAs rfl rfl ?_ | refine sLd 0 tabs rfl rfl rfl rfl rfl ?_ | refine sLn tabs rfl rfl rfl ?_ | (show oA (.makeSlice _ _ _); refine m_make tabs (l := L) (c := L) rfl rfl rfl om om om om (by decide) (fun b hb => ?_))) | refine xNt ?_ | (show oC; first | refine c_seq ?_ | refine c_region ?_ | refine c_block ?_))
  refine AT.cls (C' := Hp M W (.own (iT (vl p L 0)) (.slice (some ⟨b, 0, none⟩) L L) :: .blk bm #[.slice am L cm] 43 :: .own (iT (List.replicate L ((p : Int) - 1))) (.slice am L cm) :: R 0 x0)) (fun w c => ?_) ?_
  · have ez : zeros [Value.int .i64 0] ((L : Nat) : Int).toNat = ((List.replicate L (0 : Int)).map iV).toArray := Array.ext' (by
      rw [zeros_eq _ _ (by decide)]
      simp)
    rw [ez] at c
    have h := blk_ownI (m := L) (k := 1) (by simp) om c
    rw [vl_zero]
    show Hp M W (HE.own (ints _ _) _ :: _) w
    rw [ints, it_eq]
    exact h
  refine c_loopH (α := Nat × A) [0, 1, 3] (fun s => []) (fun s => s.1 < p ^ L) (fun s => .own (iT (vl p L s.1)) (.slice (some ⟨b, 0, none⟩) L L) :: .blk bm #[.slice am L cm] 43 :: .own (iT (List.replicate L ((p : Int) - 1))) (.slice am L cm) :: R s.1 s.2) (fun s => p ^ L - s.1) (0, x0) rfl sB ?_ ?_ ?_
  · exact hpos
  · exact fun w' c' => c'
  · rintro ⟨j, x⟩ hj
    simp only at hj ⊢
    refine AT.fact (own_sl 2 rfl) (fun hsl => ?_)
    obtain ⟨a4, c4, e4, hs4⟩ := hsl
    rw [List.length_replicate] at e4 hs4
    cases e4
    have hsb : SA (some ⟨b, 0, none⟩) L := .mk
    repeat refine c_seq ?_
    refine c_regionY ?_
    refine sy_y (y_move rfl) (fun c h => by cases h) rfl ?_
    refine sy_y (y_move rfl) (fun c h => by cases h) rfl ?_
    refine my_yield hl hlM rfl rfl hps rfl (fun w cw => hround j hj x _ _ hsb w cw) (fun x' => ?_)
    refine y_nil (x_then ?_)
    repeat' (first | (show oL; first | refine sMv rfl rfl ?_ | refine sAs rfl rfl ?_ | (show oA (.binOp _ _ _ _ _); refine st_y (y_sub rfl rfl om) rfl ?_) | refine sLn tabs rfl rfl rfl ?_) | refine xNt ?_ | (show oC; first | refine c_seq ?_ | refine c_region ?_ | refine c_skip (x_then ?_) | refine c_block ?_ | refine c_true rfl ?_))
    refine c_loopH (α := Nat) [0, 1, 3] (fun q => [(4, iV ((L : Int) - 1 - q))]) (fun q => q ≤ L ∧ j % p ^ q = p ^ q - 1) (fun q => .own (iT (vq p L j q)) (.slice (some ⟨b, 0, none⟩) L L) :: .blk bm #[.slice am L cm] 43 :: .own (iT (List.replicate L ((p : Int) - 1))) (.slice am L cm) :: R (j + 1) x') (fun q => L - q) 0 rfl sB ?_ ?_ ?_
    · exact ⟨Nat.zero_le _, by simp [Nat.mod_one]⟩
    · exact fun w' c' => by rw [vq_zero]; exact c'
    · rintro q ⟨hq, hjq⟩
      by_cases hqL : q < L
      · have hi : L - 1 - q < L := by omega
        have hix : (L : Int) - 1 - q = ((L - 1 - q : Nat) : Int) := by omega
        have hlv : (vq p L j q).length = L := by simp [vq]
        have hlm : (List.replicate L ((p : Int) - 1)).length = L := List.length_replicate
        have hg0 : (vq p L j q).getD (L - 1 - q) 0 = vlF p L j (L - 1 - q) := by rw [vq, mkv_get hi, if_pos om]
        have hg1 : (List.replicate L ((p : Int) - 1)).getD (L - 1 - q) 0 = (p : Int) - 1 := by simp [List.getD, hi]
        have hdq : vlF p L j (L - 1 - q) = ((j / p ^ q % p : Nat) : Int) := by
          unfold vlF dgt
          rw [show L - 1 - (L - 1 - q) = q by omega]
        have hdlt := Nat.mod_lt (j / p ^ q) (show 0 < p by omega)
        by_cases hd : j / p ^ q % p = p - 1
        · have he : (vq p L j q).getD (L - 1 - q) 0 = (List.replicate L ((p : Int) - 1)).getD (L - 1 - q) 0 := by rw [hg0, hg1, hdq]; omega
          repeat' (first | (show oL; first | refine sMv rfl rfl ?_ | refine sAs rfl rfl ?_ | (show oA (.indexAddr _ _ _); refine st_y (y_ix1 tabs (j := L - 1 - q) rfl rfl rfl hsb hix hi) rfl ?_) | (show oA (.binOp _ _ _ _ _); refine st_y (y_sub rfl rfl om) rfl ?_) | (show oA (.store _ _ _); refine m_storeo 0 tabs rfl rfl rfl rfl (by rw [hlv]; exact hi) ?_)) | (show oN; first | refine c_nil (x_then ?_) | refine c_nil ?_) | (show oC; first | refine c_seq ?_ | refine c_region ?_ | refine c_skip (x_then ?_) | refine c_block ?_ | refine c_draw kr kr (fun _ c => Hp.drew c) ?_ | refine c_true rfl ?_) | (show QT _ _ _ _ _ _ (_ :: _); first | refine qMv rfl rfl ?_ | (show qA (.load _ _); first | refine qLd 1 tabs rfl rfl rfl rfl rfl ?_ | refine q_y (y_load tabs rfl rfl (hc_own 0 rfl (j := L - 1 - q) (by rw [hlv]; exact hi))) rfl ?_ | refine q_y (y_load tabs rfl rfl (hc_own 2 rfl (j := L - 1 - q) (by rw [hlm]; exact hi))) rfl ?_) | (show qA (.indexAddr _ _ _); first | refine q_y (y_ix1 tabs (j := L - 1 - q) rfl rfl rfl hsb hix hi) rfl ?_ | refine q_y (y_ix1 tabs (j := L - 1 - q) rfl rfl rfl hs4 hix hi) rfl ?_) | (show qA (.binOp _ _ _ _ _); first | refine q_y (y_eqlie rfl rfl he) rfl ?_ | refine q_y (y_geq rfl rfl) rfl ?_) | (show qA (.pick _ _ _); refine q_y (y_pickt rfl aO rfl) rfl ?_) | refine q_gdy rfl rfl aO ?_) | (show QT _ _ _ _ _ _ []; refine q_nil (x_then ?_)) | (show AT _ _ _ _; first | refine x_then ?_ | refine x_blk ?_))
          refine x_nx (q + 1) sB ⟨by omega, full_next hp hjq hd⟩ (fun w' c' => ?_) om
          simp only [List.set_cons_zero] at c'
          rw [vq_next hqL] at c'
          exact c'
        · have he : ¬ (vq p L j q).getD (L - 1 - q) 0 = (List.replicate L ((p : Int) - 1)).getD (L - 1 - q) 0 := by rw [hg0, hg1, hdq]; omega
          have hj1 : j + 1 < p ^ L := by
            by_cases e : j + 1 = p ^ L
            · exact absurd (last_dgt hp e hqL) hd
            · omega
          repeat' (first | (show oL; first | refine sMv rfl rfl ?_ | (show oA (.load _ _); refine st_y (y_load tabs rfl rfl (hc_own 0 rfl (j := L - 1 - q) (by rw [hlv]; exact hi))) rfl ?_) | (show oA (.indexAddr _ _ _); refine st_y (y_ix1 tabs (j := L - 1 - q) rfl rfl rfl hsb hix hi) rfl ?_) | (show oA (.binOp _ _ _ _ _); first | refine st_y (y_add rfl rfl (by rw [hg0, hdq]; omega)) rfl ?_ | refine sLs rfl rfl rfl ?_) | (show oA (.store _ _ _); refine m_storeo 0 tabs rfl rfl rfl rfl (by rw [hlv]; exact hi) ?_)) | (show oN; first | refine c_nil (x_then ?_) | refine c_nil ?_) | (show oC; first | refine c_seq ?_ | refine c_region ?_ | refine c_skip (x_then ?_) | refine c_exit ?_ | refine c_draw kr kr (fun _ c => Hp.drew c) ?_ | refine c_false rfl ?_ | refine c_iff rfl nN ?_) | (show QT _ _ _ _ _ _ (_ :: _); first | refine qMv rfl rfl ?_ | (show qA (.load _ _); first | refine qLd 1 tabs rfl rfl rfl rfl rfl ?_ | refine q_y (y_load tabs rfl rfl (hc_own 0 rfl (j := L - 1 - q) (by rw [hlv]; exact hi))) rfl ?_ | refine q_y (y_load tabs rfl rfl (hc_own 2 rfl (j := L - 1 - q) (by rw [hlm]; exact hi))) rfl ?_) | (show qA (.indexAddr _ _ _); first | refine q_y (y_ix1 tabs (j := L - 1 - q) rfl rfl rfl hsb hix hi) rfl ?_ | refine q_y (y_ix1 tabs (j := L - 1 - q) rfl rfl rfl hs4 hix hi) rfl ?_) | (show qA (.binOp _ _ _ _ _); first | refine q_y (y_eqlin rfl rfl he) rfl ?_ | refine q_y (y_geq rfl rfl) rfl ?_) | (show qA (.pick _ _ _); refine q_y (y_pickt rfl aO rfl) rfl ?_) | refine q_gdy rfl rfl aO ?_) | (show QT _ _ _ _ _ _ []; refine q_nil (x_then ?_)) | (show AT _ _ _ _; first | refine x_then ?_ | refine x_then_exit ?_ | refine x_blk_exit rfl ?_ | refine x_blk ?_))
          refine x_nx (j + 1, x') sB hj1 (fun w' c' => ?_) (by simp only; omega)
          simp only [List.set_cons_zero] at c'
          rw [hg0, vq_up hp hqL hjq hd] at c'
          exact c'
      · have hqe : q = L := by omega
        subst hqe
        have hje : j + 1 = p ^ q := by rw [Nat.mod_eq_of_lt hj] at hjq; omega
        repeat' (first | (show oL; first | refine sMv rfl rfl ?_ | refine sLs rfl rfl rfl ?_) | refine xNt ?_ | (show oC; first | refine c_seq ?_ | refine c_region ?_ | refine c_ret ?_ | refine c_exit ?_ | refine c_draw kr kr (fun _ c => Hp.drew c) ?_ | refine c_false rfl ?_ | refine c_ift rfl aO ?_) | (show QT _ _ _ _ _ _ (_ :: _); first | refine qMv rfl rfl ?_ | (show qA (.binOp _ _ _ _ _); refine q_y (y_geq rfl rfl) rfl ?_) | (show qA (.pick _ _ _); refine q_y (y_pickf rfl aO rfl) rfl ?_) | refine q_gdn rfl rfl aO rfl ?_) | (show QT _ _ _ _ _ _ []; refine q_nil (x_then ?_)) | (show AT _ _ _ _; first | refine x_then ?_ | refine x_then_ret ?_ | refine x_blk_ret ?_ | refine x_then_exit ?_ | refine x_blk_exit rfl ?_))
        rw [hje]
        exact x_ret0 (.inl rfl) rfl (fun w' c' => ⟨⟨_, rfl⟩, x', c'.sub (.cons _ (List.Sublist.refl _))⟩)
end Go.Proofs.YtcplmeajmpkpkaaGreat

namespace Go.Lg
open Go.RowKit
def Ex (w : World) : World → Prop := fun w' => w' = w
def DoesX (P : Program) (f : Nat) (vs : List Value) (w : World) (v : Value) : Prop := Calls P f vs.toArray w fun e w' => e = .returned v ∧ w' = w
section
variable {P : Program} {n : Nat} {s : List (Nat × Value)} {Q : Exit → Act → World → Prop} {ops : Array Oper} {rest : List Oper} {d ty : Nat} {pos : String} {af : Array Edge} {v : Value} {w : World}
theorem g_enter {f : Nat} {fn : Func} {c : Code} {vs : List Value} {R : Ending → World → Prop} (hf : P.funcs[f]? = some fn) (hb : fn.body = some c) (hn : fn.ntmps = n) (hs : Nat.ble vs.length n = true)
    (h : AT n (Ex w) (en 0 vs) (c.wp P (bodyPost P fn R))) : Calls P f vs.toArray w R := by
  refine calls_of_wp hf hb (h _ _ ⟨?_, rfl, fun k v hk => ?_⟩ rfl)
  · have := Nat.le_of_ble_eq_true hs
    simp [hn]; omega
  · obtain ⟨_, h2⟩ := lk_en hk
    simp only [Nat.sub_zero] at h2
    have := (List.getElem?_eq_some_iff.1 h2).1
    rw [Array.getElem?_append_left (by simpa using this)]
    simpa using h2
theorem m_callx [Dfs] {f : Nat} {args : Array Operand} {vs : List Value} {at' : Array Nat} (he : Ent P f) (ha : evs s args.toList = some vs) (hd : Nat.blt d n = true)
    (hc : DoesX P f vs w v) (h : AT n (Ex w) ((d, v) :: s) (wpList P ops Q rest)) :
    AT n (Ex w) s (wpList P ops Q (⟨some d, .call ⟨.value (.func f), args, at'⟩, ty, pos, af, none⟩ :: rest)) := fun a w1 fr c => by
  have c : w1 = w := c
  subst c
  refine wpList_one rfl ?_
  unfold Oper.wp
  have hm : args.map a.eval = vs.toArray := by
    rw [← fr.evs ha]
    apply Array.ext'
    simp
  have : (execOp a.eval ⟨some d, .call ⟨.value (.func f), args, at'⟩, ty, pos, af, none⟩).run P w1 = .ok (.enter f vs.toArray) w1 := by
    simp [execOp, resolve, Act.eval, Deferred.ofValue, hm, invoke, he vs.toArray w1]
  rw [this]
  have hc' : Calls P f vs.toArray w1 (fun e w' => e = .returned v ∧ w' = w1) := hc
  refine hc'.mono ?_
  rintro e w' ⟨rfl, e2⟩
  subst e2
  exact h _ _ (fr.put (by simpa [Nat.blt_eq] using hd) v) rfl
theorem m_callxv [Dfs] {f : Nat} {g : Operand} {args : Array Operand} {vs : List Value} {at' : Array Nat} (hg : ev s g = some (.func (.func f) #[] #[])) (he : Ent P f) (ha : evs s args.toList = some vs) (hd : Nat.blt d n = true)
    (hc : DoesX P f vs w v) (h : AT n (Ex w) ((d, v) :: s) (wpList P ops Q rest)) :
    AT n (Ex w) s (wpList P ops Q (⟨some d, .call ⟨.value g, args, at'⟩, ty, pos, af, none⟩ :: rest)) := fun a w1 fr c => by
  have c : w1 = w := c
  subst c
  refine wpList_one rfl ?_
  unfold Oper.wp
  have hm : args.map a.eval = vs.toArray := by
    rw [← fr.evs ha]
    apply Array.ext'
    simp
  have : (execOp a.eval ⟨some d, .call ⟨.value g, args, at'⟩, ty, pos, af, none⟩).run P w1 = .ok (.enter f vs.toArray) w1 := by
    simp [execOp, resolve, fr.ev hg, Deferred.ofValue, hm, invoke, he vs.toArray w1]
  rw [this]
  have hc' : Calls P f vs.toArray w1 (fun e w' => e = .returned v ∧ w' = w1) := hc
  refine hc'.mono ?_
  rintro e w' ⟨rfl, e2⟩
  subst e2
  exact h _ _ (fr.put (by simpa [Nat.blt_eq] using hd) v) rfl
theorem m_boxx [Dfs] {e : Nat} {x : Operand} {u : Value} (hx : ev s x = some u) (hd : Nat.blt d n = true)
    (h : AT n (Ex (w.alloc (.cells u.cells e))) ((d, .pointer (some ⟨w.heap.size, 0, none⟩)) :: s) (wpList P ops Q rest)) :
    AT n (Ex w) s (wpList P ops Q (⟨some d, .box e x, ty, pos, af, none⟩ :: rest)) := fun a w1 f c => by
  have c : w1 = w := c
  subst c
  refine wpList_one rfl ?_
  unfold Oper.wp
  have : (execOp a.eval ⟨some d, .box e x, ty, pos, af, none⟩).run P w1 = .ok (.value (.pointer (some ⟨w1.heap.size, 0, none⟩))) (w1.alloc (.cells u.cells e)) := by
    simp [execOp, f.ev hx, Instr.box, newVar, newRow]
  rw [this]
  exact h _ _ (f.put (by simpa [Nat.blt_eq] using hd) _) rfl
theorem hc_ex {ad : Addr} (h : w.cell? ad = some v) : ∀ w', Ex w w' → w'.cell? ad = some v := fun _ e => e ▸ h
theorem c_loopC [Dfs] {α : Type} {C : World → Prop} (ks : List Nat) (ch : α → List (Nat × Value)) (pu : α → Prop) (m : α → Nat) {c : Code} (x0 : α) {vs : List Value} (hk : lks s ks = some vs) (h0 : Sub (ch x0) s) (hp : pu x0)
    (round : ∀ x, pu x → AT n C (ch x ++ zk ks vs) (c.wp P (Exit.then (Again n (fun x => ch x ++ zk ks vs) (fun x w => pu x ∧ C w) m x) Q))) : AT n C s ((Code.loop c).wp P Q) :=
  c_loopk ks ch (fun x w => pu x ∧ C w) m x0 hk h0 (fun _ c => ⟨hp, c⟩) (fun x => AT.pr (round x))
theorem x_nxC [Dfs] {α : Type} {C : World → Prop} {S : α → List (Nat × Value)} {pu : α → Prop} {m : α → Nat} {x : α} (y : α) (hs : Sub (S y) s) (hp : pu y) (hm : m y < m x) :
    AT n C s (Again n S (fun x w => pu x ∧ C w) m x) := fun _ _ f c => ⟨y, f.sub hs, ⟨hp, c⟩, hm⟩
end
end Go.Lg
namespace Go.Proofs.YtcplmeajmpkpkaaGreat
open Go.Lg Go.Proofs Go.RowKit
attribute [local irreducible] Code.wp wpList bodyPost Exit.then Exit.inBlock Hp Again Calls Y AT ResV QT Qn QI wpAny wpAnyQ
set_option maxRecDepth 20000
set_option maxHeartbeats 4000000

section
variable {α : Type} {c : α → α → Int} {xs ys : List α} {i : Nat} {R : Int}
theorem lx_more {x : α} (h : lxL c (xs.drop i) (ys.drop i) = R) (hx : xs[i]? = some x) (hy : ys.length ≤ i) : R = 1 := by
  rw [← List.getElem_cons_drop (List.getElem?_eq_some_iff.1 hx).1, List.drop_eq_nil_of_le hy, lxL] at h
  exact h.symm
theorem lx_step {x y : α} (h : lxL c (xs.drop i) (ys.drop i) = R) (hx : xs[i]? = some x) (hy : ys[i]? = some y) : (c x y ≠ 0 → R = c x y) ∧ (c x y = 0 → lxL c (xs.drop (i + 1)) (ys.drop (i + 1)) = R) := by
  obtain ⟨h1, e1⟩ := List.getElem?_eq_some_iff.1 hx
  obtain ⟨h2, e2⟩ := List.getElem?_eq_some_iff.1 hy
  rw [← List.getElem_cons_drop h1, ← List.getElem_cons_drop h2, e1, e2, lxL] at h
  refine ⟨fun hn => ?_, fun hz => ?_⟩
  · rw [if_neg hn] at h; exact h.symm
  · rw [if_pos hz] at h; exact h
theorem lx_end (h : lxL c (xs.drop i) (ys.drop i) = R) (hx : xs.length ≤ i) : (i < ys.length → R = -1) ∧ (ys.length ≤ i → R = 0) := by
  rw [List.drop_eq_nil_of_le hx] at h
  refine ⟨fun hy => ?_, fun hy => ?_⟩
  · rw [← List.getElem_cons_drop hy, lxL] at h; exact h.symm
  · rw [List.drop_eq_nil_of_le hy, lxL] at h; exact h.symm
end
theorem isNaN_x {w : World} {x : Int} : DoesX Tryz.prog 142 [iV x] w (.bool false) := by
  refine g_enter Tryz.func142 rfl Tryz.ntmps142 rfl ?_
  repeat' (first | (show oL; first | refine sMv rfl rfl ?_ | refine sAs rfl rfl ?_ | (show oA (.binOp _ _ _ _ _); refine st_y (y_neq rfl rfl) rfl ?_)) | refine xNt ?_ | (show oC; first | refine c_seq ?_ | refine c_region ?_ | refine c_ret ?_))
  exact x_ret1 Tryz.results142 (res_tmp rfl) (fun w' c' => ⟨by simp, c'⟩)
theorem cmpInt_x {w : World} {x y : Int} : DoesX Tryz.prog 121 [iV x, iV y] w (iV (lxI x y)) := by
  refine g_enter Tryz.func121 rfl Tryz.ntmps121 rfl ?_
  unfold lxI
  by_cases h1 : x < y
  · rw [if_pos h1]
    repeat' (first | (show oL; first | refine sMv rfl rfl ?_ | refine sAs rfl rfl ?_ | refine sLs rfl rfl rfl ?_ | (show oA (.call _); refine m_callx (ent_of Tryz.func142 kr rfl) rfl rfl isNaN_x ?_)) | refine xNt ?_ | (show oC; first | refine c_seq ?_ | refine c_region ?_ | refine c_skip (x_then ?_) | refine c_ret ?_ | refine c_false rfl ?_ | refine c_ift rfl aO ?_) | (show AT _ _ _ _; refine x_then_ret ?_))
    exact x_ret1 Tryz.results121 (res_tmp rfl) (fun w' c' => ⟨rfl, c'⟩)
  · rw [if_neg h1]
    by_cases h2 : y < x
    · rw [if_pos h2]
      repeat' (first | (show oL; first | refine sMv rfl rfl ?_ | refine sAs rfl rfl ?_ | (show oA (.binOp _ _ _ _ _); first | refine sLs rfl rfl rfl ?_ | refine st_y (y_gtr rfl rfl) rfl ?_) | (show oA (.call _); refine m_callx (ent_of Tryz.func142 kr rfl) rfl rfl isNaN_x ?_)) | refine xNt ?_ | (show oC; first | refine c_seq ?_ | refine c_region ?_ | refine c_skip (x_then ?_) | refine c_ret ?_ | refine c_false rfl ?_ | refine c_ift rfl aO ?_ | refine c_iff rfl nN ?_) | (show AT _ _ _ _; refine x_then_ret ?_))
      exact x_ret1 Tryz.results121 (res_tmp rfl) (fun w' c' => ⟨rfl, c'⟩)
    · rw [if_neg h2]
      repeat' (first | (show oL; first | refine sMv rfl rfl ?_ | refine sAs rfl rfl ?_ | (show oA (.binOp _ _ _ _ _); first | refine sLs rfl rfl rfl ?_ | refine st_y (y_gtr rfl rfl) rfl ?_) | (show oA (.call _); refine m_callx (ent_of Tryz.func142 kr rfl) rfl rfl isNaN_x ?_)) | refine xNt ?_ | (show oC; first | refine c_seq ?_ | refine c_region ?_ | refine c_skip (x_then ?_) | refine c_ret ?_ | refine c_false rfl ?_ | refine c_iff rfl nN ?_))
      exact x_ret1 Tryz.results121 (res_tmp rfl) (fun w' c' => ⟨rfl, c'⟩)
theorem Compare_x {w : World} {xs ys : List Int} {u v : Value} (hu : Rd w (iT xs) u) (hv : Rd w (iT ys) v) : DoesX Tryz.prog 101 [u, v] w (iV (lxL lxI xs ys)) := by
  obtain ⟨a, ca, rfl, hsa, l1, l2, hga⟩ := hu.ints
  have lb : xs.length ≤ 9223372036854775807 := by unfold maxLen at l2; omega
  obtain ⟨b, cb, rfl, hsb, _, _, hgb⟩ := hv.ints
  refine g_enter Tryz.func101 rfl Tryz.ntmps101 rfl ?_
  repeat' (first | (show oL; first | refine sMv rfl rfl ?_ | refine sAs rfl rfl ?_ | refine sLn tabs rfl rfl rfl ?_) | refine xNt ?_ | (show oC; first | refine c_seq ?_ | refine c_region ?_ | refine c_block ?_))
  refine c_loopC (α := Nat) [0, 1, 9, 10] (fun i => [(11, .int .i64 i)]) (fun i => i ≤ xs.length ∧ lxL lxI (xs.drop i) (ys.drop i) = lxL lxI xs ys) (fun i => xs.length - i) 0 rfl sB ⟨Nat.zero_le _, rfl⟩ ?_
  rintro i ⟨hi, hR⟩
  by_cases hin : i < xs.length
  · obtain ⟨x, hx⟩ : ∃ x, xs[i]? = some x := ⟨_, List.getElem?_eq_getElem hin⟩
    have hxg : xs.getD i 0 = x := by rw [List.getD, hx]; rfl
    have gx := hga i hin
    rw [hxg] at gx
    by_cases hiy : i < ys.length
    · obtain ⟨y, hy⟩ : ∃ y, ys[i]? = some y := ⟨_, List.getElem?_eq_getElem hiy⟩
      have hyg : ys.getD i 0 = y := by rw [List.getD, hy]; rfl
      have gy := hgb i hiy
      rw [hyg] at gy
      obtain ⟨s1, s2⟩ := lx_step hR hx hy
      repeat' (first | (show oL; first | refine sMv rfl rfl ?_ | refine sAs rfl rfl ?_ | (show oA (.load _ _); first | refine st_y (y_load tabs rfl rfl (hc_ex gx)) rfl ?_ | refine st_y (y_load tabs rfl rfl (hc_ex gy)) rfl ?_) | (show oA (.indexAddr _ _ _); first | refine st_y (y_ix1 tabs (j := i) rfl rfl rfl hsa rfl hin) rfl ?_ | refine st_y (y_ix1 tabs (j := i) rfl rfl rfl hsb rfl hiy) rfl ?_) | (show oA (.binOp _ _ _ _ _); first | refine sAd rfl rfl om rfl ?_ | refine sLs rfl rfl rfl ?_ | refine st_y (y_geq rfl rfl) rfl ?_ | refine st_y (y_neq rfl rfl) rfl ?_) | (show oA (.call _); first | refine m_callx (ent_of Tryz.func121 kr rfl) rfl rfl cmpInt_x ?_ | refine sLn tabs rfl rfl rfl ?_)) | refine xNt ?_ | (show oC; first | refine c_seq ?_ | refine c_region ?_ | refine c_skip (x_then ?_) | refine c_skip (x_blk ?_) | refine c_block ?_ | refine c_ret ?_ | refine c_ift rfl aO ?_ | refine c_iff rfl nN ?_ | refine c_ifnd rfl (fun h => ?_) (fun h => ?_)) | (show AT _ _ _ _; first | refine x_then ?_ | refine x_then_ret ?_ | refine x_blk_ret ?_))
      all_goals first | (exfalso; omega) | skip
      · have hne : lxI x y ≠ 0 := by assumption
        rw [s1 hne]
        exact x_ret1 Tryz.results101 (res_tmp rfl) (fun w' c' => ⟨rfl, c'⟩)
      · have hz : lxI x y = 0 := by first | assumption | exact Decidable.not_not.1 aS
        exact x_nxC (i + 1) sB (by exact ⟨hin, s2 hz⟩) om
    · have h1 := lx_more hR hx om
      repeat' (first | (show oL; first | refine sMv rfl rfl ?_ | refine sAs rfl rfl ?_ | (show oA (.load _ _); refine st_y (y_load tabs rfl rfl (hc_ex gx)) rfl ?_) | (show oA (.indexAddr _ _ _); refine st_y (y_ix1 tabs (j := i) rfl rfl rfl hsa rfl hin) rfl ?_) | (show oA (.binOp _ _ _ _ _); first | refine sLs rfl rfl rfl ?_ | refine st_y (y_geq rfl rfl) rfl ?_) | refine sLn tabs rfl rfl rfl ?_) | refine xNt ?_ | (show oC; first | refine c_seq ?_ | refine c_region ?_ | refine c_skip (x_then ?_) | refine c_block ?_ | refine c_ret ?_ | refine c_ift rfl aO ?_) | (show AT _ _ _ _; first | refine x_then_ret ?_ | refine x_blk_ret ?_))
      rw [h1]
      exact x_ret1 Tryz.results101 (res_tmp rfl) (fun w' c' => ⟨rfl, c'⟩)
  · obtain ⟨e1, e2⟩ := lx_end hR om
    have hie : i = xs.length := by omega
    by_cases hiy : i < ys.length
    · rw [e1 hiy]
      repeat' (first | (show oL; first | refine sMv rfl rfl ?_ | refine sAs rfl rfl ?_ | refine sLs rfl rfl rfl ?_ | refine sLn tabs rfl rfl rfl ?_) | refine xNt ?_ | (show oC; first | refine c_seq ?_ | refine c_region ?_ | refine c_ret ?_ | refine c_exit ?_ | refine c_ift rfl aO ?_ | refine c_iff rfl nN ?_) | (show AT _ _ _ _; first | refine x_then ?_ | refine x_then_ret ?_ | refine x_then_exit ?_ | refine x_blk_exit rfl ?_))
      exact x_ret1 Tryz.results101 (res_tmp rfl) (fun w' c' => ⟨rfl, c'⟩)
    · rw [e2 om]
      repeat' (first | (show oL; first | refine sMv rfl rfl ?_ | refine sAs rfl rfl ?_ | refine sLs rfl rfl rfl ?_ | refine sLn tabs rfl rfl rfl ?_) | refine xNt ?_ | (show oC; first | refine c_seq ?_ | refine c_region ?_ | refine c_skip (x_then ?_) | refine c_ret ?_ | refine c_exit ?_ | refine c_iff rfl nN ?_) | (show AT _ _ _ _; first | refine x_then ?_ | refine x_then_exit ?_ | refine x_blk_exit rfl ?_))
      exact x_ret1 Tryz.results101 (res_tmp rfl) (fun w' c' => ⟨rfl, c'⟩)
theorem spaces11_x {w : World} {xs ys : List Int} {u v : Value} (hu : Rd w (iT xs) u) (hv : Rd w (iT ys) v) : DoesX Tryz.prog 100 [u, v] w (iV (lxL lxI xs ys)) := by
  refine g_enter Tryz.func100 rfl Tryz.ntmps100 rfl ?_
  repeat' (first | (show oL; first | refine sMv rfl rfl ?_ | refine sAs rfl rfl ?_ | (show oA (.call _); refine m_callx (ent_of Tryz.func101 kr rfl) rfl rfl (Compare_x hu hv) ?_)) | refine xNt ?_ | (show oC; first | refine c_seq ?_ | refine c_region ?_ | refine c_ret ?_))
  exact x_ret1 Tryz.results100 (res_tmp rfl) (fun w' c' => ⟨rfl, c'⟩)
theorem CompareFunc_x {w : World} {A B : List (List Int)} {u v : Value} (hu : Rd w (rowsT 43 A) u) (hv : Rd w (rowsT 43 B) v) : DoesX Tryz.prog 99 [u, v, .func (.func 100) #[] #[]] w (iV (lxL (lxL lxI) A B)) := by
  obtain ⟨a, ca, rfl, hsa, l1, l2, hga⟩ := rd_rows hu
  have lb : A.length ≤ 9223372036854775807 := by unfold maxLen at l2; omega
  obtain ⟨b, cb, rfl, hsb, _, _, hgb⟩ := rd_rows hv
  refine g_enter Tryz.func99 rfl Tryz.ntmps99 rfl ?_
  repeat' (first | (show oL; first | refine sMv rfl rfl ?_ | refine sAs rfl rfl ?_ | refine sLn tabs rfl rfl rfl ?_) | refine xNt ?_ | (show oC; first | refine c_seq ?_ | refine c_region ?_ | refine c_block ?_))
  refine c_loopC (α := Nat) [0, 1, 2, 11, 12] (fun i => [(13, .int .i64 i)]) (fun i => i ≤ A.length ∧ lxL (lxL lxI) (A.drop i) (B.drop i) = lxL (lxL lxI) A B) (fun i => A.length - i) 0 rfl sB ⟨Nat.zero_le _, rfl⟩ ?_
  rintro i ⟨hi, hR⟩
  by_cases hin : i < A.length
  · obtain ⟨x, hx⟩ : ∃ x, A[i]? = some x := ⟨_, List.getElem?_eq_getElem hin⟩
    obtain ⟨ax, cx, gx, rx⟩ := hga i x hx
    by_cases hiy : i < B.length
    · obtain ⟨y, hy⟩ : ∃ y, B[i]? = some y := ⟨_, List.getElem?_eq_getElem hiy⟩
      obtain ⟨ay, cy, gy, ry⟩ := hgb i y hy
      obtain ⟨s1, s2⟩ := lx_step hR hx hy
      repeat' (first | (show oL; first | refine sMv rfl rfl ?_ | refine sAs rfl rfl ?_ | (show oA (.load _ _); first | refine st_y (y_load tabs rfl rfl (hc_ex gx)) rfl ?_ | refine st_y (y_load tabs rfl rfl (hc_ex gy)) rfl ?_) | (show oA (.indexAddr _ _ _); first | refine st_y (y_ix1 tabs (j := i) rfl rfl rfl hsa rfl hin) rfl ?_ | refine st_y (y_ix1 tabs (j := i) rfl rfl rfl hsb rfl hiy) rfl ?_) | (show oA (.binOp _ _ _ _ _); first | refine sAd rfl rfl om rfl ?_ | refine sLs rfl rfl rfl ?_ | refine st_y (y_geq rfl rfl) rfl ?_ | refine st_y (y_neq rfl rfl) rfl ?_) | (show oA (.call _); first | refine m_callxv rfl (ent_of Tryz.func100 kr rfl) rfl rfl (spaces11_x rx ry) ?_ | refine sLn tabs rfl rfl rfl ?_)) | refine xNt ?_ | (show oC; first | refine c_seq ?_ | refine c_region ?_ | refine c_skip (x_then ?_) | refine c_skip (x_blk ?_) | refine c_block ?_ | refine c_ret ?_ | refine c_ift rfl aO ?_ | refine c_iff rfl nN ?_ | refine c_ifnd rfl (fun h => ?_) (fun h => ?_)) | (show AT _ _ _ _; first | refine x_then ?_ | refine x_then_ret ?_ | refine x_blk_ret ?_))
      all_goals first | (exfalso; omega) | skip
      · have hne : lxL lxI x y ≠ 0 := by assumption
        rw [s1 hne]
        exact x_ret1 Tryz.results99 (res_tmp rfl) (fun w' c' => ⟨rfl, c'⟩)
      · have hz : lxL lxI x y = 0 := by first | assumption | exact Decidable.not_not.1 aS
        exact x_nxC (i + 1) sB (by exact ⟨hin, s2 hz⟩) om
    · have h1 := lx_more hR hx om
      repeat' (first | (show oL; first | refine sMv rfl rfl ?_ | refine sAs rfl rfl ?_ | (show oA (.load _ _); refine st_y (y_load tabs rfl rfl (hc_ex gx)) rfl ?_) | (show oA (.indexAddr _ _ _); refine st_y (y_ix1 tabs (j := i) rfl rfl rfl hsa rfl hin) rfl ?_) | (show oA (.binOp _ _ _ _ _); first | refine sLs rfl rfl rfl ?_ | refine st_y (y_geq rfl rfl) rfl ?_) | refine sLn tabs rfl rfl rfl ?_) | refine xNt ?_ | (show oC; first | refine c_seq ?_ | refine c_region ?_ | refine c_skip (x_then ?_) | refine c_block ?_ | refine c_ret ?_ | refine c_ift rfl aO ?_) | (show AT _ _ _ _; first | refine x_then_ret ?_ | refine x_blk_ret ?_))
      rw [h1]
      exact x_ret1 Tryz.results99 (res_tmp rfl) (fun w' c' => ⟨rfl, c'⟩)
  · obtain ⟨e1, e2⟩ := lx_end hR om
    have hie : i = A.length := by omega
    by_cases hiy : i < B.length
    · rw [e1 hiy]
      repeat' (first | (show oL; first | refine sMv rfl rfl ?_ | refine sAs rfl rfl ?_ | refine sLs rfl rfl rfl ?_ | refine sLn tabs rfl rfl rfl ?_) | refine xNt ?_ | (show oC; first | refine c_seq ?_ | refine c_region ?_ | refine c_ret ?_ | refine c_exit ?_ | refine c_ift rfl aO ?_ | refine c_iff rfl nN ?_) | (show AT _ _ _ _; first | refine x_then ?_ | refine x_then_ret ?_ | refine x_then_exit ?_ | refine x_blk_exit rfl ?_))
      exact x_ret1 Tryz.results99 (res_tmp rfl) (fun w' c' => ⟨rfl, c'⟩)
    · rw [e2 om]
      repeat' (first | (show oL; first | refine sMv rfl rfl ?_ | refine sAs rfl rfl ?_ | refine sLs rfl rfl rfl ?_ | refine sLn tabs rfl rfl rfl ?_) | refine xNt ?_ | (show oC; first | refine c_seq ?_ | refine c_region ?_ | refine c_skip (x_then ?_) | refine c_ret ?_ | refine c_exit ?_ | refine c_iff rfl nN ?_) | (show AT _ _ _ _; first | refine x_then ?_ | refine x_then_exit ?_ | refine x_blk_exit rfl ?_))
      exact x_ret1 Tryz.results99 (res_tmp rfl) (fun w' c' => ⟨rfl, c'⟩)
theorem rd_alloc {w : World} {o : Obj} {t : T} {u : Value} (h : Rd w t u) : Rd (w.alloc o) t u := h.mono (fun b hb => ((Below.refl w.heap.size w).alloc (Nat.le_refl _) o).block b hb)
theorem cell_al2 {w : World} {cs : Array Value} {e k : Nat} {v : Value} (h : cs[k]? = some v) : (w.alloc (.cells cs e)).cell? ⟨w.heap.size, 0 + k, none⟩ = some v := by
  rw [Nat.zero_add]
  unfold World.cell?
  rw [show (w.alloc (.cells cs e)).heap[w.heap.size]? = some (.cells cs e) by show (w.heap.push _)[w.heap.size]? = _; simp]
  simp [h]
theorem cell_al1 {w : World} {o : Obj} {cs : Array Value} {e k : Nat} {v : Value} (h : cs[k]? = some v) : ((w.alloc (.cells cs e)).alloc o).cell? ⟨w.heap.size, 0 + k, none⟩ = some v := by
  have h1 := cell_al2 (w := w) (e := e) h
  rw [World.cell?_of_block (((Below.refl (w.alloc (.cells cs e)).heap.size _).alloc (Nat.le_refl _) o).block _ (World.block_lt_of_cell? _ _ h1))]
  exact h1
theorem spaces1_x {w : World} {n m : Int} {A B : List (List Int)} {u v : Value} (hu : Rd w (rowsT 43 A) u) (hv : Rd w (rowsT 43 B) v) : Calls Tryz.prog 98 #[.agg #[iV n, u], .agg #[iV m, v]] w (fun e w' => e = .returned (iV (lxL (lxL lxI) A B)) ∧ ∃ q os, w' = Go.Sort.grow (w.drewN q) os) := by
  obtain ⟨a, ca, rfl, _⟩ := rd_rows hu
  obtain ⟨b, cb, rfl, _⟩ := rd_rows hv
  refine g_enter (vs := [_, _]) Tryz.func98 rfl Tryz.ntmps98 rfl ?_
  repeat' (first | (show oL; first | refine sAs rfl rfl ?_ | refine sFd tabs rfl rfl rfl rfl ?_ | (show oA (.load _ _); first | refine st_y (y_load tabs rfl rfl (hc_ex (cell_al1 (k := 1) rfl))) rfl ?_ | refine st_y (y_load tabs rfl rfl (hc_ex (cell_al2 (k := 1) rfl))) rfl ?_) | (show oA (.call _); refine m_callx (ent_of Tryz.func99 kr rfl) rfl rfl (CompareFunc_x (rd_alloc (rd_alloc hu)) (rd_alloc (rd_alloc hv))) ?_) | (show oA (.box _ _); refine m_boxx rfl rfl ?_)) | refine xNt ?_ | (show oC; first | refine c_seq ?_ | refine c_region ?_ | refine c_ret ?_))
  exact x_ret1 Tryz.results98 (res_tmp rfl) (fun w' c' => by
    have c' : w' = _ := c'
    subst c'
    rw [Go.Sort.alloc_eq_grow, Go.Sort.alloc_eq_grow, Go.Sort.grow_grow]
    exact ⟨rfl, 0, _, rfl⟩)
end Go.Proofs.YtcplmeajmpkpkaaGreat

namespace Go.Lg
open Go.RowKit Go.Sort Go.Proofs
theorem sw_other {α : Type} [Inhabited α] {enc : α → List Value} {k g m b : Nat} {w : World} {dk : Array α} {os : Array Obj} (hb : b < w.heap.size) (hn : b ≠ g) : (sortWorldK enc k w g 0 m dk os).heap[b]? = w.heap[b]? := by
  simp only [sortWorldK, grow, putRowK, putRow, mapBlock]
  rw [Array.getElem?_append_left (by simpa using hb), Array.getElem?_modify, if_neg (Ne.symm hn)]
  rfl
theorem sw_same {α : Type} [Inhabited α] {enc : α → List Value} {k g m e : Nat} {w : World} {dk : Array α} {os : Array Obj} {cur : Array Value} {fr : Nat × Nat} (h : w.heap[g]? = some (.cells cur e fr)) : (sortWorldK enc k w g 0 m dk os).heap[g]? = some (.cells (putCells id 0 (flatK enc k dk) cur) e fr) := by
  have hb := (Array.getElem?_eq_some_iff.1 h).1
  simp only [sortWorldK, grow, putRowK, putRow, mapBlock]
  rw [Array.getElem?_append_left (by simpa using hb), Array.getElem?_modify, if_pos rfl, show (Go.Sort.ahead w m).heap[g]? = some (.cells cur e fr) from h]
  rfl
theorem put_take {F cur : Array Value} (h : F.size ≤ cur.size) : (putCells id 0 F cur).toList.take F.size = F.toList := by
  apply List.ext_getElem?
  intro i
  rw [List.getElem?_take]
  by_cases hi : i < F.size
  · rw [if_pos hi, Array.getElem?_toList, Array.getElem?_toList]
    simp only [putCells, Array.getElem?_mapIdx]
    rw [Array.getElem?_eq_getElem (show i < cur.size by omega)]
    simp only [Option.map_some, Nat.zero_le, true_and, Nat.zero_add, Nat.sub_zero, hi, if_true, id]
    rw [getElem!_pos F i hi, Array.getElem?_eq_getElem hi]
  · rw [if_neg hi, List.getElem?_eq_none (by rw [Array.length_toList]; omega)]
end Go.Lg
namespace Go.Proofs.YtcplmeajmpkpkaaGreat
open Go.Lg Go.Proofs Go.RowKit Go.Shelf Go.Sort
def sortR : Ren := ⟨fun k => match k with | 6 => 97 | 14 => 119 | 15 => 120 | 20 => 132 | 21 => 133 | 22 => 134 | 23 => 135 | 24 => 136 | 25 => 137 | 26 => 138 | 27 => 139 | 28 => 140 | 29 => 141 | 46 => 144 | 47 => 145 | 48 => 146 | 49 => 147 | 50 => 148 | 57 => 149 | _ => 0,
  fun k => match k with | 0 => 0 | 3 => 3 | 4 => 4 | 5 => 5 | 9 => 9 | 22 => 36 | 24 => 26 | 25 => 107 | 39 => 119 | 45 => 134 | 46 => 135 | 50 => 139 | 53 => 127 | 55 => 130 | 66 => 143 | 70 => 147 | 76 => 149 | 77 => 150 | _ => 0,
  fun k => k⟩
theorem flatK_list {α : Type} [Inhabited α] {enc : α → List Value} (hk : ∀ x, (enc x).length = 2) (d : Array α) : (flatK enc 2 d).toList = d.toList.flatMap enc := by
  apply List.ext_getElem?
  intro i
  by_cases hi : i < d.size * 2
  · have h1 : (flatK enc 2 d)[i]! = (enc d[i / 2]!)[i % 2]! := get_flatK enc 2 d i hi
    have h2 := flatMap_get (f := enc) (k := 2) (l := d.toList) hk (i := i / 2) (x := d[i / 2]!) (by
      rw [Array.getElem?_toList, Array.getElem?_eq_getElem om, getElem!_pos d _ om]) (q := i % 2) (Nat.mod_lt _ (by decide))
    rw [show i / 2 * 2 + i % 2 = i by omega] at h2
    rw [h2, Array.getElem?_toList, Array.getElem?_eq_getElem (by rw [size_flatK]; exact hi)]
    rw [getElem!_pos (flatK enc 2 d) i (by rw [size_flatK]; exact hi)] at h1
    rw [h1]
    have h3 : i % 2 < (enc d[i / 2]!).length := by rw [hk]; omega
    rw [List.getElem?_eq_getElem h3, getElem!_pos (enc d[i / 2]!) (i % 2) h3]
  · rw [List.getElem?_eq_none (by rw [Array.length_toList, size_flatK]; omega), List.getElem?_eq_none (by rw [flatMap_length hk, Array.length_toList]; omega)]
theorem sortL : SlLaysF0.n6 Tryz.prog sortR := by
  constructor
  case f6 => exact ⟨Tryz.f97.name, by kernel_rfl, by kernel_rfl⟩
  case f14 => exact ⟨Tryz.f119.name, by kernel_rfl, by kernel_rfl⟩
  case f20 => exact ⟨Tryz.f132.name, by kernel_rfl, by kernel_rfl⟩
  case f21 => exact ⟨Tryz.f133.name, by kernel_rfl, by kernel_rfl⟩
  case f22 => exact ⟨Tryz.f134.name, by kernel_rfl, by kernel_rfl⟩
  case f23 => exact ⟨Tryz.f135.name, by kernel_rfl, by kernel_rfl⟩
  case f24 => exact ⟨Tryz.f136.name, by kernel_rfl, by kernel_rfl⟩
  case f25 => exact ⟨Tryz.f137.name, by kernel_rfl, by kernel_rfl⟩
  case f26 => exact ⟨Tryz.f138.name, by kernel_rfl, by kernel_rfl⟩
  case f27 => exact ⟨Tryz.f139.name, by kernel_rfl, by kernel_rfl⟩
  case f46 => exact ⟨Tryz.f144.name, by kernel_rfl, by kernel_rfl⟩
  case f49 => exact ⟨Tryz.f147.name, by kernel_rfl, by kernel_rfl⟩
  case f50 => exact ⟨Tryz.f148.name, by kernel_rfl, by kernel_rfl⟩
  case f57 => exact ⟨Tryz.f149.name, by kernel_rfl, by kernel_rfl⟩
  all_goals first | kernel_rfl | (intro w; kernel_rfl) | rfl
theorem aggSp : ∀ w, (isAgg (sortR.t 24)).run Tryz.prog w = .ok true w := by intro w; kernel_rfl
theorem sizeSp : ∀ w, (Go.sizeOf (sortR.t 24)).run Tryz.prog w = .ok 2 w := by intro w; kernel_rfl
theorem ownL_elems {w : World} : ∀ {l : List Sp} {vs : List Value} {fp : List Nat}, OwnL w (l.flatMap spT) vs fp → ∃ (es : List (List Value)) (fs : List (List Nat)), es.length = l.length ∧ fs.length = l.length ∧ vs = es.flatten ∧ fp = fs.flatten ∧ ∀ (i : Nat) (s : Sp) (e : List Value) (f : List Nat), l[i]? = some s → es[i]? = some e → fs[i]? = some f → OwnL w (spT s) e f
  | [], vs, fp, h => by
    simp only [List.flatMap_nil, OwnL] at h
    exact ⟨[], [], rfl, rfl, h.1, h.2, fun i s e f h1 => by simp at h1⟩
  | s :: l, vs, fp, h => by
    rw [List.flatMap_cons] at h
    obtain ⟨v1, v2, f1, f2, rfl, rfl, h1, h2⟩ := OwnL.split h
    obtain ⟨es, fs, a1, a2, rfl, rfl, a3⟩ := ownL_elems h2
    refine ⟨v1 :: es, f1 :: fs, by simp [a1], by simp [a2], by simp, by simp, fun i s e f b1 b2 b3 => ?_⟩
    match i, b1, b2, b3 with
    | 0, b1, b2, b3 =>
      simp only [List.getElem?_cons_zero, Option.some.injEq] at b1 b2 b3
      subst b1; subst b2; subst b3
      exact h1
    | i + 1, b1, b2, b3 => exact a3 i s e f (by simpa using b1) (by simpa using b2) (by simpa using b3)
theorem ownL_join {w : World} {l : List Sp} {E : Nat → List Value} {Fp : Nat → List Nat} : ∀ (is : List Nat), (∀ i ∈ is, OwnL w (spT (l.getD i (0, []))) (E i) (Fp i)) → OwnL w ((is.map (fun i => l.getD i (0, []))).flatMap spT) (is.flatMap E) (is.flatMap Fp)
  | [], _ => by simp [OwnL]
  | i :: is, h => by
    rw [List.map_cons, List.flatMap_cons, List.flatMap_cons, List.flatMap_cons]
    exact OwnL.append (h i List.mem_cons_self) (ownL_join is (fun j hj => h j (List.mem_cons_of_mem _ hj)))
def nil2 : List Value := [iV 0, .slice none 0 0]
theorem rowsT_nil {w : World} {e : Nat} : Lg.Rd w (rowsT e []) (.slice none 0 0) := by
  simp only [List.flatMap_nil, Lg.Rd]
  exact ⟨none, 0, 0, rfl, Nat.le_refl _, Nat.zero_le _, rfl, by simp only [RdL]⟩
theorem spT_own {w : World} {s : Sp} {e : List Value} {f : List Nat} (h : OwnL w (spT s) e f) : ∃ u, e = [iV s.1, u] ∧ Lg.Own w (rowsT 43 s.2) u f := by
  unfold spT at h
  simp only [OwnL] at h
  obtain ⟨v, vs, f1, f2, rfl, rfl, h0, v2, vs2, f3, f4, rfl, rfl, h1, rfl, rfl⟩ := h
  have h0 : v = iV s.1 ∧ f1 = [] := by simpa only [Lg.Own] using h0
  obtain ⟨rfl, rfl⟩ := h0
  refine ⟨v2, rfl, ?_⟩
  rw [List.append_nil, List.nil_append]
  exact h1
theorem getD_lt {α : Type} {l : List α} {i : Nat} {d x : α} (h : l[i]? = some x) : l.getD i d = x := by rw [List.getD, h]; rfl
theorem range_getD {α : Type} {d : α} : ∀ (l : List α), (List.range l.length).map (fun i => l.getD i d) = l := fun l => by
  refine List.ext_getElem (by simp) (fun i h1 h2 => ?_)
  simp [List.getD, h2]
theorem sort_ok {w : World} {M : List Nat} {e c : Nat} {l : List Sp} {a : Option Addr} (h : Lg.Own w (spsT e l) (.slice a l.length c) M) (hnd : M.Nodup) (hne : l ≠ []) (hlen : l.length ≤ 1000000) :
    DoesB Tryz.prog 97 [.slice a l.length c, .func (.func 98) #[] #[]] w M (fun r H => r = .tuple #[] ∧ ∃ l' : List Sp, l'.Perm l ∧ l'.Pairwise (fun x y => ¬ lxL (lxL lxI) y.2 x.2 < 0) ∧ H = [.own (spsT e l') (.slice a l.length c)]) := by
  simp only [Lg.Own] at h
  rcases h with ⟨h1, _⟩ | ⟨g, n, cap, cur, fp', h1, h2, h3, h4, h5, h6, h7, rfl⟩
  · exfalso
    have := congrArg List.length h1
    rw [flatMap_length spT_length] at this
    have : l.length = 0 := by simp at this; omega
    exact hne (List.length_eq_zero_iff.1 this)
  cases h1
  rw [flatMap_length spT_length] at h3
  obtain ⟨es, fs, q1, q2, q3, q4, q5⟩ := ownL_elems h7
  have hg : g < w.heap.size := (Array.getElem?_eq_some_iff.1 h2).1
  have hgn : g ∉ fp' := (List.nodup_cons.1 hnd).1
  have hfn := (List.nodup_cons.1 hnd).2
  have el : ∀ i s, l[i]? = some s → ∃ u f, es[i]? = some [iV s.1, u] ∧ fs[i]? = some f ∧ Lg.Own w (rowsT 43 s.2) u f ∧ OwnL w (spT s) [iV s.1, u] f := fun i s hs => by
    have hi := (List.getElem?_eq_some_iff.1 hs).1
    obtain ⟨e, he⟩ : ∃ e, es[i]? = some e := ⟨_, List.getElem?_eq_getElem om⟩
    obtain ⟨f, hf⟩ : ∃ f, fs[i]? = some f := ⟨_, List.getElem?_eq_getElem om⟩
    have h8 := q5 i s e f hs he hf
    obtain ⟨u, rfl, h9⟩ := spT_own h8
    exact ⟨u, f, he, hf, h9, h8⟩
  have hfb : ∀ i f, fs[i]? = some f → ∀ b ∈ f, b ∈ fp' := fun i f hf b hb => by
    rw [q4]
    exact List.mem_flatten.2 ⟨f, List.mem_of_getElem? hf, hb⟩
  have hflt : ∀ b ∈ fp', b < w.heap.size := fun b hb => h7.lt b hb
  obtain ⟨enc, henc⟩ : ∃ enc : Nat → List Value, enc = fun i => es.getD i nil2 := ⟨_, rfl⟩
  obtain ⟨rws, hrws⟩ : ∃ rws : Nat → List (List Int), rws = fun i => (l.getD i (0, [])).2 := ⟨_, rfl⟩
  have cases_i : ∀ i, (∃ s u f, l[i]? = some s ∧ enc i = [iV s.1, u] ∧ rws i = s.2 ∧ fs[i]? = some f ∧ Lg.Own w (rowsT 43 s.2) u f ∧ OwnL w (spT s) [iV s.1, u] f) ∨ (l.length ≤ i ∧ enc i = nil2 ∧ rws i = []) := fun i => by
    by_cases hi : i < l.length
    · obtain ⟨s, hs⟩ : ∃ s, l[i]? = some s := ⟨_, List.getElem?_eq_getElem hi⟩
      obtain ⟨u, f, a1, a2, a3, a4⟩ := el i s hs
      exact .inl ⟨s, u, f, hs, by rw [henc]; exact getD_lt a1, by rw [hrws]; simp only; rw [getD_lt hs], a2, a3, a4⟩
    · refine .inr ⟨by omega, ?_, ?_⟩
      · rw [henc]; simp only; rw [List.getD, List.getElem?_eq_none om]; rfl
      · rw [hrws]; simp only; rw [List.getD, List.getElem?_eq_none om]; rfl
  have hk : ∀ x, (enc x).length = 2 := fun x => by
    rcases cases_i x with ⟨s, u, f, _, e1, _⟩ | ⟨_, e1, _⟩
    · rw [e1]; rfl
    · rw [e1]; rfl
  have hone : ∀ x, ∀ v ∈ enc x, v.oneCell' = true := fun x v hv => by
    rcases cases_i x with ⟨s, u, f, _, e1, _, _, e2, _⟩ | ⟨_, e1, _⟩
    · rw [e1] at hv
      obtain ⟨a', c', rfl, _⟩ := rd_rows (Lg.Own.rd e2)
      simp only [List.mem_cons, List.not_mem_nil, or_false] at hv
      rcases hv with rfl | rfl <;> rfl
    · rw [e1] at hv
      simp only [nil2, List.mem_cons, List.not_mem_nil, or_false] at hv
      rcases hv with rfl | rfl <;> rfl
  have hes : (List.range l.length).flatMap enc = cur.toList.take (l.length * 2) := by
    rw [q3, List.flatMap_def, henc]
    congr 1
    rw [← q1]
    exact range_getD es
  have hd : (Array.range l.length).size = l.length := by simp
  have hfl : (flatK enc 2 (Array.range l.length)).toList = cur.toList.take (l.length * 2) := by
    rw [flatK_list hk, Array.toList_range, hes]
  have hH : HoldsK enc 2 w g 0 (Array.range l.length) := fun j hj => by
    have hj' : j < l.length * 2 := by rw [size_flatK, hd] at hj; exact hj
    have hjc : j < cur.size := by rw [h6]; have := Nat.mul_le_mul_right 2 h4; omega
    have e1 : (flatK enc 2 (Array.range l.length))[j]! = cur[j] := by
      have h' : (flatK enc 2 (Array.range l.length)).toList[j]? = cur.toList[j]? := by rw [hfl, List.getElem?_take, if_pos hj']
      rw [Array.getElem?_toList, Array.getElem?_toList, Array.getElem?_eq_getElem hj, Array.getElem?_eq_getElem hjc] at h'
      rw [getElem!_pos (flatK enc 2 (Array.range l.length)) j hj]
      exact Option.some.inj h'
    rw [e1]
    refine ⟨?_, ?_⟩
    · simp [World.cell?, h2, hjc]
    · simp [World.frozen?, h2]
  have hcmp : CmpLays Tryz.prog 98 #[] enc 2 (fun x y => lxL (lxL lxI) (rws x) (rws y)) g 0 (Array.range l.length).size w := fun m os dk _ x y => by
    have rd : ∀ x, ∃ (n : Int) (u : Value), enc x = [iV n, u] ∧ Lg.Rd (sortWorldK enc 2 w g 0 m dk os) (rowsT 43 (rws x)) u := fun x => by
      rcases cases_i x with ⟨s, u, f, _, e1, e3, e4, e2, _⟩ | ⟨_, e1, e3⟩
      · refine ⟨s.1, u, e1, ?_⟩
        rw [e3]
        refine Lg.Own.rd (Lg.Own.loc e2 (fun b hb => ?_))
        have := hfb x f e4 b hb
        exact sw_other (hflt b this) (fun e => hgn (e ▸ this))
      · exact ⟨0, _, e1, by rw [e3]; exact rowsT_nil⟩
    obtain ⟨n1, u1, e1, r1⟩ := rd x
    obtain ⟨n2, u2, e2, r2⟩ := rd y
    rw [e1, e2]
    exact spaces1_x r1 r2
  have hO : SWO (ltOf (fun x y => lxL (lxL lxI) (rws x) (rws y))) := lin_swo (lxL_lin (lxL_lin lxI_lin)) rws
  have key := AnyQ.slices_SortFunc sortL 2 aggSp sizeSp enc hk hone _ hO 98 #[] g 0 c (Array.range l.length) w (ent_of Tryz.func98 kr rfl) hcmp hH hg (by rw [hd]; omega)
  rw [hd] at key
  refine key.mono ?_
  rintro e w' ⟨rfl, d', k, os, hp, hs, rfl⟩
  obtain ⟨p1, _, p3⟩ := hp
  rw [hd] at p1
  rw [Array.extract_eq_self_of_le om, Array.extract_eq_self_of_le (by simp), Array.toList_range] at p3
  have hsz : (flatK enc 2 d').size = l.length * 2 := by rw [size_flatK, p1]
  have hcs : l.length * 2 ≤ cur.size := by rw [h6]; exact Nat.mul_le_mul_right 2 h4
  have hmem : ∀ i ∈ d'.toList, i < l.length := fun i hi => List.mem_range.1 (p3.mem_iff.1 hi)
  have own' : OwnL (sortWorldK enc 2 w g 0 k d' os) ((d'.toList.map (fun i => l.getD i (0, []))).flatMap spT) (d'.toList.flatMap enc) (d'.toList.flatMap (fun i => fs.getD i [])) := ownL_join _ (fun i hi => by
    rcases cases_i i with ⟨s, u, f, b1, b2, _, b3, _, b4⟩ | ⟨b1, _⟩
    · rw [getD_lt b1, b2, getD_lt b3]
      exact OwnL.loc b4 (fun b hb => by
        have := hfb i f b3 b hb
        exact sw_other (hflt b this) (fun e => hgn (e ▸ this)))
    · have := hmem i hi
      omega)
  have hfp : (d'.toList.flatMap (fun i => fs.getD i [])).Perm fp' := by
    have h8 := p3.flatMap_right (fun i => fs.getD i [])
    rw [List.flatMap_def (l := List.range l.length), ← q2, range_getD fs, ← q4] at h8
    exact h8
  refine ⟨_, [.own (spsT e (d'.toList.map (fun i => l.getD i (0, [])))) (.slice (some ⟨g, 0, none⟩) l.length c)], rfl, ⟨rfl, d'.toList.map (fun i => l.getD i (0, [])), ?_, ?_, rfl⟩, g :: d'.toList.flatMap (fun i => fs.getD i []), ?_, ?_, ?_, ?_⟩
  · have h8 := p3.map (fun i => l.getD i (0, []))
    rwa [range_getD l] at h8
  · rw [List.pairwise_iff_getElem]
    intro i j hi hj hij
    rw [List.length_map, Array.length_toList] at hi hj
    have h8 := hs i j (Nat.zero_le _) hij om
    rw [getElem!_pos d' j hj, getElem!_pos d' i hi] at h8
    have h9 : ¬ lxL (lxL lxI) (rws d'[j]) (rws d'[i]) < 0 := of_decide_eq_false h8
    rw [hrws] at h9
    simp only [List.getElem_map, Array.getElem_toList]
    exact h9
  · refine ⟨g :: d'.toList.flatMap (fun i => fs.getD i []), [], by simp, ?_, rfl⟩
    simp only [HE.sat, Lg.Own]
    refine .inr ⟨g, l.length, c, _, d'.toList.flatMap (fun i => fs.getD i []), rfl, sw_same h2, ?_, h4, h5, ?_, ?_, rfl⟩
    · rw [flatMap_length spT_length, List.length_map, Array.length_toList, p1]
    · simp only [putCells, Array.size_mapIdx]
      exact h6
    · have h8 := put_take (F := flatK enc 2 d') (cur := cur) om
      rw [hsz, flatK_list hk] at h8
      rw [h8]
      exact own'
  · exact List.nodup_cons.2 ⟨fun hb => hgn (hfp.mem_iff.1 hb), hfp.nodup_iff.2 hfn⟩
  · intro b hb
    refine .inl ?_
    rcases List.mem_cons.1 hb with rfl | hb
    · exact List.mem_cons_self
    · exact List.mem_cons_of_mem _ (hfp.mem_iff.1 hb)
  · refine ⟨rfl, rfl, rfl, ?_, fun b hb hn => sw_other hb (fun e => hn (e ▸ List.mem_cons_self))⟩
    simp [sortWorldK, Go.Sort.grow, putRowK, putRow, mapBlock, Go.Sort.ahead]
end Go.Proofs.YtcplmeajmpkpkaaGreat

namespace Go.Lg
open Go.RowKit
section
variable {P : Program} {n : Nat} {s : List (Nat × Value)} {Q : Exit → Act → World → Prop} {ops : Array Oper} {rest : List Oper} {d ty t : Nat} {pos : String} {af : Array Edge} {x y z : Operand} {M : List Nat} {w0 : World} {H : List HE}
theorem y_ixar [Dfs] {C : World → Prop} {a : Addr} {j : Nat} {i : Int} (hk : ∀ a w, (Instr.indexAt t (.pointer (some a)) (.int .i64 i)).run P w = .ok (.pointer (some (a.add j))) w) (hx : ev s x = some (.pointer (some a))) (hy : ev s y = some (.int .i64 i)) : Y P n C s (.indexAddr t x y) ty (.pointer (some (a.add j))) := fun aa w f c d pos af g => by
  simp [execOp, f.ev hx, f.ev hy, hk]
end
end Go.Lg
namespace Go.Proofs.YtcplmeajmpkpkaaGreat
open Go.Lg Go.Proofs Go.RowKit
attribute [local irreducible] Code.wp wpList bodyPost Exit.then Exit.inBlock Hp Again Calls Y AT ResV QT Qn QI wpAny wpAnyQ
set_option maxRecDepth 20000
set_option maxHeartbeats 4000000

def add1 (m : List Int) (x a b : Int) : List Int := if a = x ∧ b ∉ m then m ++ [b] else m
structure Cn (n : Int) (m : List Int) : Prop where
  nd : m.Nodup
  rng : ∀ x ∈ m, 0 ≤ x ∧ x < n
theorem Cn.add {n : Int} {m : List Int} (h : Cn n m) {x a b : Int} (hb : 0 ≤ b ∧ b < n) : Cn n (add1 m x a b) := by
  unfold add1
  split
  · rename_i hc
    refine ⟨List.nodup_append.2 ⟨h.nd, by simp, fun y hy z hz e => ?_⟩, fun y hy => ?_⟩
    · simp only [List.mem_singleton] at hz
      subst e; subst hz
      exact hc.2 hy
    · rcases List.mem_append.1 hy with hy | hy
      · exact h.rng y hy
      · simp only [List.mem_singleton] at hy
        subst hy; exact hb
  · exact h
def Pfx (m m' : List Int) : Prop := m.length ≤ m'.length ∧ ∀ k, k < m.length → m'.getD k 0 = m.getD k 0
theorem Pfx.trans {a b c : List Int} (h : Pfx a b) (h' : Pfx b c) : Pfx a c := ⟨Nat.le_trans h.1 h'.1, fun k hk => by rw [h'.2 k (by have := h.1; omega), h.2 k hk]⟩
end Go.Proofs.YtcplmeajmpkpkaaGreat

namespace Go.Lg
open Go.RowKit
theorem HpX.sub {X : List (Nat × Obj)} {M : List Nat} {w0 w : World} {H H' : List HE} (h : HpX X M w0 H w) (hs : List.Sublist H' H) : HpX X M w0 H' w := by
  obtain ⟨fp, ⟨s, nd, ge, k⟩, hx⟩ := h
  obtain ⟨fp', hs', s'⟩ := satL.sub hs s
  exact ⟨fp', ⟨s', hs'.nodup nd, fun b hb => ge b (hs'.subset hb), k⟩, fun x hm => ⟨fun hb => (hx x hm).1 (hs'.subset hb), (hx x hm).2⟩⟩
theorem round_ok1 {P : Program} {n k : Nat} {A : Type} {l : Nat} {rc : Loop} {M : List Nat} {W : World} {H : List HE} {H' : A → List HE} {s : List (Nat × Value)} {T : Array Value} {pd e id ty : Nat} {pos : String} {af : Array Edge} {v : Value} (hl : W.heap[l]? = some (.loop rc)) (hlM : l ∉ M) (hst : rc.state = .ready) (hpe : rc.pending = none) (hps : rc.params = #[pd]) (hT : rc.tmps = T) (hfr : Fr n s { tmps := T, defers := [] }) (hpd : Nat.blt pd n = true)
    (ha : rc.assign = .region id #[⟨some e, .assign (.tmp pd), ty, pos, af, none⟩] false) (he : Nat.blt e n = true) (hbody : ∀ M1 w2, AT n (Hp M1 w2 H) ((e, v) :: (pd, v) :: s) (rc.body.wpIn (FR l) k P (rPost M1 w2 H')))
    {w : World} (hw : Hp M W H w) : RoundIn Fence.wide k P l rc.fn ((rc.params.zip #[v]).foldl (fun t (p, u) => t.setIfInBounds p u) rc.tmps) rc.assign rc.body w (fun e w' => e = .returned (.bool true) ∧ ∃ x, Hp M W (H' x) w') := by
  have hz : (rc.params.zip #[v]).foldl (fun t (p, u) => t.setIfInBounds p u) rc.tmps = T.setIfInBounds pd v := by rw [hps, hT]; simp
  have hf2 : Fr n ((pd, v) :: s) { tmps := T.setIfInBounds pd v, defers := [] } := hfr.put (by simpa [Nat.blt_eq] using hpd) v
  rw [hz]
  refine round_ok hl hlM hst hpe hf2 (fun K hK => ?_) hbody hw
  rw [ha]
  refine ci_region (by repeat' first | exact no_rPost | refine no_then ?_ | refine no_blk ?_ | exact fun _ _ h => h) rfl ?_
  refine st_y (y_assign (v := v) (by simp [ev, lk])) he ?_
  exact c_nil (x_then hK)
theorem own_cap2 {M : List Nat} {w0 : World} {H : List HE} (i : Nat) {e m c : Nat} {xs : List Int} {a : Option Addr} (hi : H[i]? = some (.own (ints e xs) (.slice a m c))) : ∀ w, Hp M w0 H w → xs.length ≤ c := fun w cw => by
  obtain ⟨a', c', h1, _, h2, _⟩ := (cw.own_rd hi).ints
  cases h1
  exact h2
theorem y_ixq [Dfs] {P : Program} {n : Nat} {C : World → Prop} {s : List (Nat × Value)} {t ty : Nat} {x y : Operand} (T : Tabs P) {e b m cap j q : Nat} {z : List Value} {i : Int} {a0 : Option Addr} (ht : lk T.sl t = some (e, 1, b, z)) (hx : ev s x = some (.slice a0 m cap)) (hy : ev s y = some (.int .i64 i)) (hs : SA a0 m) (hi : i = (j : Int)) (h1 : j < m) (hq : ao a0 + j = q) :
    Y P n C s (.indexAddr t x y) ty (.pointer (some ⟨ab a0, q, none⟩)) := by
  subst hq
  exact y_ix1 T ht hx hy hs hi h1
end Go.Lg
namespace Go.Proofs.YtcplmeajmpkpkaaGreat
open Go.Lg Go.Proofs Go.RowKit
attribute [local irreducible] Code.wp wpList bodyPost Exit.then Exit.inBlock Hp Again Calls Y AT ResV QT Qn QI wpAny wpAnyQ
set_option maxRecDepth 20000
set_option maxHeartbeats 4000000
attribute [local irreducible] bodyPostM rPost HpX HpF

theorem and_shr : ∀ set, set < 8 → ∀ c, c < 3 → andI (shrI ((set : Nat) : Int) ((c : Nat) : Int)) 1 = ((set / 2 ^ c % 2 : Nat) : Int) := by decide +kernel
theorem sbl_ar (a b : Int) (w : World) : (Instr.build 98 #[(0, iV a), (1, iV b)]).run Tryz.prog w = .ok (.agg #[iV a, iV b]) w := by kernel_rfl
theorem sxar0 (a : Addr) (w : World) : (Instr.indexAt 98 (.pointer (some a)) (.int .i64 0)).run Tryz.prog w = .ok (.pointer (some (a.add 0))) w := by kernel_rfl
theorem sxar1 (a : Addr) (w : World) : (Instr.indexAt 98 (.pointer (some a)) (.int .i64 1)).run Tryz.prog w = .ok (.pointer (some (a.add 1))) w := by kernel_rfl
def mks (bs : List Nat) : List (Nat × Obj) := bs.map (fun b => (b, .deferred (some [])))
def GivesSpo (p n k : Nat) (r : Value) (H : List HE) : Prop := ∃ (l : List Sp) (a : Option Addr) (c : Nat), l.Perm (outS p n k (2 ^ n)) ∧ l.Pairwise (fun x y => ¬ lxL (lxL lxI) y.2 x.2 < 0) ∧ r = .slice a l.length c ∧ SA a l.length ∧ H = [.own (spsT 26 l) (.slice a l.length c)]
theorem pvN_yes {set c : Nat} (h : set / 2 ^ c % 2 = 1) : pvN set (c + 1) = pvN set c ++ [(c : Int)] := by rw [pvN, if_pos h]
theorem pvN_no {set c : Nat} (h : ¬ set / 2 ^ c % 2 = 1) : pvN set (c + 1) = pvN set c := by rw [pvN, if_neg h]
def prV (c : Int × Int) : List Value := [iV c.1, iV c.2]
theorem pr_len (c : Int × Int) : (prV c).length = 2 := rfl
theorem pr_one {x y : Int} : ∀ u ∈ [iV x, iV y], u.oneCell' = true := fun u hu => by
  simp only [List.mem_cons, List.not_mem_nil, or_false] at hu
  rcases hu with rfl | rfl <;> rfl
def clT (cs : List (Int × Int)) : T := .s 98 2 ((cs.flatMap prV).map T.c)
theorem clT_snoc (cs : List (Int × Int)) (x y : Int) : clT (cs ++ [(x, y)]) = .s 98 2 ((cs.flatMap prV ++ [iV x, iV y]).map T.c) := by
  rw [clT, List.flatMap_append]
  rfl
theorem clJ_yes {i j : Nat} {x : Int} {fr : List Int} (h : fr.getD j 0 > x) : clJ i x fr (j + 1) = clJ i x fr j ++ [((i : Int), fr.getD j 0)] := by rw [clJ, if_pos h]
theorem clJ_no {i j : Nat} {x : Int} {fr : List Int} (h : ¬ fr.getD j 0 > x) : clJ i x fr (j + 1) = clJ i x fr j := by rw [clJ, if_neg h]
def rndL (p n k set : Nat) (piv : List Int) (cs : List (Int × Int)) (bo b11 b9 bq b4 : Nat) (ac : Option Addr) (cc : Nat) (ap : Option Addr) (cp : Nat) (j : Nat) (x : Option Addr × Nat) : List HE :=
  [.own (spsT 26 (outS p n k set ++ outJ p n k piv j)) (.slice x.1 (outS p n k set ++ outJ p n k piv j).length x.2), .blk bo #[.slice x.1 (outS p n k set ++ outJ p n k piv j).length x.2] 36, .own (clT cs) (.slice ac cs.length cc), .blk b11 #[.slice ac cs.length cc] 96, .own (iT piv) (.slice ap piv.length cp), .blk b9 #[.slice ap piv.length cp] 43, .blk bq #[iV k] 3, .blk b4 #[iV n] 3]
theorem spacesOf_ok {w : World} {p n k : Nat} (hp : p ∈ [2, 3]) (hn : n ∈ [0, 1, 2, 3]) (hk : k ∈ List.range (n + 1)) : Does Tryz.prog 52 [iV p, iV n, iV k] w (GivesSpo p n k) := by
  have hp2 : 2 ≤ p ∧ p ≤ 3 := by simp only [List.mem_cons, List.not_mem_nil, or_false] at hp; omega
  have hn3 : n ≤ 3 := by simp only [List.mem_cons, List.not_mem_nil, or_false] at hn; omega
  have hkn : k ≤ n := by rw [List.mem_range] at hk; omega
  have h2n : 2 ^ n ≤ 8 := Nat.pow_le_pow_right (n := 2) (by decide) hn3
  have e2n : (1 : Int) * 2 ^ n = ((2 ^ n : Nat) : Int) := by simp
  obtain ⟨N, hN⟩ : ∃ N, 2 ^ n = N := ⟨_, rfl⟩
  rw [hN] at h2n e2n
  refine fn_enterM Tryz.func52 rfl Tryz.ntmps52 rfl ?_
  repeat' (first | (show oL; first | refine sMv rfl rfl ?_ | refine sAs rfl rfl ?_ | refine sLd 2 tabs rfl rfl rfl rfl rfl ?_ | (show oA (.binOp _ _ _ _ _); refine st_y (y_shl (k := n) rfl rfl rfl om (by rw [e2n]; omega)) rfl ?_) | (show oA (.box _ _); refine m_box rfl rfl (fun bq hbq => ?_)) | (show oA (.alloc _); refine m_alloc1 (z := .slice none 0 0) (by intro w; kernel_rfl) rfl rfl (fun bo hbo => ?_))) | refine xNt ?_ | (show oC; first | refine c_seq ?_ | refine c_region ?_ | refine c_block ?_))
  rename_i b4 hb4
  refine c_loopD (α := Nat × List Nat × Option Addr × Nat) (Dm := fun x => x.2.1.map Lg.mark) [0, 4, 5, 7, 23] (fun x => [(24, .int .i64 x.1)]) (fun x w' => (x.1 ≤ N ∧ x.2.1.Nodup) ∧ HpX (mks x.2.1) [] w [.own (spsT 26 (outS p n k x.1)) (.slice x.2.2.1 (outS p n k x.1).length x.2.2.2), .blk bo #[.slice x.2.2.1 (outS p n k x.1).length x.2.2.2] 36, .blk bq #[iV k] 3, .blk b4 #[iV n] 3] w') (fun x => N - x.1) (0, [], none, 0) rfl sB (fun w' c' => ⟨⟨Nat.zero_le _, List.nodup_nil⟩, HpX.none (c'.nilp _ _)⟩) ?_
  rintro ⟨set, bs, al, cl⟩
  simp only
  generalize hD : (Dfs.mk (bs.map Lg.mark)) = D0
  refine AT.pr (fun hx => ?_)
  obtain ⟨hset, hbs⟩ := hx
  refine AT.lend (fun fp w1 h1 hX => ?_)
  by_cases hsn : set < N
  · have hlt : (set : Int) < 1 * 2 ^ n := by rw [e2n]; omega
    repeat' (first | (show oL; first | refine sMv rfl rfl ?_ | refine sAs rfl rfl ?_ | refine sLd 4 tabs rfl rfl rfl rfl rfl ?_ | refine sLs rfl rfl rfl ?_ | (show oA (.alloc _); refine m_alloc1 (z := .slice none 0 0) (by intro w; kernel_rfl) rfl rfl (fun b9 hb9 => ?_))) | refine xNt ?_ | (show oC; first | refine c_seq ?_ | refine c_region ?_ | refine c_skip (x_then ?_) | refine c_block ?_ | refine c_ift rfl aO ?_))
    refine c_loopH (α := Nat × Option Addr × Nat) [0, 4, 5, 7, 8, 9, 23, 24, 27] (fun s => [(28, .int .i64 s.1)]) (fun s => s.1 ≤ n) (fun s => [.own (iT (pvN set s.1)) (.slice s.2.1 (pvN set s.1).length s.2.2), .blk b9 #[.slice s.2.1 (pvN set s.1).length s.2.2] 43, .own (spsT 26 (outS p n k set)) (.slice al (outS p n k set).length cl), .blk bo #[.slice al (outS p n k set).length cl] 36, .blk bq #[iV k] 3, .blk b4 #[iV n] 3]) (fun s => n - s.1) (0, none, 0) rfl sB ?_ ?_ ?_
    · exact Nat.zero_le _
    · exact fun w' c' => c'.nilp _ _
    · rintro ⟨c, ap, cp⟩ hc
      simp only at hc ⊢
      have hpl := pvN_le set c
      by_cases hcn : c < n
      · have hbe := and_shr set om c om
        by_cases hbit : set / 2 ^ c % 2 = 1
        · have hb1 : andI (shrI ((set : Nat) : Int) ((c : Nat) : Int)) 1 = 1 := by rw [hbe, hbit]; rfl
          repeat' (first | (show oL; first | refine sMv rfl rfl ?_ | refine sAs rfl rfl ?_ | refine sLd 1 tabs rfl rfl rfl rfl rfl ?_ | (show oA (.binOp _ _ _ _ _); first | refine st_y (y_shr (p := ((set : Nat) : Int)) (q := ((c : Nat) : Int)) rfl rfl om) rfl ?_ | refine st_y (y_and rfl rfl) rfl ?_ | refine st_y (y_eqlie rfl rfl hb1) rfl ?_ | refine sAd rfl rfl om rfl ?_ | refine sLs rfl rfl rfl ?_) | (show oA (.call _); refine m_pushn 0 tabs (k := (c : Int)) (m := (pvN set c).length) rfl rfl rfl rfl rfl rfl om (fun a3 c3 => ?_)) | (show oA (.store _ _ _); refine m_storef 1 tabs rfl rfl rfl rfl rfl rfl ?_) | (show oA (.buildSlice _ _ _); refine m_build1 tabs (us := [iV c]) rfl rfl rfl rfl (by decide) rfl (fun g2 hg2 => ?_))) | (show oN; first | refine c_nil (x_then ?_) | refine c_nil ?_) | (show oC; first | refine c_seq ?_ | refine c_region ?_ | refine c_skip (x_then ?_) | refine c_block ?_ | refine c_true rfl ?_ | refine c_ift rfl aO ?_) | (show AT _ _ _ _; first | refine x_then ?_ | refine x_blk ?_))
          refine x_nx (c + 1, a3, c3) sB (by simp only; omega) (fun w' c' => ?_) (by simp only; omega)
          simp only [pvN_yes hbit, List.length_append, List.length_singleton]
          exact c'
        · have hb1 : ¬ andI (shrI ((set : Nat) : Int) ((c : Nat) : Int)) 1 = 1 := by rw [hbe]; omega
          repeat' (first | (show oL; first | refine sMv rfl rfl ?_ | refine sAs rfl rfl ?_ | (show oA (.binOp _ _ _ _ _); first | refine st_y (y_shr (p := ((set : Nat) : Int)) (q := ((c : Nat) : Int)) rfl rfl om) rfl ?_ | refine st_y (y_and rfl rfl) rfl ?_ | refine st_y (y_eqlin rfl rfl hb1) rfl ?_ | refine sAd rfl rfl om rfl ?_ | refine sLs rfl rfl rfl ?_)) | refine xNt ?_ | (show oC; first | refine c_seq ?_ | refine c_region ?_ | refine c_skip (x_then ?_) | refine c_skip (x_blk ?_) | refine c_block ?_ | refine c_false rfl ?_ | refine c_ift rfl aO ?_) | (show AT _ _ _ _; refine x_then ?_))
          refine x_nx (c + 1, ap, cp) sB (by simp only; omega) (fun w' c' => ?_) (by simp only; omega)
          simp only [pvN_no hbit]
          exact c'
      · have hcn' : n = c := by omega
        subst hcn'
        repeat' (first | (show oL; first | refine sMv rfl rfl ?_ | (show oA (.load _ _); first | refine sLd 1 tabs rfl rfl rfl rfl rfl ?_ | refine sLd 2 tabs rfl rfl rfl rfl rfl ?_ | refine sLd 4 tabs rfl rfl rfl rfl rfl ?_) | (show oA (.binOp _ _ _ _ _); first | refine sAd rfl rfl om rfl ?_ | refine sLs rfl rfl rfl ?_ | refine st_y (y_neq rfl rfl) rfl ?_) | refine sLn tabs rfl rfl rfl ?_ | (show oA (.alloc _); refine m_alloc1 (z := .slice none 0 0) (by intro w; kernel_rfl) rfl rfl (fun b11 hb11 => ?_))) | refine xNt ?_ | (show oC; first | refine c_seq ?_ | refine c_region ?_ | refine c_skip (x_then ?_) | refine c_block ?_ | refine c_exit ?_ | refine c_iff rfl nN ?_ | refine c_ifnd rfl (fun h => ?_) (fun h => ?_)) | (show AT _ _ _ _; first | refine x_then ?_ | refine x_then_exit ?_ | refine x_blk_exit rfl ?_))
        · have hne : ¬ (pvN set n).length = k := by omega
          subst hD
          have ho : outS p n k (set + 1) = outS p n k set := by rw [outS, if_neg hne]
          refine x_nxD (Dm := fun x : Nat × List Nat × Option Addr × Nat => x.2.1.map Lg.mark) (x := (set, bs, al, cl)) (set + 1, bs, al, cl) ?_ (fun w' c' => ⟨⟨(by omega : set + 1 ≤ N), hbs⟩, ?_⟩) (by simp only; omega)
          · exact sB
          simp only [ho]
          exact HpX.back h1 hX (HpX.none (c'.sel [2, 3, 4, 5] rfl))
        · have hke : (pvN set n).length = k := by omega
          refine AT.fact (own_sl 1 rfl) (fun hsl => ?_)
          obtain ⟨ap', cp', eap, hsap⟩ := hsl
          cases eap
          have hpm : ∀ i, i < (pvN set n).length → ∃ x : Nat, (pvN set n).getD i 0 = x ∧ x < n := fun i hi => by
            have := pvN_mem (show (pvN set n).getD i 0 ∈ pvN set n by rw [List.getD, List.getElem?_eq_getElem hi]; exact List.getElem_mem hi)
            exact ⟨((pvN set n).getD i 0).toNat, by omega, by omega⟩
          generalize hpv : pvN set n = piv at *
          refine c_loopH (α := Nat × Option Addr × Nat) [0, 4, 5, 7, 9, 11, 23, 24, 45, 46] (fun s => [(47, .int .i64 s.1)]) (fun s => s.1 ≤ piv.length) (fun s => [.own (clT (clL n piv s.1)) (.slice s.2.1 (clL n piv s.1).length s.2.2), .blk b11 #[.slice s.2.1 (clL n piv s.1).length s.2.2] 96, .own (iT piv) (.slice ap piv.length cp), .blk b9 #[.slice ap piv.length cp] 43, .own (spsT 26 (outS p n k set)) (.slice al (outS p n k set).length cl), .blk bo #[.slice al (outS p n k set).length cl] 36, .blk bq #[iV k] 3, .blk b4 #[iV n] 3]) (fun s => piv.length - s.1) (0, none, 0) rfl sB ?_ ?_ ?_
          · exact Nat.zero_le _
          · exact fun w' c' => c'.nilp _ _
          · rintro ⟨i, ac, cc⟩ hi
            simp only at hi ⊢
            by_cases hin : i < piv.length
            · repeat' (first | (show oL; first | refine sMv rfl rfl ?_ | refine sAs rfl rfl ?_ | (show oA (.load _ _); first | refine st_y (y_load tabs rfl rfl (hc_own 2 rfl hin)) rfl ?_ | refine sLd 7 tabs rfl rfl rfl rfl rfl ?_ | refine sLd 3 tabs rfl rfl rfl rfl rfl ?_) | (show oA (.indexAddr _ _ _); refine st_y (y_ix1 tabs (j := i) rfl rfl rfl hsap rfl hin) rfl ?_) | refine sLs rfl rfl rfl ?_ | (show oA (.call _); first | (refine m_call (ent_of Tryz.func92 kr rfl) rfl rfl (fun w c => freeColumns_ok (C := n) (piv := piv) (c.own_rd (i := 2) rfl) om) ?_; rintro v H' ⟨af, cf, rfl, hsf, rfl⟩) | refine sLn tabs rfl rfl rfl ?_)) | refine xNt ?_ | (show oC; first | refine c_seq ?_ | refine c_region ?_ | refine c_skip (x_then ?_) | refine c_block ?_ | refine c_ift rfl aO ?_))
              have hfl := freeN_le piv n
              refine c_loopH (α := Nat × Option Addr × Nat) [0, 4, 5, 7, 9, 11, 12, 13, 23, 24, 45, 46, 47, 54, 55] (fun s => [(56, .int .i64 s.1)]) (fun s => s.1 ≤ (freeN piv n).length) (fun s => [.own (clT (clL n piv i ++ clJ i (piv.getD i 0) (freeN piv n) s.1)) (.slice s.2.1 (clL n piv i ++ clJ i (piv.getD i 0) (freeN piv n) s.1).length s.2.2), .blk b11 #[.slice s.2.1 (clL n piv i ++ clJ i (piv.getD i 0) (freeN piv n) s.1).length s.2.2] 96, .own (iT (freeN piv n)) (.slice af (freeN piv n).length cf), .own (iT piv) (.slice ap piv.length cp), .blk b9 #[.slice ap piv.length cp] 43, .own (spsT 26 (outS p n k set)) (.slice al (outS p n k set).length cl), .blk bo #[.slice al (outS p n k set).length cl] 36, .blk bq #[iV k] 3, .blk b4 #[iV n] 3]) (fun s => (freeN piv n).length - s.1) (0, ac, cc) rfl sB ?_ ?_ ?_
              · exact Nat.zero_le _
              · intro w' c'
                simp only [clJ, List.append_nil]
                exact c'.sel [1, 2, 0, 3, 4, 5, 6, 7, 8] rfl
              · rintro ⟨j, ac, cc⟩ hj
                simp only at hj ⊢
                by_cases hjn : j < (freeN piv n).length
                · have hcl1 := clL_le n piv i
                  have hcl2 := clJ_le i (piv.getD i 0) (freeN piv n) j
                  have hcl3 : i * n ≤ 3 * 3 := Nat.mul_le_mul om om
                  by_cases hgt : (freeN piv n).getD j 0 > piv.getD i 0
                  · repeat' (first | (show oL; first | refine sMv rfl rfl ?_ | refine sAs rfl rfl ?_ | (show oA (.load _ _); first | refine st_y (y_load tabs rfl rfl (hc_own 2 rfl hjn)) rfl ?_ | refine sLd 1 tabs rfl rfl rfl rfl rfl ?_) | (show oA (.indexAddr _ _ _); refine st_y (y_ix1 tabs (j := j) rfl rfl rfl hsf rfl hjn) rfl ?_) | (show oA (.binOp _ _ _ _ _); first | refine sAd rfl rfl om rfl ?_ | refine sLs rfl rfl rfl ?_ | refine st_y (y_gtr rfl rfl) rfl ?_) | (show oA (.call _); refine m_pushk 0 tabs (us := (clL n piv i ++ clJ i (piv.getD i 0) (freeN piv n) j).flatMap prV) (news := [iV i, iV ((freeN piv n).getD j 0)]) (m' := (clL n piv i ++ clJ i (piv.getD i 0) (freeN piv n) j).length) rfl rfl rfl rfl rfl rfl pr_one (by rw [flatMap_length pr_len]) (by rw [flatMap_length pr_len, List.length_append]; omega) (by decide) (fun a6 c6 => ?_)) | (show oA (.store _ _ _); refine m_storef 1 tabs rfl rfl rfl rfl rfl rfl ?_) | (show oA (.buildSlice _ _ _); refine m_build1 tabs (us := [iV i, iV ((freeN piv n).getD j 0)]) rfl rfl rfl rfl (by decide) rfl (fun g5 hg5 => ?_)) | (show oA (.build _ _); refine st_y (y_bld2 (sbl_ar _ _) rfl rfl) rfl ?_)) | (show oN; first | refine c_nil (x_then ?_) | refine c_nil ?_) | (show oC; first | refine c_seq ?_ | refine c_region ?_ | refine c_skip (x_then ?_) | refine c_block ?_ | refine c_ift rfl aO ?_) | (show AT _ _ _ _; first | refine x_then ?_ | refine x_blk ?_))
                    refine x_nx (j + 1, a6, c6) sB (by simp only; omega) (fun w' c' => ?_) (by simp only; omega)
                    simp only [clJ_yes hgt, ← List.append_assoc, List.length_append (bs := [_]), List.length_singleton]
                    rw [clT_snoc]
                    exact c'
                  · repeat' (first | (show oL; first | refine sMv rfl rfl ?_ | refine sAs rfl rfl ?_ | (show oA (.load _ _); refine st_y (y_load tabs rfl rfl (hc_own 2 rfl hjn)) rfl ?_) | (show oA (.indexAddr _ _ _); refine st_y (y_ix1 tabs (j := j) rfl rfl rfl hsf rfl hjn) rfl ?_) | (show oA (.binOp _ _ _ _ _); first | refine sAd rfl rfl om rfl ?_ | refine sLs rfl rfl rfl ?_ | refine st_y (y_gtr rfl rfl) rfl ?_)) | refine xNt ?_ | (show oC; first | refine c_seq ?_ | refine c_region ?_ | refine c_skip (x_then ?_) | refine c_skip (x_blk ?_) | refine c_block ?_ | refine c_ift rfl aO ?_ | refine c_iff rfl nN ?_) | (show AT _ _ _ _; refine x_then ?_))
                    refine x_nx (j + 1, ac, cc) sB (by simp only; omega) (fun w' c' => ?_) (by simp only; omega)
                    simp only [clJ_no hgt]
                    exact c'
                · have hje : j = (freeN piv n).length := by omega
                  subst hje
                  repeat' (first | (show oL; first | refine sMv rfl rfl ?_ | (show oA (.binOp _ _ _ _ _); first | refine sAd rfl rfl om rfl ?_ | refine sLs rfl rfl rfl ?_)) | refine xNt ?_ | (show oC; first | refine c_seq ?_ | refine c_region ?_ | refine c_exit ?_ | refine c_iff rfl nN ?_) | (show AT _ _ _ _; first | refine x_then ?_ | refine x_then_exit ?_ | refine x_blk_exit rfl ?_ | refine x_blk ?_))
                  refine x_nx (i + 1, ac, cc) sB (by simp only; omega) (fun w' c' => ?_) (by simp only; omega)
                  exact c'.sel [0, 1, 3, 4, 5, 6, 7, 8] rfl
            · have hie : i = piv.length := by omega
              subst hie
              have hcL : (clL n piv piv.length).length ≤ 9 := Nat.le_trans (clL_le n piv _) (Nat.mul_le_mul (show piv.length ≤ 3 by omega) hn3)
              repeat' (first | (show oL; first | refine sMv rfl rfl ?_ | refine sLd 2 tabs rfl rfl rfl rfl rfl ?_ | (show oA (.binOp _ _ _ _ _); first | refine st_y (y_sub rfl rfl om) rfl ?_ | refine sLs rfl rfl rfl ?_) | (show oA (.call _); first | (refine m_call (ent_of Tryz.func94 kr rfl) rfl rfl (fun w c => RepeatI_ok (x := (p : Int) - 1) (nn := (clL n piv piv.length).length) (hc_blk 0 rfl rfl w c) om) ?_; rintro v H' ⟨b8, rfl, rfl⟩) | (refine m_call (ent_of Tryz.func93 kr rfl) rfl rfl (fun w c => boxes_ok rfl) ?_; rintro v H' ⟨bm, rfl, rfl⟩) | refine sLn tabs rfl rfl rfl ?_) | (show oA (.buildSlice _ _ _); refine m_build1 tabs (us := [iV ((p : Int) - 1)]) rfl rfl rfl rfl (by decide) rfl (fun g7 hg7 => ?_))) | refine xNt ?_ | (show oC; first | refine c_seq ?_ | refine c_region ?_ | refine c_block ?_ | refine c_exit ?_ | refine c_iff rfl nN ?_) | (show AT _ _ _ _; first | refine x_then ?_ | refine x_then_exit ?_ | refine x_blk_exit rfl ?_))
              generalize hcs : clL n piv piv.length = cs at *
              subst hD
              have hpv0 : outS p n k (set + 1) = outS p n k set ++ outJ p n k piv (p ^ cs.length) := by rw [outS, if_pos (by rw [hpv]; exact hke), hpv, hcs]
              refine c_rangeFunc (A := Option Addr × Nat) (H' := fun x => .blk bm #[.slice (some ⟨b8, 0, none⟩) cs.length cs.length] 43 :: .own (iT (List.replicate cs.length ((p : Int) - 1))) (.slice (some ⟨b8, 0, none⟩) cs.length cs.length) :: rndL p n k set piv cs bo b11 b9 bq b4 ac cc ap cp (p ^ cs.length) x) rfl (ent_of Tryz.func117 kr rfl) (fun l D fn TT M1 W hl hlM hfr hW => ?_) (fun D x hDs => ?_)
              · refine boxes1_ok (x0 := (al, cl)) (R := fun j x => rndL p n k set piv cs bo b11 b9 bq b4 ac cc ap cp j x) hl hlM rfl om om om (fun j hj x av cv hsv w' hw' => ?_) (by
                  have h := hW.sel [0, 1, 7, 8, 3, 4, 5, 6, 9, 10] rfl
                  simp only [rndL, outJ, List.append_nil]
                  exact h)
                refine round_ok1 (pd := 78) (e := 16) hl hlM rfl rfl rfl rfl hfr rfl rfl rfl (fun M2 w2 => ?_) hw'
                obtain ⟨xa, xc⟩ := x
                have hLb : (outS p n k set ++ outJ p n k piv j).length ≤ 1000000 := by
                  have h1 := outS_le (p := p) (n := n) (k := k) om set
                  have h2 : p ^ (n * n) ≤ 3 ^ 9 := Nat.le_trans (Nat.pow_le_pow_left om _) (Nat.pow_le_pow_right (by decide) (Nat.mul_le_mul hn3 hn3))
                  have h3 : p ^ cs.length ≤ 3 ^ 9 := Nat.le_trans (Nat.pow_le_pow_left om _) (Nat.pow_le_pow_right (by decide) hcL)
                  have h4 := Nat.mul_le_mul (show set ≤ 8 by omega) h2
                  have h5 : (3 : Nat) ^ 9 = 19683 := by decide
                  rw [List.length_append, outJ_len]
                  omega
                refine AT.cls (C' := Hp M2 w2 [.own (iT (vl p cs.length j)) (.slice av cs.length cv), .blk bm #[.slice (some ⟨b8, 0, none⟩) cs.length cs.length] 43, .own (iT (List.replicate cs.length ((p : Int) - 1))) (.slice (some ⟨b8, 0, none⟩) cs.length cs.length), .own (spsT 26 (outS p n k set ++ outJ p n k piv j)) (.slice xa (outS p n k set ++ outJ p n k piv j).length xc), .blk bo #[.slice xa (outS p n k set ++ outJ p n k piv j).length xc] 36, .own (clT cs) (.slice ac cs.length cc), .blk b11 #[.slice ac cs.length cc] 96, .own (iT piv) (.slice ap piv.length cp), .blk b9 #[.slice ap piv.length cp] 43, .blk bq #[iV k] 3, .blk b4 #[iV n] 3]) (fun w' c' => c') ?_
                repeat' (first | (show oL; first | refine sMv rfl rfl ?_ | (show oA (.load _ _); first | refine sLd 9 tabs rfl rfl rfl rfl rfl ?_ | refine sLd 10 tabs rfl rfl rfl rfl rfl ?_ | refine sLd 10 tabs rfl rfl rfl rfl rfl ?_) | (show oA (.call _); first | (refine m_call (ent_of Tryz.func95 kr rfl) rfl rfl (fun w c => zero_ok om om) ?_; rintro v H' ⟨az, cz, rfl, hsz, rfl⟩) | refine sLn tabs rfl rfl rfl ?_) | (show oA (.store _ _ _); refine m_storeb 0 tabs rfl rfl rfl rfl rfl rfl rfl ?_) | (show oA (.alloc _); refine m_alloc tabs rfl rfl (fun b17 hb17 => ?_))) | refine xNt ?_ | (show AT _ _ _ (Code.wpIn _ _ _ _ _); first | refine ci_seq ?_ | refine ci_block ?_ | refine ci_region (by repeat' first | exact no_rPost | refine no_then ?_ | refine no_blk ?_) rfl ?_))
                refine AT.fact (own_cap2 1 rfl) (fun hcap => ?_)
                rw [mk_length] at hcap
                refine ci_loopH (α := Nat) [4, 7, 11, 16, 17, 82, 83] (fun i => [(84, .int .i64 i)]) (fun i => i ≤ piv.length) (fun i => [.blk b17 #[iV k, iV n, .slice az (k * n) cz] 47, .own (iT (mk k n (pvF piv i))) (.slice az (k * n) cz), .own (iT (vl p cs.length j)) (.slice av cs.length cv), .blk bm #[.slice (some ⟨b8, 0, none⟩) cs.length cs.length] 43, .own (iT (List.replicate cs.length ((p : Int) - 1))) (.slice (some ⟨b8, 0, none⟩) cs.length cs.length), .own (spsT 26 (outS p n k set ++ outJ p n k piv j)) (.slice xa (outS p n k set ++ outJ p n k piv j).length xc), .blk bo #[.slice xa (outS p n k set ++ outJ p n k piv j).length xc] 36, .own (clT cs) (.slice ac cs.length cc), .blk b11 #[.slice ac cs.length cc] 96, .own (iT piv) (.slice ap piv.length cp), .blk b9 #[.slice ap piv.length cp] 43, .blk bq #[iV k] 3, .blk b4 #[iV n] 3]) (fun i => piv.length - i) 0 rfl sB ?_ ?_ ?_
                · exact Nat.zero_le _
                · exact fun w' c' => c'
                · intro i hi
                  by_cases hin : i < piv.length
                  · obtain ⟨x, hx, hxn⟩ := hpm i hin
                    have haz := hsz.get (Nat.mul_pos om om)
                    obtain ⟨gz, oz, hz⟩ : ∃ gz oz, az = some ⟨gz, oz, none⟩ := ⟨_, _, haz⟩
                    subst hz
                    have hik : i * n + x < k * n := by
                      have := Nat.mul_le_mul_right n (show i + 1 ≤ k by omega)
                      rw [Nat.succ_mul] at this
                      omega
                    repeat' (first | (show oL; first | refine sMv rfl rfl ?_ | refine sAs rfl rfl ?_ | (show oA (.load _ _); first | refine st_y (y_load tabs rfl rfl (hc_own 9 rfl hin)) rfl ?_ | refine sLb 0 tabs rfl rfl rfl rfl rfl ?_) | (show oA (.indexAddr _ _ _); first | refine st_y (y_ix1 tabs (j := i) rfl rfl rfl hsap rfl hin) rfl ?_ | refine st_y (y_ixq tabs (j := x) (q := oz + (i * n + x)) rfl rfl rfl .mk hx hxn (by simp only [ao]; omega)) rfl ?_) | (show oA (.binOp _ _ _ _ _); first | refine sAd rfl rfl om rfl ?_ | refine sLs rfl rfl rfl ?_) | (show oA (.call _); (refine m_call (ent_of Tryz.func90 kr rfl) rfl rfl (fun w c => row_ok (R := k) (C := n) (i := i) (g := gz) (o := oz) om om om hcap) ?_; rintro v H' ⟨rfl, rfl⟩)) | (show oA (.store _ _ _); refine m_storeo 1 tabs (j := i * n + x) rfl rfl rfl rfl (by rw [mk_length]; exact hik) ?_)) | (show oN; first | refine c_nil (x_then ?_) | refine c_nil ?_) | (show AT _ _ _ (Code.wpIn _ _ _ _ _); first | refine ci_seq ?_ | refine ci_block ?_ | refine ci_region (by repeat' first | exact no_rPost | refine no_then ?_ | refine no_blk ?_) rfl ?_ | refine ci_skip (x_then ?_) | refine ci_ift rfl aO ?_) | (show AT _ _ _ _; first | refine x_then ?_ | refine x_blk ?_))
                    refine x_nx (i + 1) sB om (fun w' c' => ?_) om
                    have e1 : mk k n (pvF piv (i + 1)) = (mk k n (pvF piv i)).set (i * n + x) 1 := by
                      rw [mk_set om hxn, pvF, hx, Int.toNat_natCast]
                    rw [e1]
                    exact c'
                  · have hie : i = piv.length := by omega
                    subst hie
                    repeat' (first | (show oL; first | refine sMv rfl rfl ?_ | refine sLd 8 tabs rfl rfl rfl rfl rfl ?_ | refine sLs rfl rfl rfl ?_ | refine sLn tabs rfl rfl rfl ?_) | refine xNt ?_ | (show AT _ _ _ (Code.wpIn _ _ _ _ _); first | refine ci_seq ?_ | refine ci_block ?_ | refine ci_region (by repeat' first | exact no_rPost | refine no_then ?_ | refine no_blk ?_) rfl ?_ | refine ci_exit ?_ | refine ci_iff rfl aO ?_) | (show AT _ _ _ _; first | refine x_then ?_ | refine x_then_exit ?_ | refine x_blk_exit rfl ?_))
                    refine AT.fact (own_sa 7 (by decide) rfl) (fun hsac => ?_)
                    refine ci_loopH (α := Nat) [4, 7, 16, 17, 95, 96] (fun t => [(97, .int .i64 t)]) (fun t => t ≤ cs.length) (fun t => [.blk b17 #[iV k, iV n, .slice az (k * n) cz] 47, .own (iT (mk k n (clV cs (vl p cs.length j) (pvF piv piv.length) t))) (.slice az (k * n) cz), .own (iT (vl p cs.length j)) (.slice av cs.length cv), .blk bm #[.slice (some ⟨b8, 0, none⟩) cs.length cs.length] 43, .own (iT (List.replicate cs.length ((p : Int) - 1))) (.slice (some ⟨b8, 0, none⟩) cs.length cs.length), .own (spsT 26 (outS p n k set ++ outJ p n k piv j)) (.slice xa (outS p n k set ++ outJ p n k piv j).length xc), .blk bo #[.slice xa (outS p n k set ++ outJ p n k piv j).length xc] 36, .own (clT cs) (.slice ac cs.length cc), .blk b11 #[.slice ac cs.length cc] 96, .own (iT piv) (.slice ap piv.length cp), .blk b9 #[.slice ap piv.length cp] 43, .blk bq #[iV k] 3, .blk b4 #[iV n] 3]) (fun t => cs.length - t) 0 rfl sB ?_ ?_ ?_
                    · exact Nat.zero_le _
                    · exact fun w' c' => c'
                    · intro t ht
                      by_cases htn : t < cs.length
                      · obtain ⟨c, hc⟩ : ∃ c, cs[t]? = some c := ⟨_, List.getElem?_eq_getElem htn⟩
                        have hcm := List.mem_of_getElem? hc
                        rw [← hcs] at hcm
                        have hcb := clL_mem hcm
                        obtain ⟨c1, c2⟩ := c
                        simp only at hcb
                        obtain ⟨r, rfl⟩ : ∃ r : Nat, c1 = r := ⟨c1.toNat, by omega⟩
                        obtain ⟨q, rfl⟩ : ∃ q : Nat, c2 = q := ⟨c2.toNat, by omega⟩
                        have hu0 : (cs.flatMap prV)[t * 2]? = some (iV r) := flatMap_get pr_len hc (q := 0) (by decide)
                        have hu1 : (cs.flatMap prV)[t * 2 + 1]? = some (iV q) := flatMap_get pr_len hc (q := 1) (by decide)
                        have haz := hsz.get (Nat.mul_pos om om)
                        obtain ⟨gz, oz, hz⟩ : ∃ gz oz, az = some ⟨gz, oz, none⟩ := ⟨_, _, haz⟩
                        subst hz
                        have hik : r * n + q < k * n := by
                          have := Nat.mul_le_mul_right n (show r + 1 ≤ k by omega)
                          rw [Nat.succ_mul] at this
                          omega
                        have hvl : t < (vl p cs.length j).length := by simp [vl]; exact htn
                        repeat' (first | (show oL; first | refine sMv rfl rfl ?_ | refine sAs rfl rfl ?_ | (show oA (.load _ _); refine st_y (y_load2 tabs rfl rfl (fun w' c' => hc_nmk 7 (by decide) rfl hu0 w' c') (fun w' c' => hc_nmk 7 (by decide) rfl hu1 w' c')) rfl ?_) | (show oA (.indexAddr _ _ _); refine st_y (y_ixa tabs rfl rfl rfl hsac om om) rfl ?_) | refine sLs rfl rfl rfl ?_ | (show oA (.store _ _ _); refine m_storeb 0 tabs rfl rfl rfl rfl rfl rfl rfl ?_) | (show oA (.alloc _); refine m_alloc tabs rfl rfl (fun b21 hb21 => ?_))) | refine xNt ?_ | (show AT _ _ _ (Code.wpIn _ _ _ _ _); first | refine ci_seq ?_ | refine ci_block ?_ | refine ci_region (by repeat' first | exact no_rPost | refine no_then ?_ | refine no_blk ?_) rfl ?_ | refine ci_skip (x_then ?_) | refine ci_ift rfl aO ?_))
                        refine ci_mixR (Hp M2 w2 [.blk b21 #[iV r, iV q] 98, .blk b17 #[iV k, iV n, .slice (some ⟨gz, oz, none⟩) (k * n) cz] 47, .own (iT (vl p cs.length j)) (.slice av cs.length cv)]) 11 (by repeat' first | exact no_rPost | refine no_then ?_ | refine no_blk ?_) rfl kr kr kr kr kr (fun _ c => Hp.drew c) ?_
                        refine h_take 0 rfl kr kr kr (by first | exact y_loadb 1 tabs rfl rfl rfl rfl | exact y_loadb 1 tabs rfl rfl rfl rfl) rfl sS ?_
                        refine h_take 1 rfl kr kr kr (by exact y_ixar sxar0 rfl rfl) rfl sS ?_
                        refine h_take 2 rfl kr kr kr (by exact y_load tabs rfl rfl (hc_blk 0 rfl rfl)) rfl sS ?_
                        refine h_take 4 rfl kr kr kr (by exact y_ixar sxar1 rfl rfl) rfl sS ?_
                        refine h_take 5 rfl kr kr kr (by exact y_load tabs rfl rfl (hc_blk 0 rfl rfl)) rfl sS ?_
                        refine h_take 6 rfl kr kr kr (by exact y_move rfl) rfl sS ?_
                        refine h_take 7 rfl kr kr kr (by exact y_move rfl) rfl sS ?_
                        refine h_take 8 rfl kr kr kr (by exact y_ix1 tabs (j := t) rfl rfl rfl hsv rfl htn) rfl sS ?_
                        refine h_take 9 rfl kr kr kr (by exact y_load tabs rfl rfl (hc_own 2 rfl hvl)) rfl sS ?_
                        refine h_only 3 rfl kr ?_
                        (refine m_call (ent_of Tryz.func90 kr rfl) rfl rfl (fun w c => row_ok (R := k) (C := n) (i := r) (g := gz) (o := oz) om om om hcap) ?_; rintro v H' ⟨rfl, rfl⟩)
                        refine c_nil (x_one (h_keep sS ?_))
                        refine h_take 10 rfl kr kr kr (by exact y_ixq tabs (j := q) (q := oz + (r * n + q)) rfl rfl rfl .mk rfl om (by simp only [ao]; omega)) rfl sS ?_
                        refine h_end kr ?_
                        repeat' (first | (show oL; first | refine sMv rfl rfl ?_ | refine sAd rfl rfl om rfl ?_ | (show oA (.store _ _ _); refine m_storeo 2 tabs (j := r * n + q) rfl rfl rfl rfl (by rw [mk_length]; exact hik) ?_)) | (show oN; first | refine c_nil (x_then ?_) | refine c_nil ?_) | (show AT _ _ _ (Code.wpIn _ _ _ _ _); refine ci_region (by repeat' first | exact no_rPost | refine no_then ?_ | refine no_blk ?_) rfl ?_) | (show AT _ _ _ _; first | refine x_then ?_ | refine x_blk ?_))
                        refine x_nx (t + 1) sB om (fun w' c' => ?_) om
                        have e1 : mk k n (clV cs (vl p cs.length j) (pvF piv piv.length) (t + 1)) = (mk k n (clV cs (vl p cs.length j) (pvF piv piv.length) t)).set (r * n + q) ((vl p cs.length j).getD t 0) := by
                          rw [mk_set om om, clV, show cs.getD t (0, 0) = ((r : Int), (q : Int)) by rw [List.getD, hc]; rfl]
                          rfl
                        rw [e1]
                        exact c'.sel [1, 2, 3, 4, 5, 6, 7, 8, 9, 10, 11, 12, 13] rfl
                      · have hte : t = cs.length := by omega
                        subst hte
                        repeat' (first | (show oL; first | refine sLs rfl rfl rfl ?_) | refine xNt ?_ | (show AT _ _ _ (Code.wpIn _ _ _ _ _); first | refine ci_seq ?_ | refine ci_region (by repeat' first | exact no_rPost | refine no_then ?_ | refine no_blk ?_) rfl ?_ | refine ci_exit ?_ | refine ci_iff rfl aO ?_) | (show AT _ _ _ _; first | refine x_then ?_ | refine x_then_exit ?_ | refine x_blk_exit rfl ?_))
                        refine ci_mixR (Hp M2 w2 [.blk b17 #[iV k, iV n, .slice az (k * n) cz] 47, .blk bo #[.slice xa (outS p n k set ++ outJ p n k piv j).length xc] 36, .blk b4 #[iV n] 3]) 7 (by repeat' first | exact no_rPost | refine no_then ?_ | refine no_blk ?_) rfl kr kr kr kr kr (fun _ c => Hp.drew c) ?_
                        refine h_take 0 rfl kr kr kr (by exact y_load tabs rfl rfl (hc_blk 1 rfl rfl)) rfl sS ?_
                        refine h_take 1 rfl kr kr kr (by exact y_load tabs rfl rfl (hc_blk 2 rfl rfl)) rfl sS ?_
                        refine h_take 2 rfl kr kr kr (by first | exact y_loadb 0 tabs rfl rfl rfl rfl | exact y_loadb 0 tabs rfl rfl rfl rfl) rfl sS ?_
                        refine h_only 3 rfl kr ?_
                        first | (refine m_build1 tabs (us := [iV n, .slice ar (rowL n (clV cs (vl p cs.length j) (pvF piv piv.length) cs.length) k).length cr]) rfl rfl rfl rfl (by decide) rfl (fun g9 hg9 => ?_)) | (refine m_call (ent_of Tryz.func96 kr rfl) rfl rfl (fun w c => rows_ok (R := k) (C := n) (c.own_rd (i := 1) rfl) om om) ?_; rintro v H' ⟨ar, cr, rfl, hsr, rfl⟩) | (refine m_push1 [iV n] 5 0 tabs (m' := (outS p n k set ++ outJ p n k piv j).length) rfl rfl rfl rfl rfl rfl rfl (by rw [flatMap_length spT_length]) (by rw [flatMap_length spT_length]; omega) (by decide) rfl rfl (fun a10 c10 => ?_))
                        refine c_nil (x_one (h_keep sS ?_))
                        refine h_take 4 rfl kr kr kr (by exact y_bld2 (bld_sp _ _ _ _) rfl rfl) rfl sS ?_
                        refine h_only 5 rfl kr ?_
                        first | (refine m_build1 tabs (us := [iV n, .slice ar (rowL n (clV cs (vl p cs.length j) (pvF piv piv.length) cs.length) k).length cr]) rfl rfl rfl rfl (by decide) rfl (fun g9 hg9 => ?_)) | (refine m_call (ent_of Tryz.func96 kr rfl) rfl rfl (fun w c => rows_ok (R := k) (C := n) (c.own_rd (i := 1) rfl) om om) ?_; rintro v H' ⟨ar, cr, rfl, hsr, rfl⟩) | (refine m_push1 [iV n] 5 0 tabs (m' := (outS p n k set ++ outJ p n k piv j).length) rfl rfl rfl rfl rfl rfl rfl (by rw [flatMap_length spT_length]) (by rw [flatMap_length spT_length]; omega) (by decide) rfl rfl (fun a10 c10 => ?_))
                        refine c_nil (x_one (h_keep sS ?_))
                        refine h_only 6 rfl kr ?_
                        first | (refine m_build1 tabs (us := [iV n, .slice ar (rowL n (clV cs (vl p cs.length j) (pvF piv piv.length) cs.length) k).length cr]) rfl rfl rfl rfl (by decide) rfl (fun g9 hg9 => ?_)) | (refine m_call (ent_of Tryz.func96 kr rfl) rfl rfl (fun w c => rows_ok (R := k) (C := n) (c.own_rd (i := 1) rfl) om om) ?_; rintro v H' ⟨ar, cr, rfl, hsr, rfl⟩) | (refine m_push1 [iV n] 5 0 tabs (m' := (outS p n k set ++ outJ p n k piv j).length) rfl rfl rfl rfl rfl rfl rfl (by rw [flatMap_length spT_length]) (by rw [flatMap_length spT_length]; omega) (by decide) rfl rfl (fun a10 c10 => ?_))
                        refine c_nil (x_one (h_keep sS ?_))
                        refine h_end kr ?_
                        repeat' (first | (show oL; first | (show oA (.store _ _ _); refine m_storef 6 tabs rfl rfl rfl rfl rfl rfl ?_)) | (show oN; refine c_nil ?_) | (show AT _ _ _ _; refine x_blk ?_))
                        have e3 : spsT 26 (outS p n k set ++ outJ p n k piv (j + 1)) = .s 26 2 ((outS p n k set ++ outJ p n k piv j).flatMap spT ++ ([iV n].map T.c ++ [rowsT 43 (rowL n (clV cs (vl p cs.length j) (pvF piv piv.length) cs.length) k)])) := by
                          unfold spsT
                          rw [outJ, ← List.append_assoc, List.flatMap_append (ys := [_]), spJ, hcs]
                          rfl
                        have e4 : (outS p n k set ++ outJ p n k piv (j + 1)).length = (outS p n k set ++ outJ p n k piv j).length + 1 := by
                          rw [outJ, ← List.append_assoc, List.length_append (bs := [_]), List.length_singleton]
                        refine x_round (A := Option Addr × Nat) (a10, c10) (fun w' c' => ?_)
                        rw [rndL, e3, e4]
                        exact c'.sel [3, 4, 5, 0, 6, 7, 8, 9, 10, 11, 12] rfl
              · generalize hD2 : (Dfs.mk (Lg.mark D :: bs.map Lg.mark)) = D1
                repeat' (first | (show oL; first | refine sMv rfl rfl ?_ | refine sAd rfl rfl om rfl ?_) | refine xNt ?_ | (show oC; refine c_region ?_) | (show AT _ _ _ _; first | refine x_then ?_ | refine x_blk ?_))
                subst hD2
                have hDb : D ∉ bs := fun hm => by
                  have := (Array.getElem?_eq_some_iff.1 (hX _ (List.mem_map.2 ⟨D, hm, rfl⟩)).2.2).1
                  simp only at this
                  omega
                refine x_nxD (Dm := fun x : Nat × List Nat × Option Addr × Nat => x.2.1.map Lg.mark) (x := (set, bs, al, cl)) (set + 1, D :: bs, x.1, x.2) ?_ (fun w' c' => ⟨⟨(by omega : set + 1 ≤ N), List.nodup_cons.2 ⟨hDb, hbs⟩⟩, ?_⟩) (by simp only; omega)
                · exact sB
                simp only [hpv0]
                exact HpX.back (Y := [(D, .deferred (some []))]) h1 hX (c'.sub (by simp only [rndL]; repeat' first | exact List.Sublist.refl _ | exact List.nil_sublist _ | apply List.Sublist.cons_cons | apply List.Sublist.cons))
  · have hse : set = N := by omega
    have hlt : ¬ (set : Int) < 1 * 2 ^ n := by rw [e2n]; omega
    subst hse
    obtain ⟨g1, _, g3, _, g5, g6⟩ := ls_all p hp n hn k hk
    rw [hN] at g1
    have hol := g1.length_eq
    have hne : outS p n k set ≠ [] := fun e => by rw [e] at hol; simp at hol; omega
    repeat' (first | (show oL; first | refine sAs rfl rfl ?_ | refine sLd 1 tabs rfl rfl rfl rfl rfl ?_ | refine sLs rfl rfl rfl ?_ | (show oA (.call _); (refine m_callB 0 (ent_of Tryz.func97 kr rfl) rfl rfl rfl (fun w' M' c' hs hnd => sort_ok hs hnd hne om) ?_; rintro v H' ⟨rfl, l', hpm, hsr, rfl⟩))) | refine xNt ?_ | (show oC; first | refine c_seq ?_ | refine c_region ?_ | refine c_ret ?_ | refine c_exit ?_ | refine c_iff rfl nN ?_) | (show AT _ _ _ _; first | refine x_then ?_ | refine x_then_exit ?_ | refine x_blk_exit rfl ?_))
    refine AT.fact (sps_sl 0 rfl) (fun hsa => ?_)
    subst hD
    have hll := hpm.length_eq
    exact x_retM (H := [.own (spsT 26 l') (.slice al (outS p n k set).length cl)]) Tryz.results52 ⟨_, rfl, rfl⟩ hbs h1 (fun b hb => hX _ (List.mem_map.2 ⟨b, hb, rfl⟩)) (fun w' c' => c'.sel [0] rfl) ⟨l', al, cl, by rw [hN]; exact hpm, hsr, by rw [hll]; rfl, hsa, by rw [hll]⟩
end Go.Proofs.YtcplmeajmpkpkaaGreat

namespace Go.Proofs.YtcplmeajmpkpkaaGreat
open Go.Lg Go.Proofs Go.RowKit
attribute [local irreducible] Code.wp wpList bodyPost Exit.then Exit.inBlock Hp Again Calls Y AT ResV QT Qn QI wpAny wpAnyQ
set_option maxRecDepth 20000
set_option maxHeartbeats 4000000

def GivesSoB (p n k : Int) (r : Value) (H : List HE) : Prop := ∃ (a : Option Addr) (c : Nat), r = .tuple #[.slice a (lsF p n k).length c, .bool (decide (CsP p n k))] ∧ SA a (lsF p n k).length ∧ H = [.own (spsT 26 (lsF p n k)) (.slice a (lsF p n k).length c)]
theorem so_one {p n k : Nat} {l : List Sp} (hp : p ∈ [2, 3]) (hn : n ∈ [0, 1, 2, 3]) (hk : k ∈ List.range (n + 1)) (hF : FieldP (p : Int)) (h1 : l.Perm (outS p n k (2 ^ n))) (h2 : l.Pairwise (fun x y => ¬ lxL (lxL lxI) y.2 x.2 < 0)) : l = lstS p n k := by
  obtain ⟨g1, g2, _⟩ := ls_all p hp n hn k hk
  have hn8 : n ≤ 3 := by simp only [List.mem_cons, List.not_mem_nil, or_false] at hn; omega
  have hk3 : k ≤ n := by rw [List.mem_range] at hk; omega
  rw [lstS_eq hF om om]
  exact sorted_one (lxL_lin (lxL_lin lxI_lin)) (f := fun s : Sp => s.2) (h1.trans g1) h2 g2
theorem impl_SpacesOf_ok {w : World} {p n k : Int} (hs : SmP p n k) : Does Tryz.prog 14 [iV p, iV n, iV k] w (GivesSoB p n k) := by
  refine fn_enter Tryz.func14 rfl Tryz.ntmps14 rfl ?_
  by_cases hP : CsP p n k
  · have hb := csF_small hP hs
    have hb2 : 0 ≤ csF p n k ∧ csF p n k ≤ 200 := by omega
    have e1 : lsF p n k = lstS p.toNat n.toNat k.toNat := if_pos hP
    obtain ⟨p, n, k, rfl, rfl, rfl, hp, hn, hk, hF, hpn⟩ := hP.small hs
    simp only [Int.toNat_natCast] at e1
    repeat' (first | (show oL; first | refine sMv rfl rfl ?_ | refine sAs rfl rfl ?_ | (show oA (.unOp _ _ _); refine st_y (y_notd rfl) rfl ?_) | (show oA (.call _); first | (refine m_call (ent_of Tryz.func16 kr rfl) rfl rfl (fun w c => impl_CountSpaces_ok) ?_; rintro v H' ⟨rfl, rfl⟩) | (refine m_call (ent_of Tryz.func51 kr rfl) rfl rfl (fun w c => within_ok _ _ _) ?_; rintro v H' ⟨rfl, rfl⟩) | (refine m_call (ent_of Tryz.func52 kr rfl) rfl rfl (fun w c => spacesOf_ok hp hn hk) ?_; rintro v H' ⟨l, a, c, h1, h2, rfl, hsa, rfl⟩))) | refine xNt ?_ | (show oC; first | refine c_seq ?_ | refine c_region ?_ | refine c_skip (x_then ?_) | refine c_ret ?_ | refine c_iff rfl nN ?_))
    all_goals first | exact absurd hb2 aS | skip
    have hl := (so_one hp hn hk hF h1 h2).trans e1.symm
    subst hl
    exact x_ret2 Tryz.results14 (res_tmp rfl) (res_tmp rfl) (fun w' c' => ⟨_, _, rfl, ⟨a, c, by rw [decide_eq_true hP], hsa, rfl⟩, c'⟩)
  · have hc : csF p n k = -1 := by rw [csF, if_neg hP]
    have hb2 : ¬ (0 ≤ csF p n k ∧ csF p n k ≤ 200) := by omega
    have e1 : lsF p n k = [] := if_neg hP
    repeat' (first | (show oL; first | refine sMv rfl rfl ?_ | refine sAs rfl rfl ?_ | (show oA (.unOp _ _ _); refine st_y (y_notd rfl) rfl ?_) | (show oA (.call _); first | (refine m_call (ent_of Tryz.func16 kr rfl) rfl rfl (fun w c => impl_CountSpaces_ok) ?_; rintro v H' ⟨rfl, rfl⟩) | (refine m_call (ent_of Tryz.func51 kr rfl) rfl rfl (fun w c => within_ok _ _ _) ?_; rintro v H' ⟨rfl, rfl⟩))) | refine xNt ?_ | (show oC; first | refine c_seq ?_ | refine c_region ?_ | refine c_ret ?_ | refine c_ift rfl aO ?_) | (show AT _ _ _ _; refine x_then_ret ?_))
    all_goals first | exact absurd aS hb2 | skip
    exact x_ret2 Tryz.results14 (res_tmp rfl) (res_tmp rfl) (fun w' c' => ⟨_, _, rfl, ⟨none, 0, by rw [decide_eq_false hP, e1]; rfl, by rw [e1]; exact .inl rfl, by rw [e1]; rfl⟩, c'.nilp _ _⟩)
end Go.Proofs.YtcplmeajmpkpkaaGreat
