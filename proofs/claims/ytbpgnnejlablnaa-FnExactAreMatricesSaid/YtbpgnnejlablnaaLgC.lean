import Derived.Test.YtbpgnnejlablnaaLgB
import Derived.WalkKit
namespace Go.Lg
open Go.RowKit

/-- facts on the types of a program -/
structure Tabs (P : Program) where
  /-- slice types: element type, cells of an element, bytes of an element, the zero cells -/
  sl : List (Nat × (Nat × Nat × Nat × List Value))
  /-- struct types: the offsets of the fields; one field after the other -/
  st : List (Nat × List Nat)
  /-- types of one cell that are no struct -/
  one : List (Nat × Unit)
  /-- struct types: the zero cells -/
  sz : List (Nat × List Value)
  sl_ok : ∀ t e k b z, lk sl t = some (e, k, b, z) → P.underlying t = some (.slice e) ∧ z.length = k ∧ 0 < k ∧ ∃ i zv, P.info? e = some i ∧ i.size = k ∧ i.bytes = b ∧ i.zero = some zv ∧ zv.cells = z.toArray
  st_ok : ∀ t fs, lk st t = some fs → ∀ f off, fs[f]? = some off → ∀ a w, (Instr.fieldAt t (.pointer (some a)) f).run P w = .ok (.pointer (some (a.add off))) w
  one_ok : ∀ t, lk one t = some () → (∀ a v w, w.cell? a = some v → (Instr.loadAt t (.pointer (some a))).run P w = .ok v w) ∧
    (∀ a v w, v.oneCell' = true → (Instr.storeAt t (.pointer (some a)) v).run P w = stored P w a v .plain)
  sz_ok : ∀ t z, lk sz t = some z → (∀ w, ∃ zv, (zeroValue t).run P w = .ok zv w ∧ zv.cells = z.toArray) ∧
    (∀ a (cs : List Value) w, cs.length = z.length → (∀ j v, cs[j]? = some v → w.cell? (a.add j) = some v) → (Instr.loadAt t (.pointer (some a))).run P w = .ok (.agg cs.toArray) w) ∧
    (∀ a (cs : List Value) w, cs.length = z.length → (Instr.storeAt t (.pointer (some a)) (.agg cs.toArray)).run P w = (storeCells a cs).run P w)

/-- an operation that yields v and leaves the world alone, in every frame and world of the judgement -/
def Y (P : Program) (n : Nat) (C : World → Prop) (s : List (Nat × Value)) (op : Op) (ty : Nat) (v : Value) : Prop :=
  ∀ a w, Fr n s a → C w → ∀ d pos af g, (execOp a.eval ⟨d, op, ty, pos, af, g⟩).run P w = .ok (.value v) w

section
variable {P : Program} {n : Nat} {C : World → Prop} {s : List (Nat × Value)} {Q : Exit → Act → World → Prop} {ops : Array Oper} {rest : List Oper}
variable {d ty : Nat} {op : Op} {pos : String} {af : Array Edge} {v : Value}

theorem wpList_one {o : Oper} {a : Act} {w : World} (hg : o.guard = none) (h : o.wp P a w (wpList P ops Q rest) Q) : wpList P ops Q (o :: rest) a w := by
  unfold wpList
  rw [if_pos (by simp [Region.wanted, hg])]
  exact .inl h

theorem st_y (hy : Y P n C s op ty v) (hd : Nat.blt d n = true) (h : AT n C ((d, v) :: s) (wpList P ops Q rest)) :
    AT n C s (wpList P ops Q (⟨some d, op, ty, pos, af, none⟩ :: rest)) := fun a w f c => by
  refine wpList_one rfl ?_
  unfold Oper.wp
  rw [hy a w f c]
  exact h _ _ (f.put (by simpa [Nat.blt_eq] using hd) v) c
/-- the result is not kept -/
theorem st_y0 (hy : Y P n C s op ty v) (h : AT n C s (wpList P ops Q rest)) :
    AT n C s (wpList P ops Q (⟨none, op, ty, pos, af, none⟩ :: rest)) := fun a w f c => by
  refine wpList_one rfl ?_
  unfold Oper.wp
  rw [hy a w f c]
  exact h _ _ f c

/-- a guard that lets by, and one that does not -/
theorem st_gy {j dj : Nat} {b : Bool} {dd : Option Nat} (hj : (ops[j]?).bind (·.dst) = some dj) (hb : lk s dj = some (.bool b)) (h : AT n C s (wpList P ops Q (⟨dd, op, ty, pos, af, none⟩ :: rest))) :
    AT n C s (wpList P ops Q (⟨dd, op, ty, pos, af, some (j, b)⟩ :: rest)) := fun a w f c => by
  have := h a w f c
  unfold wpList at this ⊢
  rw [if_pos (by simp [Region.wanted])] at this
  rw [if_pos (by simp [Region.wanted, yielded, hj, f.has _ _ hb])]
  exact this
theorem st_gn {j dj : Nat} {b : Bool} (hj : (ops[j]?).bind (·.dst) = some dj) (hb : lk s dj = some (.bool !b)) (hd : Nat.blt d n = true) (h : AT n C ((d, undef) :: s) (wpList P ops Q rest)) :
    AT n C s (wpList P ops Q (⟨some d, op, ty, pos, af, some (j, b)⟩ :: rest)) := fun a w f c => by
  unfold wpList
  rw [if_neg (by cases b <;> simp [Region.wanted, yielded, hj, f.has _ _ hb])]
  exact h _ _ (f.put (by simpa [Nat.blt_eq] using hd) undef) c

theorem ibeq (p q : Int) : (p == q) = decide (p = q) := rfl
theorem y_move {x : Operand} (hx : ev s x = some v) : Y P n C s (.move x) ty v := fun a w f c d pos af g => by simp [execOp, f.ev hx]
theorem y_assign {x : Operand} (hx : ev s x = some v) : Y P n C s (.assign x) ty v := fun a w f c d pos af g => by simp [execOp, f.ev hx]
theorem y_pick {x y z : Operand} {b : Bool} {v1 v2 : Value} (hx : ev s x = some (.bool b)) (hy : ev s y = some v1) (hz : ev s z = some v2) : Y P n C s (.pick x y z) ty (bif b then v1 else v2) := fun a w f c d pos af g => by
  cases b <;> simp [execOp, f.ev hx, f.ev hy, f.ev hz, asBool]

variable {t t' : Nat} {x y : Operand} {p q : Int}
theorem y_add (hx : ev s x = some (.int .i64 p)) (hy : ev s y = some (.int .i64 q)) (hr : -9223372036854775808 ≤ p + q ∧ p + q ≤ 9223372036854775807) : Y P n C s (.binOp .add t x y t') ty (.int .i64 (p + q)) := fun a w f c d pos af g => by
  simp [execOp, f.ev hx, f.ev hy, eqGuard, binOp, Op.intArith, IntWalk.i64_in _ hr]
theorem y_sub (hx : ev s x = some (.int .i64 p)) (hy : ev s y = some (.int .i64 q)) (hr : -9223372036854775808 ≤ p - q ∧ p - q ≤ 9223372036854775807) : Y P n C s (.binOp .sub t x y t') ty (.int .i64 (p - q)) := fun a w f c d pos af g => by
  simp [execOp, f.ev hx, f.ev hy, eqGuard, binOp, Op.intArith, IntWalk.i64_in _ hr]
theorem y_mul (hx : ev s x = some (.int .i64 p)) (hy : ev s y = some (.int .i64 q)) (hr : -9223372036854775808 ≤ p * q ∧ p * q ≤ 9223372036854775807) : Y P n C s (.binOp .mul t x y t') ty (.int .i64 (p * q)) := fun a w f c d pos af g => by
  simp [execOp, f.ev hx, f.ev hy, eqGuard, binOp, Op.intArith, IntWalk.i64_in _ hr]
theorem y_addw (hx : ev s x = some (.int .i64 p)) (hy : ev s y = some (.int .i64 q)) : Y P n C s (.binOp .add t x y t') ty (.int .i64 (IntKind.i64.wrap (p + q))) := fun a w f c d pos af g => by
  simp [execOp, f.ev hx, f.ev hy, eqGuard, binOp, Op.intArith]
theorem y_subw (hx : ev s x = some (.int .i64 p)) (hy : ev s y = some (.int .i64 q)) : Y P n C s (.binOp .sub t x y t') ty (.int .i64 (IntKind.i64.wrap (p - q))) := fun a w f c d pos af g => by
  simp [execOp, f.ev hx, f.ev hy, eqGuard, binOp, Op.intArith]
theorem y_mulw (hx : ev s x = some (.int .i64 p)) (hy : ev s y = some (.int .i64 q)) : Y P n C s (.binOp .mul t x y t') ty (.int .i64 (IntKind.i64.wrap (p * q))) := fun a w f c d pos af g => by
  simp [execOp, f.ev hx, f.ev hy, eqGuard, binOp, Op.intArith]
theorem y_rem (hx : ev s x = some (.int .i64 p)) (hy : ev s y = some (.int .i64 q)) (hq : q ≠ 0) : Y P n C s (.binOp .rem t x y t') ty (.int .i64 (p.tmod q)) := fun a w f c d pos af g => by
  simp [execOp, f.ev hx, f.ev hy, eqGuard, binOp, Op.intDiv, hq]
theorem y_quo (hx : ev s x = some (.int .i64 p)) (hy : ev s y = some (.int .i64 q)) (hq : q ≠ 0) : Y P n C s (.binOp .quo t x y t') ty (.int .i64 (IntKind.i64.wrap (p.tdiv q))) := fun a w f c d pos af g => by
  simp [execOp, f.ev hx, f.ev hy, eqGuard, binOp, Op.intDiv, hq]
theorem y_lss (hx : ev s x = some (.int .i64 p)) (hy : ev s y = some (.int .i64 q)) : Y P n C s (.binOp .lss t x y t') ty (.bool (decide (p < q))) := fun a w f c d pos af g => by
  simp [execOp, f.ev hx, f.ev hy, eqGuard, binOp, Op.intCmp]
theorem y_leq (hx : ev s x = some (.int .i64 p)) (hy : ev s y = some (.int .i64 q)) : Y P n C s (.binOp .leq t x y t') ty (.bool (decide (p ≤ q))) := fun a w f c d pos af g => by
  simp [execOp, f.ev hx, f.ev hy, eqGuard, binOp, Op.intCmp]
theorem y_gtr (hx : ev s x = some (.int .i64 p)) (hy : ev s y = some (.int .i64 q)) : Y P n C s (.binOp .gtr t x y t') ty (.bool (decide (q < p))) := fun a w f c d pos af g => by
  simp [execOp, f.ev hx, f.ev hy, eqGuard, binOp, Op.intCmp]
theorem y_geq (hx : ev s x = some (.int .i64 p)) (hy : ev s y = some (.int .i64 q)) : Y P n C s (.binOp .geq t x y t') ty (.bool (decide (q ≤ p))) := fun a w f c d pos af g => by
  simp [execOp, f.ev hx, f.ev hy, eqGuard, binOp, Op.intCmp]
theorem y_eql (hx : ev s x = some (.int .i64 p)) (hy : ev s y = some (.int .i64 q)) : Y P n C s (.binOp .eql t x y t') ty (.bool (decide (p = q))) := fun a w f c d pos af g => by
  simp [execOp, f.ev hx, f.ev hy, eqGuard, binOp, Op.intCmp, ibeq]
theorem y_neq (hx : ev s x = some (.int .i64 p)) (hy : ev s y = some (.int .i64 q)) : Y P n C s (.binOp .neq t x y t') ty (.bool (decide (p ≠ q))) := fun a w f c d pos af g => by
  simp [execOp, f.ev hx, f.ev hy, eqGuard, binOp, Op.intCmp, bne, ibeq]
theorem y_not {b : Bool} (hx : ev s x = some (.bool b)) : Y P n C s (.unOp .not t x) ty (.bool !b) := fun a w f c d pos af g => by
  simp [execOp, f.ev hx, Op.unary]
theorem y_neg (hx : ev s x = some (.int .i64 p)) (hr : -9223372036854775807 ≤ p ∧ p ≤ 9223372036854775807) : Y P n C s (.unOp .neg t x) ty (.int .i64 (-p)) := fun a w f c d pos af g => by
  simp [execOp, f.ev hx, Op.unary, Op.intArith, IntWalk.i64_in (-p) (by omega)]
theorem y_len (T : Tabs P) {a0 : Option Addr} {m k : Nat} {e : Nat × Nat × Nat × List Value} (ht : lk T.sl t = some e) (hx : ev s x = some (.slice a0 m k)) : Y P n C s (.call ⟨.builtin .len, #[x], #[t]⟩) ty (.int .i64 m) := fun a w f c d pos af g => by
  obtain ⟨e, sz, b, z⟩ := e
  obtain ⟨h1, _⟩ := T.sl_ok _ _ _ _ _ ht
  simp [execOp, resolve, invoke, builtin, f.ev hx, Builtin.len_, run_underlying h1, goInt]
theorem y_field (T : Tabs P) {fs : List Nat} {fi off b o : Nat} (ht : lk T.st t = some fs) (hf : fs[fi]? = some off) (hx : ev s x = some (.pointer (some ⟨b, o, none⟩))) : Y P n C s (.fieldAddr t x fi) ty (.pointer (some ⟨b, o + off, none⟩)) := fun a w f c d pos af g => by
  simp [execOp, f.ev hx, T.st_ok _ _ ht _ _ hf, Addr.add_lit]
theorem y_ix (T : Tabs P) {e k b m cap g o : Nat} {z : List Value} {i : Int} (ht : lk T.sl t = some (e, k, b, z)) (hx : ev s x = some (.slice (some ⟨g, o, none⟩) m cap)) (hy : ev s y = some (.int .i64 i)) (h0 : 0 ≤ i) (h1 : i < m) :
    Y P n C s (.indexAddr t x y) ty (.pointer (some ⟨g, o + i.toNat * k, none⟩)) := fun a w f c d pos af gg => by
  obtain ⟨g1, _, _, i0, zv, g2, g3, _⟩ := T.sl_ok _ _ _ _ _ ht
  simp [execOp, f.ev hx, f.ev hy, Instr.indexAt, asIntOf, run_underlying g1, h0, h1, sizeOf, typeInfo, g2, g3, Addr.add_lit]
theorem y_load (T : Tabs P) {ad : Addr} (ht : lk T.one t = some ()) (hx : ev s x = some (.pointer (some ad))) (hc : ∀ w, C w → w.cell? ad = some v) : Y P n C s (.load t x) ty v := fun a w f c d pos af g => by
  simp [execOp, f.ev hx, (T.one_ok _ ht).1 _ _ _ (hc w c)]
theorem y_loads (T : Tabs P) {ad : Addr} {cs z : List Value} (ht : lk T.sz t = some z) (hl : cs.length = z.length) (hx : ev s x = some (.pointer (some ad))) (hc : ∀ w, C w → ∀ j v, cs[j]? = some v → w.cell? (ad.add j) = some v) : Y P n C s (.load t x) ty (.agg cs.toArray) := fun a w f c d pos af g => by
  simp [execOp, f.ev hx, (T.sz_ok _ _ ht).2.1 _ _ _ hl (hc w c)]
theorem y_ext {vs : Array Value} {i : Nat} (hx : ev s x = some (.tuple vs)) (hi : vs[i]? = some v) : Y P n C s (.extract x i) ty v := fun a w f c d pos af g => by
  simp [execOp, f.ev hx, Instr.extract, hi]
end
end Go.Lg
