import Derived.OrdersHeld
import Derived.Lib.SliceRun
import Derived.Test.YtljgmmmgnfgbhaaDoorLBqfr
namespace Go.Lg
section
variable {P : Program} {md : Region.Mode} {head tail : List Oper}

/-- only the normal exit -/
def Qn (K : Act → World → Prop) : Exit → Act → World → Prop
  | .normal => K
  | _ => fun _ _ => False
end
section
variable {P : Program} {n : Nat} {C S : World → Prop} {s : List (Nat × Value)} {Q : Exit → Act → World → Prop} {K : Act → World → Prop} {ops : Array Oper} {fuel : Nat} {listed : Array Bool}
end
end Go.Lg
namespace Go.Lg
open Go.RowKit
section
variable {P : Program} {n : Nat} {C : World → Prop} {s : List (Nat × Value)} {x y lo' hi' : Operand} {t t' ty : Nat}
end
end Go.Lg
namespace Go.Lg
open Go.RowKit
section
variable {P : Program} {n : Nat} {C : World → Prop} {s : List (Nat × Value)} {x y : Operand} {t t' ty : Nat}
theorem y_eqsnil (T : Tabs P) {q : Nat × Nat × Nat × List Value} {a : Option Addr} {m c m' c' : Nat} (ht : lk T.sl t = some q) (hx : ev s x = some (.slice a m c)) (hy : ev s y = some (.slice none m' c')) : Y P n C s (.binOp .eql t x y t') ty (.bool (decide (a = none))) := fun aa w f cc d pos af g => by
  obtain ⟨e, k, b, z⟩ := q
  obtain ⟨g1, _⟩ := T.sl_ok _ _ _ _ _ ht
  have h := Lib.run_eql_slice_nil (P := P) w t e a m c m' c' g1
  have h2 : a.isNone = decide (a = none) := by cases a <;> rfl
  rw [h2] at h
  simp [execOp, f.ev hx, f.ev hy, eqGuard, h]
theorem rd_src {w : World} {e : Nat} {ys : List Int} {ad : Option Addr} {c : Nat} (h : Rd w (ints e ys) (.slice ad ys.length c)) : ys = [] ∨ ∃ a, ad = some a ∧ ∀ j u, (ic ys)[j]? = some u → w.cell? (a.add j) = some u := by
  obtain ⟨a, cap, h1, hs, _, _, hg⟩ := h.ints
  cases h1
  rcases Nat.eq_zero_or_pos ys.length with h0 | h0
  · exact .inl (List.length_eq_zero_iff.1 h0)
  · refine .inr ⟨_, hs.get h0, fun j u hu => ?_⟩
    have hj : j < ys.length := by
      have := (List.getElem?_eq_some_iff.1 hu).1
      simpa [ic] using this
    have := hg j hj
    have hu' : u = .int .i64 (ys.getD j 0) := by
      have h3 : (ic ys)[j]? = some (.int .i64 (ys.getD j 0)) := by simp [ic, List.getD, hj]
      rw [h3] at hu; exact (Option.some.inj hu).symm
    rw [hu', Addr.add_lit]
    exact this
end
end Go.Lg
namespace Go.Lg
open Go.RowKit
/-- slots with their values -/
def zk : List Nat → List Value → List (Nat × Value)
  | k :: ks, v :: vs => (k, v) :: zk ks vs
  | _, _ => []
def lks (s : List (Nat × Value)) : List Nat → Option (List Value)
  | [] => some []
  | k :: ks => match lk s k, lks s ks with
    | some v, some vs => some (v :: vs)
    | _, _ => none
theorem zk_sub {s : List (Nat × Value)} : ∀ {ks : List Nat} {vs : List Value}, lks s ks = some vs → Sub (zk ks vs) s
  | [], vs, h => by simp only [lks, Option.some.injEq] at h; subst h; exact Sub.nil
  | k :: ks, vs, h => by
    simp only [lks] at h
    split at h
    · rename_i v vs' h1 h2
      simp only [Option.some.injEq] at h; subst h
      exact Sub.cons h1 (zk_sub h2)
    · cases h
theorem lk_app {a b : List (Nat × Value)} {j : Nat} : lk (a ++ b) j = match lk a j with
    | some x => some x
    | none => lk b j := by
  induction a with
  | nil => rfl
  | cons p a ih =>
    obtain ⟨k, v⟩ := p
    simp only [List.cons_append, lk]
    cases Nat.beq k j
    · exact ih
    · rfl
theorem Sub.app {a b s : List (Nat × Value)} (h : Sub a s) (h' : Sub b s) : Sub (a ++ b) s := fun j u e => by
  rw [lk_app] at e
  cases ha : lk a j with
  | some x => rw [ha] at e; simp only [Option.some.injEq] at e; subst e; exact h j x ha
  | none => rw [ha] at e; exact h' j u e
section
variable {P : Program} {n : Nat} {C : World → Prop} {s : List (Nat × Value)} {Q : Exit → Act → World → Prop}
/-- a loop: the slots that turn are written down, the others that are still read are kept as they stand -/
theorem c_loopk {α : Type} (ks : List Nat) (ch : α → List (Nat × Value)) (D : α → World → Prop) (m : α → Nat) {c : Code} (x0 : α) {vs : List Value} (hk : lks s ks = some vs) (h0 : Sub (ch x0) s) (hC : ∀ w, C w → D x0 w)
    (round : ∀ x, AT n (D x) (ch x ++ zk ks vs) (c.wp P (Exit.then (Again n (fun x => ch x ++ zk ks vs) D m x) Q))) : AT n C s ((Code.loop c).wp P Q) :=
  c_loop (fun x => ch x ++ zk ks vs) D m x0 (h0.app (zk_sub hk)) hC round
/-- .. with pieces of memory -/
theorem c_loopH {α : Type} {M : List Nat} {w0 : World} {H : List HE} (ks : List Nat) (ch : α → List (Nat × Value)) (pu : α → Prop) (pc : α → List HE) (m : α → Nat) {c : Code} (x0 : α) {vs : List Value} (hk : lks s ks = some vs) (h0 : Sub (ch x0) s) (hp : pu x0) (hC : ∀ w, Hp M w0 H w → Hp M w0 (pc x0) w)
    (round : ∀ x, pu x → AT n (Hp M w0 (pc x)) (ch x ++ zk ks vs) (c.wp P (Exit.then (Again n (fun x => ch x ++ zk ks vs) (fun x w => pu x ∧ Hp M w0 (pc x) w) m x) Q))) : AT n (Hp M w0 H) s ((Code.loop c).wp P Q) :=
  c_loopk ks ch (fun x w => pu x ∧ Hp M w0 (pc x) w) m x0 hk h0 (fun w c => ⟨hp, hC w c⟩) (fun x => AT.pr (round x))
theorem x_nx {α : Type} {M : List Nat} {w0 : World} {S : α → List (Nat × Value)} {pu : α → Prop} {pc : α → List HE} {m : α → Nat} {x : α} (y : α) (hs : Sub (S y) s) (hp : pu y) (hC : ∀ w, C w → Hp M w0 (pc y) w) (hm : m y < m x) :
    AT n C s (Again n S (fun x w => pu x ∧ Hp M w0 (pc x) w) m x) := fun _ w f c => ⟨y, f.sub hs, ⟨hp, hC w c⟩, hm⟩
end
end Go.Lg
namespace Go.Lg
open Go.RowKit
section
variable {P : Program} {n : Nat} {C : World → Prop} {s : List (Nat × Value)} {Q : Exit → Act → World → Prop} {ops : Array Oper} {rest : List Oper}
variable {d ty t t' : Nat} {pos : String} {af : Array Edge} {v : Value} {x y : Operand} {M : List Nat} {w0 w : World} {H : List HE} {p q : Int}

/-- an element's address in a slice that is there -/
theorem y_ixs (T : Tabs P) {e b m cap g o j : Nat} {z : List Value} {i : Int} (ht : lk T.sl t = some (e, 1, b, z)) (hx : ev s x = some (.slice (some ⟨g, o, none⟩) m cap)) (hy : ev s y = some (.int .i64 i)) (hi : i = (j : Int)) (h1 : j < m) :
    Y P n C s (.indexAddr t x y) ty (.pointer (some ⟨g, o + j, none⟩)) := by
  have h := y_ix (P := P) (n := n) (C := C) (s := s) (ty := ty) T ht hx hy (by omega) (by omega)
  subst hi
  simpa using h

/-- a piece is lent, the others stay -/
structure Lent (M : List Nat) (w0 : World) (h0 : HE) (H : List HE) (M' : List Nat) (w : World) : Prop where
  sat : h0.sat w M'
  nodup : M'.Nodup
  others : ∃ f2, satL w H f2 ∧ (M' ++ f2).Nodup ∧ (∀ b ∈ M' ++ f2, b ∈ M ∨ w0.heap.size ≤ b) ∧ Kept M w0 w
theorem Lent.satL {h0 : HE} {M' : List Nat} (h : Lent M w0 h0 H M' w) : satL w [h0] M' := ⟨M', [], by simp, h.sat, rfl⟩
/-- what reads, whatever becomes of the blocks of M -/
def RdOut (w : World) (M : List Nat) (t : T) (v : Value) : Prop := ∀ w' : World, (∀ b, b < w.heap.size → b ∉ M → w'.heap[b]? = w.heap[b]?) → Rd w' t v
theorem RdOut.rd {t : T} (h : RdOut w0 M t v) (c : Hp M w0 H w) : Rd w t v := h w c.kept.block
theorem Lent.own {h0 : HE} {M' : List Nat} {t : T} (j : Nat) (h : Lent M w0 h0 H M' w) (hj : H[j]? = some (.own t v)) : RdOut w M' t v := fun w' hb => by
  obtain ⟨f2, s2, nd, ge, kp⟩ := h.others
  obtain ⟨f, a, hin, hnd, _⟩ := s2.pick hj
  refine Own.rd (Own.loc a (fun b hm => hb b (s2.lt b (hin b hm)) (fun hm' => ?_)))
  exact (List.nodup_append.1 nd).2.2 b hm' b (hin b hm) rfl
end
end Go.Lg
namespace Go.Lg
section
variable {P : Program} {md : Region.Mode} {head tail : List Oper}
end
section
variable {P : Program} {n : Nat} {C : World → Prop} {s : List (Nat × Value)} {Q : Exit → Act → World → Prop}
end
end Go.Lg
namespace Go.Lg
section
variable {P : Program} {md : Region.Mode} {head tail : List Oper} {ops : Array Oper}
end
section
variable {P : Program} {n : Nat} {C : World → Prop} {s : List (Nat × Value)} {Q : Exit → Act → World → Prop} {ops : Array Oper} {fuel : Nat} {listed : Array Bool}
variable {M : List Nat} {w0 : World} {H : List HE}
/-- the quiet part, by numbers -/
def QI (P : Program) (ops : Array Oper) (n : Nat) (C : World → Prop) (K : Act → Prop) (s : List (Nat × Value)) (fuel : Nat) (listed : Array Bool) : Prop := ∀ a, Fr n s a → wpAnyQ P .any ops C K fuel listed a
variable {K : Act → Prop}
theorem x_qn {K : Act → World → Prop} (h : AT n C s K) : AT n C s (Qn K .normal) := h
end
end Go.Lg
namespace Go.Lg
open Go.RowKit
section
variable {P : Program} {n : Nat} {C : World → Prop} {s : List (Nat × Value)} {Q : Exit → Act → World → Prop} {ops : Array Oper} {rest : List Oper}
variable {d ty t t' : Nat} {pos : String} {af : Array Edge} {v : Value} {x y : Operand} {M : List Nat} {w0 w : World} {H : List HE}

/-- some pieces are lent, the others stay -/
structure LentL (M : List Nat) (w0 : World) (H0 H : List HE) (M' : List Nat) (w : World) : Prop where
  sat : satL w H0 M'
  nodup : M'.Nodup
  others : ∃ f2, satL w H f2 ∧ (M' ++ f2).Nodup ∧ (∀ b ∈ M' ++ f2, b ∈ M ∨ w0.heap.size ≤ b) ∧ Kept M w0 w
theorem LentL.own {H0 : List HE} {M' : List Nat} {t : T} (j : Nat) (h : LentL M w0 H0 H M' w) (hj : H[j]? = some (.own t v)) : RdOut w M' t v := fun w' hb => by
  obtain ⟨f2, s2, nd, ge, kp⟩ := h.others
  obtain ⟨f, a, hin, hnd, _⟩ := s2.pick hj
  refine Own.rd (Own.loc a (fun b hm => hb b (s2.lt b (hin b hm)) (fun hm' => ?_)))
  exact (List.nodup_append.1 nd).2.2 b hm' b (hin b hm) rfl
/-- elements in three parts -/
theorem OwnL.at {w : World} {ts : List T} {vs : List Value} {f : List Nat} {q : Nat} {t : T} {v : Value} (h : OwnL w ts vs f) (ht : ts[q]? = some t) (hv : vs[q]? = some v) :
    ∃ fa ft fb, f = fa ++ (ft ++ fb) ∧ OwnL w (ts.take q) (vs.take q) fa ∧ Own w t v ft ∧ OwnL w (ts.drop (q + 1)) (vs.drop (q + 1)) fb := by
  have hq := (List.getElem?_eq_some_iff.1 ht).1
  have e1 : ts = ts.take q ++ (t :: ts.drop (q + 1)) := by
    conv => lhs; rw [← List.take_append_drop q ts]
    rw [List.drop_eq_getElem_cons hq]
    congr 2
    exact (List.getElem?_eq_some_iff.1 ht).2
  rw [e1] at h
  obtain ⟨v1, v2, f1, f2, ev, ef, h1, h2⟩ := h.split
  simp only [OwnL] at h2
  obtain ⟨u, v3, g1, g2, rfl, rfl, h3, h4⟩ := h2
  have hl : v1.length = q := by rw [OwnL.length h1, List.length_take]; omega
  subst ev
  have hu : u = v := by
    rw [List.getElem?_append_right (by omega), hl, Nat.sub_self] at hv
    simpa using hv
  subst hu
  refine ⟨f1, g1, g2, ef, ?_, h3, ?_⟩
  · rw [List.take_left' hl]
    exact h1
  · have : (v1 ++ u :: v3).drop (q + 1) = v3 := by
      rw [show v1 ++ u :: v3 = (v1 ++ [u]) ++ v3 by simp]
      exact List.drop_left' (by simp [hl])
    rw [this]
    exact h4
end

section
variable {P : Program} {n : Nat} {C : World → Prop} {s : List (Nat × Value)} {w w0 : World} {M : List Nat} {H : List HE} {x y : Operand} {t ty : Nat} {v : Value}
theorem LentL.rd {H0 : List HE} {M' : List Nat} {tt : T} (h : LentL M w0 (.own tt v :: H0) H M' w) : Rd w tt v := by
  obtain ⟨f1, f2, _, h1, _⟩ := h.sat
  exact Own.rd h1
end

/-! ### marks -/
end Go.Lg
namespace Go.Lg
open Go.RowKit
section
variable {P : Program} {n : Nat} {C S : World → Prop} {s : List (Nat × Value)} {Q : Exit → Act → World → Prop} {K : Act → World → Prop} {ops : Array Oper} {fuel : Nat} {listed : Array Bool}
variable {M : List Nat} {w0 : World} {H : List HE} {i0 d0 e0 : Nat} {z : List Value}

end
end Go.Lg
namespace Go.Lg
open Go.RowKit
section
variable {P : Program} {n : Nat} {C : World → Prop} {s : List (Nat × Value)} {Q : Exit → Act → World → Prop} {ops : Array Oper} {rest : List Oper}
variable {d ty t t' : Nat} {pos : String} {af : Array Edge} {v : Value} {x y lo' : Operand} {M : List Nat} {w0 w : World} {H : List HE}
end
end Go.Lg
namespace Go.Lg
open Go.RowKit
section
variable {P : Program} {n : Nat} {C : World → Prop} {s : List (Nat × Value)} {Q : Exit → Act → World → Prop} {ops : Array Oper} {rest : List Oper}
variable {d ty t t' : Nat} {pos : String} {af : Array Edge} {v : Value} {x y lo' : Operand} {M : List Nat} {w0 w : World} {H : List HE}
/-- the address of 's[lo:]' -/
def subA (a : Option Addr) (k lo cap : Nat) : Option Addr := if cap = lo then a else a.map (fun b => b.add (lo * k))
theorem y_slb (T : Tabs P) {e k b m cap lo hi : Nat} {z : List Value} {a : Option Addr} {p q : Int} {hi' : Operand} (ht : lk T.sl t = some (e, k, b, z)) (hx : ev s x = some (.slice a m cap)) (hl : ev s lo' = some (.int .i64 p)) (hh : ev s hi' = some (.int .i64 q)) (hp : p = (lo : Int)) (hq : q = (hi : Int)) (h1 : lo ≤ hi) (h2 : hi ≤ cap) :
    Y P n C s (.slice t x (some lo') (some hi') none) ty (.slice (subA a k lo cap) (hi - lo) (cap - lo)) := fun aa w f c d pos af gg => by
  obtain ⟨g1, _, _, i0, zv, g2, g3, _⟩ := T.sl_ok _ _ _ _ _ ht
  subst hp; subst hq
  simp [execOp, f.ev hx, f.ev hl, f.ev hh, Instr.sliceAt, Instr.slice, Instr.sliceBounds, Instr.sliceBound, asIntOf, run_underlying g1, sizeOf, typeInfo, g2, g3, subA, h1, h2]
/-- a part of a slice reads as that part -/
theorem Rd.part {e k m cap lo hi : Nat} {ts : List T} {a : Option Addr} (hr : Rd w (.s e k ts) (.slice a m cap)) (h1 : lo ≤ hi) (h2 : hi ≤ m) : Rd w (.s e k ((ts.drop (lo * k)).take ((hi - lo) * k))) (.slice (subA a k lo cap) (hi - lo) (cap - lo)) := by
  simp only [Rd] at hr ⊢
  obtain ⟨a', m', c', h3, h4, h5, h6, h7⟩ := hr
  cases h3
  have hkm : hi * k ≤ m * k := Nat.mul_le_mul_right k h2
  have hlk : lo * k + (hi - lo) * k = hi * k := by rw [← Nat.add_mul]; congr 1; omega
  refine ⟨_, hi - lo, cap - lo, rfl, by omega, by omega, by simp only [List.length_take, List.length_drop]; omega, ?_⟩
  by_cases hz : hi - lo = 0
  · rw [hz]; simp [RdL]
  · unfold subA
    rw [if_neg (by omega)]
    have key : ∀ (i : Nat) (t : T), ((ts.drop (lo * k)).take ((hi - lo) * k))[i]? = some t → ∃ b o u, a = some ⟨b, o, none⟩ ∧ w.cell? ⟨b, o + (lo * k + i), none⟩ = some u ∧ Rd w t u := fun i t ht => by
      rw [List.getElem?_take] at ht
      split at ht
      · rw [List.getElem?_drop] at ht
        obtain ⟨b, o, u, g1, g2, g3⟩ := h7.get _ _ ht
        exact ⟨b, o, u, g1, by simpa using g2, g3⟩
      · cases ht
    cases hl : (ts.drop (lo * k)).take ((hi - lo) * k) with
    | nil => simp [RdL]
    | cons t0 tl =>
      obtain ⟨b, o, u, g1, _, _⟩ := key 0 t0 (by rw [hl]; rfl)
      subst g1
      rw [← hl, Option.map_some, Addr.add_lit]
      refine RdL.of_get (fun i t ht => ?_)
      obtain ⟨b', o', u', g1', g2', g3'⟩ := key i t ht
      cases g1'
      exact ⟨u', by rw [Nat.zero_add, Nat.add_assoc]; exact g2', g3'⟩
/-- one more element: plain cells ahead of a slice of ours -/
theorem m_push1 (pre : List Value) (i j : Nat) (T0 : Tabs P) {e g e' k b c m' : Nat} {z : List Value} {ts : List T} {cs : Array Value} {t1 : T} {u : Value} (ht : lk T0.sl t = some (e, k, b, z)) (hx : ev s x = some v) (hy : ev s y = some (.slice (some ⟨g, 0, none⟩) 1 c)) (hd : Nat.blt d n = true)
    (hcs : cs.toList = pre ++ [u]) (hl : Nat.beq cs.size k = true) (hu : cs.toList.all (·.oneCell') = true) (hm : ts.length = m' * k) (hb : (ts.length + k) * b ≤ 140737488355328) (hb1 : 1 ≤ b) (hj : H[j]? = some (.own t1 u)) (hi : (H.eraseIdx j)[i]? = some (.own (.s e k ts) v))
    (h : ∀ a cc, AT n (Hp M w0 (.own (.s e k (ts ++ (pre.map T.c ++ [t1]))) (.slice a (m' + 1) cc) :: (H.eraseIdx j).eraseIdx i)) ((d, .slice a (m' + 1) cc) :: s) (wpList P ops Q rest)) :
    AT n (Hp M w0 (.blk g cs e' :: H)) s (wpList P ops Q (⟨some d, .call ⟨.builtin .append, #[x, y], #[t, t]⟩, ty, pos, af, none⟩ :: rest)) := by
  have hl' := Nat.eq_of_beq_eq_true hl
  have hlen : cs.toList.length = k := by simpa using hl'
  refine m_app (ts := ts) (tn := pre.map T.c ++ [t1]) (news := cs.toList) (m' := m' + 1) (m := 1) (H' := (H.eraseIdx j).eraseIdx i) T0 ht hx hy hd (by omega) (fun u hu' => List.all_eq_true.1 hu u hu') (by rw [List.length_append, hm, Nat.succ_mul]; have := hlen; rw [hcs] at this; simp at this ⊢; omega) (by rw [hlen]; exact hb) hb1
    (fun w c => ?_) (fun w c => .inr ⟨_, rfl, fun q u hu => ?_⟩) h
  · rw [hcs]
    have h1 := ((c.drop.front hj).single.free pre).cat
    exact h1.front (i := i + 1) (by simpa using hi)
  · have := hc_blk (M := M) (w0 := w0) 0 (o := q) (v := u) (H := .blk g cs e' :: H) rfl (by simpa using hu) w c
    rw [Addr.add_lit]
    simpa using this
end
end Go.Lg
namespace Go.Lg
open Go.RowKit
section
variable {P : Program} {n : Nat} {S : World → Prop} {s : List (Nat × Value)} {K : Act → World → Prop} {ops : Array Oper} {fuel : Nat} {listed : Array Bool}
variable {M : List Nat} {w0 : World} {H : List HE} {i0 d0 e0 : Nat} {z : List Value}
end
end Go.Lg
namespace Go.Lg
open Go.RowKit
section
variable {P : Program} {n : Nat} {C S : World → Prop} {s : List (Nat × Value)} {Q : Exit → Act → World → Prop} {K : Act → World → Prop} {ops : Array Oper} {rest : List Oper} {fuel : Nat} {listed : Array Bool}
variable {d ty t t' : Nat} {pos : String} {af : Array Edge} {v : Value} {x y : Operand} {M : List Nat} {w0 w : World} {H : List HE}
variable {x0 x1 x2 x3 : Operand} {v0 v1 v2 v3 : Value}
end
end Go.Lg
