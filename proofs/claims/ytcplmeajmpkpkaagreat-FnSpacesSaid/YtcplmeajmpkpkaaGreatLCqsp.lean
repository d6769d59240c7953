import Derived.OrdersHeld
import Derived.Lib.SliceRun
import Derived.Test.YtcplmeajmpkpkaaGreatLBqsp
namespace Go.Lg
section
variable {P : Program} {md : Region.Mode} {head tail : List Oper}

def Qn (K : Act → World → Prop) : Exit → Act → World → Prop
  | .normal => K
  | _ => fun _ _ => False
theorem upon_Qn {K : Act → World → Prop} {Q : Exit → Act → World → Prop} {o : Oper} {a : Act} {next : Act → World → Prop} : ∀ {r : Result Next}, o.upon P a next (Qn K) r → o.upon P a next Q r
  | .ok (.value _) _, h => h
  | .ok .skip _, h => h
  | .ok (.defer _) _, h => h
  | .ok (.enter _ _) _, h => Calls.mono h (fun e w'' he => by cases e <;> first | exact he | exact he.elim | exact (let ⟨_, _, h⟩ := he; h.elim))
  | .ok (.row _ _) _, h => h
  | .halt x _, h => by cases x <;> first | exact h | exact h.elim
theorem wpOp_more {K0 K : Act → World → Prop} {Q : Exit → Act → World → Prop} (hb : backB md head = true) {i : Nat} {a : Act} {w : World} (hi : i < head.length) (h : wpOp P head.toArray (Qn K0) i K a w) : wpOp P (head ++ tail).toArray Q i K a w := by
  unfold wpOp at h ⊢
  rw [ops_lt hi]
  have hg : head.toArray[i]? = some head[i] := by simp
  rw [hg] at h ⊢
  have hw : Region.wanted head[i] (yielded (head ++ tail).toArray a.tmps) = Region.wanted head[i] (yielded head.toArray a.tmps) := by
    unfold Region.wanted
    cases hq : head[i].guard with
    | none => rfl
    | some jb =>
      obtain ⟨j, b⟩ := jb
      have := (backB_spec hb (List.getElem?_eq_getElem hi)).2 j b hq
      simp only [yielded, ops_lt (show j < head.length by omega)]
  simp only [hw]
  split
  · rename_i h1
    simp only [h1, if_true] at h
    exact h.imp upon_Qn (fun ⟨_, _, _, h⟩ => h.elim)
  · rename_i h1
    simp only [h1] at h
    exact h

end
section
variable {P : Program} {n : Nat} {C S : World → Prop} {s : List (Nat × Value)} {Q : Exit → Act → World → Prop} {K : Act → World → Prop} {ops : Array Oper} {fuel : Nat} {listed : Array Bool}
theorem h_take [Dfs] (i : Nat) {op : Op} {d ty : Nat} {pos : String} {af : Array Edge} {v : Value} (hi : ops[i]? = some ⟨some d, op, ty, pos, af, none⟩)
    (hs : Region.noSelect ops = true) (hf : Region.free .any ops listed i = true) (hr : (Region.ready .any ops listed).contains i = true)
    (hy : Y P n S s op ty v) (hd : Nat.blt d n = true) (hS : ∀ w, C w → S w)
    (h : AT n C ((d, v) :: s) (wpAnyH P .any ops (Qn K) S fuel (listed.setIfInBounds i true))) : AT n C s (wpAnyH P .any ops (Qn K) S (fuel + 1) listed) := fun a w f c =>
  wpAnyH_take hi hs hf hr (fun _ _ _ h => h.elim) (.inl ⟨by simp [Region.wanted], fun w' hw' => hy a w' f hw' _ _ _ _⟩) (hS w c) (h _ w (f.put (by simpa [Nat.blt_eq] using hd) v) c)
theorem h_only [Dfs] (i : Nat) {o : Oper} (hi : ops[i]? = some o) (hr : Region.ready .any ops listed = [i])
    (h : AT n C s (wpList P ops (Qk (fun a' w' => S w' ∧ wpAnyH P .any ops (Qn K) S fuel (listed.setIfInBounds i true) a' w') (Qn K)) [o])) : AT n C s (wpAnyH P .any ops (Qn K) S (fuel + 1) listed) := fun a w f c =>
  wpAnyH_all hr (by simp) (fun j hj => by
    have : j = i := by simpa using hj
    subst this
    exact wpOp_list hi (h a w f c))
theorem h_keep [Dfs] (hS : ∀ w, C w → S w) (h : AT n C s K) : AT n C s (fun a w => S w ∧ K a w) := fun a w f c => ⟨hS w c, h a w f c⟩
theorem h_end [Dfs] (hr : Region.ready .any ops listed = []) (h : AT n C s K) : AT n C s (wpAnyH P .any ops (Qn K) S fuel listed) := fun a w f c => wpAnyH_done hr (h a w f c) _
end
end Go.Lg
namespace Go.Lg
open Go.RowKit
section
variable {P : Program} {n : Nat} {C : World → Prop} {s : List (Nat × Value)} {x y lo' hi' : Operand} {t t' ty : Nat}
theorem y_slc [Dfs] (T : Tabs P) {e b m cap lo hi g o : Nat} {z : List Value} {p q : Int} (ht : lk T.sl t = some (e, 1, b, z)) (hx : ev s x = some (.slice (some ⟨g, o, none⟩) m cap))
    (hl : ev s lo' = some (.int .i64 p)) (hh : ev s hi' = some (.int .i64 q)) (hp : p = (lo : Int)) (hq : q = (hi : Int)) (h1 : lo ≤ hi) (h2 : hi ≤ cap) (h3 : lo < cap) :
    Y P n C s (.slice t x (some lo') (some hi') none) ty (.slice (some ⟨g, o + lo, none⟩) (hi - lo) (cap - lo)) := fun a w f c d pos af gg => by
  obtain ⟨g1, _, _, i0, zv, g2, g3, _⟩ := T.sl_ok _ _ _ _ _ ht
  subst hp; subst hq
  have hne : ¬ cap = lo := by omega
  simp [execOp, f.ev hx, f.ev hl, f.ev hh, Instr.sliceAt, Instr.slice, Instr.sliceBounds, Instr.sliceBound, asIntOf, run_underlying g1, sizeOf, typeInfo, g2, g3, h1, h2, hne, Addr.add_lit]
end
end Go.Lg
namespace Go.Lg
open Go.RowKit
section
variable {P : Program} {n : Nat} {C : World → Prop} {s : List (Nat × Value)} {x y : Operand} {t t' ty : Nat}
theorem y_eqsnil [Dfs] (T : Tabs P) {q : Nat × Nat × Nat × List Value} {a : Option Addr} {m c m' c' : Nat} (ht : lk T.sl t = some q) (hx : ev s x = some (.slice a m c)) (hy : ev s y = some (.slice none m' c')) : Y P n C s (.binOp .eql t x y t') ty (.bool (decide (a = none))) := fun aa w f cc d pos af g => by
  obtain ⟨e, k, b, z⟩ := q
  obtain ⟨g1, _⟩ := T.sl_ok _ _ _ _ _ ht
  have h := Lib.run_eql_slice_nil (P := P) w t e a m c m' c' g1
  have h2 : a.isNone = decide (a = none) := by cases a <;> rfl
  rw [h2] at h
  simp [execOp, f.ev hx, f.ev hy, eqGuard, h]
theorem rd_src {w : World} {e : Nat} {ys : List Int} {ad : Option Addr} {c : Nat} (h : Rd w (ints e ys) (.slice ad ys.length c)) : ys = [] ∨ ∃ a, ad = some a ∧ ∀ j u, (ic ys)[j]? = some u → w.cell? (a.add j) = some u := by
  obtain ⟨a, cap, h1, hs, _, _, hg⟩ := h.ints
  cases h1
  rcases Nat.eq_zero_or_pos ys.length with h0 | h0
  · exact .inl (List.length_eq_zero_iff.1 h0)
  · refine .inr ⟨_, hs.get h0, fun j u hu => ?_⟩
    have hj : j < ys.length := by
      have := (List.getElem?_eq_some_iff.1 hu).1
      simpa [ic] using this
    have := hg j hj
    have hu' : u = .int .i64 (ys.getD j 0) := by
      have h3 : (ic ys)[j]? = some (.int .i64 (ys.getD j 0)) := by simp [ic, List.getD, hj]
      rw [h3] at hu; exact (Option.some.inj hu).symm
    rw [hu', Addr.add_lit]
    exact this
theorem y_bld3 [Dfs] {x0 x1 x2 : Operand} {v v0 v1 v2 : Value} (hb : ∀ w, (Instr.build t #[(0, v0), (1, v1), (2, v2)]).run P w = .ok v w) (h0 : ev s x0 = some v0) (h1 : ev s x1 = some v1) (h2 : ev s x2 = some v2) : Y P n C s (.build t #[(0, x0), (1, x1), (2, x2)]) ty v := fun a w f c d pos af g => by
  simp [execOp, f.ev h0, f.ev h1, f.ev h2, hb]
end
end Go.Lg
namespace Go.Lg
open Go.RowKit
def zk : List Nat → List Value → List (Nat × Value)
  | k :: ks, v :: vs => (k, v) :: zk ks vs
  | _, _ => []
def lks (s : List (Nat × Value)) : List Nat → Option (List Value)
  | [] => some []
  | k :: ks => match lk s k, lks s ks with
    | some v, some vs => some (v :: vs)
    | _, _ => none
theorem zk_sub {s : List (Nat × Value)} : ∀ {ks : List Nat} {vs : List Value}, lks s ks = some vs → Sub (zk ks vs) s
  | [], vs, h => by simp only [lks, Option.some.injEq] at h; subst h; exact Sub.nil
  | k :: ks, vs, h => by
    simp only [lks] at h
    split at h
    · rename_i v vs' h1 h2
      simp only [Option.some.injEq] at h; subst h
      exact Sub.cons h1 (zk_sub h2)
    · cases h
theorem lk_app {a b : List (Nat × Value)} {j : Nat} : lk (a ++ b) j = match lk a j with
    | some x => some x
    | none => lk b j := by
  induction a with
  | nil => rfl
  | cons p a ih =>
    obtain ⟨k, v⟩ := p
    simp only [List.cons_append, lk]
    cases Nat.beq k j
    · exact ih
    · rfl
theorem Sub.app {a b s : List (Nat × Value)} (h : Sub a s) (h' : Sub b s) : Sub (a ++ b) s := fun j u e => by
  rw [lk_app] at e
  cases ha : lk a j with
  | some x => rw [ha] at e; simp only [Option.some.injEq] at e; subst e; exact h j x ha
  | none => rw [ha] at e; exact h' j u e
section
variable {P : Program} {n : Nat} {C : World → Prop} {s : List (Nat × Value)} {Q : Exit → Act → World → Prop}
theorem c_loopk [Dfs] {α : Type} (ks : List Nat) (ch : α → List (Nat × Value)) (D : α → World → Prop) (m : α → Nat) {c : Code} (x0 : α) {vs : List Value} (hk : lks s ks = some vs) (h0 : Sub (ch x0) s) (hC : ∀ w, C w → D x0 w)
    (round : ∀ x, AT n (D x) (ch x ++ zk ks vs) (c.wp P (Exit.then (Again n (fun x => ch x ++ zk ks vs) D m x) Q))) : AT n C s ((Code.loop c).wp P Q) :=
  c_loop (fun x => ch x ++ zk ks vs) D m x0 (h0.app (zk_sub hk)) hC round
theorem c_loopH [Dfs] {α : Type} {M : List Nat} {w0 : World} {H : List HE} (ks : List Nat) (ch : α → List (Nat × Value)) (pu : α → Prop) (pc : α → List HE) (m : α → Nat) {c : Code} (x0 : α) {vs : List Value} (hk : lks s ks = some vs) (h0 : Sub (ch x0) s) (hp : pu x0) (hC : ∀ w, Hp M w0 H w → Hp M w0 (pc x0) w)
    (round : ∀ x, pu x → AT n (Hp M w0 (pc x)) (ch x ++ zk ks vs) (c.wp P (Exit.then (Again n (fun x => ch x ++ zk ks vs) (fun x w => pu x ∧ Hp M w0 (pc x) w) m x) Q))) : AT n (Hp M w0 H) s ((Code.loop c).wp P Q) :=
  c_loopk ks ch (fun x w => pu x ∧ Hp M w0 (pc x) w) m x0 hk h0 (fun w c => ⟨hp, hC w c⟩) (fun x => AT.pr (round x))
theorem x_nx [Dfs] {α : Type} {M : List Nat} {w0 : World} {S : α → List (Nat × Value)} {pu : α → Prop} {pc : α → List HE} {m : α → Nat} {x : α} (y : α) (hs : Sub (S y) s) (hp : pu y) (hC : ∀ w, C w → Hp M w0 (pc y) w) (hm : m y < m x) :
    AT n C s (Again n S (fun x w => pu x ∧ Hp M w0 (pc x) w) m x) := fun _ w f c => ⟨y, f.sub hs, ⟨hp, hC w c⟩, hm⟩
end
end Go.Lg
namespace Go.Lg
open Go.RowKit
section
variable {P : Program} {n : Nat} {C : World → Prop} {s : List (Nat × Value)} {Q : Exit → Act → World → Prop} {ops : Array Oper} {rest : List Oper}
variable {d ty t t' : Nat} {pos : String} {af : Array Edge} {v : Value} {x y : Operand} {M : List Nat} {w0 w : World} {H : List HE} {p q : Int}

theorem y_muln [Dfs] {a b : Nat} (hx : ev s x = some (.int .i64 p)) (hy : ev s y = some (.int .i64 q)) (hp : p = (a : Int)) (hq : q = (b : Int)) (hr : a * b ≤ 9223372036854775807) : Y P n C s (.binOp .mul t x y t') ty (.int .i64 ((a * b : Nat) : Int)) := by
  subst hp; subst hq
  have e : (a : Int) * (b : Int) = ((a * b : Nat) : Int) := by simp
  have := y_mul (P := P) (n := n) (C := C) (t := t) (t' := t') (ty := ty) hx hy (by rw [e]; omega)
  rwa [e] at this
theorem y_addn [Dfs] {a b : Nat} (hx : ev s x = some (.int .i64 p)) (hy : ev s y = some (.int .i64 q)) (hp : p = (a : Int)) (hq : q = (b : Int)) (hr : a + b ≤ 9223372036854775807) : Y P n C s (.binOp .add t x y t') ty (.int .i64 ((a + b : Nat) : Int)) := by
  subst hp; subst hq
  have e : (a : Int) + (b : Int) = ((a + b : Nat) : Int) := by simp
  have := y_add (P := P) (n := n) (C := C) (t := t) (t' := t') (ty := ty) hx hy om
  rwa [e] at this
theorem y_ixs [Dfs] (T : Tabs P) {e b m cap g o j : Nat} {z : List Value} {i : Int} (ht : lk T.sl t = some (e, 1, b, z)) (hx : ev s x = some (.slice (some ⟨g, o, none⟩) m cap)) (hy : ev s y = some (.int .i64 i)) (hi : i = (j : Int)) (h1 : j < m) :
    Y P n C s (.indexAddr t x y) ty (.pointer (some ⟨g, o + j, none⟩)) := by
  have h := y_ix (P := P) (n := n) (C := C) (s := s) (ty := ty) T ht hx hy om om
  subst hi
  simpa using h

theorem y_bld0 [Dfs] (hb : ∀ w, (Instr.build t #[]).run P w = .ok v w) : Y P n C s (.build t #[]) ty v := fun a w f c d pos af g => by
  simp [execOp, hb]
structure Lent (M : List Nat) (w0 : World) (h0 : HE) (H : List HE) (M' : List Nat) (w : World) : Prop where
  sat : h0.sat w M'
  nodup : M'.Nodup
  others : ∃ f2, satL w H f2 ∧ (M' ++ f2).Nodup ∧ (∀ b ∈ M' ++ f2, b ∈ M ∨ w0.heap.size ≤ b) ∧ Kept M w0 w
theorem Lent.satL {h0 : HE} {M' : List Nat} (h : Lent M w0 h0 H M' w) : satL w [h0] M' := ⟨M', [], by simp, h.sat, rfl⟩
def RdOut (w : World) (M : List Nat) (t : T) (v : Value) : Prop := ∀ w' : World, (∀ b, b < w.heap.size → b ∉ M → w'.heap[b]? = w.heap[b]?) → Rd w' t v
theorem RdOut.of_rd {t : T} (h : Rd w t v) : RdOut w [] t v := fun _ hb => h.mono (fun b hb' => hb b hb' (by simp))
theorem RdOut.rd {t : T} (h : RdOut w0 M t v) (c : Hp M w0 H w) : Rd w t v := h w c.kept.block
theorem Lent.out {h0 : HE} {M' : List Nat} {t : T} (h : Lent M w0 h0 H M' w) (hr : RdOut w0 M t v) : RdOut w M' t v := fun w' hb => by
  obtain ⟨f2, s2, nd, ge, kp⟩ := h.others
  refine hr w' (fun b hb1 hb2 => ?_)
  rw [hb b (Nat.lt_of_lt_of_le hb1 kp.size) (fun hm => ?_)]
  · exact kp.block b hb1 hb2
  · rcases ge b (by simp [hm]) with h | h
    · exact hb2 h
    · omega
theorem Lent.old {h0 : HE} {M' : List Nat} {t : T} (h : Lent [] w0 h0 H M' w) (hr : Rd w0 t v) : RdOut w M' t v := h.out (RdOut.of_rd hr)
theorem Lent.own {h0 : HE} {M' : List Nat} {t : T} (j : Nat) (h : Lent M w0 h0 H M' w) (hj : H[j]? = some (.own t v)) : RdOut w M' t v := fun w' hb => by
  obtain ⟨f2, s2, nd, ge, kp⟩ := h.others
  obtain ⟨f, a, hin, hnd, _⟩ := s2.pick hj
  refine Own.rd (Own.loc a (fun b hm => hb b (s2.lt b (hin b hm)) (fun hm' => ?_)))
  exact (List.nodup_append.1 nd).2.2 b hm' b (hin b hm) rfl
theorem m_callL [Dfs] (i : Nat) {h0 : HE} {f : Nat} {args : Array Operand} {vs : List Value} {φ : Value → List HE → Prop} {at' : Array Nat} (he : Ent P f) (ha : evs s args.toList = some vs) (hd : Nat.blt d n = true) (hi : H[i]? = some h0)
    (hc : ∀ w M', Lent M w0 h0 (H.eraseIdx i) M' w → DoesB P f vs w M' φ) (h : ∀ v H', φ v H' → AT n (Hp M w0 (H' ++ H.eraseIdx i)) ((d, v) :: s) (wpList P ops Q rest)) :
    AT n (Hp M w0 H) s (wpList P ops Q (⟨some d, .call ⟨.value (.func f), args, at'⟩, ty, pos, af, none⟩ :: rest)) := fun a w fr c => by
  refine wpList_one rfl ?_
  unfold Oper.wp
  have hm : args.map a.eval = vs.toArray := by
    rw [← fr.evs ha]
    apply Array.ext'
    simp
  have : (execOp a.eval ⟨some d, .call ⟨.value (.func f), args, at'⟩, ty, pos, af, none⟩).run P w = .ok (.enter f vs.toArray) w := by
    simp [execOp, resolve, Act.eval, Deferred.ofValue, hm, invoke, he vs.toArray w]
  rw [this]
  obtain ⟨fp, ⟨f1, f2, e, s1, s2⟩, nd, ge, kp⟩ := c.front hi
  subst e
  refine (hc w f1 ⟨s1, (List.nodup_append.1 nd).1, f2, s2, nd, ge, kp⟩).mono ?_
  rintro e w' ⟨v, H', rfl, hφ, hp'⟩
  exact h v H' hφ _ _ (fr.put (by simpa [Nat.blt_eq] using hd) v) (Hp.lend (H0 := [h0]) ⟨f2, ⟨f1, [], by simp, s1, rfl⟩, s2, nd, ge, kp⟩ hp')
theorem fnb_lent {f : Nat} {fn : Func} {c : Code} {vs : List Value} {φ : Value → List HE → Prop} {h0 : HE} {w1 : World} {M1 : List Nat} {H1 : List HE} {M' : List Nat} (hf : P.funcs[f]? = some fn) (hb : fn.body = some c) (hn : fn.ntmps = n) (hs : Nat.ble vs.length n = true)
    (hl : Lent M1 w1 h0 H1 M' w)
    (h : AT n (Hp M' w [h0]) (en 0 vs) (c.wp P (bodyPost P fn (fun e w' => ∃ v H, e = .returned v ∧ φ v H ∧ Hp M' w H w')))) : DoesB P f vs w M' φ :=
  fnb_start hf hb hn hs hl.satL hl.nodup h

theorem m_pushi [Dfs] (i : Nat) (T0 : Tabs P) {e g e' : Nat} {z : List Value} {xs : List Int} {k : Int} {c : Nat} (ht : lk T0.sl t = some (e, 1, 8, z)) (hi : H[i]? = some (.own (ints e xs) v)) (hx : ev s x = some v) (hy : ev s y = some (.slice (some ⟨g, 0, none⟩) 1 c)) (hd : Nat.blt d n = true)
    (hb : xs.length ≤ 1099511627775)
    (h : ∀ a cc, AT n (Hp M w0 (.own (ints e (xs ++ [k])) (.slice a (xs.length + 1) cc) :: H.eraseIdx i)) ((d, .slice a (xs.length + 1) cc) :: s) (wpList P ops Q rest)) :
    AT n (Hp M w0 (.blk g #[.int .i64 k] e' :: H)) s (wpList P ops Q (⟨some d, .call ⟨.builtin .append, #[x, y], #[t, t]⟩, ty, pos, af, none⟩ :: rest)) := by
  refine m_app (ts := it xs) (tn := it [k]) (news := ic [k]) (m' := xs.length + 1) (m := 1) (H' := H.eraseIdx i) T0 ht hx hy hd (by simp) (ints_oneCell .i64 [k]) (by simp) (by simp; omega) om
    (fun w c => ?_) (fun w c => .inr ⟨_, rfl, fun j u hu => ?_⟩) ?_
  · have := (c.drop.front hi).free (ic [k])
    rw [← it_eq] at this
    exact this.swap
  · match j, hu with
    | 0, hu =>
      have := hc_blk (M := M) (w0 := w0) 0 (o := 0) (v := .int .i64 k) (H := .blk g #[.int .i64 k] e' :: H) rfl rfl w c
      simp [ic] at hu
      subst hu
      simpa [Addr.add] using this
    | j + 1, hu => simp [ic] at hu
  · intro a cc
    have := h a cc
    unfold ints at this
    rwa [it_append] at this
end
end Go.Lg
namespace Go.Lg
section
variable {P : Program} {md : Region.Mode} {head tail : List Oper}
def reach (md : Region.Mode) (n : Nat) (ops : Array Oper) : Nat → Nat → Bool
  | 0, i => Region.waitsFor md ops n i
  | f + 1, i => Region.waitsFor md ops n i || (List.range n).any fun j => Region.waitsFor md ops j i && reach md n ops f j
def lastR (md : Region.Mode) (n : Nat) (ops : Array Oper) : Bool := (List.range n).all fun i => reach md n ops 4 i
def Closed (md : Region.Mode) (ops : Array Oper) (l : Array Bool) : Prop := ∀ j o, ops[j]? = some o → l.getD j false = true → ∀ e ∈ o.after, Region.binds md e = true → l.getD e.on false = true
theorem closed_none {md : Region.Mode} {ops : Array Oper} {n : Nat} : Closed md ops (Array.replicate n false) := fun j o _ h => by
  rw [getD_replicate_false] at h; cases h
theorem closed_set {ops : Array Oper} {l : Array Bool} {i : Nat} (h : Closed md ops l) (hr : i ∈ Region.ready md ops l) : Closed md ops (l.setIfInBounds i true) := fun j o ho hj e he hb => by
  obtain ⟨h1, o', ho', h2⟩ := mem_ready.1 hr
  have keep : ∀ q, l.getD q false = true → (l.setIfInBounds i true).getD q false = true := fun q hq => by
    simp only [Array.getD_eq_getD_getElem?, Array.getElem?_setIfInBounds] at hq ⊢
    split
    · split
      · rfl
      · rename_i h3 h4; subst h3; rw [Array.getElem?_eq_none om] at hq; exact hq
    · exact hq
  by_cases hij : i = j
  · subst hij
    have : o' = o := Option.some.inj (ho'.symm.trans ho)
    subst this
    exact keep _ (h2 e he hb)
  · refine keep _ (h j o ho ?_ e he hb)
    simp only [Array.getD_eq_getD_getElem?, Array.getElem?_setIfInBounds, if_neg hij] at hj ⊢
    exact hj
theorem tail_idleR (hl : lastR md head.length (head ++ tail).toArray = true) (hc : Region.chainB md (head ++ tail).toArray head.length = true) {l1 : Array Bool} {m i t : Nat} (hs : l1.size = head.length) (hcl : Closed md head.toArray l1) (hi : i < head.length) (hu : l1.getD i false = false) (ht : head.length ≤ t) :
    t ∉ Region.ready md (head ++ tail).toArray (pad l1 m) := fun hr => by
  obtain ⟨_, o, ho, hall⟩ := mem_ready.1 hr
  by_cases h : t = head.length
  · subst h
    have key : ∀ f q, q < head.length → reach md head.length (head ++ tail).toArray f q = true → l1.getD q false = true := by
      have direct : ∀ q, q < head.length → Region.waitsFor md (head ++ tail).toArray head.length q = true → l1.getD q false = true := fun q hq hw => by
        obtain ⟨o', ho', e, he, hbi, hon⟩ := Region.waitsFor_spec hw
        have : o' = o := Option.some.inj (ho'.symm.trans ho)
        subst this
        have := hall e he hbi
        rwa [hon, pad_lt false om] at this
      intro f
      induction f with
      | zero => intro q hq h; exact direct q hq h
      | succ f ih =>
        intro q hq h
        simp only [reach, Bool.or_eq_true] at h
        rcases h with h | h
        · exact direct q hq h
        · obtain ⟨j, hj, h2⟩ := List.any_eq_true.1 h
          simp only [Bool.and_eq_true] at h2
          have hjn := List.mem_range.1 hj
          obtain ⟨o', ho', e, he, hbi, hon⟩ := Region.waitsFor_spec h2.1
          rw [ops_lt hjn] at ho'
          have := hcl j o' ho' (ih j hjn h2.2) e he hbi
          rwa [hon] at this
    have := key 4 i hi (List.all_eq_true.1 hl i (List.mem_range.2 hi))
    rw [hu] at this
    cases this
  · have htl : t < (head ++ tail).toArray.size := (Array.getElem?_eq_some_iff.1 ho).1
    have h1 := List.all_eq_true.1 hc t (List.mem_range.2 htl)
    simp only [Bool.or_eq_true, decide_eq_true_eq] at h1
    rcases h1 with h1 | h1
    · omega
    · obtain ⟨o', ho', e, he, hbi, hon⟩ := Region.waitsFor_spec h1
      have : o' = o := Option.some.inj (ho'.symm.trans ho)
      subst this
      have := hall e he hbi
      rw [hon, pad_ge om] at this
      cases this
theorem any_tailR {C : World → Prop} {K : Act → Prop} {Q' : Exit → Act → World → Prop} {m : Nat} (hb : backB md head = true) (hl : lastR md head.length (head ++ tail).toArray = true) (hc : Region.chainB md (head ++ tail).toArray head.length = true)
    (hK : ∀ g a w, C w → K a → wpAny P md (head ++ tail).toArray Q' (g + m) (pad (Array.replicate head.length true) m) a w) :
    ∀ (f : Nat) (l1 : Array Bool) (a : Act) (w : World), l1.size = head.length → Closed md head.toArray l1 → C w → wpAnyQ P md head.toArray C K f l1 a → wpAny P md (head ++ tail).toArray Q' (f + m) (pad l1 m) a w
  | f, l1, a, w, hs, hcl, hw, h => by
    rcases least_ready (md := md) hb hs with hall | ⟨i, hi, hu, hr⟩
    · have hr : Region.ready md head.toArray l1 = [] := by
        cases hq : Region.ready md head.toArray l1 with
        | nil => rfl
        | cons j r =>
          have hj : j ∈ Region.ready md head.toArray l1 := by rw [hq]; simp
          obtain ⟨h1, o, ho, _⟩ := mem_ready.1 hj
          have hjn : j < head.length := by simpa using (Array.getElem?_eq_some_iff.1 ho).1
          have := hall j hjn
          rw [getD_both h1] at this
          cases this
      have hKa : K a := by
        cases f with
        | zero => exact h.2
        | succ f => exact h.1 hr
      rw [all_pad hs hall]
      exact hK f a w hw hKa
    · cases f with
      | zero => have := h.1; rw [this] at hr; cases hr
      | succ f =>
        rw [show f + 1 + m = (f + m) + 1 by omega]
        refine ⟨fun h0 => ?_, fun j hj => ?_⟩
        · have := (ready_head (tail := tail) (m := m) hb hs hi).2 hr
          rw [h0] at this; cases this
        · have hjn : j < head.length := by
            rcases Nat.lt_or_ge j head.length with h1 | h1
            · exact h1
            · exact absurd hj (tail_idleR hl hc hs hcl hi hu h1)
          have hj' := (ready_head hb hs hjn).1 hj
          have h2 := qOp_more (tail := tail) hb hjn (h.2 j hj')
          rw [pad_set om]
          exact wpOp_of_qOp hw (fun a' w' hw' h3 => any_tailR hb hl hc hK f _ a' w' (by simpa using hs) (closed_set hcl hj') hw' h3) h2
theorem region_tailR {C : World → Prop} {id : Nat} {Q : Exit → Act → World → Prop} {a : Act} {w : World} (hm : P.follows .mixedOrders = true) (hB : Region.lexB .any head.toArray = true) (hb : backB .any head = true) (hl : lastR .any head.length (head ++ tail).toArray = true)
    (hc : Region.chainB .any (head ++ tail).toArray head.length = true) (hs : Region.seqB .any (head ++ tail).toArray tail.length head.length (pad (Array.replicate head.length true) tail.length) = true) (hC : C { w with drawn := w.drawn + 1 })
    (h : wpQuiet P head.toArray C (fun a' => ∀ w', C w' → wpList P (head ++ tail).toArray Q tail a' w') head a) : (Code.region id (head ++ tail).toArray true).wp P Q a w := by
  simp only [Region.lexB, Bool.and_eq_true] at hB
  refine wp_region_any hm ?_
  have h1 := wpAnyQ_lex (C := C) (md := .any) hB.1 head 0 (Array.replicate head.length false) a (by simp) (by simpa using hB.2) h
  have h2 := any_tailR (md := .any) (Q' := Q) (m := tail.length) hb hl hc (fun g a' w' hw' hk => any_seq g tail head.length _ a' w' (fun j => by simp [List.getElem?_append_right]) hs (hk w' hw')) head.length _ a _ (by simp) closed_none hC h1
  have e1 : pad (Array.replicate head.length false) tail.length = Array.replicate (head ++ tail).toArray.size false := by
    apply Array.ext'
    simp [pad]
  rw [e1] at h2
  simpa using h2
theorem any_tail2R {K : Act → World → Prop} {Q' : Exit → Act → World → Prop} {m : Nat} (hb : backB md head = true) (hl : lastR md head.length (head ++ tail).toArray = true) (hc : Region.chainB md (head ++ tail).toArray head.length = true)
    (hK : ∀ g a w, K a w → wpAny P md (head ++ tail).toArray Q' (g + m) (pad (Array.replicate head.length true) m) a w) :
    ∀ (f : Nat) (l1 : Array Bool) (a : Act) (w : World), l1.size = head.length → Closed md head.toArray l1 → wpAny P md head.toArray (Qn K) f l1 a w → wpAny P md (head ++ tail).toArray Q' (f + m) (pad l1 m) a w
  | f, l1, a, w, hs, hcl, h => by
    rcases least_ready (md := md) hb hs with hall | ⟨i, hi, hu, hr⟩
    · have hr : Region.ready md head.toArray l1 = [] := by
        cases hq : Region.ready md head.toArray l1 with
        | nil => rfl
        | cons j r =>
          have hj : j ∈ Region.ready md head.toArray l1 := by rw [hq]; simp
          obtain ⟨h1, o, ho, _⟩ := mem_ready.1 hj
          have hjn : j < head.length := by simpa using (Array.getElem?_eq_some_iff.1 ho).1
          have := hall j hjn
          rw [getD_both h1] at this
          cases this
      have hKa : K a w := by
        cases f with
        | zero => exact h.2
        | succ f => exact h.1 hr
      rw [all_pad hs hall]
      exact hK f a w hKa
    · cases f with
      | zero => have := h.1; rw [this] at hr; cases hr
      | succ f =>
        rw [show f + 1 + m = (f + m) + 1 by omega]
        refine ⟨fun h0 => ?_, fun j hj => ?_⟩
        · have := (ready_head (tail := tail) (m := m) hb hs hi).2 hr
          rw [h0] at this; cases this
        · have hjn : j < head.length := by
            rcases Nat.lt_or_ge j head.length with h1 | h1
            · exact h1
            · exact absurd hj (tail_idleR hl hc hs hcl hi hu h1)
          have hj' := (ready_head hb hs hjn).1 hj
          have h2 := wpOp_more (tail := tail) (Q := Q') hb hjn (h.2 j hj')
          rw [pad_set om]
          exact wpOp_mono (fun a' w' h3 => any_tail2R hb hl hc hK f _ a' w' (by simpa using hs) (closed_set hcl hj') h3) h2
end
section
variable {P : Program} {n : Nat} {C : World → Prop} {s : List (Nat × Value)} {Q : Exit → Act → World → Prop}
theorem c_tailR [Dfs] (k : Nat) {id : Nat} {l : List Oper} (hm : P.follows .mixedOrders = true) (hB : Region.lexB .any (l.take k).toArray = true) (hb : backB .any (l.take k) = true) (hl : lastR .any (l.take k).length (l.take k ++ l.drop k).toArray = true)
    (hc : Region.chainB .any (l.take k ++ l.drop k).toArray (l.take k).length = true) (hs : Region.seqB .any (l.take k ++ l.drop k).toArray (l.drop k).length (l.take k).length (pad (Array.replicate (l.take k).length true) (l.drop k).length) = true)
    (hC : ∀ w, C w → C { w with drawn := w.drawn + 1 })
    (h : QT P (l.take k).toArray n C (fun a' => ∀ w', C w' → Qk (wpList P l.toArray Q (l.drop k)) Q .normal a' w') s (l.take k)) : AT n C s ((Code.region id l.toArray true).wp P Q) := fun a w f c => by
  have e : l.take k ++ l.drop k = l := List.take_append_drop k l
  have := region_tailR (id := id) (Q := Q) (a := a) (w := w) (head := l.take k) (tail := l.drop k) hm hB hb hl hc hs (hC w c) (by
    rw [e]
    exact h a f)
  rwa [e] at this
theorem c_mixR [Dfs] (S : World → Prop) (k : Nat) {id : Nat} {l : List Oper} (hm : P.follows .mixedOrders = true) (hb : backB .any (l.take k) = true) (hl : lastR .any (l.take k).length (l.take k ++ l.drop k).toArray = true)
    (hc : Region.chainB .any (l.take k ++ l.drop k).toArray (l.take k).length = true) (hs : Region.seqB .any (l.take k ++ l.drop k).toArray (l.drop k).length (l.take k).length (pad (Array.replicate (l.take k).length true) (l.drop k).length) = true)
    (hC : ∀ w, C w → C { w with drawn := w.drawn + 1 })
    (h : AT n C s (wpAnyH P .any (l.take k).toArray (Qn (wpList P l.toArray Q (l.drop k))) S (l.take k).length (Array.replicate (l.take k).length false))) : AT n C s ((Code.region id l.toArray true).wp P Q) := fun a w f c => by
  have e : l.take k ++ l.drop k = l := List.take_append_drop k l
  refine wp_region_any hm ?_
  have h1 := wpAny_of_held _ _ _ _ (h a _ f (hC w c))
  have h2 := any_tail2R (md := .any) (Q' := Q) (tail := l.drop k) (m := (l.drop k).length) hb hl hc (fun g a' w' hk => any_seq g (l.drop k) (l.take k).length _ a' w' (fun j => by simp only [List.getElem?_toArray]; rw [List.getElem?_append_right om]; congr 1; omega) hs (by rw [e]; exact hk)) (l.take k).length _ a _ (by simp) closed_none h1
  have e1 : pad (Array.replicate (l.take k).length false) (l.drop k).length = Array.replicate l.toArray.size false := by
    apply Array.ext'
    simp only [pad, Array.toList_append, Array.toList_replicate, List.replicate_append_replicate, ← List.length_append, e]
    rfl
  rw [e1, e, ← List.length_append, e] at h2
  exact h2
end
end Go.Lg
namespace Go.Lg
section
variable {P : Program} {md : Region.Mode} {head tail : List Oper} {ops : Array Oper}
theorem wpOp_qn {K0 K : Act → World → Prop} {Q : Exit → Act → World → Prop} {i : Nat} {a : Act} {w : World} (h : wpOp P ops (Qn K0) i K a w) : wpOp P ops Q i K a w := by
  unfold wpOp at h ⊢
  split
  · rename_i ho
    simpa [ho] using h
  · rename_i o ho
    simp only [ho] at h
    split
    · rename_i h1
      simp only [h1, if_true] at h
      exact h.imp upon_Qn (fun ⟨_, _, _, h⟩ => h.elim)
    · rename_i h1
      simp only [h1] at h
      exact h
theorem wpAny_qn {K : Act → World → Prop} {Q : Exit → Act → World → Prop} (hQ : ∀ a w, K a w → Q .normal a w) : ∀ (fuel : Nat) (listed : Array Bool) (a : Act) (w : World), wpAny P md ops (Qn K) fuel listed a w → wpAny P md ops Q fuel listed a w
  | 0, _, a, w, h => ⟨h.1, hQ a w h.2⟩
  | fuel + 1, _, a, w, h => ⟨fun h0 => hQ a w (h.1 h0), fun i hi => wpOp_qn (wpOp_mono (fun a' w' h' => wpAny_qn hQ fuel _ a' w' h') (h.2 i hi))⟩
def closedB (md : Region.Mode) (head : List Oper) (l : Array Bool) : Bool := (List.range head.length).all fun j => match head[j]? with
  | some o => !(l.getD j false) || o.after.all (fun e => !(Region.binds md e) || l.getD e.on false)
  | none => true
theorem closedB_spec {l : Array Bool} (h : closedB md head l = true) : Closed md head.toArray l := fun j o ho hj e he hb => by
  have ho' : head[j]? = some o := by simpa using ho
  have h1 := List.all_eq_true.1 h j (List.mem_range.2 (List.getElem?_eq_some_iff.1 ho').1)
  simp only [ho', hj, Bool.not_true, Bool.false_or] at h1
  have := Array.all_eq_true_iff_forall_mem.1 h1 e he
  simpa [hb] using this
def lastL (md : Region.Mode) (n : Nat) (ops : Array Oper) (l : Array Bool) : Bool := (List.range n).all fun i => l.getD i false || reach md n ops 4 i
theorem getD_set_of {l : Array Bool} {i j : Nat} (h : (l.setIfInBounds j true).getD i false = false) : l.getD i false = false := by
  simp only [Array.getD_eq_getD_getElem?, Array.getElem?_setIfInBounds] at h ⊢
  split at h
  · split at h
    · simp at h
    · rename_i h3 h4; rw [Array.getElem?_eq_none om]; rfl
  · exact h
theorem tail_idleL (hc : Region.chainB md (head ++ tail).toArray head.length = true) {l1 : Array Bool} {m i t : Nat} (hl : ∀ i, i < head.length → l1.getD i false = false → reach md head.length (head ++ tail).toArray 4 i = true) (hs : l1.size = head.length) (hcl : Closed md head.toArray l1) (hi : i < head.length) (hu : l1.getD i false = false) (ht : head.length ≤ t) :
    t ∉ Region.ready md (head ++ tail).toArray (pad l1 m) := fun hr => by
  obtain ⟨_, o, ho, hall⟩ := mem_ready.1 hr
  by_cases h : t = head.length
  · subst h
    have key : ∀ f q, q < head.length → reach md head.length (head ++ tail).toArray f q = true → l1.getD q false = true := by
      have direct : ∀ q, q < head.length → Region.waitsFor md (head ++ tail).toArray head.length q = true → l1.getD q false = true := fun q hq hw => by
        obtain ⟨o', ho', e, he, hbi, hon⟩ := Region.waitsFor_spec hw
        have : o' = o := Option.some.inj (ho'.symm.trans ho)
        subst this
        have := hall e he hbi
        rwa [hon, pad_lt false om] at this
      intro f
      induction f with
      | zero => intro q hq h; exact direct q hq h
      | succ f ih =>
        intro q hq h
        simp only [reach, Bool.or_eq_true] at h
        rcases h with h | h
        · exact direct q hq h
        · obtain ⟨j, hj, h2⟩ := List.any_eq_true.1 h
          simp only [Bool.and_eq_true] at h2
          have hjn := List.mem_range.1 hj
          obtain ⟨o', ho', e, he, hbi, hon⟩ := Region.waitsFor_spec h2.1
          rw [ops_lt hjn] at ho'
          have := hcl j o' ho' (ih j hjn h2.2) e he hbi
          rwa [hon] at this
    have := key 4 i hi (hl i hi hu)
    rw [hu] at this
    cases this
  · have htl : t < (head ++ tail).toArray.size := (Array.getElem?_eq_some_iff.1 ho).1
    have h1 := List.all_eq_true.1 hc t (List.mem_range.2 htl)
    simp only [Bool.or_eq_true, decide_eq_true_eq] at h1
    rcases h1 with h1 | h1
    · omega
    · obtain ⟨o', ho', e, he, hbi, hon⟩ := Region.waitsFor_spec h1
      have : o' = o := Option.some.inj (ho'.symm.trans ho)
      subst this
      have := hall e he hbi
      rw [hon, pad_ge om] at this
      cases this
theorem any_tailL {C : World → Prop} {K : Act → Prop} {Q' : Exit → Act → World → Prop} {m : Nat} (hb : backB md head = true) (hc : Region.chainB md (head ++ tail).toArray head.length = true)
    (hK : ∀ g a w, C w → K a → wpAny P md (head ++ tail).toArray Q' (g + m) (pad (Array.replicate head.length true) m) a w) :
    ∀ (f : Nat) (l1 : Array Bool) (a : Act) (w : World), (∀ i, i < head.length → l1.getD i false = false → reach md head.length (head ++ tail).toArray 4 i = true) → l1.size = head.length → Closed md head.toArray l1 → C w → wpAnyQ P md head.toArray C K f l1 a → wpAny P md (head ++ tail).toArray Q' (f + m) (pad l1 m) a w
  | f, l1, a, w, hl, hs, hcl, hw, h => by
    rcases least_ready (md := md) hb hs with hall | ⟨i, hi, hu, hr⟩
    · have hr : Region.ready md head.toArray l1 = [] := by
        cases hq : Region.ready md head.toArray l1 with
        | nil => rfl
        | cons j r =>
          have hj : j ∈ Region.ready md head.toArray l1 := by rw [hq]; simp
          obtain ⟨h1, o, ho, _⟩ := mem_ready.1 hj
          have hjn : j < head.length := by simpa using (Array.getElem?_eq_some_iff.1 ho).1
          have := hall j hjn
          rw [getD_both h1] at this
          cases this
      have hKa : K a := by
        cases f with
        | zero => exact h.2
        | succ f => exact h.1 hr
      rw [all_pad hs hall]
      exact hK f a w hw hKa
    · cases f with
      | zero => have := h.1; rw [this] at hr; cases hr
      | succ f =>
        rw [show f + 1 + m = (f + m) + 1 by omega]
        refine ⟨fun h0 => ?_, fun j hj => ?_⟩
        · have := (ready_head (tail := tail) (m := m) hb hs hi).2 hr
          rw [h0] at this; cases this
        · have hjn : j < head.length := by
            rcases Nat.lt_or_ge j head.length with h1 | h1
            · exact h1
            · exact absurd hj (tail_idleL hc hl hs hcl hi hu h1)
          have hj' := (ready_head hb hs hjn).1 hj
          have h2 := qOp_more (tail := tail) hb hjn (h.2 j hj')
          rw [pad_set om]
          exact wpOp_of_qOp hw (fun a' w' hw' h3 => any_tailL hb hc hK f _ a' w' (fun i hi hu => hl i hi (getD_set_of hu)) (by simpa using hs) (closed_set hcl hj') hw' h3) h2
end
section
variable {P : Program} {n : Nat} {C : World → Prop} {s : List (Nat × Value)} {Q : Exit → Act → World → Prop} {ops : Array Oper} {fuel : Nat} {listed : Array Bool}
variable {M : List Nat} {w0 : World} {H : List HE}
theorem c_idx [Dfs] {id : Nat} {l : List Oper} (hm : P.follows .mixedOrders = true) (hC : ∀ w, C w → C { w with drawn := w.drawn + 1 })
    (h : AT n C s (wpAny P .any l.toArray (Qn (Q .normal)) l.length (Array.replicate l.length false))) : AT n C s ((Code.region id l.toArray true).wp P Q) := fun a w f c => by
  refine wp_region_any hm ?_
  have := wpAny_qn (Q := Q) (fun a w h => h) _ _ _ _ (h a _ f (hC w c))
  simpa using this
theorem p_take [Dfs] {K : Act → World → Prop} (i : Nat) {op : Op} {d ty : Nat} {pos : String} {af : Array Edge} {v : Value} (hi : ops[i]? = some ⟨some d, op, ty, pos, af, none⟩)
    (hs : Region.noSelect ops = true) (hf : Region.free .any ops listed i = true) (hr : (Region.ready .any ops listed).contains i = true)
    (hy : Y P n (fun _ => True) s op ty v) (hd : Nat.blt d n = true)
    (h : AT n C ((d, v) :: s) (wpAny P .any ops (Qn K) fuel (listed.setIfInBounds i true))) : AT n C s (wpAny P .any ops (Qn K) (fuel + 1) listed) := fun a w f c =>
  wpAny_take hi hs hf hr (fun _ _ _ h => h.elim) (.inl ⟨by simp [Region.wanted], fun w' => hy a w' f trivial _ _ _ _⟩) (h _ w (f.put (by simpa [Nat.blt_eq] using hd) v) c)
def QI [Dfs] (P : Program) (ops : Array Oper) (n : Nat) (C : World → Prop) (K : Act → Prop) (s : List (Nat × Value)) (fuel : Nat) (listed : Array Bool) : Prop := ∀ a, Fr n s a → wpAnyQ P .any ops C K fuel listed a
variable {K : Act → Prop}
theorem i_y [Dfs] (i : Nat) {op : Op} {d ty : Nat} {pos : String} {af : Array Edge} {v : Value} (hi : ops[i]? = some ⟨some d, op, ty, pos, af, none⟩)
    (hs : Region.noSelect ops = true) (hf : Region.free .any ops listed i = true) (hr : (Region.ready .any ops listed).contains i = true)
    (hy : Y P n C s op ty v) (hd : Nat.blt d n = true) (h : QI P ops n C K ((d, v) :: s) fuel (listed.setIfInBounds i true)) : QI P ops n C K s (fuel + 1) listed := fun a f =>
  wpAnyQ_first hi (Region.noSelect_spec hs) fuel listed a (Region.free_spec hi hf) (by simpa using hr)
    (.inl ⟨by simp [Region.wanted], fun w c => by unfold Oper.quietAt; rw [hy a w f c]; exact ⟨rfl, rfl⟩⟩) (h _ (f.put (by simpa [Nat.blt_eq] using hd) v))
theorem i_call [Dfs] (i : Nat) {d ty f : Nat} {pos : String} {af : Array Edge} {v : Value} {args : Array Operand} {vs : List Value} {φ : Value → List HE → Prop} {at' : Array Nat} (hi : ops[i]? = some ⟨some d, .call ⟨.value (.func f), args, at'⟩, ty, pos, af, none⟩)
    (hs : Region.noSelect ops = true) (hf : Region.free .any ops listed i = true) (hr : (Region.ready .any ops listed).contains i = true)
    (he : Ent P f) (ha : evs s args.toList = some vs) (hd : Nat.blt d n = true) (hc : ∀ w, Hp M w0 H w → Does P f vs w φ) (hv : ∀ u H', φ u H' → u = v)
    (h : QI P ops n (Hp M w0 H) K ((d, v) :: s) fuel (listed.setIfInBounds i true)) : QI P ops n (Hp M w0 H) K s (fuel + 1) listed := fun a fr =>
  wpAnyQ_first hi (Region.noSelect_spec hs) fuel listed a (Region.free_spec hi hf) (by simpa using hr)
    (.inl ⟨by simp [Region.wanted], fun w c => by
      have hm : args.map a.eval = vs.toArray := by
        rw [← fr.evs ha]
        apply Array.ext'
        simp
      have : (execOp a.eval ⟨some d, .call ⟨.value (.func f), args, at'⟩, ty, pos, af, none⟩).run P w = .ok (.enter f vs.toArray) w := by
        simp [execOp, resolve, Act.eval, Deferred.ofValue, hm, invoke, he vs.toArray w]
      unfold Oper.quietAt
      rw [this]
      refine ⟨rfl, (hc w c).mono ?_⟩
      rintro e w' ⟨u, H', rfl, hφ, hp⟩
      exact ⟨by rw [hv u H' hφ], c.same hp.below⟩⟩) (h _ (fr.put (by simpa [Nat.blt_eq] using hd) v))
theorem i_tail [Dfs] {Q' : Exit → Act → World → Prop} {L : List Oper} {ops' : Array Oper} (hr : Region.ready .any ops listed = []) (h : AT n C s (wpList P ops' Q' L)) : QI P ops n C (fun a' => ∀ w', C w' → wpList P ops' Q' L a' w') s fuel listed := fun a f => by
  cases fuel with
  | zero => exact ⟨hr, fun w' c => h a w' f c⟩
  | succ fuel => exact ⟨fun _ w' c => h a w' f c, fun j hj => by rw [hr] at hj; cases hj⟩
theorem c_quiet [Dfs] (k g m : Nat) {l1 : Array Bool} {l : List Oper} (hf : fuel = g + m) (hm : (l.drop k).length = m) (hls : listed = pad l1 m) (hsz : Nat.beq l1.size (l.take k).length = true)
    (hb : backB .any (l.take k) = true) (hl : lastL .any (l.take k).length (l.take k ++ l.drop k).toArray l1 = true) (hcb : closedB .any (l.take k) l1 = true)
    (hc : Region.chainB .any (l.take k ++ l.drop k).toArray (l.take k).length = true) (hs : Region.seqB .any (l.take k ++ l.drop k).toArray (l.drop k).length (l.take k).length (pad (Array.replicate (l.take k).length true) (l.drop k).length) = true)
    (h : QI P (l.take k).toArray n C (fun a' => ∀ w', C w' → wpList P l.toArray Q (l.drop k) a' w') s g l1) : AT n C s (wpAny P .any l.toArray Q fuel listed) := fun a w f c => by
  have e : l.take k ++ l.drop k = l := List.take_append_drop k l
  have h2 := any_tailL (md := .any) (Q' := Q) (m := (l.drop k).length) (head := l.take k) (tail := l.drop k) (P := P) (C := C) hb hc (fun g a' w' hw' hk => any_seq g (l.drop k) (l.take k).length _ a' w' (fun j => by simp only [List.getElem?_toArray]; rw [List.getElem?_append_right om]; congr 1; omega) hs (by rw [e]; exact hk w' hw')) g l1 a w
    (fun i hi hu => by
      have := List.all_eq_true.1 hl i (List.mem_range.2 hi)
      simpa [hu] using this) (Nat.eq_of_beq_eq_true hsz) (closedB_spec hcb) c (h a f)
  rw [hf, hls, ← hm]
  rwa [e] at h2
theorem x_qn [Dfs] {K : Act → World → Prop} (h : AT n C s K) : AT n C s (Qn K .normal) := h
end
end Go.Lg
namespace Go.Lg
open Go.RowKit
section
variable {P : Program} {n : Nat} {C : World → Prop} {s : List (Nat × Value)} {Q : Exit → Act → World → Prop} {ops : Array Oper} {rest : List Oper}
variable {d ty t t' : Nat} {pos : String} {af : Array Edge} {v : Value} {x y : Operand} {M : List Nat} {w0 w : World} {H : List HE}

theorem satL_split {w : World} : ∀ {H1 H2 : List HE} {fp : List Nat}, satL w (H1 ++ H2) fp → ∃ f1 f2, fp = f1 ++ f2 ∧ satL w H1 f1 ∧ satL w H2 f2 := by
  intro H1
  induction H1 with
  | nil => intro H2 fp h; exact ⟨[], fp, rfl, rfl, h⟩
  | cons a r ih =>
    intro H2 fp ⟨f1, f2, e, s1, s2⟩
    obtain ⟨g1, g2, e', a1, a2⟩ := ih s2
    exact ⟨f1 ++ g1, g2, by rw [e, e', List.append_assoc], ⟨f1, g1, rfl, s1, a1⟩, a2⟩
structure LentL (M : List Nat) (w0 : World) (H0 H : List HE) (M' : List Nat) (w : World) : Prop where
  sat : satL w H0 M'
  nodup : M'.Nodup
  others : ∃ f2, satL w H f2 ∧ (M' ++ f2).Nodup ∧ (∀ b ∈ M' ++ f2, b ∈ M ∨ w0.heap.size ≤ b) ∧ Kept M w0 w
theorem LentL.out {H0 : List HE} {M' : List Nat} {t : T} (h : LentL M w0 H0 H M' w) (hr : RdOut w0 M t v) : RdOut w M' t v := fun w' hb => by
  obtain ⟨f2, s2, nd, ge, kp⟩ := h.others
  refine hr w' (fun b hb1 hb2 => ?_)
  rw [hb b (Nat.lt_of_lt_of_le hb1 kp.size) (fun hm => ?_)]
  · exact kp.block b hb1 hb2
  · rcases ge b (by simp [hm]) with h | h
    · exact hb2 h
    · omega
theorem LentL.old {H0 : List HE} {M' : List Nat} {t : T} (h : LentL [] w0 H0 H M' w) (hr : Rd w0 t v) : RdOut w M' t v := h.out (RdOut.of_rd hr)
theorem LentL.own {H0 : List HE} {M' : List Nat} {t : T} (j : Nat) (h : LentL M w0 H0 H M' w) (hj : H[j]? = some (.own t v)) : RdOut w M' t v := fun w' hb => by
  obtain ⟨f2, s2, nd, ge, kp⟩ := h.others
  obtain ⟨f, a, hin, hnd, _⟩ := s2.pick hj
  refine Own.rd (Own.loc a (fun b hm => hb b (s2.lt b (hin b hm)) (fun hm' => ?_)))
  exact (List.nodup_append.1 nd).2.2 b hm' b (hin b hm) rfl
theorem OwnL.at {w : World} {ts : List T} {vs : List Value} {f : List Nat} {q : Nat} {t : T} {v : Value} (h : OwnL w ts vs f) (ht : ts[q]? = some t) (hv : vs[q]? = some v) :
    ∃ fa ft fb, f = fa ++ (ft ++ fb) ∧ OwnL w (ts.take q) (vs.take q) fa ∧ Own w t v ft ∧ OwnL w (ts.drop (q + 1)) (vs.drop (q + 1)) fb := by
  have hq := (List.getElem?_eq_some_iff.1 ht).1
  have e1 : ts = ts.take q ++ (t :: ts.drop (q + 1)) := by
    conv => lhs; rw [← List.take_append_drop q ts]
    rw [List.drop_eq_getElem_cons hq]
    congr 2
    exact (List.getElem?_eq_some_iff.1 ht).2
  rw [e1] at h
  obtain ⟨v1, v2, f1, f2, ev, ef, h1, h2⟩ := h.split
  simp only [OwnL] at h2
  obtain ⟨u, v3, g1, g2, rfl, rfl, h3, h4⟩ := h2
  have hl : v1.length = q := by rw [OwnL.length h1, List.length_take]; omega
  subst ev
  have hu : u = v := by
    rw [List.getElem?_append_right om, hl, Nat.sub_self] at hv
    simpa using hv
  subst hu
  refine ⟨f1, g1, g2, ef, ?_, h3, ?_⟩
  · rw [List.take_left' hl]
    exact h1
  · have : (v1 ++ u :: v3).drop (q + 1) = v3 := by
      rw [show v1 ++ u :: v3 = (v1 ++ [u]) ++ v3 by simp]
      exact List.drop_left' (by simp [hl])
    rw [this]
    exact h4
theorem OwnL.joined {w : World} {ts : List T} {vs : List Value} {fa ft fb : List Nat} {q : Nat} {t : T} {v : Value} (hq : q < ts.length) (hv : vs[q]? = some v) (h1 : OwnL w (ts.take q) (vs.take q) fa) (h2 : Own w t v ft) (h3 : OwnL w (ts.drop (q + 1)) (vs.drop (q + 1)) fb) : OwnL w (ts.set q t) vs (fa ++ (ft ++ fb)) := by
  have e1 : ts.set q t = ts.take q ++ (t :: ts.drop (q + 1)) := by
    rw [List.set_eq_take_append_cons_drop, if_pos hq]
  have hqv := (List.getElem?_eq_some_iff.1 hv).1
  have e2 : vs = vs.take q ++ (v :: vs.drop (q + 1)) := by
    conv => lhs; rw [← List.take_append_drop q vs]
    rw [List.drop_eq_getElem_cons hqv]
    congr 2
    exact (List.getElem?_eq_some_iff.1 hv).2
  rw [e1, e2]
  refine OwnL.append h1 ?_
  simp only [OwnL]
  exact ⟨v, _, ft, fb, rfl, rfl, h2, h3⟩
theorem Hp.partE {q : Nat} {ts : List T} {vs : List Value} {t : T} {u : Value} (ht : ts[q]? = some t) (hv : vs[q]? = some u) (hp : Hp M w0 (.ownL ts vs :: H) w) : Hp M w0 (.own t u :: .ownL (ts.take q) (vs.take q) :: .ownL (ts.drop (q + 1)) (vs.drop (q + 1)) :: H) w :=
  hp.say (H1 := [.own t u, .ownL (ts.take q) (vs.take q), .ownL (ts.drop (q + 1)) (vs.drop (q + 1))]) (fun f h => by
    obtain ⟨fa, ft, fb, rfl, h1, h2, h3⟩ := OwnL.at h ht hv
    refine ⟨ft ++ (fa ++ (fb ++ [])), ?_, ft, _, rfl, h2, fa, _, rfl, h1, fb, [], rfl, h3, rfl⟩
    rw [List.append_nil, ← List.append_assoc, ← List.append_assoc]
    exact List.Perm.append_right fb List.perm_append_comm)
end

section
variable {P : Program} {n : Nat} {C : World → Prop} {s : List (Nat × Value)} {w w0 : World} {M : List Nat} {H : List HE} {x y : Operand} {t ty : Nat} {v : Value}
theorem Hp.mid (j m : Nat) (hp : Hp M w0 H w) : Hp M w0 ((H.drop j).take m ++ (H.take j ++ H.drop (j + m))) w := by
  obtain ⟨fp, st, nd, ge, k⟩ := hp
  have e : H = H.take j ++ ((H.drop j).take m ++ H.drop (j + m)) := by
    rw [← List.drop_drop, List.take_append_drop, List.take_append_drop]
  rw [e] at st
  obtain ⟨f1, f23, e1, s1, s23⟩ := satL_split st
  obtain ⟨f2, f3, e2, s2, s3⟩ := satL_split s23
  subst e1; subst e2
  have pp : (f2 ++ (f1 ++ f3)).Perm (f1 ++ (f2 ++ f3)) := by
    rw [← List.append_assoc, ← List.append_assoc]
    exact List.Perm.append_right f3 List.perm_append_comm
  exact ⟨f2 ++ (f1 ++ f3), s2.append (s1.append s3), pp.nodup_iff.2 nd, fun b hb => ge b (pp.mem_iff.1 hb), k⟩
theorem LentL.rd {H0 : List HE} {M' : List Nat} {tt : T} (h : LentL M w0 (.own tt v :: H0) H M' w) : Rd w tt v := by
  obtain ⟨f1, f2, _, h1, _⟩ := h.sat
  exact Own.rd h1
end

end Go.Lg
namespace Go.Lg
open Go.RowKit
section
variable {P : Program} {n : Nat} {C S : World → Prop} {s : List (Nat × Value)} {Q : Exit → Act → World → Prop} {K : Act → World → Prop} {ops : Array Oper} {fuel : Nat} {listed : Array Bool}
variable {M : List Nat} {w0 : World} {H : List HE} {i0 d0 e0 : Nat} {z : List Value}

theorem sub_left {X : List (Nat × Value)} : Sub s (s ++ X) := fun k v h => by rw [lk_app, h]
theorem sub_last {p : Value} (h : lk s d0 = none) : Sub (s ++ [(d0, p)]) ((d0, p) :: s) := fun k v e => by
  rw [lk_app] at e
  cases hs : lk s k with
  | some u =>
    rw [hs] at e
    simp only [Option.some.injEq] at e; subst e
    have hk : ¬ d0 = k := fun h' => by subst h'; rw [h] at hs; cases hs
    rw [lk_ne hk]; exact hs
  | none =>
    rw [hs] at e
    simp only at e
    by_cases hk : d0 = k
    · subst hk; rw [lk_eq] at e ⊢; exact e
    · rw [lk_ne hk] at e; cases e
theorem sub_first {p : Value} (h : lk s d0 = none) : Sub ((d0, p) :: s) (s ++ [(d0, p)]) := fun k v e => by
  by_cases hk : d0 = k
  · subst hk
    rw [lk_eq] at e
    rw [lk_app, h]
    simp only
    rw [lk_eq]; exact e
  · rw [lk_ne hk] at e
    rw [lk_app, e]
theorem Hp.last {h : HE} {w : World} (hp : Hp M w0 (h :: H) w) : Hp M w0 (H ++ [h]) w := by
  have := hp.mid 1 H.length
  have e : List.drop (1 + H.length) (h :: H) = [] := List.drop_of_length_le (by simp; omega)
  rw [e] at this
  simpa using this
theorem Hp.unlast {h : HE} {w : World} (hp : Hp M w0 (H ++ [h]) w) : Hp M w0 (h :: H) w := by
  have := hp.mid H.length 1
  simpa using this

def FL [Dfs] (P : Program) (n : Nat) (M : List Nat) (w0 : World) (S : World → Prop) (ops : Array Oper) (K : Act → World → Prop) (i0 d0 e0 : Nat) (z : List Value) (H : List HE) (s : List (Nat × Value)) (fuel : Nat) (listed : Array Bool) : Prop :=
  AT n (Hp M w0 H) s (wpAnyH P .any ops (Qn K) S (fuel + 1) listed) ∧
  ∀ b, w0.heap.size ≤ b → AT n (Hp M w0 (H ++ [.blk b z.toArray e0])) (s ++ [(d0, .pointer (some ⟨b, 0, none⟩))]) (wpAnyH P .any ops (Qn K) S fuel (listed.setIfInBounds i0 true))
theorem fl_take [Dfs] (i : Nat) {op : Op} {d ty : Nat} {pos : String} {af : Array Edge} {v : Value} (hi : ops[i]? = some ⟨some d, op, ty, pos, af, none⟩) (hne : Nat.beq i i0 = false)
    (hs : Region.noSelect ops = true) (hf : Region.free .any ops listed i = true) (hr : (Region.ready .any ops listed).contains i = true) (hf' : Region.free .any ops (listed.setIfInBounds i0 true) i = true) (hr' : (Region.ready .any ops (listed.setIfInBounds i0 true)).contains i = true)
    (hy : Y P n S s op ty v) (hd : Nat.blt d n = true) (hS : ∀ w, Hp M w0 H w → S w)
    (h : FL P n M w0 S ops K i0 d0 e0 z H ((d, v) :: s) fuel (listed.setIfInBounds i true)) : FL P n M w0 S ops K i0 d0 e0 z H s (fuel + 1) listed := by
  refine ⟨h_take i hi hs hf hr hy hd hS h.1, fun b hb => ?_⟩
  refine h_take i hi hs hf' hr' (hy.weak sub_left (fun _ c => c)) hd (fun w c => hS w (c.sub (List.sublist_append_left _ _))) ?_
  have := h.2 b hb
  rw [Array.setIfInBounds_comm _ _ (fun h => by subst h; simp at hne)]
  exact this
theorem fl_end [Dfs] {ty0 : Nat} {pos0 : String} {af0 : Array Edge} (hi0 : ops[i0]? = some ⟨some d0, .alloc e0, ty0, pos0, af0, none⟩) (T : Tabs P) (hz : lk T.sz e0 = some z) (hl0 : lk s d0 = none) (hd0 : Nat.blt d0 n = true)
    (hr : Region.ready .any ops listed = [i0]) (hS : ∀ w, Hp M w0 H w → S w)
    (h : ∀ b, w0.heap.size ≤ b → AT n (Hp M w0 (.blk b z.toArray e0 :: H)) ((d0, .pointer (some ⟨b, 0, none⟩)) :: s) (wpAnyH P .any ops (Qn K) S fuel (listed.setIfInBounds i0 true))) : FL P n M w0 S ops K i0 d0 e0 z H s fuel listed := by
  refine ⟨h_only i0 hi0 hr (m_alloc T hz hd0 (fun b hb => c_nil (x_one (h_keep (fun w c => hS w c.drop) (h b hb))))), fun b hb => ?_⟩
  exact AT.sub (sub_first hl0) (AT.cls (fun w c => c.unlast) (h b hb))
theorem c_all [Dfs] (S : World → Prop) {id : Nat} {l : List Oper} {Q : Exit → Act → World → Prop} (hm : P.follows .mixedOrders = true) (hC : ∀ w, C w → C { w with drawn := w.drawn + 1 })
    (h : AT n C s (wpAnyH P .any l.toArray (Qn (Q .normal)) S l.length (Array.replicate l.length false))) : AT n C s ((Code.region id l.toArray true).wp P Q) := fun a w f c => by
  refine wp_region_any hm ?_
  have := wpAny_qn (Q := Q) (fun a w h => h) _ _ _ _ (wpAny_of_held _ _ _ _ (h a _ f (hC w c)))
  simpa using this
theorem fl_begin [Dfs] {g : Nat} (i0 : Nat) {ty0 : Nat} {pos0 : String} {af0 : Array Edge} (_hi0 : ops[i0]? = some ⟨some d0, .alloc e0, ty0, pos0, af0, none⟩) (T : Tabs P) (_hz : lk T.sz e0 = some z) (hg : g = fuel + 1) (h : FL P n M w0 S ops K i0 d0 e0 z H s fuel listed) : AT n (Hp M w0 H) s (wpAnyH P .any ops (Qn K) S g listed) := by
  subst hg; exact h.1
end
end Go.Lg
namespace Go.Lg
open Go.RowKit
section
variable {P : Program} {n : Nat} {C : World → Prop} {s : List (Nat × Value)} {Q : Exit → Act → World → Prop} {ops : Array Oper} {rest : List Oper}
variable {d ty t t' : Nat} {pos : String} {af : Array Edge} {v : Value} {x y lo' : Operand} {M : List Nat} {w0 w : World} {H : List HE}
end
end Go.Lg
namespace Go.Lg
open Go.RowKit
section
variable {P : Program} {n : Nat} {C : World → Prop} {s : List (Nat × Value)} {Q : Exit → Act → World → Prop} {ops : Array Oper} {rest : List Oper}
variable {d ty t t' : Nat} {pos : String} {af : Array Edge} {v : Value} {x y lo' : Operand} {M : List Nat} {w0 w : World} {H : List HE}
theorem m_maken [Dfs] (T : Tabs P) {e : Nat} {l : Int} {m : Nat} (ht : lk T.sl t = some (e, 1, 8, [.int .i64 0])) (hx : ev s x = some (.int .i64 l)) (hy : ev s y = some (.int .i64 l)) (hl : l = (m : Int)) (hc : m ≤ 1099511627776) (hd : Nat.blt d n = true)
    (h : ∀ b, w0.heap.size ≤ b → AT n (Hp M w0 (.own (ints e (List.replicate m 0)) (.slice (some ⟨b, 0, none⟩) m m) :: H)) ((d, .slice (some ⟨b, 0, none⟩) m m) :: s) (wpList P ops Q rest)) :
    AT n (Hp M w0 H) s (wpList P ops Q (⟨some d, .makeSlice t x y, ty, pos, af, none⟩ :: rest)) := by
  subst hl
  exact m_makei T ht hx hy om om hd (fun b hb => by simpa using h b hb)
def subA (a : Option Addr) (k lo cap : Nat) : Option Addr := if cap = lo then a else a.map (fun b => b.add (lo * k))
theorem y_slo [Dfs] (T : Tabs P) {e k b m cap lo : Nat} {z : List Value} {a : Option Addr} {p : Int} (ht : lk T.sl t = some (e, k, b, z)) (hx : ev s x = some (.slice a m cap)) (hl : ev s lo' = some (.int .i64 p)) (hp : p = (lo : Int)) (h1 : lo ≤ m) :
    Y P n C s (.slice t x (some lo') none none) ty (.slice (subA a k lo cap) (m - lo) (cap - lo)) := fun aa w f c d pos af gg => by
  obtain ⟨g1, _, _, i0, zv, g2, g3, _⟩ := T.sl_ok _ _ _ _ _ ht
  subst hp
  simp [execOp, f.ev hx, f.ev hl, Instr.sliceAt, Instr.slice, Instr.sliceBounds, Instr.sliceBound, asIntOf, run_underlying g1, sizeOf, typeInfo, g2, g3, subA, h1]
theorem y_slh [Dfs] (T : Tabs P) {e k b m cap hi : Nat} {z : List Value} {a : Option Addr} {p : Int} {hi' : Operand} (ht : lk T.sl t = some (e, k, b, z)) (hx : ev s x = some (.slice a m cap)) (hh : ev s hi' = some (.int .i64 p)) (hp : p = (hi : Int)) (h1 : hi ≤ cap) :
    Y P n C s (.slice t x none (some hi') none) ty (.slice (subA a k 0 cap) hi cap) := fun aa w f c d pos af gg => by
  obtain ⟨g1, _, _, i0, zv, g2, _, _⟩ := T.sl_ok _ _ _ _ _ ht
  subst hp
  simp [execOp, f.ev hx, f.ev hh, Instr.sliceAt, Instr.slice, Instr.sliceBounds, Instr.sliceBound, asIntOf, run_underlying g1, sizeOf, typeInfo, g2, subA, h1]
theorem y_slb [Dfs] (T : Tabs P) {e k b m cap lo hi : Nat} {z : List Value} {a : Option Addr} {p q : Int} {hi' : Operand} (ht : lk T.sl t = some (e, k, b, z)) (hx : ev s x = some (.slice a m cap)) (hl : ev s lo' = some (.int .i64 p)) (hh : ev s hi' = some (.int .i64 q)) (hp : p = (lo : Int)) (hq : q = (hi : Int)) (h1 : lo ≤ hi) (h2 : hi ≤ cap) :
    Y P n C s (.slice t x (some lo') (some hi') none) ty (.slice (subA a k lo cap) (hi - lo) (cap - lo)) := fun aa w f c d pos af gg => by
  obtain ⟨g1, _, _, i0, zv, g2, g3, _⟩ := T.sl_ok _ _ _ _ _ ht
  subst hp; subst hq
  simp [execOp, f.ev hx, f.ev hl, f.ev hh, Instr.sliceAt, Instr.slice, Instr.sliceBounds, Instr.sliceBound, asIntOf, run_underlying g1, sizeOf, typeInfo, g2, g3, subA, h1, h2]
theorem Rd.part {e k m cap lo hi : Nat} {ts : List T} {a : Option Addr} (hr : Rd w (.s e k ts) (.slice a m cap)) (h1 : lo ≤ hi) (h2 : hi ≤ m) : Rd w (.s e k ((ts.drop (lo * k)).take ((hi - lo) * k))) (.slice (subA a k lo cap) (hi - lo) (cap - lo)) := by
  simp only [Rd] at hr ⊢
  obtain ⟨a', m', c', h3, h4, h5, h6, h7⟩ := hr
  cases h3
  have hkm : hi * k ≤ m * k := Nat.mul_le_mul_right k h2
  have hlk : lo * k + (hi - lo) * k = hi * k := by rw [← Nat.add_mul]; congr 1; omega
  refine ⟨_, hi - lo, cap - lo, rfl, by omega, by omega, by simp only [List.length_take, List.length_drop]; omega, ?_⟩
  by_cases hz : hi - lo = 0
  · rw [hz]; simp [RdL]
  · unfold subA
    rw [if_neg om]
    have key : ∀ (i : Nat) (t : T), ((ts.drop (lo * k)).take ((hi - lo) * k))[i]? = some t → ∃ b o u, a = some ⟨b, o, none⟩ ∧ w.cell? ⟨b, o + (lo * k + i), none⟩ = some u ∧ Rd w t u := fun i t ht => by
      rw [List.getElem?_take] at ht
      split at ht
      · rw [List.getElem?_drop] at ht
        obtain ⟨b, o, u, g1, g2, g3⟩ := h7.get _ _ ht
        exact ⟨b, o, u, g1, by simpa using g2, g3⟩
      · cases ht
    cases hl : (ts.drop (lo * k)).take ((hi - lo) * k) with
    | nil => simp [RdL]
    | cons t0 tl =>
      obtain ⟨b, o, u, g1, _, _⟩ := key 0 t0 (by rw [hl]; rfl)
      subst g1
      rw [← hl, Option.map_some, Addr.add_lit]
      refine RdL.of_get (fun i t ht => ?_)
      obtain ⟨b', o', u', g1', g2', g3'⟩ := key i t ht
      cases g1'
      exact ⟨u', by rw [Nat.zero_add, Nat.add_assoc]; exact g2', g3'⟩
theorem m_pushn [Dfs] (i : Nat) (T0 : Tabs P) {e g e' : Nat} {z : List Value} {xs : List Int} {k : Int} {c m : Nat} (ht : lk T0.sl t = some (e, 1, 8, z)) (hi : H[i]? = some (.own (ints e xs) v)) (hx : ev s x = some v) (hy : ev s y = some (.slice (some ⟨g, 0, none⟩) 1 c)) (hd : Nat.blt d n = true)
    (hl : xs.length = m) (hb : m ≤ 1099511627775)
    (h : ∀ a cc, AT n (Hp M w0 (.own (ints e (xs ++ [k])) (.slice a (m + 1) cc) :: H.eraseIdx i)) ((d, .slice a (m + 1) cc) :: s) (wpList P ops Q rest)) :
    AT n (Hp M w0 (.blk g #[.int .i64 k] e' :: H)) s (wpList P ops Q (⟨some d, .call ⟨.builtin .append, #[x, y], #[t, t]⟩, ty, pos, af, none⟩ :: rest)) := by
  subst hl
  exact m_pushi i T0 ht hi hx hy hd hb h
theorem m_push1 [Dfs] (pre : List Value) (i j : Nat) (T0 : Tabs P) {e g e' k b c m' : Nat} {z : List Value} {ts : List T} {cs : Array Value} {t1 : T} {u : Value} (ht : lk T0.sl t = some (e, k, b, z)) (hx : ev s x = some v) (hy : ev s y = some (.slice (some ⟨g, 0, none⟩) 1 c)) (hd : Nat.blt d n = true)
    (hcs : cs.toList = pre ++ [u]) (hl : Nat.beq cs.size k = true) (hu : cs.toList.all (·.oneCell') = true) (hm : ts.length = m' * k) (hb : (ts.length + k) * b ≤ 140737488355328) (hb1 : 1 ≤ b) (hj : H[j]? = some (.own t1 u)) (hi : (H.eraseIdx j)[i]? = some (.own (.s e k ts) v))
    (h : ∀ a cc, AT n (Hp M w0 (.own (.s e k (ts ++ (pre.map T.c ++ [t1]))) (.slice a (m' + 1) cc) :: (H.eraseIdx j).eraseIdx i)) ((d, .slice a (m' + 1) cc) :: s) (wpList P ops Q rest)) :
    AT n (Hp M w0 (.blk g cs e' :: H)) s (wpList P ops Q (⟨some d, .call ⟨.builtin .append, #[x, y], #[t, t]⟩, ty, pos, af, none⟩ :: rest)) := by
  have hl' := Nat.eq_of_beq_eq_true hl
  have hlen : cs.toList.length = k := by simpa using hl'
  refine m_app (ts := ts) (tn := pre.map T.c ++ [t1]) (news := cs.toList) (m' := m' + 1) (m := 1) (H' := (H.eraseIdx j).eraseIdx i) T0 ht hx hy hd om (fun u hu' => List.all_eq_true.1 hu u hu') (by rw [List.length_append, hm, Nat.succ_mul]; have := hlen; rw [hcs] at this; simp at this ⊢; omega) (by rw [hlen]; exact hb) hb1
    (fun w c => ?_) (fun w c => .inr ⟨_, rfl, fun q u hu => ?_⟩) h
  · rw [hcs]
    have h1 := ((c.drop.front hj).single.free pre).cat
    exact h1.front (i := i + 1) (by simpa using hi)
  · have := hc_blk (M := M) (w0 := w0) 0 (o := q) (v := u) (H := .blk g cs e' :: H) rfl (by simpa using hu) w c
    rw [Addr.add_lit]
    simpa using this
end
end Go.Lg
namespace Go.Lg
open Go.RowKit
section
variable {P : Program} {n : Nat} {S : World → Prop} {s : List (Nat × Value)} {K : Act → World → Prop} {ops : Array Oper} {fuel : Nat} {listed : Array Bool}
variable {M : List Nat} {w0 : World} {H : List HE} {i0 d0 e0 : Nat} {z : List Value}
theorem fl_step [Dfs] (i : Nat) {o : Oper} {d ty0 : Nat} {pos0 : String} {af0 : Array Edge} {φ : Value → List HE → Prop} (hi : ops[i]? = some o) (hi0 : ops[i0]? = some ⟨some d0, .alloc e0, ty0, pos0, af0, none⟩) (hne : Nat.beq i i0 = false)
    (T : Tabs P) (hz : lk T.sz e0 = some z) (hl0 : lk s d0 = none) (hd0 : Nat.blt d0 n = true)
    (hr : ((Region.ready .any ops listed).all fun j => Nat.beq j i || Nat.beq j i0) = true) (hr1 : (Region.ready .any ops listed).isEmpty = false) (hr' : Region.ready .any ops (listed.setIfInBounds i0 true) = [i])
    (hstep : ∀ E X (R : Act → World → Prop), (∀ v H1, φ v H1 → AT n (Hp M w0 (H1 ++ E)) ((d, v) :: (s ++ X)) R) → AT n (Hp M w0 (H ++ E)) (s ++ X) (wpList P ops (Qk R (Qn K)) [o])) (hS0 : ∀ w, Hp M w0 H w → S w) (hS : ∀ v H1, φ v H1 → ∀ w, Hp M w0 H1 w → S w)
    (h : ∀ v H1, φ v H1 → FL P n M w0 S ops K i0 d0 e0 z H1 ((d, v) :: s) fuel (listed.setIfInBounds i true)) : FL P n M w0 S ops K i0 d0 e0 z H s (fuel + 1) listed := by
  have hne' : i ≠ i0 := fun h => by subst h; simp at hne
  have second : ∀ b, w0.heap.size ≤ b → AT n (Hp M w0 (H ++ [.blk b z.toArray e0])) (s ++ [(d0, .pointer (some ⟨b, 0, none⟩))]) (wpAnyH P .any ops (Qn K) S (fuel + 1) (listed.setIfInBounds i0 true)) := fun b hb => by
    refine h_only i hi hr' (hstep _ _ _ (fun v H1 hφ => h_keep (fun w c => hS v H1 hφ w (c.sub (List.sublist_append_left _ _))) ?_))
    have := (h v H1 hφ).2 b hb
    rw [Array.setIfInBounds_comm _ _ hne'] at this
    exact this
  refine ⟨fun a w fr c => ?_, second⟩
  refine wpAnyH_all rfl (fun h0 => by rw [h0] at hr1; simp at hr1) (fun j hj => ?_)
  have hj' := List.all_eq_true.1 hr j hj
  simp only [Bool.or_eq_true] at hj'
  rcases hj' with hj' | hj'
  · have : j = i := Nat.eq_of_beq_eq_true hj'
    subst this
    have h1 : AT n (Hp M w0 H) s (wpList P ops (Qk (fun a' w' => S w' ∧ wpAnyH P .any ops (Qn K) S (fuel + 1) (listed.setIfInBounds j true) a' w') (Qn K)) [o]) := by
      have := hstep [] [] (fun a' w' => S w' ∧ wpAnyH P .any ops (Qn K) S (fuel + 1) (listed.setIfInBounds j true) a' w') (fun v H1 hφ => by
        rw [List.append_nil, List.append_nil]
        exact h_keep (hS v H1 hφ) (h v H1 hφ).1)
      rwa [List.append_nil, List.append_nil] at this
    exact wpOp_list hi (h1 a w fr c)
  · have : j = i0 := Nat.eq_of_beq_eq_true hj'
    subst this
    exact wpOp_list hi0 ((m_alloc T hz hd0 (fun b hb => c_nil (x_one (h_keep (fun w c => hS0 w c.drop) (AT.sub (sub_last hl0) (AT.cls (fun w c => c.last) (second b hb)))))) : AT n (Hp M w0 H) s _) a w fr c)
end
end Go.Lg
namespace Go.Lg
open Go.RowKit
section
variable {P : Program} {n : Nat} {C S : World → Prop} {s : List (Nat × Value)} {Q : Exit → Act → World → Prop} {K : Act → World → Prop} {ops : Array Oper} {rest : List Oper} {fuel : Nat} {listed : Array Bool}
variable {d ty t t' : Nat} {pos : String} {af : Array Edge} {v : Value} {x y : Operand} {M : List Nat} {w0 w : World} {H : List HE}
theorem h_two [Dfs] (i j : Nat) {o o' : Oper} (hi : ops[i]? = some o) (hj : ops[j]? = some o') (hr : Region.ready .any ops listed = [i, j])
    (h : AT n C s (wpList P ops (Qk (fun a' w' => S w' ∧ wpAnyH P .any ops (Qn K) S fuel (listed.setIfInBounds i true) a' w') (Qn K)) [o]))
    (h' : AT n C s (wpList P ops (Qk (fun a' w' => S w' ∧ wpAnyH P .any ops (Qn K) S fuel (listed.setIfInBounds j true) a' w') (Qn K)) [o'])) : AT n C s (wpAnyH P .any ops (Qn K) S (fuel + 1) listed) := fun a w f c =>
  wpAnyH_all hr (by simp) (fun q hq => by
    rcases List.mem_cons.1 hq with e | hq
    · subst e; exact wpOp_list hi (h a w f c)
    · have e : q = j := by simpa using hq
      subst e; exact wpOp_list hj (h' a w f c))
theorem m_dup [Dfs] (i : Nat) (T0 : Tabs P) {e c : Nat} {z : List Value} {ys : List Int} {ad : Option Addr} (ht : lk T0.sl t = some (e, 1, 8, z)) (hi : H[i]? = some (.own (ints e []) v)) (hx : ev s x = some v) (hy : ev s y = some (.slice ad ys.length c)) (hd : Nat.blt d n = true)
    (hb : ys.length ≤ 1099511627776) (hs : ∀ w, Hp M w0 H w → Rd w (ints e ys) (.slice ad ys.length c))
    (h : ∀ a cc, SA a ys.length → AT n (Hp M w0 (.own (ints e ys) (.slice a ys.length cc) :: H.eraseIdx i)) ((d, .slice a ys.length cc) :: s) (wpList P ops Q rest)) :
    AT n (Hp M w0 H) s (wpList P ops Q (⟨some d, .call ⟨.builtin .append, #[x, y], #[t, t]⟩, ty, pos, af, none⟩ :: rest)) := by
  refine m_appi i T0 (xs := []) ht hi hx hy hd (by simpa using hb) (fun w c => rd_src (hs w c)) (fun a cc => ?_)
  simp only [List.nil_append, List.length_nil, Nat.zero_add]
  refine AT.fact (own_sl 0 rfl) (fun hsl => ?_)
  obtain ⟨a', c', e1, h1⟩ := hsl
  cases e1
  exact h a cc h1
variable {x0 x1 x2 x3 : Operand} {v0 v1 v2 v3 : Value}
theorem y_bld2 [Dfs] (hb : ∀ w, (Instr.build t #[(0, v0), (1, v1)]).run P w = .ok v w) (h0 : ev s x0 = some v0) (h1 : ev s x1 = some v1) : Y P n C s (.build t #[(0, x0), (1, x1)]) ty v := fun a w f c d pos af g => by
  simp [execOp, f.ev h0, f.ev h1, hb]
end
end Go.Lg
