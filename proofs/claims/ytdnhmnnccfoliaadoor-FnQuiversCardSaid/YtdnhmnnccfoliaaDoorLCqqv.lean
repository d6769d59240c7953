import Derived.OrdersHeld
import Derived.Lib.SliceRun
import Derived.Test.YtdnhmnnccfoliaaDoorLBqqv
namespace Go.Lg
section
variable {P : Program} {md : Region.Mode} {head tail : List Oper}

def Qn (K : Act → World → Prop) : Exit → Act → World → Prop
  | .normal => K
  | _ => fun _ _ => False
theorem upon_Qn {K : Act → World → Prop} {Q : Exit → Act → World → Prop} {o : Oper} {a : Act} {next : Act → World → Prop} : ∀ {r : Result Next}, o.upon P a next (Qn K) r → o.upon P a next Q r
  | .ok (.value _) _, h => h
  | .ok .skip _, h => h
  | .ok (.defer _) _, h => h
  | .ok (.enter _ _) _, h => Calls.mono h (fun e w'' he => by cases e <;> first | exact he | exact he.elim | exact (let ⟨_, _, h⟩ := he; h.elim))
  | .ok (.row _ _) _, h => h
  | .halt x _, h => by cases x <;> first | exact h | exact h.elim
theorem wpOp_more {K0 K : Act → World → Prop} {Q : Exit → Act → World → Prop} (hb : backB md head = true) {i : Nat} {a : Act} {w : World} (hi : i < head.length) (h : wpOp P head.toArray (Qn K0) i K a w) : wpOp P (head ++ tail).toArray Q i K a w := by
  unfold wpOp at h ⊢
  rw [ops_lt hi]
  have hg : head.toArray[i]? = some head[i] := by simp
  rw [hg] at h ⊢
  have hw : Region.wanted head[i] (yielded (head ++ tail).toArray a.tmps) = Region.wanted head[i] (yielded head.toArray a.tmps) := by
    unfold Region.wanted
    cases hq : head[i].guard with
    | none => rfl
    | some jb =>
      obtain ⟨j, b⟩ := jb
      have := (backB_spec hb (List.getElem?_eq_getElem hi)).2 j b hq
      simp only [yielded, ops_lt (show j < head.length by omega)]
  simp only [hw]
  split
  · rename_i h1
    simp only [h1, if_true] at h
    exact h.imp upon_Qn (fun ⟨_, _, _, h⟩ => h.elim)
  · rename_i h1
    simp only [h1] at h
    exact h

end
section
variable {P : Program} {n : Nat} {C S : World → Prop} {s : List (Nat × Value)} {Q : Exit → Act → World → Prop} {K : Act → World → Prop} {ops : Array Oper} {fuel : Nat} {listed : Array Bool}
theorem h_take (i : Nat) {op : Op} {d ty : Nat} {pos : String} {af : Array Edge} {v : Value} (hi : ops[i]? = some ⟨some d, op, ty, pos, af, none⟩)
    (hs : Region.noSelect ops = true) (hf : Region.free .any ops listed i = true) (hr : (Region.ready .any ops listed).contains i = true)
    (hy : Y P n S s op ty v) (hd : Nat.blt d n = true) (hS : ∀ w, C w → S w)
    (h : AT n C ((d, v) :: s) (wpAnyH P .any ops (Qn K) S fuel (listed.setIfInBounds i true))) : AT n C s (wpAnyH P .any ops (Qn K) S (fuel + 1) listed) := fun a w f c =>
  wpAnyH_take hi hs hf hr (fun _ _ _ h => h.elim) (.inl ⟨by simp [Region.wanted], fun w' hw' => hy a w' f hw' _ _ _ _⟩) (hS w c) (h _ w (f.put (by simpa [Nat.blt_eq] using hd) v) c)
theorem h_only (i : Nat) {o : Oper} (hi : ops[i]? = some o) (hr : Region.ready .any ops listed = [i])
    (h : AT n C s (wpList P ops (Qk (fun a' w' => S w' ∧ wpAnyH P .any ops (Qn K) S fuel (listed.setIfInBounds i true) a' w') (Qn K)) [o])) : AT n C s (wpAnyH P .any ops (Qn K) S (fuel + 1) listed) := fun a w f c =>
  wpAnyH_all hr (by simp) (fun j hj => by
    have : j = i := by simpa using hj
    subst this
    exact wpOp_list hi (h a w f c))
theorem h_keep (hS : ∀ w, C w → S w) (h : AT n C s K) : AT n C s (fun a w => S w ∧ K a w) := fun a w f c => ⟨hS w c, h a w f c⟩
theorem h_end (hr : Region.ready .any ops listed = []) (h : AT n C s K) : AT n C s (wpAnyH P .any ops (Qn K) S fuel listed) := fun a w f c => wpAnyH_done hr (h a w f c) _
end
end Go.Lg
namespace Go.Lg
open Go.RowKit
section
variable {P : Program} {n : Nat} {C : World → Prop} {s : List (Nat × Value)} {x y lo' hi' : Operand} {t t' ty : Nat}
end
end Go.Lg
namespace Go.Lg
open Go.RowKit
section
variable {P : Program} {n : Nat} {C : World → Prop} {s : List (Nat × Value)} {x y : Operand} {t t' ty : Nat}
theorem y_eqsnil (T : Tabs P) {q : Nat × Nat × Nat × List Value} {a : Option Addr} {m c m' c' : Nat} (ht : lk T.sl t = some q) (hx : ev s x = some (.slice a m c)) (hy : ev s y = some (.slice none m' c')) : Y P n C s (.binOp .eql t x y t') ty (.bool (decide (a = none))) := fun aa w f cc d pos af g => by
  obtain ⟨e, k, b, z⟩ := q
  obtain ⟨g1, _⟩ := T.sl_ok _ _ _ _ _ ht
  have h := Lib.run_eql_slice_nil (P := P) w t e a m c m' c' g1
  have h2 : a.isNone = decide (a = none) := by cases a <;> rfl
  rw [h2] at h
  simp [execOp, f.ev hx, f.ev hy, eqGuard, h]
theorem rd_src {w : World} {e : Nat} {ys : List Int} {ad : Option Addr} {c : Nat} (h : Rd w (ints e ys) (.slice ad ys.length c)) : ys = [] ∨ ∃ a, ad = some a ∧ ∀ j u, (ic ys)[j]? = some u → w.cell? (a.add j) = some u := by
  obtain ⟨a, cap, h1, hs, _, _, hg⟩ := h.ints
  cases h1
  rcases Nat.eq_zero_or_pos ys.length with h0 | h0
  · exact .inl (List.length_eq_zero_iff.1 h0)
  · refine .inr ⟨_, hs.get h0, fun j u hu => ?_⟩
    have hj : j < ys.length := by
      have := (List.getElem?_eq_some_iff.1 hu).1
      simpa [ic] using this
    have := hg j hj
    have hu' : u = .int .i64 (ys.getD j 0) := by
      have h3 : (ic ys)[j]? = some (.int .i64 (ys.getD j 0)) := by simp [ic, List.getD, hj]
      rw [h3] at hu; exact (Option.some.inj hu).symm
    rw [hu', Addr.add_lit]
    exact this
theorem y_bld3 {x0 x1 x2 : Operand} {v v0 v1 v2 : Value} (hb : ∀ w, (Instr.build t #[(0, v0), (1, v1), (2, v2)]).run P w = .ok v w) (h0 : ev s x0 = some v0) (h1 : ev s x1 = some v1) (h2 : ev s x2 = some v2) : Y P n C s (.build t #[(0, x0), (1, x1), (2, x2)]) ty v := fun a w f c d pos af g => by
  simp [execOp, f.ev h0, f.ev h1, f.ev h2, hb]
end
end Go.Lg
namespace Go.Lg
open Go.RowKit
def zk : List Nat → List Value → List (Nat × Value)
  | k :: ks, v :: vs => (k, v) :: zk ks vs
  | _, _ => []
def lks (s : List (Nat × Value)) : List Nat → Option (List Value)
  | [] => some []
  | k :: ks => match lk s k, lks s ks with
    | some v, some vs => some (v :: vs)
    | _, _ => none
theorem zk_sub {s : List (Nat × Value)} : ∀ {ks : List Nat} {vs : List Value}, lks s ks = some vs → Sub (zk ks vs) s
  | [], vs, h => by simp only [lks, Option.some.injEq] at h; subst h; exact Sub.nil
  | k :: ks, vs, h => by
    simp only [lks] at h
    split at h
    · rename_i v vs' h1 h2
      simp only [Option.some.injEq] at h; subst h
      exact Sub.cons h1 (zk_sub h2)
    · cases h
theorem lk_app {a b : List (Nat × Value)} {j : Nat} : lk (a ++ b) j = match lk a j with
    | some x => some x
    | none => lk b j := by
  induction a with
  | nil => rfl
  | cons p a ih =>
    obtain ⟨k, v⟩ := p
    simp only [List.cons_append, lk]
    cases Nat.beq k j
    · exact ih
    · rfl
theorem Sub.app {a b s : List (Nat × Value)} (h : Sub a s) (h' : Sub b s) : Sub (a ++ b) s := fun j u e => by
  rw [lk_app] at e
  cases ha : lk a j with
  | some x => rw [ha] at e; simp only [Option.some.injEq] at e; subst e; exact h j x ha
  | none => rw [ha] at e; exact h' j u e
section
variable {P : Program} {n : Nat} {C : World → Prop} {s : List (Nat × Value)} {Q : Exit → Act → World → Prop}
theorem c_loopk {α : Type} (ks : List Nat) (ch : α → List (Nat × Value)) (D : α → World → Prop) (m : α → Nat) {c : Code} (x0 : α) {vs : List Value} (hk : lks s ks = some vs) (h0 : Sub (ch x0) s) (hC : ∀ w, C w → D x0 w)
    (round : ∀ x, AT n (D x) (ch x ++ zk ks vs) (c.wp P (Exit.then (Again n (fun x => ch x ++ zk ks vs) D m x) Q))) : AT n C s ((Code.loop c).wp P Q) :=
  c_loop (fun x => ch x ++ zk ks vs) D m x0 (h0.app (zk_sub hk)) hC round
theorem c_loopH {α : Type} {M : List Nat} {w0 : World} {H : List HE} (ks : List Nat) (ch : α → List (Nat × Value)) (pu : α → Prop) (pc : α → List HE) (m : α → Nat) {c : Code} (x0 : α) {vs : List Value} (hk : lks s ks = some vs) (h0 : Sub (ch x0) s) (hp : pu x0) (hC : ∀ w, Hp M w0 H w → Hp M w0 (pc x0) w)
    (round : ∀ x, pu x → AT n (Hp M w0 (pc x)) (ch x ++ zk ks vs) (c.wp P (Exit.then (Again n (fun x => ch x ++ zk ks vs) (fun x w => pu x ∧ Hp M w0 (pc x) w) m x) Q))) : AT n (Hp M w0 H) s ((Code.loop c).wp P Q) :=
  c_loopk ks ch (fun x w => pu x ∧ Hp M w0 (pc x) w) m x0 hk h0 (fun w c => ⟨hp, hC w c⟩) (fun x => AT.pr (round x))
theorem x_nx {α : Type} {M : List Nat} {w0 : World} {S : α → List (Nat × Value)} {pu : α → Prop} {pc : α → List HE} {m : α → Nat} {x : α} (y : α) (hs : Sub (S y) s) (hp : pu y) (hC : ∀ w, C w → Hp M w0 (pc y) w) (hm : m y < m x) :
    AT n C s (Again n S (fun x w => pu x ∧ Hp M w0 (pc x) w) m x) := fun _ w f c => ⟨y, f.sub hs, ⟨hp, hC w c⟩, hm⟩
end
end Go.Lg
namespace Go.Lg
open Go.RowKit
section
variable {P : Program} {n : Nat} {C : World → Prop} {s : List (Nat × Value)} {Q : Exit → Act → World → Prop} {ops : Array Oper} {rest : List Oper}
variable {d ty t t' : Nat} {pos : String} {af : Array Edge} {v : Value} {x y : Operand} {M : List Nat} {w0 w : World} {H : List HE} {p q : Int}

theorem y_ixs (T : Tabs P) {e b m cap g o j : Nat} {z : List Value} {i : Int} (ht : lk T.sl t = some (e, 1, b, z)) (hx : ev s x = some (.slice (some ⟨g, o, none⟩) m cap)) (hy : ev s y = some (.int .i64 i)) (hi : i = (j : Int)) (h1 : j < m) :
    Y P n C s (.indexAddr t x y) ty (.pointer (some ⟨g, o + j, none⟩)) := by
  have h := y_ix (P := P) (n := n) (C := C) (s := s) (ty := ty) T ht hx hy om om
  subst hi
  simpa using h

theorem y_bld0 (hb : ∀ w, (Instr.build t #[]).run P w = .ok v w) : Y P n C s (.build t #[]) ty v := fun a w f c d pos af g => by
  simp [execOp, hb]
structure Lent (M : List Nat) (w0 : World) (h0 : HE) (H : List HE) (M' : List Nat) (w : World) : Prop where
  sat : h0.sat w M'
  nodup : M'.Nodup
  others : ∃ f2, satL w H f2 ∧ (M' ++ f2).Nodup ∧ (∀ b ∈ M' ++ f2, b ∈ M ∨ w0.heap.size ≤ b) ∧ Kept M w0 w
theorem Lent.satL {h0 : HE} {M' : List Nat} (h : Lent M w0 h0 H M' w) : satL w [h0] M' := ⟨M', [], by simp, h.sat, rfl⟩
def RdOut (w : World) (M : List Nat) (t : T) (v : Value) : Prop := ∀ w' : World, (∀ b, b < w.heap.size → b ∉ M → w'.heap[b]? = w.heap[b]?) → Rd w' t v
theorem RdOut.of_rd {t : T} (h : Rd w t v) : RdOut w [] t v := fun _ hb => h.mono (fun b hb' => hb b hb' (by simp))
theorem RdOut.rd {t : T} (h : RdOut w0 M t v) (c : Hp M w0 H w) : Rd w t v := h w c.kept.block
theorem Lent.out {h0 : HE} {M' : List Nat} {t : T} (h : Lent M w0 h0 H M' w) (hr : RdOut w0 M t v) : RdOut w M' t v := fun w' hb => by
  obtain ⟨f2, s2, nd, ge, kp⟩ := h.others
  refine hr w' (fun b hb1 hb2 => ?_)
  rw [hb b (Nat.lt_of_lt_of_le hb1 kp.size) (fun hm => ?_)]
  · exact kp.block b hb1 hb2
  · rcases ge b (by simp [hm]) with h | h
    · exact hb2 h
    · omega
theorem Lent.own {h0 : HE} {M' : List Nat} {t : T} (j : Nat) (h : Lent M w0 h0 H M' w) (hj : H[j]? = some (.own t v)) : RdOut w M' t v := fun w' hb => by
  obtain ⟨f2, s2, nd, ge, kp⟩ := h.others
  obtain ⟨f, a, hin, hnd, _⟩ := s2.pick hj
  refine Own.rd (Own.loc a (fun b hm => hb b (s2.lt b (hin b hm)) (fun hm' => ?_)))
  exact (List.nodup_append.1 nd).2.2 b hm' b (hin b hm) rfl
theorem m_callL (i : Nat) {h0 : HE} {f : Nat} {args : Array Operand} {vs : List Value} {φ : Value → List HE → Prop} {at' : Array Nat} (he : Ent P f) (ha : evs s args.toList = some vs) (hd : Nat.blt d n = true) (hi : H[i]? = some h0)
    (hc : ∀ w M', Lent M w0 h0 (H.eraseIdx i) M' w → DoesB P f vs w M' φ) (h : ∀ v H', φ v H' → AT n (Hp M w0 (H' ++ H.eraseIdx i)) ((d, v) :: s) (wpList P ops Q rest)) :
    AT n (Hp M w0 H) s (wpList P ops Q (⟨some d, .call ⟨.value (.func f), args, at'⟩, ty, pos, af, none⟩ :: rest)) := fun a w fr c => by
  refine wpList_one rfl ?_
  unfold Oper.wp
  have hm : args.map a.eval = vs.toArray := by
    rw [← fr.evs ha]
    apply Array.ext'
    simp
  have : (execOp a.eval ⟨some d, .call ⟨.value (.func f), args, at'⟩, ty, pos, af, none⟩).run P w = .ok (.enter f vs.toArray) w := by
    simp [execOp, resolve, Act.eval, Deferred.ofValue, hm, invoke, he vs.toArray w]
  rw [this]
  obtain ⟨fp, ⟨f1, f2, e, s1, s2⟩, nd, ge, kp⟩ := c.front hi
  subst e
  refine (hc w f1 ⟨s1, (List.nodup_append.1 nd).1, f2, s2, nd, ge, kp⟩).mono ?_
  rintro e w' ⟨v, H', rfl, hφ, hp'⟩
  exact h v H' hφ _ _ (fr.put (by simpa [Nat.blt_eq] using hd) v) (Hp.lend (H0 := [h0]) ⟨f2, ⟨f1, [], by simp, s1, rfl⟩, s2, nd, ge, kp⟩ hp')
theorem fnb_lent {f : Nat} {fn : Func} {c : Code} {vs : List Value} {φ : Value → List HE → Prop} {h0 : HE} {w1 : World} {M1 : List Nat} {H1 : List HE} {M' : List Nat} (hf : P.funcs[f]? = some fn) (hb : fn.body = some c) (hn : fn.ntmps = n) (hs : Nat.ble vs.length n = true)
    (hl : Lent M1 w1 h0 H1 M' w)
    (h : AT n (Hp M' w [h0]) (en 0 vs) (c.wp P (bodyPost P fn (fun e w' => ∃ v H, e = .returned v ∧ φ v H ∧ Hp M' w H w')))) : DoesB P f vs w M' φ :=
  fnb_start hf hb hn hs hl.satL hl.nodup h

theorem m_pushi (i : Nat) (T0 : Tabs P) {e g e' : Nat} {z : List Value} {xs : List Int} {k : Int} {c : Nat} (ht : lk T0.sl t = some (e, 1, 8, z)) (hi : H[i]? = some (.own (ints e xs) v)) (hx : ev s x = some v) (hy : ev s y = some (.slice (some ⟨g, 0, none⟩) 1 c)) (hd : Nat.blt d n = true)
    (hb : xs.length ≤ 1099511627775)
    (h : ∀ a cc, AT n (Hp M w0 (.own (ints e (xs ++ [k])) (.slice a (xs.length + 1) cc) :: H.eraseIdx i)) ((d, .slice a (xs.length + 1) cc) :: s) (wpList P ops Q rest)) :
    AT n (Hp M w0 (.blk g #[.int .i64 k] e' :: H)) s (wpList P ops Q (⟨some d, .call ⟨.builtin .append, #[x, y], #[t, t]⟩, ty, pos, af, none⟩ :: rest)) := by
  refine m_app (ts := it xs) (tn := it [k]) (news := ic [k]) (m' := xs.length + 1) (m := 1) (H' := H.eraseIdx i) T0 ht hx hy hd (by simp) (ints_oneCell .i64 [k]) (by simp) (by simp; omega) om
    (fun w c => ?_) (fun w c => .inr ⟨_, rfl, fun j u hu => ?_⟩) ?_
  · have := (c.drop.front hi).free (ic [k])
    rw [← it_eq] at this
    exact this.swap
  · match j, hu with
    | 0, hu =>
      have := hc_blk (M := M) (w0 := w0) 0 (o := 0) (v := .int .i64 k) (H := .blk g #[.int .i64 k] e' :: H) rfl rfl w c
      simp [ic] at hu
      subst hu
      simpa [Addr.add] using this
    | j + 1, hu => simp [ic] at hu
  · intro a cc
    have := h a cc
    unfold ints at this
    rwa [it_append] at this
end
end Go.Lg
namespace Go.Lg
section
variable {P : Program} {md : Region.Mode} {head tail : List Oper}
def reach (md : Region.Mode) (n : Nat) (ops : Array Oper) : Nat → Nat → Bool
  | 0, i => Region.waitsFor md ops n i
  | f + 1, i => Region.waitsFor md ops n i || (List.range n).any fun j => Region.waitsFor md ops j i && reach md n ops f j
def lastR (md : Region.Mode) (n : Nat) (ops : Array Oper) : Bool := (List.range n).all fun i => reach md n ops 4 i
def Closed (md : Region.Mode) (ops : Array Oper) (l : Array Bool) : Prop := ∀ j o, ops[j]? = some o → l.getD j false = true → ∀ e ∈ o.after, Region.binds md e = true → l.getD e.on false = true
theorem closed_none {md : Region.Mode} {ops : Array Oper} {n : Nat} : Closed md ops (Array.replicate n false) := fun j o _ h => by
  rw [getD_replicate_false] at h; cases h
theorem closed_set {ops : Array Oper} {l : Array Bool} {i : Nat} (h : Closed md ops l) (hr : i ∈ Region.ready md ops l) : Closed md ops (l.setIfInBounds i true) := fun j o ho hj e he hb => by
  obtain ⟨h1, o', ho', h2⟩ := mem_ready.1 hr
  have keep : ∀ q, l.getD q false = true → (l.setIfInBounds i true).getD q false = true := fun q hq => by
    simp only [Array.getD_eq_getD_getElem?, Array.getElem?_setIfInBounds] at hq ⊢
    split
    · split
      · rfl
      · rename_i h3 h4; subst h3; rw [Array.getElem?_eq_none om] at hq; exact hq
    · exact hq
  by_cases hij : i = j
  · subst hij
    have : o' = o := Option.some.inj (ho'.symm.trans ho)
    subst this
    exact keep _ (h2 e he hb)
  · refine keep _ (h j o ho ?_ e he hb)
    simp only [Array.getD_eq_getD_getElem?, Array.getElem?_setIfInBounds, if_neg hij] at hj ⊢
    exact hj
theorem tail_idleR (hl : lastR md head.length (head ++ tail).toArray = true) (hc : Region.chainB md (head ++ tail).toArray head.length = true) {l1 : Array Bool} {m i t : Nat} (hs : l1.size = head.length) (hcl : Closed md head.toArray l1) (hi : i < head.length) (hu : l1.getD i false = false) (ht : head.length ≤ t) :
    t ∉ Region.ready md (head ++ tail).toArray (pad l1 m) := fun hr => by
  obtain ⟨_, o, ho, hall⟩ := mem_ready.1 hr
  by_cases h : t = head.length
  · subst h
    have key : ∀ f q, q < head.length → reach md head.length (head ++ tail).toArray f q = true → l1.getD q false = true := by
      have direct : ∀ q, q < head.length → Region.waitsFor md (head ++ tail).toArray head.length q = true → l1.getD q false = true := fun q hq hw => by
        obtain ⟨o', ho', e, he, hbi, hon⟩ := Region.waitsFor_spec hw
        have : o' = o := Option.some.inj (ho'.symm.trans ho)
        subst this
        have := hall e he hbi
        rwa [hon, pad_lt false om] at this
      intro f
      induction f with
      | zero => intro q hq h; exact direct q hq h
      | succ f ih =>
        intro q hq h
        simp only [reach, Bool.or_eq_true] at h
        rcases h with h | h
        · exact direct q hq h
        · obtain ⟨j, hj, h2⟩ := List.any_eq_true.1 h
          simp only [Bool.and_eq_true] at h2
          have hjn := List.mem_range.1 hj
          obtain ⟨o', ho', e, he, hbi, hon⟩ := Region.waitsFor_spec h2.1
          rw [ops_lt hjn] at ho'
          have := hcl j o' ho' (ih j hjn h2.2) e he hbi
          rwa [hon] at this
    have := key 4 i hi (List.all_eq_true.1 hl i (List.mem_range.2 hi))
    rw [hu] at this
    cases this
  · have htl : t < (head ++ tail).toArray.size := (Array.getElem?_eq_some_iff.1 ho).1
    have h1 := List.all_eq_true.1 hc t (List.mem_range.2 htl)
    simp only [Bool.or_eq_true, decide_eq_true_eq] at h1
    rcases h1 with h1 | h1
    · omega
    · obtain ⟨o', ho', e, he, hbi, hon⟩ := Region.waitsFor_spec h1
      have : o' = o := Option.some.inj (ho'.symm.trans ho)
      subst this
      have := hall e he hbi
      rw [hon, pad_ge om] at this
      cases this
theorem any_tail2R {K : Act → World → Prop} {Q' : Exit → Act → World → Prop} {m : Nat} (hb : backB md head = true) (hl : lastR md head.length (head ++ tail).toArray = true) (hc : Region.chainB md (head ++ tail).toArray head.length = true)
    (hK : ∀ g a w, K a w → wpAny P md (head ++ tail).toArray Q' (g + m) (pad (Array.replicate head.length true) m) a w) :
    ∀ (f : Nat) (l1 : Array Bool) (a : Act) (w : World), l1.size = head.length → Closed md head.toArray l1 → wpAny P md head.toArray (Qn K) f l1 a w → wpAny P md (head ++ tail).toArray Q' (f + m) (pad l1 m) a w
  | f, l1, a, w, hs, hcl, h => by
    rcases least_ready (md := md) hb hs with hall | ⟨i, hi, hu, hr⟩
    · have hr : Region.ready md head.toArray l1 = [] := by
        cases hq : Region.ready md head.toArray l1 with
        | nil => rfl
        | cons j r =>
          have hj : j ∈ Region.ready md head.toArray l1 := by rw [hq]; simp
          obtain ⟨h1, o, ho, _⟩ := mem_ready.1 hj
          have hjn : j < head.length := by simpa using (Array.getElem?_eq_some_iff.1 ho).1
          have := hall j hjn
          rw [getD_both h1] at this
          cases this
      have hKa : K a w := by
        cases f with
        | zero => exact h.2
        | succ f => exact h.1 hr
      rw [all_pad hs hall]
      exact hK f a w hKa
    · cases f with
      | zero => have := h.1; rw [this] at hr; cases hr
      | succ f =>
        rw [show f + 1 + m = (f + m) + 1 by omega]
        refine ⟨fun h0 => ?_, fun j hj => ?_⟩
        · have := (ready_head (tail := tail) (m := m) hb hs hi).2 hr
          rw [h0] at this; cases this
        · have hjn : j < head.length := by
            rcases Nat.lt_or_ge j head.length with h1 | h1
            · exact h1
            · exact absurd hj (tail_idleR hl hc hs hcl hi hu h1)
          have hj' := (ready_head hb hs hjn).1 hj
          have h2 := wpOp_more (tail := tail) (Q := Q') hb hjn (h.2 j hj')
          rw [pad_set om]
          exact wpOp_mono (fun a' w' h3 => any_tail2R hb hl hc hK f _ a' w' (by simpa using hs) (closed_set hcl hj') h3) h2
end
section
variable {P : Program} {n : Nat} {C : World → Prop} {s : List (Nat × Value)} {Q : Exit → Act → World → Prop}
theorem c_mixR (S : World → Prop) (k : Nat) {id : Nat} {l : List Oper} (hm : P.follows .mixedOrders = true) (hb : backB .any (l.take k) = true) (hl : lastR .any (l.take k).length (l.take k ++ l.drop k).toArray = true)
    (hc : Region.chainB .any (l.take k ++ l.drop k).toArray (l.take k).length = true) (hs : Region.seqB .any (l.take k ++ l.drop k).toArray (l.drop k).length (l.take k).length (pad (Array.replicate (l.take k).length true) (l.drop k).length) = true)
    (hC : ∀ w, C w → C { w with drawn := w.drawn + 1 })
    (h : AT n C s (wpAnyH P .any (l.take k).toArray (Qn (wpList P l.toArray Q (l.drop k))) S (l.take k).length (Array.replicate (l.take k).length false))) : AT n C s ((Code.region id l.toArray true).wp P Q) := fun a w f c => by
  have e : l.take k ++ l.drop k = l := List.take_append_drop k l
  refine wp_region_any hm ?_
  have h1 := wpAny_of_held _ _ _ _ (h a _ f (hC w c))
  have h2 := any_tail2R (md := .any) (Q' := Q) (tail := l.drop k) (m := (l.drop k).length) hb hl hc (fun g a' w' hk => any_seq g (l.drop k) (l.take k).length _ a' w' (fun j => by simp only [List.getElem?_toArray]; rw [List.getElem?_append_right om]; congr 1; omega) hs (by rw [e]; exact hk)) (l.take k).length _ a _ (by simp) closed_none h1
  have e1 : pad (Array.replicate (l.take k).length false) (l.drop k).length = Array.replicate l.toArray.size false := by
    apply Array.ext'
    simp only [pad, Array.toList_append, Array.toList_replicate, List.replicate_append_replicate, ← List.length_append, e]
    rfl
  rw [e1, e, ← List.length_append, e] at h2
  exact h2
end
end Go.Lg
namespace Go.Lg
section
variable {P : Program} {md : Region.Mode} {head tail : List Oper} {ops : Array Oper}
theorem wpOp_qn {K0 K : Act → World → Prop} {Q : Exit → Act → World → Prop} {i : Nat} {a : Act} {w : World} (h : wpOp P ops (Qn K0) i K a w) : wpOp P ops Q i K a w := by
  unfold wpOp at h ⊢
  split
  · rename_i ho
    simpa [ho] using h
  · rename_i o ho
    simp only [ho] at h
    split
    · rename_i h1
      simp only [h1, if_true] at h
      exact h.imp upon_Qn (fun ⟨_, _, _, h⟩ => h.elim)
    · rename_i h1
      simp only [h1] at h
      exact h
theorem wpAny_qn {K : Act → World → Prop} {Q : Exit → Act → World → Prop} (hQ : ∀ a w, K a w → Q .normal a w) : ∀ (fuel : Nat) (listed : Array Bool) (a : Act) (w : World), wpAny P md ops (Qn K) fuel listed a w → wpAny P md ops Q fuel listed a w
  | 0, _, a, w, h => ⟨h.1, hQ a w h.2⟩
  | fuel + 1, _, a, w, h => ⟨fun h0 => hQ a w (h.1 h0), fun i hi => wpOp_qn (wpOp_mono (fun a' w' h' => wpAny_qn hQ fuel _ a' w' h') (h.2 i hi))⟩
end
section
variable {P : Program} {n : Nat} {C : World → Prop} {s : List (Nat × Value)} {Q : Exit → Act → World → Prop} {ops : Array Oper} {fuel : Nat} {listed : Array Bool}
variable {M : List Nat} {w0 : World} {H : List HE}
def QI (P : Program) (ops : Array Oper) (n : Nat) (C : World → Prop) (K : Act → Prop) (s : List (Nat × Value)) (fuel : Nat) (listed : Array Bool) : Prop := ∀ a, Fr n s a → wpAnyQ P .any ops C K fuel listed a
variable {K : Act → Prop}
theorem x_qn {K : Act → World → Prop} (h : AT n C s K) : AT n C s (Qn K .normal) := h
end
end Go.Lg
namespace Go.Lg
open Go.RowKit
section
variable {P : Program} {n : Nat} {C : World → Prop} {s : List (Nat × Value)} {Q : Exit → Act → World → Prop} {ops : Array Oper} {rest : List Oper}
variable {d ty t t' : Nat} {pos : String} {af : Array Edge} {v : Value} {x y : Operand} {M : List Nat} {w0 w : World} {H : List HE}

structure LentL (M : List Nat) (w0 : World) (H0 H : List HE) (M' : List Nat) (w : World) : Prop where
  sat : satL w H0 M'
  nodup : M'.Nodup
  others : ∃ f2, satL w H f2 ∧ (M' ++ f2).Nodup ∧ (∀ b ∈ M' ++ f2, b ∈ M ∨ w0.heap.size ≤ b) ∧ Kept M w0 w
theorem LentL.out {H0 : List HE} {M' : List Nat} {t : T} (h : LentL M w0 H0 H M' w) (hr : RdOut w0 M t v) : RdOut w M' t v := fun w' hb => by
  obtain ⟨f2, s2, nd, ge, kp⟩ := h.others
  refine hr w' (fun b hb1 hb2 => ?_)
  rw [hb b (Nat.lt_of_lt_of_le hb1 kp.size) (fun hm => ?_)]
  · exact kp.block b hb1 hb2
  · rcases ge b (by simp [hm]) with h | h
    · exact hb2 h
    · omega
theorem LentL.own {H0 : List HE} {M' : List Nat} {t : T} (j : Nat) (h : LentL M w0 H0 H M' w) (hj : H[j]? = some (.own t v)) : RdOut w M' t v := fun w' hb => by
  obtain ⟨f2, s2, nd, ge, kp⟩ := h.others
  obtain ⟨f, a, hin, hnd, _⟩ := s2.pick hj
  refine Own.rd (Own.loc a (fun b hm => hb b (s2.lt b (hin b hm)) (fun hm' => ?_)))
  exact (List.nodup_append.1 nd).2.2 b hm' b (hin b hm) rfl
theorem OwnL.at {w : World} {ts : List T} {vs : List Value} {f : List Nat} {q : Nat} {t : T} {v : Value} (h : OwnL w ts vs f) (ht : ts[q]? = some t) (hv : vs[q]? = some v) :
    ∃ fa ft fb, f = fa ++ (ft ++ fb) ∧ OwnL w (ts.take q) (vs.take q) fa ∧ Own w t v ft ∧ OwnL w (ts.drop (q + 1)) (vs.drop (q + 1)) fb := by
  have hq := (List.getElem?_eq_some_iff.1 ht).1
  have e1 : ts = ts.take q ++ (t :: ts.drop (q + 1)) := by
    conv => lhs; rw [← List.take_append_drop q ts]
    rw [List.drop_eq_getElem_cons hq]
    congr 2
    exact (List.getElem?_eq_some_iff.1 ht).2
  rw [e1] at h
  obtain ⟨v1, v2, f1, f2, ev, ef, h1, h2⟩ := h.split
  simp only [OwnL] at h2
  obtain ⟨u, v3, g1, g2, rfl, rfl, h3, h4⟩ := h2
  have hl : v1.length = q := by rw [OwnL.length h1, List.length_take]; omega
  subst ev
  have hu : u = v := by
    rw [List.getElem?_append_right om, hl, Nat.sub_self] at hv
    simpa using hv
  subst hu
  refine ⟨f1, g1, g2, ef, ?_, h3, ?_⟩
  · rw [List.take_left' hl]
    exact h1
  · have : (v1 ++ u :: v3).drop (q + 1) = v3 := by
      rw [show v1 ++ u :: v3 = (v1 ++ [u]) ++ v3 by simp]
      exact List.drop_left' (by simp [hl])
    rw [this]
    exact h4
end

section
variable {P : Program} {n : Nat} {C : World → Prop} {s : List (Nat × Value)} {w w0 : World} {M : List Nat} {H : List HE} {x y : Operand} {t ty : Nat} {v : Value}
theorem LentL.rd {H0 : List HE} {M' : List Nat} {tt : T} (h : LentL M w0 (.own tt v :: H0) H M' w) : Rd w tt v := by
  obtain ⟨f1, f2, _, h1, _⟩ := h.sat
  exact Own.rd h1
theorem y_ix0 (T : Tabs P) {e k b m cap g j : Nat} {z : List Value} {i : Int} (ht : lk T.sl t = some (e, k, b, z)) (hx : ev s x = some (.slice (some ⟨g, 0, none⟩) m cap)) (hy : ev s y = some (.int .i64 i)) (hi : i = (j : Int)) (h1 : j < m) :
    Y P n C s (.indexAddr t x y) ty (.pointer (some ⟨g, j * k, none⟩)) := by
  have h := y_ix (P := P) (n := n) (C := C) (s := s) (ty := ty) T ht hx hy om om
  subst hi
  simpa using h
end

end Go.Lg
namespace Go.Lg
open Go.RowKit
section
variable {P : Program} {n : Nat} {C S : World → Prop} {s : List (Nat × Value)} {Q : Exit → Act → World → Prop} {K : Act → World → Prop} {ops : Array Oper} {fuel : Nat} {listed : Array Bool}
variable {M : List Nat} {w0 : World} {H : List HE} {i0 d0 e0 : Nat} {z : List Value}

def FL (P : Program) (n : Nat) (M : List Nat) (w0 : World) (S : World → Prop) (ops : Array Oper) (K : Act → World → Prop) (i0 d0 e0 : Nat) (z : List Value) (H : List HE) (s : List (Nat × Value)) (fuel : Nat) (listed : Array Bool) : Prop :=
  AT n (Hp M w0 H) s (wpAnyH P .any ops (Qn K) S (fuel + 1) listed) ∧
  ∀ b, w0.heap.size ≤ b → AT n (Hp M w0 (H ++ [.blk b z.toArray e0])) (s ++ [(d0, .pointer (some ⟨b, 0, none⟩))]) (wpAnyH P .any ops (Qn K) S fuel (listed.setIfInBounds i0 true))
theorem c_all (S : World → Prop) {id : Nat} {l : List Oper} {Q : Exit → Act → World → Prop} (hm : P.follows .mixedOrders = true) (hC : ∀ w, C w → C { w with drawn := w.drawn + 1 })
    (h : AT n C s (wpAnyH P .any l.toArray (Qn (Q .normal)) S l.length (Array.replicate l.length false))) : AT n C s ((Code.region id l.toArray true).wp P Q) := fun a w f c => by
  refine wp_region_any hm ?_
  have := wpAny_qn (Q := Q) (fun a w h => h) _ _ _ _ (wpAny_of_held _ _ _ _ (h a _ f (hC w c)))
  simpa using this
end
end Go.Lg
namespace Go.Lg
open Go.RowKit
section
variable {P : Program} {n : Nat} {C : World → Prop} {s : List (Nat × Value)} {Q : Exit → Act → World → Prop} {ops : Array Oper} {rest : List Oper}
variable {d ty t t' : Nat} {pos : String} {af : Array Edge} {v : Value} {x y lo' : Operand} {M : List Nat} {w0 w : World} {H : List HE}
end
end Go.Lg
namespace Go.Lg
open Go.RowKit
section
variable {P : Program} {n : Nat} {C : World → Prop} {s : List (Nat × Value)} {Q : Exit → Act → World → Prop} {ops : Array Oper} {rest : List Oper}
variable {d ty t t' : Nat} {pos : String} {af : Array Edge} {v : Value} {x y lo' : Operand} {M : List Nat} {w0 w : World} {H : List HE}
def subA (a : Option Addr) (k lo cap : Nat) : Option Addr := if cap = lo then a else a.map (fun b => b.add (lo * k))
theorem Rd.part {e k m cap lo hi : Nat} {ts : List T} {a : Option Addr} (hr : Rd w (.s e k ts) (.slice a m cap)) (h1 : lo ≤ hi) (h2 : hi ≤ m) : Rd w (.s e k ((ts.drop (lo * k)).take ((hi - lo) * k))) (.slice (subA a k lo cap) (hi - lo) (cap - lo)) := by
  simp only [Rd] at hr ⊢
  obtain ⟨a', m', c', h3, h4, h5, h6, h7⟩ := hr
  cases h3
  have hkm : hi * k ≤ m * k := Nat.mul_le_mul_right k h2
  have hlk : lo * k + (hi - lo) * k = hi * k := by rw [← Nat.add_mul]; congr 1; omega
  refine ⟨_, hi - lo, cap - lo, rfl, by omega, by omega, by simp only [List.length_take, List.length_drop]; omega, ?_⟩
  by_cases hz : hi - lo = 0
  · rw [hz]; simp [RdL]
  · unfold subA
    rw [if_neg om]
    have key : ∀ (i : Nat) (t : T), ((ts.drop (lo * k)).take ((hi - lo) * k))[i]? = some t → ∃ b o u, a = some ⟨b, o, none⟩ ∧ w.cell? ⟨b, o + (lo * k + i), none⟩ = some u ∧ Rd w t u := fun i t ht => by
      rw [List.getElem?_take] at ht
      split at ht
      · rw [List.getElem?_drop] at ht
        obtain ⟨b, o, u, g1, g2, g3⟩ := h7.get _ _ ht
        exact ⟨b, o, u, g1, by simpa using g2, g3⟩
      · cases ht
    cases hl : (ts.drop (lo * k)).take ((hi - lo) * k) with
    | nil => simp [RdL]
    | cons t0 tl =>
      obtain ⟨b, o, u, g1, _, _⟩ := key 0 t0 (by rw [hl]; rfl)
      subst g1
      rw [← hl, Option.map_some, Addr.add_lit]
      refine RdL.of_get (fun i t ht => ?_)
      obtain ⟨b', o', u', g1', g2', g3'⟩ := key i t ht
      cases g1'
      exact ⟨u', by rw [Nat.zero_add, Nat.add_assoc]; exact g2', g3'⟩
theorem m_pushn (i : Nat) (T0 : Tabs P) {e g e' : Nat} {z : List Value} {xs : List Int} {k : Int} {c m : Nat} (ht : lk T0.sl t = some (e, 1, 8, z)) (hi : H[i]? = some (.own (ints e xs) v)) (hx : ev s x = some v) (hy : ev s y = some (.slice (some ⟨g, 0, none⟩) 1 c)) (hd : Nat.blt d n = true)
    (hl : xs.length = m) (hb : m ≤ 1099511627775)
    (h : ∀ a cc, AT n (Hp M w0 (.own (ints e (xs ++ [k])) (.slice a (m + 1) cc) :: H.eraseIdx i)) ((d, .slice a (m + 1) cc) :: s) (wpList P ops Q rest)) :
    AT n (Hp M w0 (.blk g #[.int .i64 k] e' :: H)) s (wpList P ops Q (⟨some d, .call ⟨.builtin .append, #[x, y], #[t, t]⟩, ty, pos, af, none⟩ :: rest)) := by
  subst hl
  exact m_pushi i T0 ht hi hx hy hd hb h
end
end Go.Lg
namespace Go.Lg
open Go.RowKit
section
variable {P : Program} {n : Nat} {S : World → Prop} {s : List (Nat × Value)} {K : Act → World → Prop} {ops : Array Oper} {fuel : Nat} {listed : Array Bool}
variable {M : List Nat} {w0 : World} {H : List HE} {i0 d0 e0 : Nat} {z : List Value}
end
end Go.Lg
namespace Go.Lg
open Go.RowKit
section
variable {P : Program} {n : Nat} {C S : World → Prop} {s : List (Nat × Value)} {Q : Exit → Act → World → Prop} {K : Act → World → Prop} {ops : Array Oper} {rest : List Oper} {fuel : Nat} {listed : Array Bool}
variable {d ty t t' : Nat} {pos : String} {af : Array Edge} {v : Value} {x y : Operand} {M : List Nat} {w0 w : World} {H : List HE}
theorem h_two (i j : Nat) {o o' : Oper} (hi : ops[i]? = some o) (hj : ops[j]? = some o') (hr : Region.ready .any ops listed = [i, j])
    (h : AT n C s (wpList P ops (Qk (fun a' w' => S w' ∧ wpAnyH P .any ops (Qn K) S fuel (listed.setIfInBounds i true) a' w') (Qn K)) [o]))
    (h' : AT n C s (wpList P ops (Qk (fun a' w' => S w' ∧ wpAnyH P .any ops (Qn K) S fuel (listed.setIfInBounds j true) a' w') (Qn K)) [o'])) : AT n C s (wpAnyH P .any ops (Qn K) S (fuel + 1) listed) := fun a w f c =>
  wpAnyH_all hr (by simp) (fun q hq => by
    rcases List.mem_cons.1 hq with e | hq
    · subst e; exact wpOp_list hi (h a w f c)
    · have e : q = j := by simpa using hq
      subst e; exact wpOp_list hj (h' a w f c))
theorem m_dup (i : Nat) (T0 : Tabs P) {e c : Nat} {z : List Value} {ys : List Int} {ad : Option Addr} (ht : lk T0.sl t = some (e, 1, 8, z)) (hi : H[i]? = some (.own (ints e []) v)) (hx : ev s x = some v) (hy : ev s y = some (.slice ad ys.length c)) (hd : Nat.blt d n = true)
    (hb : ys.length ≤ 1099511627776) (hs : ∀ w, Hp M w0 H w → Rd w (ints e ys) (.slice ad ys.length c))
    (h : ∀ a cc, SA a ys.length → AT n (Hp M w0 (.own (ints e ys) (.slice a ys.length cc) :: H.eraseIdx i)) ((d, .slice a ys.length cc) :: s) (wpList P ops Q rest)) :
    AT n (Hp M w0 H) s (wpList P ops Q (⟨some d, .call ⟨.builtin .append, #[x, y], #[t, t]⟩, ty, pos, af, none⟩ :: rest)) := by
  refine m_appi i T0 (xs := []) ht hi hx hy hd (by simpa using hb) (fun w c => rd_src (hs w c)) (fun a cc => ?_)
  simp only [List.nil_append, List.length_nil, Nat.zero_add]
  refine AT.fact (own_sl 0 rfl) (fun hsl => ?_)
  obtain ⟨a', c', e1, h1⟩ := hsl
  cases e1
  exact h a cc h1
variable {x0 x1 x2 x3 : Operand} {v0 v1 v2 v3 : Value}
theorem y_bld2 (hb : ∀ w, (Instr.build t #[(0, v0), (1, v1)]).run P w = .ok v w) (h0 : ev s x0 = some v0) (h1 : ev s x1 = some v1) : Y P n C s (.build t #[(0, x0), (1, x1)]) ty v := fun a w f c d pos af g => by
  simp [execOp, f.ev h0, f.ev h1, hb]
end
end Go.Lg
