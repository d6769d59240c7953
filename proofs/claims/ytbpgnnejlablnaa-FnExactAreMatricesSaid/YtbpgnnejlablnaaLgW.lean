import Derived.Test.YtbpgnnejlablnaaLgV
namespace Go.Lg
open Go.RowKit
section
variable {P : Program} {n : Nat} {C : World → Prop} {s : List (Nat × Value)} {Q : Exit → Act → World → Prop} {ops : Array Oper} {rest : List Oper}
variable {d ty t t' : Nat} {pos : String} {af : Array Edge} {v : Value} {x y : Operand} {M : List Nat} {w0 w : World} {H : List HE} {p q : Int}

/-- sums and products of natural numbers -/
theorem y_muln {a b : Nat} (hx : ev s x = some (.int .i64 p)) (hy : ev s y = some (.int .i64 q)) (hp : p = (a : Int)) (hq : q = (b : Int)) (hr : a * b ≤ 9223372036854775807) : Y P n C s (.binOp .mul t x y t') ty (.int .i64 ((a * b : Nat) : Int)) := by
  subst hp; subst hq
  have e : (a : Int) * (b : Int) = ((a * b : Nat) : Int) := by simp
  have := y_mul (P := P) (n := n) (C := C) (t := t) (t' := t') (ty := ty) hx hy (by rw [e]; omega)
  rwa [e] at this
theorem y_addn {a b : Nat} (hx : ev s x = some (.int .i64 p)) (hy : ev s y = some (.int .i64 q)) (hp : p = (a : Int)) (hq : q = (b : Int)) (hr : a + b ≤ 9223372036854775807) : Y P n C s (.binOp .add t x y t') ty (.int .i64 ((a + b : Nat) : Int)) := by
  subst hp; subst hq
  have e : (a : Int) + (b : Int) = ((a + b : Nat) : Int) := by simp
  have := y_add (P := P) (n := n) (C := C) (t := t) (t' := t') (ty := ty) hx hy (by omega)
  rwa [e] at this
/-- an element's address in a slice that is there -/
theorem y_ixs (T : Tabs P) {e b m cap g o j : Nat} {z : List Value} {i : Int} (ht : lk T.sl t = some (e, 1, b, z)) (hx : ev s x = some (.slice (some ⟨g, o, none⟩) m cap)) (hy : ev s y = some (.int .i64 i)) (hi : i = (j : Int)) (h1 : j < m) :
    Y P n C s (.indexAddr t x y) ty (.pointer (some ⟨g, o + j, none⟩)) := by
  have h := y_ix (P := P) (n := n) (C := C) (s := s) (ty := ty) T ht hx hy (by omega) (by omega)
  subst hi
  simpa using h

theorem y_bld0 (hb : ∀ w, (Instr.build t #[]).run P w = .ok v w) : Y P n C s (.build t #[]) ty v := fun a w f c d pos af g => by
  simp [execOp, hb]
/-- a piece is lent, the others stay -/
structure Lent (M : List Nat) (w0 : World) (h0 : HE) (H : List HE) (M' : List Nat) (w : World) : Prop where
  sat : h0.sat w M'
  nodup : M'.Nodup
  others : ∃ f2, satL w H f2 ∧ (M' ++ f2).Nodup ∧ (∀ b ∈ M' ++ f2, b ∈ M ∨ w0.heap.size ≤ b) ∧ Kept M w0 w
theorem Lent.satL {h0 : HE} {M' : List Nat} (h : Lent M w0 h0 H M' w) : satL w [h0] M' := ⟨M', [], by simp, h.sat, rfl⟩
/-- what reads, whatever becomes of the blocks of M -/
def RdOut (w : World) (M : List Nat) (t : T) (v : Value) : Prop := ∀ w' : World, (∀ b, b < w.heap.size → b ∉ M → w'.heap[b]? = w.heap[b]?) → Rd w' t v
theorem RdOut.of_rd {t : T} (h : Rd w t v) : RdOut w [] t v := fun _ hb => h.mono (fun b hb' => hb b hb' (by simp))
theorem RdOut.rd {t : T} (h : RdOut w0 M t v) (c : Hp M w0 H w) : Rd w t v := h w c.kept.block
theorem Lent.out {h0 : HE} {M' : List Nat} {t : T} (h : Lent M w0 h0 H M' w) (hr : RdOut w0 M t v) : RdOut w M' t v := fun w' hb => by
  obtain ⟨f2, s2, nd, ge, kp⟩ := h.others
  refine hr w' (fun b hb1 hb2 => ?_)
  rw [hb b (Nat.lt_of_lt_of_le hb1 kp.size) (fun hm => ?_)]
  · exact kp.block b hb1 hb2
  · rcases ge b (by simp [hm]) with h | h
    · exact hb2 h
    · omega
theorem Lent.old {h0 : HE} {M' : List Nat} {t : T} (h : Lent [] w0 h0 H M' w) (hr : Rd w0 t v) : RdOut w M' t v := h.out (RdOut.of_rd hr)
theorem Lent.own {h0 : HE} {M' : List Nat} {t : T} (j : Nat) (h : Lent M w0 h0 H M' w) (hj : H[j]? = some (.own t v)) : RdOut w M' t v := fun w' hb => by
  obtain ⟨f2, s2, nd, ge, kp⟩ := h.others
  obtain ⟨f, a, hin, hnd, _⟩ := s2.pick hj
  refine Own.rd (Own.loc a (fun b hm => hb b (s2.lt b (hin b hm)) (fun hm' => ?_)))
  exact (List.nodup_append.1 nd).2.2 b hm' b (hin b hm) rfl
theorem m_callL (i : Nat) {h0 : HE} {f : Nat} {args : Array Operand} {vs : List Value} {φ : Value → List HE → Prop} {at' : Array Nat} (he : Ent P f) (ha : evs s args.toList = some vs) (hd : Nat.blt d n = true) (hi : H[i]? = some h0)
    (hc : ∀ w M', Lent M w0 h0 (H.eraseIdx i) M' w → DoesB P f vs w M' φ) (h : ∀ v H', φ v H' → AT n (Hp M w0 (H' ++ H.eraseIdx i)) ((d, v) :: s) (wpList P ops Q rest)) :
    AT n (Hp M w0 H) s (wpList P ops Q (⟨some d, .call ⟨.value (.func f), args, at'⟩, ty, pos, af, none⟩ :: rest)) := fun a w fr c => by
  refine wpList_one rfl ?_
  unfold Oper.wp
  have hm : args.map a.eval = vs.toArray := by
    rw [← fr.evs ha]
    apply Array.ext'
    simp
  have : (execOp a.eval ⟨some d, .call ⟨.value (.func f), args, at'⟩, ty, pos, af, none⟩).run P w = .ok (.enter f vs.toArray) w := by
    simp [execOp, resolve, Act.eval, Deferred.ofValue, hm, invoke, he vs.toArray w]
  rw [this]
  obtain ⟨fp, ⟨f1, f2, e, s1, s2⟩, nd, ge, kp⟩ := c.front hi
  subst e
  refine (hc w f1 ⟨s1, (List.nodup_append.1 nd).1, f2, s2, nd, ge, kp⟩).mono ?_
  rintro e w' ⟨v, H', rfl, hφ, hp'⟩
  exact h v H' hφ _ _ (fr.put (by simpa [Nat.blt_eq] using hd) v) (Hp.lend (H0 := [h0]) ⟨f2, ⟨f1, [], by simp, s1, rfl⟩, s2, nd, ge, kp⟩ hp')
/-- the beginning of a function that is lent a piece -/
theorem fnb_lent {f : Nat} {fn : Func} {c : Code} {vs : List Value} {φ : Value → List HE → Prop} {h0 : HE} {w1 : World} {M1 : List Nat} {H1 : List HE} {M' : List Nat} (hf : P.funcs[f]? = some fn) (hb : fn.body = some c) (hn : fn.ntmps = n) (hs : Nat.ble vs.length n = true)
    (hl : Lent M1 w1 h0 H1 M' w)
    (h : AT n (Hp M' w [h0]) (en 0 vs) (c.wp P (bodyPost P fn (fun e w' => ∃ v H, e = .returned v ∧ φ v H ∧ Hp M' w H w')))) : DoesB P f vs w M' φ :=
  fnb_start hf hb hn hs hl.satL hl.nodup h

/-- one more int -/
theorem m_pushi (i : Nat) (T0 : Tabs P) {e g e' : Nat} {z : List Value} {xs : List Int} {k : Int} {c : Nat} (ht : lk T0.sl t = some (e, 1, 8, z)) (hi : H[i]? = some (.own (ints e xs) v)) (hx : ev s x = some v) (hy : ev s y = some (.slice (some ⟨g, 0, none⟩) 1 c)) (hd : Nat.blt d n = true)
    (hb : xs.length ≤ 1099511627775)
    (h : ∀ a cc, AT n (Hp M w0 (.own (ints e (xs ++ [k])) (.slice a (xs.length + 1) cc) :: H.eraseIdx i)) ((d, .slice a (xs.length + 1) cc) :: s) (wpList P ops Q rest)) :
    AT n (Hp M w0 (.blk g #[.int .i64 k] e' :: H)) s (wpList P ops Q (⟨some d, .call ⟨.builtin .append, #[x, y], #[t, t]⟩, ty, pos, af, none⟩ :: rest)) := by
  refine m_app (ts := it xs) (tn := it [k]) (news := ic [k]) (m' := xs.length + 1) (m := 1) (H' := H.eraseIdx i) T0 ht hx hy hd (by simp) (ints_oneCell .i64 [k]) (by simp) (by simp; omega) (by omega)
    (fun w c => ?_) (fun w c => .inr ⟨_, rfl, fun j u hu => ?_⟩) ?_
  · have := (c.drop.front hi).free (ic [k])
    rw [← it_eq] at this
    exact this.swap
  · match j, hu with
    | 0, hu =>
      have := hc_blk (M := M) (w0 := w0) 0 (o := 0) (v := .int .i64 k) (H := .blk g #[.int .i64 k] e' :: H) rfl rfl w c
      simp [ic] at hu
      subst hu
      simpa [Addr.add] using this
    | j + 1, hu => simp [ic] at hu
  · intro a cc
    have := h a cc
    unfold ints at this
    rwa [it_append] at this
/-- one more element of any kind: its cells stand in the block, its pieces are ours -/
theorem m_pushT (i : Nat) (T0 : Tabs P) {e g e' k b c m' : Nat} {z : List Value} {ts tn : List T} {cs : Array Value} {H2 : List HE} (ht : lk T0.sl t = some (e, k, b, z)) (hx : ev s x = some v) (hy : ev s y = some (.slice (some ⟨g, 0, none⟩) 1 c)) (hd : Nat.blt d n = true)
    (hl : Nat.beq cs.size k = true) (hu : cs.toList.all (·.oneCell') = true) (hm : ts.length = m' * k) (hb : (ts.length + k) * b ≤ 140737488355328) (hb1 : 1 ≤ b) (hi : H[i]? = some (.own (.s e k ts) v))
    (hn : tn.length = k) (hp2 : ∀ w, Hp M w0 (.own (.s e k ts) v :: H.eraseIdx i) w → Hp M w0 (.own (.s e k ts) v :: .ownL tn cs.toList :: H2) w)
    (h : ∀ a cc, AT n (Hp M w0 (.own (.s e k (ts ++ tn)) (.slice a (m' + 1) cc) :: H2)) ((d, .slice a (m' + 1) cc) :: s) (wpList P ops Q rest)) :
    AT n (Hp M w0 (.blk g cs e' :: H)) s (wpList P ops Q (⟨some d, .call ⟨.builtin .append, #[x, y], #[t, t]⟩, ty, pos, af, none⟩ :: rest)) := by
  have hl' := Nat.eq_of_beq_eq_true hl
  refine m_app (ts := ts) (tn := tn) (news := cs.toList) (m' := m' + 1) (m := 1) (H' := H2) T0 ht hx hy hd (by simpa using hl') (fun u hu' => List.all_eq_true.1 hu u hu') (by rw [hm, hn, Nat.succ_mul]) (by simpa [hl'] using hb) hb1
    (fun w c => hp2 w (c.drop.front hi)) (fun w c => .inr ⟨_, rfl, fun j u hu => ?_⟩) h
  have := hc_blk (M := M) (w0 := w0) 0 (o := j) (v := u) (H := .blk g cs e' :: H) rfl (by simpa using hu) w c
  rw [Addr.add_lit]
  simpa using this
end
end Go.Lg
