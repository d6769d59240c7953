import Derived.Test.YtbpgnnejlablnaaLgY
namespace Go.Lg
open Go.RowKit
section
variable {P : Program} {n : Nat} {C : World → Prop} {s : List (Nat × Value)} {Q : Exit → Act → World → Prop} {ops : Array Oper} {rest : List Oper}
variable {d ty t t' : Nat} {pos : String} {af : Array Edge} {v : Value} {x y : Operand} {M : List Nat} {w0 w : World} {H : List HE}

theorem satL_split {w : World} : ∀ {H1 H2 : List HE} {fp : List Nat}, satL w (H1 ++ H2) fp → ∃ f1 f2, fp = f1 ++ f2 ∧ satL w H1 f1 ∧ satL w H2 f2 := by
  intro H1
  induction H1 with
  | nil => intro H2 fp h; exact ⟨[], fp, rfl, rfl, h⟩
  | cons a r ih =>
    intro H2 fp ⟨f1, f2, e, s1, s2⟩
    obtain ⟨g1, g2, e', a1, a2⟩ := ih s2
    exact ⟨f1 ++ g1, g2, by rw [e, e', List.append_assoc], ⟨f1, g1, rfl, s1, a1⟩, a2⟩
/-- some pieces are lent, the others stay -/
structure LentL (M : List Nat) (w0 : World) (H0 H : List HE) (M' : List Nat) (w : World) : Prop where
  sat : satL w H0 M'
  nodup : M'.Nodup
  others : ∃ f2, satL w H f2 ∧ (M' ++ f2).Nodup ∧ (∀ b ∈ M' ++ f2, b ∈ M ∨ w0.heap.size ≤ b) ∧ Kept M w0 w
theorem LentL.out {H0 : List HE} {M' : List Nat} {t : T} (h : LentL M w0 H0 H M' w) (hr : RdOut w0 M t v) : RdOut w M' t v := fun w' hb => by
  obtain ⟨f2, s2, nd, ge, kp⟩ := h.others
  refine hr w' (fun b hb1 hb2 => ?_)
  rw [hb b (Nat.lt_of_lt_of_le hb1 kp.size) (fun hm => ?_)]
  · exact kp.block b hb1 hb2
  · rcases ge b (by simp [hm]) with h | h
    · exact hb2 h
    · omega
theorem LentL.old {H0 : List HE} {M' : List Nat} {t : T} (h : LentL [] w0 H0 H M' w) (hr : Rd w0 t v) : RdOut w M' t v := h.out (RdOut.of_rd hr)
theorem LentL.own {H0 : List HE} {M' : List Nat} {t : T} (j : Nat) (h : LentL M w0 H0 H M' w) (hj : H[j]? = some (.own t v)) : RdOut w M' t v := fun w' hb => by
  obtain ⟨f2, s2, nd, ge, kp⟩ := h.others
  obtain ⟨f, a, hin, hnd, _⟩ := s2.pick hj
  refine Own.rd (Own.loc a (fun b hm => hb b (s2.lt b (hin b hm)) (fun hm' => ?_)))
  exact (List.nodup_append.1 nd).2.2 b hm' b (hin b hm) rfl
theorem m_callLs {H0 H1 : List HE} {f : Nat} {args : Array Operand} {vs : List Value} {φ : Value → List HE → Prop} {at' : Array Nat} (he : Ent P f) (ha : evs s args.toList = some vs) (hd : Nat.blt d n = true) (hp : ∀ w, Hp M w0 H w → Hp M w0 (H0 ++ H1) w)
    (hc : ∀ w M', LentL M w0 H0 H1 M' w → DoesB P f vs w M' φ) (h : ∀ v H', φ v H' → AT n (Hp M w0 (H' ++ H1)) ((d, v) :: s) (wpList P ops Q rest)) :
    AT n (Hp M w0 H) s (wpList P ops Q (⟨some d, .call ⟨.value (.func f), args, at'⟩, ty, pos, af, none⟩ :: rest)) := fun a w fr c => by
  refine wpList_one rfl ?_
  unfold Oper.wp
  have hm : args.map a.eval = vs.toArray := by
    rw [← fr.evs ha]
    apply Array.ext'
    simp
  have : (execOp a.eval ⟨some d, .call ⟨.value (.func f), args, at'⟩, ty, pos, af, none⟩).run P w = .ok (.enter f vs.toArray) w := by
    simp [execOp, resolve, Act.eval, Deferred.ofValue, hm, invoke, he vs.toArray w]
  rw [this]
  obtain ⟨fp, st, nd, ge, kp⟩ := hp w c
  obtain ⟨f1, f2, e, s1, s2⟩ := satL_split st
  subst e
  refine (hc w f1 ⟨s1, (List.nodup_append.1 nd).1, f2, s2, nd, ge, kp⟩).mono ?_
  rintro e w' ⟨v, H', rfl, hφ, hp'⟩
  exact h v H' hφ _ _ (fr.put (by simpa [Nat.blt_eq] using hd) v) (Hp.lend (H0 := H0) ⟨f2, s1, s2, nd, ge, kp⟩ hp')
theorem fnb_lentL {f : Nat} {fn : Func} {c : Code} {vs : List Value} {φ : Value → List HE → Prop} {H0 : List HE} {w1 : World} {M1 : List Nat} {H1 : List HE} {M' : List Nat} (hf : P.funcs[f]? = some fn) (hb : fn.body = some c) (hn : fn.ntmps = n) (hs : Nat.ble vs.length n = true)
    (hl : LentL M1 w1 H0 H1 M' w)
    (h : AT n (Hp M' w H0) (en 0 vs) (c.wp P (bodyPost P fn (fun e w' => ∃ v H, e = .returned v ∧ φ v H ∧ Hp M' w H w')))) : DoesB P f vs w M' φ :=
  fnb_start hf hb hn hs hl.sat hl.nodup h

/-- a slice of ours, opened: its block and its elements -/
theorem Hp.openS {e k m c : Nat} {ts : List T} {a : Option Addr} (hm : 0 < ts.length) (hp : Hp M w0 (.own (.s e k ts) (.slice a m c) :: H) w) :
    ∃ g cur vs, a = some ⟨g, 0, none⟩ ∧ cur.toList.take (m * k) = vs ∧ vs.length = ts.length ∧ ts.length = m * k ∧ m ≤ c ∧ c ≤ maxLen ∧ cur.size = c * k ∧ Hp M w0 (.ownL ts vs :: .blk g cur e :: H) w := by
  obtain ⟨fp, ⟨f1, f2, e1, s1, s2⟩, nd, ge, kp⟩ := hp
  simp only [HE.sat, Own] at s1
  rcases s1 with ⟨rfl, _, _⟩ | ⟨g, n', cap', cur, fp', h1, hg, hlen, hnc, hcm, hcs, hol, rfl⟩
  · simp at hm
  · cases h1
    subst e1
    refine ⟨g, cur, _, rfl, rfl, OwnL.length hol, hlen, hnc, hcm, hcs, fp' ++ ([g] ++ f2), ⟨fp', [g] ++ f2, rfl, hol, [g], f2, rfl, ⟨hg, rfl⟩, s2⟩, ?_, ?_, kp⟩
    · have : (fp' ++ ([g] ++ f2)).Perm ((g :: fp') ++ f2) := by
        rw [← List.append_assoc]
        exact List.Perm.append_right f2 List.perm_append_comm
      exact this.nodup_iff.2 nd
    · intro b hb
      refine ge b ?_
      simp only [List.mem_append, List.mem_cons, List.not_mem_nil, or_false] at hb ⊢
      rcases hb with h | h | h <;> simp [h]
/-- .. and shut again -/
theorem Hp.shutS {e k m c g : Nat} {ts : List T} {cur : Array Value} {vs : List Value} (hv : cur.toList.take (m * k) = vs) (hlen : ts.length = m * k) (hmc : m ≤ c) (hcm : c ≤ maxLen) (hcs : cur.size = c * k)
    (hp : Hp M w0 (.ownL ts vs :: .blk g cur e :: H) w) : Hp M w0 (.own (.s e k ts) (.slice (some ⟨g, 0, none⟩) m c) :: H) w :=
  Hp.join (H1 := [.ownL ts vs, .blk g cur e]) hp (fun f h => by
    obtain ⟨f1, f2, rfl, h1, f3, f4, rfl, ⟨hg, rfl⟩, h4⟩ := h
    simp only [satL] at h4; subst h4
    refine ⟨g :: f1, ?_, ?_⟩
    · simp only [List.append_nil]
      exact (List.perm_append_comm (l₁ := [g]) (l₂ := f1))
    · simp only [HE.sat, Own]
      exact .inr ⟨g, m, c, cur, f1, rfl, hg, hlen, hmc, hcm, hcs, by rw [hv]; exact h1, rfl⟩)
theorem AT.openS {R : Act → World → Prop} {e k m c : Nat} {ts : List T} {a : Option Addr} (hm : 0 < ts.length)
    (h : ∀ g cur vs, a = some ⟨g, 0, none⟩ → cur.toList.take (m * k) = vs → vs.length = ts.length → ts.length = m * k → m ≤ c → c ≤ maxLen → cur.size = c * k → AT n (Hp M w0 (.ownL ts vs :: .blk g cur e :: H)) s R) :
    AT n (Hp M w0 (.own (.s e k ts) (.slice a m c) :: H)) s R := fun ac w f hp => by
  obtain ⟨g, cur, vs, h1, h2, h3, h4, h5, h6, h7, hp'⟩ := hp.openS hm
  exact h g cur vs h1 h2 h3 h4 h5 h6 h7 ac w f hp'

/-- elements in three parts -/
theorem OwnL.at {w : World} {ts : List T} {vs : List Value} {f : List Nat} {q : Nat} {t : T} {v : Value} (h : OwnL w ts vs f) (ht : ts[q]? = some t) (hv : vs[q]? = some v) :
    ∃ fa ft fb, f = fa ++ (ft ++ fb) ∧ OwnL w (ts.take q) (vs.take q) fa ∧ Own w t v ft ∧ OwnL w (ts.drop (q + 1)) (vs.drop (q + 1)) fb := by
  have hq := (List.getElem?_eq_some_iff.1 ht).1
  have e1 : ts = ts.take q ++ (t :: ts.drop (q + 1)) := by
    conv => lhs; rw [← List.take_append_drop q ts]
    rw [List.drop_eq_getElem_cons hq]
    congr 2
    exact (List.getElem?_eq_some_iff.1 ht).2
  rw [e1] at h
  obtain ⟨v1, v2, f1, f2, ev, ef, h1, h2⟩ := h.split
  simp only [OwnL] at h2
  obtain ⟨u, v3, g1, g2, rfl, rfl, h3, h4⟩ := h2
  have hl : v1.length = q := by rw [OwnL.length h1, List.length_take]; omega
  subst ev
  have hu : u = v := by
    rw [List.getElem?_append_right (by omega), hl, Nat.sub_self] at hv
    simpa using hv
  subst hu
  refine ⟨f1, g1, g2, ef, ?_, h3, ?_⟩
  · rw [List.take_left' hl]
    exact h1
  · have : (v1 ++ u :: v3).drop (q + 1) = v3 := by
      rw [show v1 ++ u :: v3 = (v1 ++ [u]) ++ v3 by simp]
      exact List.drop_left' (by simp [hl])
    rw [this]
    exact h4
theorem OwnL.joined {w : World} {ts : List T} {vs : List Value} {fa ft fb : List Nat} {q : Nat} {t : T} {v : Value} (hq : q < ts.length) (hv : vs[q]? = some v) (h1 : OwnL w (ts.take q) (vs.take q) fa) (h2 : Own w t v ft) (h3 : OwnL w (ts.drop (q + 1)) (vs.drop (q + 1)) fb) : OwnL w (ts.set q t) vs (fa ++ (ft ++ fb)) := by
  have e1 : ts.set q t = ts.take q ++ (t :: ts.drop (q + 1)) := by
    rw [List.set_eq_take_append_cons_drop, if_pos hq]
  have hqv := (List.getElem?_eq_some_iff.1 hv).1
  have e2 : vs = vs.take q ++ (v :: vs.drop (q + 1)) := by
    conv => lhs; rw [← List.take_append_drop q vs]
    rw [List.drop_eq_getElem_cons hqv]
    congr 2
    exact (List.getElem?_eq_some_iff.1 hv).2
  rw [e1, e2]
  refine OwnL.append h1 ?_
  simp only [OwnL]
  exact ⟨v, _, ft, fb, rfl, rfl, h2, h3⟩
theorem Hp.rdE {q : Nat} {ts : List T} {vs : List Value} {t : T} {u : Value} (ht : ts[q]? = some t) (hv : vs[q]? = some u) (hp : Hp M w0 (.ownL ts vs :: H) w) : Rd w t u := by
  obtain ⟨fp, ⟨f1, f2, e1, s1, s2⟩, _⟩ := hp
  obtain ⟨fa, ft, fb, _, _, h, _⟩ := OwnL.at s1 ht hv
  exact Own.rd h
theorem Hp.partE {q : Nat} {ts : List T} {vs : List Value} {t : T} {u : Value} (ht : ts[q]? = some t) (hv : vs[q]? = some u) (hp : Hp M w0 (.ownL ts vs :: H) w) : Hp M w0 (.own t u :: .ownL (ts.take q) (vs.take q) :: .ownL (ts.drop (q + 1)) (vs.drop (q + 1)) :: H) w :=
  hp.say (H1 := [.own t u, .ownL (ts.take q) (vs.take q), .ownL (ts.drop (q + 1)) (vs.drop (q + 1))]) (fun f h => by
    obtain ⟨fa, ft, fb, rfl, h1, h2, h3⟩ := OwnL.at h ht hv
    refine ⟨ft ++ (fa ++ (fb ++ [])), ?_, ft, _, rfl, h2, fa, _, rfl, h1, fb, [], rfl, h3, rfl⟩
    rw [List.append_nil, ← List.append_assoc, ← List.append_assoc]
    exact List.Perm.append_right fb List.perm_append_comm)
theorem Hp.wholeE {q : Nat} {ts : List T} {vs : List Value} {t : T} {u : Value} (hq : q < ts.length) (hv : vs[q]? = some u) (hp : Hp M w0 (.own t u :: .ownL (ts.take q) (vs.take q) :: .ownL (ts.drop (q + 1)) (vs.drop (q + 1)) :: H) w) : Hp M w0 (.ownL (ts.set q t) vs :: H) w :=
  Hp.join (H1 := [.own t u, .ownL (ts.take q) (vs.take q), .ownL (ts.drop (q + 1)) (vs.drop (q + 1))]) hp (fun f h => by
    obtain ⟨ft, _, rfl, h2, fa, _, rfl, h1, fb, _, rfl, h3, h4⟩ := h
    simp only [satL] at h4; subst h4
    refine ⟨fa ++ (ft ++ fb), ?_, OwnL.joined hq hv h1 h2 h3⟩
    rw [List.append_nil, ← List.append_assoc, ← List.append_assoc]
    exact List.Perm.append_right fb List.perm_append_comm)
/-- a call that is lent an element of an opened slice -/
theorem m_callE (q : Nat) {ts : List T} {us : List Value} {t1 t2 : T} {u : Value} {f : Nat} {args : Array Operand} {vs : List Value} {ψ : Value → Prop} {at' : Array Nat} (he : Ent P f) (ha : evs s args.toList = some vs) (hd : Nat.blt d n = true) (ht : ts[q]? = some t1) (hu : us[q]? = some u)
    (hc : ∀ w M', LentL M w0 [.own t1 u] (.ownL (ts.take q) (us.take q) :: .ownL (ts.drop (q + 1)) (us.drop (q + 1)) :: H) M' w → DoesB P f vs w M' (fun r H' => ψ r ∧ H' = [.own t2 u])) (h : ∀ v, ψ v → AT n (Hp M w0 (.ownL (ts.set q t2) us :: H)) ((d, v) :: s) (wpList P ops Q rest)) :
    AT n (Hp M w0 (.ownL ts us :: H)) s (wpList P ops Q (⟨some d, .call ⟨.value (.func f), args, at'⟩, ty, pos, af, none⟩ :: rest)) :=
  m_callLs (H0 := [.own t1 u]) (H1 := .ownL (ts.take q) (us.take q) :: .ownL (ts.drop (q + 1)) (us.drop (q + 1)) :: H) he ha hd (fun w c => c.partE ht hu) hc (fun v H' hφ => by
    obtain ⟨h1, rfl⟩ := hφ
    exact AT.cls (fun w c => Hp.wholeE (List.getElem?_eq_some_iff.1 ht).1 hu c) (h v h1))
theorem OwnL.set_c {w : World} {u0 u : Value} : ∀ {ts : List T} {vs : List Value} {f : List Nat} {q : Nat}, OwnL w ts vs f → ts[q]? = some (.c u0) → OwnL w (ts.set q (.c u)) (vs.set q u) f
  | [], vs, f, q, h, ht => by simp at ht
  | t :: ts, vs, f, 0, h, ht => by
    simp at ht; subst ht
    simp only [OwnL, Own] at h
    obtain ⟨v, vs', f1, f2, rfl, rfl, ⟨rfl, rfl⟩, h2⟩ := h
    simp only [List.set_cons_zero, OwnL, Own]
    exact ⟨u, vs', [], f2, rfl, rfl, ⟨rfl, rfl⟩, h2⟩
  | t :: ts, vs, f, q + 1, h, ht => by
    simp only [OwnL] at h
    obtain ⟨v, vs', f1, f2, rfl, rfl, h1, h2⟩ := h
    simp only [List.set_cons_succ, OwnL]
    exact ⟨v, _, f1, f2, rfl, rfl, h1, OwnL.set_c h2 (by simpa using ht)⟩
/-- a plain cell of an opened slice is stored -/
theorem m_storeE {g q e : Nat} {cur : Array Value} {ts : List T} {us : List Value} {u0 u : Value} (T0 : Tabs P) (ht : lk T0.one t = some ()) (hx : ev s x = some (.pointer (some ⟨g, q, none⟩))) (hy : ev s y = some u) (hu : u.oneCell' = true) (ht1 : ts[q]? = some (.c u0)) (hq : q < cur.size)
    (h : AT n (Hp M w0 (.ownL (ts.set q (.c u)) (us.set q u) :: .blk g (cur.setIfInBounds q u) e :: H)) s (wpList P ops Q rest)) :
    AT n (Hp M w0 (.ownL ts us :: .blk g cur e :: H)) s (wpList P ops Q (⟨none, .store t x y, ty, pos, af, none⟩ :: rest)) := by
  refine m_store 1 T0 ht hx hy hu rfl hq (AT.cls (fun w c => ?_) h)
  exact Hp.say (H1 := [.ownL (ts.set q (.c u)) (us.set q u)]) c (fun f hf => ⟨f, List.Perm.refl _, f, [], by simp, OwnL.set_c hf ht1, rfl⟩)
end

section
variable {P : Program} {n : Nat} {C : World → Prop} {s : List (Nat × Value)} {w w0 : World} {M : List Nat} {H : List HE} {x y : Operand} {t ty : Nat} {v : Value}
/-- n pieces from the one number j on are brought to the front -/
theorem Hp.mid (j m : Nat) (hp : Hp M w0 H w) : Hp M w0 ((H.drop j).take m ++ (H.take j ++ H.drop (j + m))) w := by
  obtain ⟨fp, st, nd, ge, k⟩ := hp
  have e : H = H.take j ++ ((H.drop j).take m ++ H.drop (j + m)) := by
    rw [← List.drop_drop, List.take_append_drop, List.take_append_drop]
  rw [e] at st
  obtain ⟨f1, f23, e1, s1, s23⟩ := satL_split st
  obtain ⟨f2, f3, e2, s2, s3⟩ := satL_split s23
  subst e1; subst e2
  have pp : (f2 ++ (f1 ++ f3)).Perm (f1 ++ (f2 ++ f3)) := by
    rw [← List.append_assoc, ← List.append_assoc]
    exact List.Perm.append_right f3 List.perm_append_comm
  exact ⟨f2 ++ (f1 ++ f3), s2.append (s1.append s3), pp.nodup_iff.2 nd, fun b hb => ge b (pp.mem_iff.1 hb), k⟩
theorem LentL.rd {H0 : List HE} {M' : List Nat} {tt : T} (h : LentL M w0 (.own tt v :: H0) H M' w) : Rd w tt v := by
  obtain ⟨f1, f2, _, h1, _⟩ := h.sat
  exact Own.rd h1
/-- an element's address in a slice whose block begins with it -/
theorem y_ix0 (T : Tabs P) {e k b m cap g j : Nat} {z : List Value} {i : Int} (ht : lk T.sl t = some (e, k, b, z)) (hx : ev s x = some (.slice (some ⟨g, 0, none⟩) m cap)) (hy : ev s y = some (.int .i64 i)) (hi : i = (j : Int)) (h1 : j < m) :
    Y P n C s (.indexAddr t x y) ty (.pointer (some ⟨g, j * k, none⟩)) := by
  have h := y_ix (P := P) (n := n) (C := C) (s := s) (ty := ty) T ht hx hy (by omega) (by omega)
  subst hi
  simpa using h
theorem y_ix01 (T : Tabs P) {e b m cap g j : Nat} {z : List Value} {i : Int} (ht : lk T.sl t = some (e, 1, b, z)) (hx : ev s x = some (.slice (some ⟨g, 0, none⟩) m cap)) (hy : ev s y = some (.int .i64 i)) (hi : i = (j : Int)) (h1 : j < m) :
    Y P n C s (.indexAddr t x y) ty (.pointer (some ⟨g, j, none⟩)) := by
  have h := y_ix0 (P := P) (n := n) (C := C) (s := s) (ty := ty) T ht hx hy hi h1
  simpa using h
end

/-! ### marks -/
mutual
/-- the datum whose numbers count up from k -/
def mkT (k : Int) : T → T
  | .c _ => .c (.int .i64 k)
  | .s e n ts => .s e n (mkL k ts)
def mkL (k : Int) : List T → List T
  | [] => []
  | t :: ts => mkT k t :: mkL (k + nT t) ts
/-- how many numbers a datum has -/
def nT : T → Int
  | .c _ => 1
  | .s _ _ ts => nL ts
def nL : List T → Int
  | [] => 0
  | t :: ts => nT t + nL ts
end
mutual
theorem nT_pos : ∀ t : T, 0 ≤ nT t
  | .c _ => by simp [nT]
  | .s _ _ ts => by simp only [nT]; exact nL_pos ts
theorem nL_pos : ∀ ts : List T, 0 ≤ nL ts
  | [] => by simp [nL]
  | t :: ts => by simp only [nL]; have := nT_pos t; have := nL_pos ts; omega
end
theorem nL_append : ∀ a b : List T, nL (a ++ b) = nL a + nL b
  | [], b => by simp [nL]
  | t :: a, b => by simp only [List.cons_append, nL, nL_append a b]; omega
theorem mkL_append : ∀ (k : Int) (a b : List T), mkL k (a ++ b) = mkL k a ++ mkL (k + nL a) b
  | k, [], b => by simp [mkL, nL]
  | k, t :: a, b => by simp only [List.cons_append, mkL, nL, mkL_append _ a b]; rw [Int.add_assoc]
@[simp] theorem mkL_length : ∀ (k : Int) (a : List T), (mkL k a).length = a.length
  | k, [] => rfl
  | k, t :: a => by simp [mkL, mkL_length _ a]
theorem mkL_get : ∀ {a : List T} {k : Int} {q : Nat} {t : T}, a[q]? = some t → (mkL k a)[q]? = some (mkT (k + nL (a.take q)) t)
  | [], k, q, t, h => by simp at h
  | u :: a, k, 0, t, h => by
    simp at h; subst h
    simp [mkL, nL]
  | u :: a, k, q + 1, t, h => by
    have := mkL_get (k := k + nT u) (show a[q]? = some t by simpa using h)
    simp only [mkL, List.getElem?_cons_succ, List.take_succ_cons, nL]
    rw [this, Int.add_assoc]
theorem nL_next {a : List T} {q : Nat} {t : T} (h : a[q]? = some t) : nL (a.take (q + 1)) = nL (a.take q) + nT t := by
  rw [List.take_add_one, h, nL_append]
  simp [nL]
theorem nL_le (a : List T) (q : Nat) : nL (a.take q) ≤ nL a := by
  conv => rhs; rw [← List.take_append_drop q a]
  rw [nL_append]
  have := nL_pos (a.drop q)
  omega
/-- marked up to q -/
def mkTo (k : Int) (a : List T) (q : Nat) : List T := mkL k (a.take q) ++ a.drop q
@[simp] theorem mkTo_length {k : Int} {a : List T} {q : Nat} : (mkTo k a q).length = a.length := by
  unfold mkTo; simp; omega
theorem mkTo_get {k : Int} {a : List T} {q : Nat} {t : T} (h : a[q]? = some t) : (mkTo k a q)[q]? = some t := by
  have hq := (List.getElem?_eq_some_iff.1 h).1
  unfold mkTo
  rw [List.getElem?_append_right (by simp; omega)]
  simp only [mkL_length, List.length_take, List.getElem?_drop]
  rw [show q + (q - min q a.length) = q by omega]
  exact h
theorem mkTo_next {k : Int} {a : List T} {q : Nat} {t : T} (h : a[q]? = some t) : (mkTo k a q).set q (mkT (k + nL (a.take q)) t) = mkTo k a (q + 1) := by
  have hq := (List.getElem?_eq_some_iff.1 h).1
  unfold mkTo
  have hd : a.drop q = t :: a.drop (q + 1) := by
    rw [List.drop_eq_getElem_cons hq]
    congr 1
    exact (List.getElem?_eq_some_iff.1 h).2
  rw [List.take_add_one, h, mkL_append, hd]
  rw [List.set_append_right _ _ (by simp; omega)]
  simp only [mkL_length, List.length_take]
  rw [show q - min q a.length = 0 by omega]
  simp [mkL]
theorem mkTo_zero {k : Int} {a : List T} : mkTo k a 0 = a := by simp [mkTo, mkL]
theorem mkTo_end {k : Int} {a : List T} {q : Nat} (h : a.length ≤ q) : mkTo k a q = mkL k a := by
  unfold mkTo
  rw [List.take_of_length_le h, List.drop_of_length_le h, List.append_nil]
theorem mk_it : ∀ (k : Int) (xs : List Int), mkL k (it xs) = it ((List.range xs.length).map (fun (i : Nat) => k + (i : Int)))
  | k, [] => rfl
  | k, x :: xs => by
    have := mk_it (k + 1) xs
    simp only [it, List.map_cons, mkL, mkT, nT] at this ⊢
    rw [this]
    simp [List.range_succ_eq_map, Function.comp_def, Int.add_assoc, Int.add_comm 1]
theorem nL_it : ∀ xs : List Int, nL (it xs) = xs.length
  | [] => rfl
  | x :: xs => by
    have := nL_it xs
    simp only [it, List.map_cons, nL, nT, List.length_cons] at this ⊢
    rw [this]; omega
def upto (k : Int) (n : Nat) : List Int := (List.range n).map (fun (i : Nat) => k + (i : Int))
@[simp] theorem upto_length {k : Int} {n : Nat} : (upto k n).length = n := by simp [upto]
theorem mkT_ints (k : Int) (e : Nat) (xs : List Int) : mkT k (ints e xs) = ints e (upto k xs.length) := by
  simp only [ints, mkT, mk_it, upto]
theorem nT_ints (e : Nat) (xs : List Int) : nT (ints e xs) = xs.length := by simp only [ints, nT, nL_it]
end Go.Lg
