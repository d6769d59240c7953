import Derived.Test.YtbpgnnejlablnaaLgE
namespace Go.Lg
open Go.RowKit

section
variable {P : Program} {n : Nat} {C : World → Prop} {s : List (Nat × Value)} {Q : Exit → Act → World → Prop} {ops : Array Oper} {rest : List Oper}
variable {d ty t t' : Nat} {pos : String} {af : Array Edge} {v : Value} {x y : Operand} {M : List Nat} {w0 w : World} {H : List HE}

/-- pieces without blocks are there for the asking -/
theorem Hp.free (us : List Value) (hp : Hp M w0 H w) : Hp M w0 (.ownL (us.map T.c) us :: H) w := by
  obtain ⟨fp, s, r⟩ := hp
  exact ⟨fp, ⟨[], fp, rfl, OwnL.consts us, s⟩, r⟩
theorem Hp.nilp (e k : Nat) (hp : Hp M w0 H w) : Hp M w0 (.own (.s e k []) (.slice none 0 0) :: H) w := by
  obtain ⟨fp, s, r⟩ := hp
  exact ⟨fp, ⟨[], fp, rfl, by simp [HE.sat, Own], s⟩, r⟩
theorem Hp.swap {a b : HE} (hp : Hp M w0 (a :: b :: H) w) : Hp M w0 (b :: a :: H) w := hp.front (i := 1) rfl
/-- a slice that is ours is a slice -/
theorem Hp.form {e k : Nat} {ts : List T} {m : Nat} (hk : 0 < k) (hm : ts.length = m * k) (hp : Hp M w0 (.own (.s e k ts) v :: H) w) : ∃ a c, v = .slice a m c := by
  obtain ⟨fp, ⟨f1, f2, _, h, _⟩, _⟩ := hp
  simp only [HE.sat, Own] at h
  rcases h with ⟨rfl, rfl, _⟩ | ⟨g, n, cap, cur, fp', rfl, _, h3, _⟩
  · simp only [List.length_nil] at hm
    have : m = 0 := by rcases Nat.mul_eq_zero.1 hm.symm with h | h <;> omega
    exact ⟨none, 0, by rw [this]⟩
  · have : n = m := Nat.eq_of_mul_eq_mul_right hk (by rw [← h3, hm])
    exact ⟨some ⟨g, 0, none⟩, cap, by rw [this]⟩
/-- a single piece as a list of one -/
theorem Hp.single {t : T} (hp : Hp M w0 (.own t v :: H) w) : Hp M w0 (.ownL [t] [v] :: H) w :=
  hp.say (H1 := [.ownL [t] [v]]) (fun f h => ⟨f, List.Perm.refl _, f, [], by simp, ⟨v, [], f, [], rfl, by simp, h, rfl, rfl⟩, rfl⟩)
/-- .. with values ahead of it -/
theorem Hp.ahead (u : Value) {ts : List T} {vs : List Value} (hp : Hp M w0 (.ownL ts vs :: H) w) : Hp M w0 (.ownL (.c u :: ts) (u :: vs) :: H) w :=
  hp.say (H1 := [.ownL (.c u :: ts) (u :: vs)]) (fun f h => ⟨f, List.Perm.refl _, f, [], by simp, by
    simp only [HE.sat, OwnL]; exact ⟨u, vs, [], f, rfl, rfl, by simp [Own], h⟩, rfl⟩)
/-- .. two lists joined -/
theorem Hp.cat {t1 t2 : List T} {v1 v2 : List Value} (hp : Hp M w0 (.ownL t1 v1 :: .ownL t2 v2 :: H) w) : Hp M w0 (.ownL (t1 ++ t2) (v1 ++ v2) :: H) w :=
  Hp.join (H1 := [.ownL t1 v1, .ownL t2 v2]) hp (fun f h => by
    obtain ⟨f1, f2, rfl, h1, f3, f4, rfl, h3, h4⟩ := h
    simp only [satL] at h4; subst h4
    exact ⟨f1 ++ (f3 ++ []), List.Perm.refl _, by simpa [HE.sat] using OwnL.append h1 h3⟩)

/-- append, whatever is appended -/
theorem m_app (T0 : Tabs P) {e k b m' m c : Nat} {z : List Value} {ts tn : List T} {news : List Value} {ad : Option Addr} {H' : List HE} (ht : lk T0.sl t = some (e, k, b, z)) (hx : ev s x = some v) (hy : ev s y = some (.slice ad m c)) (hd : Nat.blt d n = true)
    (hl : news.length = m * k) (h1 : ∀ u ∈ news, u.oneCell' = true) (hm : ts.length + tn.length = m' * k) (hb : (ts.length + news.length) * b ≤ 140737488355328) (hb1 : 1 ≤ b)
    (hp : ∀ w, Hp M w0 H w → Hp M w0 (.own (.s e k ts) v :: .ownL tn news :: H') w)
    (hs : ∀ w, Hp M w0 H w → m = 0 ∨ ∃ a, ad = some a ∧ ∀ j u, news[j]? = some u → w.cell? (a.add j) = some u)
    (h : ∀ a cc, AT n (Hp M w0 (.own (.s e k (ts ++ tn)) (.slice a m' cc) :: H')) ((d, .slice a m' cc) :: s) (wpList P ops Q rest)) :
    AT n (Hp M w0 H) s (wpList P ops Q (⟨some d, .call ⟨.builtin .append, #[x, y], #[t, t]⟩, ty, pos, af, none⟩ :: rest)) := fun a w f cw => by
  obtain ⟨v', w', hr, hp'⟩ := run_app (ty := ty) (c := c) T0 ht (hp w cw) hl h1 (hs w cw) hb hb1
  obtain ⟨a', c', rfl⟩ := hp'.form (T0.sl_ok _ _ _ _ _ ht).2.2.1 (by rw [List.length_append]; exact hm)
  refine wpList_one rfl ?_
  unfold Oper.wp
  have : (execOp a.eval ⟨some d, .call ⟨.builtin .append, #[x, y], #[t, t]⟩, ty, pos, af, none⟩).run P w = .ok (.value (.slice a' m' c')) w' := by
    simp [execOp, resolve, invoke, builtin, f.ev hx, f.ev hy, hr]
  rw [this]
  exact h a' c' _ _ (f.put (by simpa [Nat.blt_eq] using hd) _) hp'

/-- append of ints to ints of ours -/
theorem m_appi (i : Nat) (T0 : Tabs P) {e c : Nat} {z : List Value} {xs ys : List Int} {ad : Option Addr} (ht : lk T0.sl t = some (e, 1, 8, z)) (hi : H[i]? = some (.own (ints e xs) v)) (hx : ev s x = some v) (hy : ev s y = some (.slice ad ys.length c)) (hd : Nat.blt d n = true)
    (hb : xs.length + ys.length ≤ 1099511627776)
    (hs : ∀ w, Hp M w0 H w → ys = [] ∨ ∃ a, ad = some a ∧ ∀ j u, (ic ys)[j]? = some u → w.cell? (a.add j) = some u)
    (h : ∀ a cc, AT n (Hp M w0 (.own (ints e (xs ++ ys)) (.slice a (xs.length + ys.length) cc) :: H.eraseIdx i)) ((d, .slice a (xs.length + ys.length) cc) :: s) (wpList P ops Q rest)) :
    AT n (Hp M w0 H) s (wpList P ops Q (⟨some d, .call ⟨.builtin .append, #[x, y], #[t, t]⟩, ty, pos, af, none⟩ :: rest)) := by
  refine m_app (ts := it xs) (tn := it ys) (news := ic ys) (m' := xs.length + ys.length) (H' := H.eraseIdx i) T0 ht hx hy hd (by simp) (ints_oneCell .i64 ys) (by simp) (by simp; omega) (by omega)
    (fun w c => ?_) (fun w c => ?_) ?_
  · have := (c.front hi).free (ic ys)
    rw [← it_eq] at this
    exact this.swap
  · rcases hs w c with h | h
    · exact .inl (by simp [h])
    · exact .inr h
  · intro a cc
    have := h a cc
    unfold ints at this
    rwa [it_append] at this

theorem fold_set : ∀ (us : List Value) (j : Nat) (cur : Array Value) (q : Nat), j + us.length ≤ cur.size →
    ((us.zipIdx j).foldl (fun cs (p : Value × Nat) => cs.setIfInBounds p.2 p.1) cur)[q]? = if j ≤ q ∧ q < j + us.length then us[q - j]? else cur[q]?
  | [], j, cur, q, h => by
    simp
    intro h1 h2; omega
  | u :: us, j, cur, q, h => by
    simp only [List.length_cons] at h
    rw [List.zipIdx_cons, List.foldl_cons, fold_set us (j + 1) _ q (by simp; omega)]
    simp only [List.length_cons, Array.getElem?_setIfInBounds]
    by_cases h1 : j = q
    · subst h1
      rw [if_neg (by omega), if_pos (by omega)]
      simp; omega
    · by_cases h2 : j + 1 ≤ q ∧ q < j + 1 + us.length
      · rw [if_pos h2, if_pos (by omega), show q - j = (q - (j + 1)) + 1 by omega]; simp
      · rw [if_neg h2, if_neg h1, if_neg (by omega)]
theorem fold_all (us : List Value) (cur : Array Value) (h : us.length = cur.size) : (us.zipIdx 0).foldl (fun cs (p : Value × Nat) => cs.setIfInBounds (0 + p.2) p.1) cur = us.toArray := by
  apply Array.ext_getElem?
  intro q
  simp only [Nat.zero_add]
  rw [fold_set us 0 cur q (by omega)]
  by_cases hq : q < us.length
  · rw [if_pos (by omega)]; simp
  · rw [if_neg (by omega)]
    have h1 : us.toArray[q]? = none := by simp; omega
    have h2 : cur[q]? = none := by simp; omega
    rw [h1, h2]

/-- a slice literal of one element -/
theorem m_build1 (T : Tabs P) {e k b : Nat} {z us : List Value} {u : Value} (ht : lk T.sl t = some (e, k, b, z)) (hx : ev s x = some u) (hc : u.cells = us.toArray) (hu : us.length = k) (hk : k ≤ 64) (hd : Nat.blt d n = true)
    (h : ∀ g, w0.heap.size ≤ g → AT n (Hp M w0 (.blk g us.toArray e :: H)) ((d, .slice (some ⟨g, 0, none⟩) 1 1) :: s) (wpList P ops Q rest)) :
    AT n (Hp M w0 H) s (wpList P ops Q (⟨some d, .buildSlice t 1 #[(0, x)], ty, pos, af, none⟩ :: rest)) := fun a w f c => by
  refine wpList_one rfl ?_
  unfold Oper.wp
  obtain ⟨q1, q2, q3, i, zv, q4, q5, q6, q7, q8⟩ := T.sl_ok _ _ _ _ _ ht
  have hfill : Instr.fill (fun i => some (i * k, k)) ((Array.range k).map (zv.cells[· % zv.cells.size]!)) [(0, u)] = some us.toArray := by
    simp only [Instr.fill, Nat.zero_mul, hc]
    rw [if_neg (by simp [hu])]
    have := fold_all us ((Array.range k).map (zv.cells[· % zv.cells.size]!)) (by simp [hu])
    simp only [← Array.foldl_toList, Array.toList_zipIdx]
    rw [this]
  have : (execOp a.eval ⟨some d, .buildSlice t 1 #[(0, x)], ty, pos, af, none⟩).run P w = .ok (.value (.slice (some ⟨w.heap.size, 0, none⟩) 1 1)) (w.alloc (.cells us.toArray e)) := by
    have hk0 : k ≠ 0 := by omega
    have hk1 : ¬ (2 ^ 24 < k) := by omega
    simp [execOp, f.ev hx, Instr.buildSlice, run_underlying q1, sizeOf, typeInfo, q4, q5, zeroValue, q7, hk0, hk1, newRow]
    simp [hfill]
  rw [this]
  exact h _ c.kept.size _ _ (f.put (by simpa [Nat.blt_eq] using hd) _) (c.alloc _ _)
/-- an empty slice literal -/
theorem m_build0 (T : Tabs P) {e k b : Nat} {z : List Value} (ht : lk T.sl t = some (e, k, b, z)) (hd : Nat.blt d n = true)
    (h : ∀ g, w0.heap.size ≤ g → AT n (Hp M w0 (.own (.s e k []) (.slice (some ⟨g, 0, none⟩) 0 0) :: H)) ((d, .slice (some ⟨g, 0, none⟩) 0 0) :: s) (wpList P ops Q rest)) :
    AT n (Hp M w0 H) s (wpList P ops Q (⟨some d, .buildSlice t 0 #[], ty, pos, af, none⟩ :: rest)) := fun a w f c => by
  refine wpList_one rfl ?_
  unfold Oper.wp
  obtain ⟨q1, q2, q3, i, zv, q4, q5, q6, q7, q8⟩ := T.sl_ok _ _ _ _ _ ht
  have : (execOp a.eval ⟨some d, .buildSlice t 0 #[], ty, pos, af, none⟩).run P w = .ok (.value (.slice (some ⟨w.heap.size, 0, none⟩) 0 0)) (w.alloc (.cells #[] e)) := by
    simp [execOp, Instr.buildSlice, run_underlying q1, sizeOf, typeInfo, q4, newRow, Instr.fill, Array.range_zero']
  rw [this]
  refine h _ c.kept.size _ _ (f.put (by simpa [Nat.blt_eq] using hd) _) ?_
  exact (c.alloc #[] e).say (H1 := [.own (.s e k []) (.slice (some ⟨w.heap.size, 0, none⟩) 0 0)]) (fun f hf => by
    obtain ⟨h1, rfl⟩ := hf
    refine ⟨[w.heap.size], List.Perm.refl _, [w.heap.size], [], rfl, ?_, rfl⟩
    simp only [HE.sat, Own]
    exact .inr ⟨w.heap.size, 0, 0, #[], [], rfl, h1, by simp, Nat.le_refl _, Nat.zero_le _, by simp, by simp [OwnL], rfl⟩)
/-- a slice literal of one-cell elements -/
theorem m_buildn (T : Tabs P) {e b : Nat} {z vs : List Value} {parts : Array (Nat × Operand)} {m : Nat} (ht : lk T.sl t = some (e, 1, b, z)) (hp : evs s (parts.toList.map (·.2)) = some vs) (hi : parts.toList.map (·.1) = List.range m) (hc : ∀ u ∈ vs, u.cells = #[u]) (hm : Nat.ble m 64 = true) (hm0 : Nat.blt 0 m = true) (hd : Nat.blt d n = true)
    (h : ∀ g, w0.heap.size ≤ g → AT n (Hp M w0 (.blk g vs.toArray e :: H)) ((d, .slice (some ⟨g, 0, none⟩) m m) :: s) (wpList P ops Q rest)) :
    AT n (Hp M w0 H) s (wpList P ops Q (⟨some d, .buildSlice t m parts, ty, pos, af, none⟩ :: rest)) := fun a w f c => by
  refine wpList_one rfl ?_
  unfold Oper.wp
  obtain ⟨q1, q2, q3, i, zv, q4, q5, q6, q7, q8⟩ := T.sl_ok _ _ _ _ _ ht
  have hvs := f.evs hp
  have hlen : vs.length = m := by rw [← hvs]; have := congrArg List.length hi; simp at this; simpa using this
  have hm' : m ≤ 64 := Nat.le_of_ble_eq_true hm
  have hm0' : m ≠ 0 := by have := Nat.le_of_ble_eq_true hm0; omega
  have fillgen : ∀ (us : List Value) (j : Nat) (cur : Array Value), (∀ u ∈ us, u.cells = #[u]) → j + us.length ≤ cur.size →
      Instr.fill (fun i => some (i * 1, 1)) cur ((us.zipIdx j).map fun p => (p.2, p.1)) = some ((us.zipIdx j).foldl (fun cs (p : Value × Nat) => cs.setIfInBounds p.2 p.1) cur) := by
    intro us
    induction us with
    | nil => intro j cur _ _; simp [Instr.fill]
    | cons u us ih =>
      intro j cur hu hj
      simp only [List.length_cons] at hj
      simp only [List.zipIdx_cons, List.map_cons, Instr.fill, hu u (by simp), Nat.mul_one, List.foldl_cons]
      rw [if_neg (by simp; omega)]
      have := ih (j + 1) (cur.setIfInBounds j u) (fun x hx => hu x (by simp [hx])) (by simp; omega)
      simp at this ⊢
      exact this
  have hparts : (parts.map fun p => (p.1, a.eval p.2)).toList = (vs.zipIdx 0).map fun p => (p.2, p.1) := by
    rw [Array.toList_map]
    apply List.ext_getElem?
    intro q
    have h1 := congrArg (fun l => l[q]?) hi
    have h2 := congrArg (fun l => l[q]?) hvs
    simp only [List.getElem?_map, List.getElem?_zipIdx] at h1 h2 ⊢
    by_cases hq : q < m
    · rw [List.getElem?_range hq] at h1
      cases hpq : parts.toList[q]? with
      | none => rw [hpq] at h1; simp at h1
      | some p =>
        rw [hpq] at h1 h2
        simp only [Option.map_some, Option.some.injEq] at h1 h2
        rw [← h2]
        simp [h1]
    · rw [show (List.range m)[q]? = none from List.getElem?_eq_none (by simpa using hq)] at h1
      cases hpq : parts.toList[q]? with
      | none => rw [hpq] at h2; simp at h2; simp [h2]
      | some p => rw [hpq] at h1; simp at h1
  have hfill : Instr.fill (fun i => some (i * 1, 1)) ((Array.range m).map (zv.cells[· % zv.cells.size]!)) (parts.map fun p => (p.1, a.eval p.2)).toList = some vs.toArray := by
    rw [hparts, fillgen vs 0 _ hc (by simp [hlen])]
    have := fold_all vs ((Array.range m).map (zv.cells[· % zv.cells.size]!)) (by simp [hlen])
    simp only [Nat.zero_add] at this
    rw [this]
  have : (execOp a.eval ⟨some d, .buildSlice t m parts, ty, pos, af, none⟩).run P w = .ok (.value (.slice (some ⟨w.heap.size, 0, none⟩) m m)) (w.alloc (.cells vs.toArray e)) := by
    have hk1 : ¬ (2 ^ 24 < m) := by omega
    simp [execOp, Instr.buildSlice, run_underlying q1, sizeOf, typeInfo, q4, q5, zeroValue, q7, hm0', hk1, newRow]
    simp at hfill
    simp [hfill]
  rw [this]
  exact h _ c.kept.size _ _ (f.put (by simpa [Nat.blt_eq] using hd) _) (c.alloc _ _)
end
end Go.Lg
