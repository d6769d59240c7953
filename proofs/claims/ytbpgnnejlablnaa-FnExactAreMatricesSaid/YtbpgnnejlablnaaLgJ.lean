import Derived.Test.YtbpgnnejlablnaaLgI
namespace Go.Lg
open Go.RowKit

section
variable {P : Program} {n : Nat} {C : World → Prop} {s : List (Nat × Value)} {Q : Exit → Act → World → Prop} {ops : Array Oper} {rest : List Oper}
variable {d ty t t' : Nat} {pos : String} {af : Array Edge} {v : Value} {x y : Operand} {M : List Nat} {w0 w : World} {H : List HE}

/-- a struct variable of ours is loaded whole -/
theorem y_loadb (i : Nat) (T : Tabs P) {b e : Nat} {cur : Array Value} {z : List Value} (ht : lk T.sz t = some z) (hx : ev s x = some (.pointer (some ⟨b, 0, none⟩))) (hi : H[i]? = some (.blk b cur e)) (hl : Nat.beq cur.size z.length = true) : Y P n (Hp M w0 H) s (.load t x) ty (.agg cur) := by
  have h := y_loads (P := P) (n := n) (C := Hp M w0 H) (s := s) (ty := ty) (cs := cur.toList) T ht (by rw [← Nat.eq_of_beq_eq_true hl]; simp) hx (hcs_blk i hi (fun j v hj => by simpa using hj))
  simpa using h
/-- .. is stored whole -/
theorem m_storeb (i : Nat) (T : Tabs P) {b e : Nat} {cur cs : Array Value} {z : List Value} (ht : lk T.sz t = some z) (hx : ev s x = some (.pointer (some ⟨b, 0, none⟩))) (hy : ev s y = some (.agg cs)) (hl : Nat.beq cs.size z.length = true) (hu : cs.toList.all (·.oneCell') = true)
    (hi : H[i]? = some (.blk b cur e)) (hc : Nat.beq cur.size cs.size = true) (h : AT n (Hp M w0 (H.set i (.blk b cs e))) s (wpList P ops Q rest)) :
    AT n (Hp M w0 H) s (wpList P ops Q (⟨none, .store t x y, ty, pos, af, none⟩ :: rest)) := by
  have e1 := Nat.eq_of_beq_eq_true hl
  have e2 := Nat.eq_of_beq_eq_true hc
  refine m_stores i T (cs := cs.toList) ht (by rw [← e1]; simp) hx (by simpa using hy) (fun u hu' => by simpa using List.all_eq_true.1 hu u hu') hi (by simp [e2]) ?_
  have : (List.take 0 cur.toList ++ cs.toList ++ List.drop (0 + cs.toList.length) cur.toList).toArray = cs := by
    apply Array.ext'
    simp [← e2]
  rw [this]
  exact h
/-- a field of a struct variable of ours -/
theorem m_storef (i : Nat) (T : Tabs P) {b o e : Nat} {cur : Array Value} {u : Value} (ht : lk T.one t = some ()) (hx : ev s x = some (.pointer (some ⟨b, o, none⟩))) (hy : ev s y = some u) (hu : u.oneCell' = true)
    (hi : H[i]? = some (.blk b cur e)) (ho : Nat.blt o cur.size = true) (h : AT n (Hp M w0 (H.set i (.blk b (cur.setIfInBounds o u) e))) s (wpList P ops Q rest)) :
    AT n (Hp M w0 H) s (wpList P ops Q (⟨none, .store t x y, ty, pos, af, none⟩ :: rest)) := m_store i T ht hx hy hu hi (by simpa [Nat.blt_eq] using ho) h
theorem res_cellb (i : Nat) (T : Tabs P) {b e t ty : Nat} {cur : Array Value} {z : List Value} (ht : lk T.sz ty = some z) (h : lk s t = some (.pointer (some ⟨b, 0, none⟩))) (hi : H[i]? = some (.blk b cur e)) (hl : Nat.beq cur.size z.length = true) : ResV P (Hp M w0 H) s (.cell t ty) (.agg cur) := by
  have := res_cell (P := P) (C := Hp M w0 H) (s := s) (cs := cur.toList) T ht (by rw [← Nat.eq_of_beq_eq_true hl]; simp) h (hcs_blk i hi (fun j v hj => by simpa using hj))
  simpa using this

theorem cells_two {cs : List Value} {v0 v1 : Value} (hcs : cs = [v0, v1]) {w : World} {b o : Nat} (h0 : w.cell? ⟨b, o, none⟩ = some v0) (h1 : w.cell? ⟨b, o + 1, none⟩ = some v1) : ∀ (j : Nat) (v : Value), cs[j]? = some v → w.cell? ((⟨b, o, none⟩ : Addr).add j) = some v := by
  subst hcs
  intro j v hj
  rw [Addr.add_lit]
  match j, hj with
  | 0, hj => simp at hj; subst hj; exact h0
  | 1, hj => simp at hj; subst hj; exact h1
theorem y_load2 (T : Tabs P) {b o : Nat} {v0 v1 z0 z1 : Value} (ht : lk T.sz t = some [z0, z1]) (hx : ev s x = some (.pointer (some ⟨b, o, none⟩)))
    (h0 : ∀ w, C w → w.cell? ⟨b, o, none⟩ = some v0) (h1 : ∀ w, C w → w.cell? ⟨b, o + 1, none⟩ = some v1) : Y P n C s (.load t x) ty (.agg #[v0, v1]) :=
  y_loads (cs := [v0, v1]) T ht rfl hx (fun w c => cells_two rfl (h0 w c) (h1 w c))
theorem y_load3 (T : Tabs P) {b o : Nat} {v0 v1 v2 z0 z1 z2 : Value} (ht : lk T.sz t = some [z0, z1, z2]) (hx : ev s x = some (.pointer (some ⟨b, o, none⟩)))
    (h0 : ∀ w, C w → w.cell? ⟨b, o, none⟩ = some v0) (h1 : ∀ w, C w → w.cell? ⟨b, o + 1, none⟩ = some v1) (h2 : ∀ w, C w → w.cell? ⟨b, o + 2, none⟩ = some v2) : Y P n C s (.load t x) ty (.agg #[v0, v1, v2]) :=
  y_loads (cs := [v0, v1, v2]) T ht rfl hx (fun w c j v hj => by
    rw [Addr.add_lit]
    match j, hj with
    | 0, hj => simp at hj; subst hj; exact h0 w c
    | 1, hj => simp at hj; subst hj; exact h1 w c
    | 2, hj => simp at hj; subst hj; exact h2 w c)
theorem y_load6 (T : Tabs P) {b o : Nat} {v0 v1 v2 v3 v4 v5 z0 z1 z2 z3 z4 z5 : Value} (ht : lk T.sz t = some [z0, z1, z2, z3, z4, z5]) (hx : ev s x = some (.pointer (some ⟨b, o, none⟩)))
    (h0 : ∀ w, C w → w.cell? ⟨b, o, none⟩ = some v0) (h1 : ∀ w, C w → w.cell? ⟨b, o + 1, none⟩ = some v1) (h2 : ∀ w, C w → w.cell? ⟨b, o + 2, none⟩ = some v2) (h3 : ∀ w, C w → w.cell? ⟨b, o + 3, none⟩ = some v3) (h4 : ∀ w, C w → w.cell? ⟨b, o + 4, none⟩ = some v4) (h5 : ∀ w, C w → w.cell? ⟨b, o + 5, none⟩ = some v5) : Y P n C s (.load t x) ty (.agg #[v0, v1, v2, v3, v4, v5]) :=
  y_loads (cs := [v0, v1, v2, v3, v4, v5]) T ht rfl hx (fun w c j v hj => by
    rw [Addr.add_lit]
    match j, hj with
    | 0, hj => simp at hj; subst hj; exact h0 w c
    | 1, hj => simp at hj; subst hj; exact h1 w c
    | 2, hj => simp at hj; subst hj; exact h2 w c
    | 3, hj => simp at hj; subst hj; exact h3 w c
    | 4, hj => simp at hj; subst hj; exact h4 w c
    | 5, hj => simp at hj; subst hj; exact h5 w c)
/-- a struct that lies in a piece of a bigger block of ours: by its offset -/
theorem y_fn {f : Nat} {cap : List Value} {fi ca : Array Operand} (hf : fi = #[]) (hc : evs s ca.toList = some cap) : Y P n C s (.makeFunc (.func f) fi ca) ty (.func (.func f) #[] cap.toArray) := fun a w fr c d pos af g => by
  have hm : ca.map a.eval = cap.toArray := by
    rw [← fr.evs hc]
    apply Array.ext'
    simp
  simp [execOp, Instr.makeFunc, hf, hm]

theorem OwnL.split {w : World} : ∀ {t1 t2 : List T} {vs : List Value} {f : List Nat}, OwnL w (t1 ++ t2) vs f → ∃ v1 v2 f1 f2, vs = v1 ++ v2 ∧ f = f1 ++ f2 ∧ OwnL w t1 v1 f1 ∧ OwnL w t2 v2 f2
  | [], t2, vs, f, h => ⟨[], vs, [], f, rfl, rfl, by simp [OwnL], h⟩
  | t :: t1, t2, vs, f, h => by
    simp only [List.cons_append, OwnL] at h
    obtain ⟨v, vs', f1, f2, rfl, rfl, a, b⟩ := h
    obtain ⟨v1, v2, g1, g2, rfl, rfl, c, d⟩ := OwnL.split b
    exact ⟨v :: v1, v2, f1 ++ g1, g2, rfl, by rw [List.append_assoc], by simp only [OwnL]; exact ⟨v, v1, f1, g1, rfl, rfl, a, c⟩, d⟩

/-- an element is put into a slice of ours: its old pieces are let go, its new ones belong to the slice -/
theorem Hp.put {e k m c j : Nat} {ts tn : List T} {news : List Value} {a : Option Addr} (hp : Hp M w0 (.own (.s e k ts) (.slice a m c) :: .ownL tn news :: H) w) (hk : 0 < k) (hl : news.length = k) (hm : ts.length = m * k) (hj : j < m) :
    ∃ g cur, a = some ⟨g, 0, none⟩ ∧ w.heap[g]? = some (.cells cur e (0, 0)) ∧ j * k + k ≤ cur.size ∧ Hp M w0 (.own (.s e k (ts.take (j * k) ++ tn ++ ts.drop (j * k + k))) (.slice a m c) :: H) (w.setRow g (cur.toList.take (j * k) ++ news ++ cur.toList.drop (j * k + k)).toArray) := by
  obtain ⟨fp, ⟨f1, f23, e1, s1, f2, f3, e2, s2, s3⟩, nd, ge, kp⟩ := hp
  subst e1; subst e2
  simp only [HE.sat, Own] at s1
  have hjk : j * k + k ≤ m * k := by rw [← Nat.succ_mul]; exact Nat.mul_le_mul_right k hj
  rcases s1 with ⟨rfl, _, _⟩ | ⟨g, n', cap', cur, fp', h1, hg, hlen, hnc, hcm, hcs, hol, rfl⟩
  · simp only [List.length_nil] at hm; omega
  · cases h1
    have hck : m * k ≤ c * k := Nat.mul_le_mul_right k hnc
    refine ⟨g, cur, rfl, hg, by rw [hcs]; omega, ?_⟩
    have keep : ∀ b, b ≠ g → (w.setRow g (cur.toList.take (j * k) ++ news ++ cur.toList.drop (j * k + k)).toArray).heap[b]? = w.heap[b]? := fun b hb => setRow_other w g b _ hb
    -- the cells, in three parts
    have hts : ts = ts.take (j * k) ++ ((ts.drop (j * k)).take k ++ ts.drop (j * k + k)) := by
      rw [← List.drop_drop, List.take_append_drop, List.take_append_drop]
    rw [hts] at hol
    obtain ⟨v1, v23, g1, g23, hv, hf, o1, o23⟩ := OwnL.split hol
    obtain ⟨v2, v3, g2, g3, hv', hf', o2, o3⟩ := OwnL.split o23
    subst hf; subst hf'; subst hv'
    have l1 : v1.length = j * k := by rw [OwnL.length o1, List.length_take]; omega
    have l2 : v2.length = k := by rw [OwnL.length o2, List.length_take, List.length_drop]; omega
    have t1 : cur.toList.take (j * k) = v1 := by
      have := congrArg (List.take (j * k)) hv
      rw [List.take_take, Nat.min_eq_left (by omega), List.take_left' l1] at this
      exact this
    have t3 : (cur.toList.drop (j * k + k)).take (m * k - (j * k + k)) = v3 := by
      have := congrArg (List.drop (j * k + k)) hv
      rw [List.drop_take] at this
      rw [this, ← List.append_assoc, List.drop_left' (by simp [l1, l2])]
    have hgn : g ∉ (g1 ++ (g2 ++ g3)) ++ (f2 ++ f3) := (List.nodup_cons.1 (by simpa using nd)).1
    have nd' : ((g1 ++ (g2 ++ g3)) ++ (f2 ++ f3)).Nodup := (List.nodup_cons.1 (by simpa using nd)).2
    simp only [List.mem_append, not_or] at hgn
    have perm : List.Sublist ((g1 ++ f2 ++ g3) ++ f3) ((g1 ++ f2 ++ g3) ++ f3) := List.Sublist.refl _
    have memsub : ∀ b, b ∈ (g1 ++ f2 ++ g3) ++ f3 → b ∈ (g1 ++ (g2 ++ g3)) ++ (f2 ++ f3) := fun b hb => by
      simp only [List.mem_append] at hb ⊢
      rcases hb with ((h | h) | h) | h <;> simp [h]
    have ndnew : ((g1 ++ f2 ++ g3) ++ f3).Nodup := by
      have hs : List.Sublist ((g1 ++ g3) ++ (f2 ++ f3)) ((g1 ++ (g2 ++ g3)) ++ (f2 ++ f3)) :=
        List.Sublist.append (List.Sublist.append (List.Sublist.refl _) (List.sublist_append_right g2 g3)) (List.Sublist.refl _)
      have h1 := hs.nodup nd'
      have hpm : ((g1 ++ f2 ++ g3) ++ f3).Perm ((g1 ++ g3) ++ (f2 ++ f3)) := by
        rw [← List.append_assoc (g1 ++ g3) f2 f3]
        refine List.Perm.append_right f3 ?_
        rw [List.append_assoc, List.append_assoc]
        exact List.Perm.append_left g1 List.perm_append_comm
      exact hpm.nodup_iff.2 h1
    refine ⟨(g :: (g1 ++ f2 ++ g3)) ++ f3, ⟨g :: (g1 ++ f2 ++ g3), f3, rfl, ?_, ?_⟩, ?_, ?_, ?_⟩
    · simp only [HE.sat, Own]
      refine .inr ⟨g, m, c, _, g1 ++ f2 ++ g3, rfl, setRow_heap w g cur _ e _ hg, ?_, hnc, hcm, ?_, ?_, rfl⟩
      · simp only [List.length_append, List.length_take, List.length_drop, (OwnL.length s2).symm, hl]
        omega
      · simp only [List.size_toArray, List.length_append, List.length_take, List.length_drop, Array.length_toList, hl]
        omega
      · have hcells : List.take (m * k) (cur.toList.take (j * k) ++ news ++ cur.toList.drop (j * k + k)) = v1 ++ news ++ v3 := by
          rw [t1, List.take_append, List.length_append, l1, hl, ← t3, List.take_of_length_le (by simp [l1, hl]; omega)]
        rw [hcells]
        exact OwnL.append (OwnL.append (OwnL.loc o1 (fun b hb => keep b (fun h => hgn.1.1 (h ▸ hb)))) (OwnL.loc s2 (fun b hb => keep b (fun h => hgn.2.1 (h ▸ hb))))) (OwnL.loc o3 (fun b hb => keep b (fun h => hgn.1.2.2 (h ▸ hb))))
    · exact s3.loc (fun b hb => keep b (fun h => hgn.2.2 (h ▸ hb)))
    · rw [List.cons_append, List.nodup_cons]
      refine ⟨fun h => ?_, ndnew⟩
      have := memsub _ h
      simp only [List.mem_append] at this
      rcases this with (h | h | h) | h | h
      · exact hgn.1.1 h
      · exact hgn.1.2.1 h
      · exact hgn.1.2.2 h
      · exact hgn.2.1 h
      · exact hgn.2.2 h
    · intro b hb
      rcases List.mem_cons.1 hb with rfl | hb
      · exact ge b (by simp)
      · exact ge b (List.mem_cons_of_mem _ (by simpa using memsub b hb))
    · refine ⟨kp.os, kp.tape, kp.output, by simpa using kp.size, fun q hq hM => ?_⟩
      rw [keep q (fun h => ?_)]
      · exact kp.block q hq hM
      · subst h
        rcases ge q (by simp) with h | h
        · exact hM h
        · omega

/-- a struct element is stored into a slice of ours -/
theorem m_storeT (T0 : Tabs P) {e k m c j : Nat} {ts tn : List T} {cs : Array Value} {z : List Value} {a0 : Option Addr} {H' : List HE} (ht : lk T0.sz t = some z) (hx : ev s x = some (.pointer (some ⟨ab a0, ao a0 + j * k, none⟩))) (hy : ev s y = some (.agg cs)) (hl : Nat.beq cs.size z.length = true) (hu : cs.toList.all (·.oneCell') = true)
    (hk : k = z.length) (hk0 : 0 < k) (hm : ts.length = m * k) (hj : j < m) (hp : ∀ w, Hp M w0 H w → Hp M w0 (.own (.s e k ts) (.slice a0 m c) :: .ownL tn cs.toList :: H') w)
    (h : AT n (Hp M w0 (.own (.s e k (ts.take (j * k) ++ tn ++ ts.drop (j * k + k))) (.slice a0 m c) :: H')) s (wpList P ops Q rest)) :
    AT n (Hp M w0 H) s (wpList P ops Q (⟨none, .store t x y, ty, pos, af, none⟩ :: rest)) := st_skip (fun a w f cw => by
  have e1 := Nat.eq_of_beq_eq_true hl
  obtain ⟨g, cur, rfl, hg, hsz, hp'⟩ := (hp w cw).put hk0 (by simpa [hk] using e1) hm hj
  refine ⟨_, hp', ?_⟩
  have hs := run_storeCells_at P g (j * k) e cs.toList 0 cur w hg (by simp [e1, ← hk]; omega) (fun u hu' => List.all_eq_true.1 hu u hu')
  have hlen : cs.toList.length = k := by simp [e1, hk]
  simp only [Nat.add_zero, hlen] at hs
  have h2 := (T0.sz_ok _ _ ht).2.2 ⟨g, j * k, none⟩ cs.toList w (by simp [e1])
  have h3 : (Instr.storeAt t (.pointer (some ⟨g, j * k, none⟩)) (.agg cs)).run P w = .ok () (w.setRow g (cur.toList.take (j * k) ++ cs.toList ++ cur.toList.drop (j * k + k)).toArray) := by
    have : (Instr.storeAt t (.pointer (some ⟨g, j * k, none⟩)) (.agg cs.toList.toArray)).run P w = _ := h2
    rw [Array.toArray_toList] at this
    rw [this, hs]
  have h4 : (⟨ab (some ⟨g, 0, none⟩), ao (some ⟨g, 0, none⟩) + j * k, none⟩ : Addr) = ⟨g, j * k, none⟩ := by simp [ab, ao]
  rw [h4] at hx
  simp [execOp, f.ev hx, f.ev hy, h3]) h
/-- a slice is stored as an element of a slice of ours -/
theorem m_storeS (T0 : Tabs P) {e m c j : Nat} {ts : List T} {tn : T} {u : Value} {a0 : Option Addr} {H' : List HE} (ht : lk T0.one t = some ()) (hx : ev s x = some (.pointer (some ⟨ab a0, ao a0 + j * 1, none⟩))) (hy : ev s y = some u) (hu : u.oneCell' = true)
    (hm : ts.length = m) (hj : j < m) (hp : ∀ w, Hp M w0 H w → Hp M w0 (.own (.s e 1 ts) (.slice a0 m c) :: .own tn u :: H') w)
    (h : AT n (Hp M w0 (.own (.s e 1 (ts.set j tn)) (.slice a0 m c) :: H')) s (wpList P ops Q rest)) :
    AT n (Hp M w0 H) s (wpList P ops Q (⟨none, .store t x y, ty, pos, af, none⟩ :: rest)) := st_skip (fun a w f cw => by
  obtain ⟨g, cur, rfl, hg, hsz, hp'⟩ := ((hp w cw).swap.single.swap).put (by decide) (by simp) (by simpa using hm) hj
  have e1 : ts.take (j * 1) ++ [tn] ++ ts.drop (j * 1 + 1) = ts.set j tn := by
    rw [Nat.mul_one]
    apply List.ext_getElem?
    intro q
    grind
  rw [e1] at hp'
  refine ⟨_, hp', ?_⟩
  have hs := run_storeCells_at P g (j * 1) e [u] 0 cur w hg (by simpa using hsz) (by simpa using hu)
  simp only [Nat.add_zero, List.length_singleton] at hs
  have h2 := (T0.one_ok _ ht).2 ⟨g, j * 1, none⟩ u w hu
  have h0 : (⟨g, j * 1, none⟩ : Addr).add 0 = ⟨g, j * 1, none⟩ := by simp [Addr.add]
  have h5 : (storeCells ⟨g, j * 1, none⟩ [u]).run P w = stored P w ⟨g, j * 1, none⟩ u .plain := by
    have h6 : (store ⟨g, j * 1, none⟩ u .plain).run P w = stored P w ⟨g, j * 1, none⟩ u .plain := run_store P w _ u .plain hu
    simp only [storeCells, Sem.run_bind, h0, h6]
    cases stored P w ⟨g, j * 1, none⟩ u .plain <;> simp [Result.andThen]
  rw [← h5, hs] at h2
  have h4 : (⟨ab (some ⟨g, 0, none⟩), ao (some ⟨g, 0, none⟩) + j * 1, none⟩ : Addr) = ⟨g, j * 1, none⟩ := by simp [ab, ao]
  rw [h4] at hx
  simp only [execOp, f.ev hx, f.ev hy, Sem.run_bind, h2, Result.andThen_ok]
  simp) h
end
end Go.Lg
