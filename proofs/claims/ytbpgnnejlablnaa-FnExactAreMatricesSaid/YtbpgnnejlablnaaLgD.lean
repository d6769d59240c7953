import Derived.Test.YtbpgnnejlablnaaLgC
namespace Go.Lg
open Go.RowKit

theorem al_old (w : World) (o : Obj) (k : Nat) (h : k < w.heap.size) : (w.drew.alloc o).heap[k]? = w.heap[k]? := Below.heap_alloc w.drew o k h
theorem al_new (w : World) (o : Obj) : (w.drew.alloc o).heap[w.heap.size]? = some o := by
  show (w.heap.push o)[w.heap.size]? = some o
  simp
theorem al_le (w : World) (o : Obj) : w.heap.size ≤ (w.drew.alloc o).heap.size := by simp [World.alloc]
theorem OwnL.append {w : World} : ∀ {t1 t2 : List T} {v1 v2 : List Value} {f1 f2 : List Nat}, OwnL w t1 v1 f1 → OwnL w t2 v2 f2 → OwnL w (t1 ++ t2) (v1 ++ v2) (f1 ++ f2)
  | [], t2, v1, v2, f1, f2, h1, h2 => by simp only [OwnL] at h1; obtain ⟨rfl, rfl⟩ := h1; exact h2
  | t :: t1, t2, v1, v2, f1, f2, h1, h2 => by
    simp only [OwnL] at h1
    obtain ⟨v, vs, g1, g2, rfl, rfl, a, b⟩ := h1
    simp only [List.cons_append, OwnL]
    exact ⟨v, vs ++ v2, g1, g2 ++ f2, rfl, by rw [List.append_assoc], a, OwnL.append b h2⟩

/-- the cells of a list of ints -/
def ic (xs : List Int) : List Value := xs.map (Value.int .i64)
/-- the data of a list of ints -/
def it (xs : List Int) : List T := xs.map (fun n => T.c (.int .i64 n))
def ints (e : Nat) (xs : List Int) : T := .s e 1 (it xs)
@[simp] theorem ic_length (xs : List Int) : (ic xs).length = xs.length := by simp [ic]
@[simp] theorem it_length (xs : List Int) : (it xs).length = xs.length := by simp [it]
theorem ic_append (a b : List Int) : ic (a ++ b) = ic a ++ ic b := by simp [ic]
theorem it_append (a b : List Int) : it (a ++ b) = it a ++ it b := by simp [it]

/-- data without blocks of its own -/
theorem OwnL.consts {w : World} : ∀ (us : List Value), OwnL w (us.map T.c) us []
  | [] => by simp [OwnL]
  | u :: us => by
    simp only [List.map_cons, OwnL]
    exact ⟨u, us, [], [], rfl, rfl, by simp [Own], OwnL.consts us⟩
theorem OwnL.consts_inv {w : World} : ∀ {us vs : List Value} {f : List Nat}, OwnL w (us.map T.c) vs f → vs = us ∧ f = []
  | [], vs, f, h => by simpa [OwnL] using h
  | u :: us, vs, f, h => by
    simp only [List.map_cons, OwnL, Own] at h
    obtain ⟨v, vs', f1, f2, rfl, rfl, ⟨rfl, rfl⟩, b⟩ := h
    obtain ⟨rfl, rfl⟩ := OwnL.consts_inv b
    exact ⟨rfl, rfl⟩
theorem it_eq (xs : List Int) : it xs = (ic xs).map T.c := by simp [it, ic]
theorem OwnL.ints {w : World} (xs : List Int) : OwnL w (it xs) (ic xs) [] := by rw [it_eq]; exact OwnL.consts _
theorem OwnL.ints_inv {w : World} {xs : List Int} {vs : List Value} {f : List Nat} (h : OwnL w (it xs) vs f) : vs = ic xs ∧ f = [] := by rw [it_eq] at h; exact OwnL.consts_inv h

theorem OwnL.oneCells {w : World} : ∀ {ts : List T} {vs : List Value} {f : List Nat}, OwnL w ts vs f → (∀ t ∈ ts, ∀ u, t = .c u → u.oneCell' = true) → ∀ u ∈ vs, u.oneCell' = true
  | [], vs, f, h, _ => by simp only [OwnL] at h; simp [h.1]
  | t :: ts, vs, f, h, hc => by
    simp only [OwnL] at h
    obtain ⟨v, vs', f1, f2, rfl, rfl, a, b⟩ := h
    intro u hu
    rcases List.mem_cons.1 hu with rfl | hu
    · cases t with
      | c x => simp only [Own] at a; rw [a.1]; exact hc _ (by simp) x rfl
      | s e k ts' =>
        simp only [Own] at a
        rcases a with ⟨_, h2, _⟩ | ⟨g, n, cap, cur, fp', h1, _⟩
        · rw [h2]; rfl
        · rw [h1]; rfl
    · exact OwnL.oneCells b (fun t ht => hc t (by simp [ht])) u hu

section
variable {P : Program} {M : List Nat} {w0 w : World} {H : List HE}

/-- APPEND: the run, and what is ours behind it -/
theorem run_app {t ty e k b : Nat} {z : List Value} (T0 : Tabs P) (ht : lk T0.sl t = some (e, k, b, z)) {v : Value} {ts tn : List T} {ad : Option Addr} {m c : Nat} {news : List Value}
    (hp : Hp M w0 (.own (.s e k ts) v :: .ownL tn news :: H) w) (hl : news.length = m * k) (h1 : ∀ u ∈ news, u.oneCell' = true)
    (hs : m = 0 ∨ ∃ a, ad = some a ∧ ∀ j u, news[j]? = some u → w.cell? (a.add j) = some u) (hb : (ts.length + news.length) * b ≤ 140737488355328) (hb1 : 1 ≤ b) :
    ∃ v' w', (Builtin.append_ #[t, t] ty #[v, .slice ad m c]).run P w = .ok v' w' ∧ Hp M w0 (.own (.s e k (ts ++ tn)) v' :: H) w' := by
  obtain ⟨q1, q2, q3, i, zv, q4, q5, q6, q7, q8⟩ := T0.sl_ok _ _ _ _ _ ht
  obtain ⟨fp, ⟨f1, f23, e1, s1, f2, f3, e2, s2, s3⟩, nd, ge, kp⟩ := hp
  subst e1; subst e2
  have hzs : zv.cells.size = k := by rw [q8]; simp [q2]
  have htn : tn.length = news.length := (OwnL.length s2).symm
  have hbig : ts.length + news.length ≤ 140737488355328 := Nat.le_trans (Nat.le_mul_of_pos_right _ hb1) hb
  have hmk : m ≤ m * k := Nat.le_mul_of_pos_right m q3
  by_cases hm : m = 0
  · -- nothing is appended
    subst hm
    simp only [Nat.zero_mul] at hl
    obtain rfl := List.eq_nil_of_length_eq_zero hl
    obtain rfl := List.eq_nil_of_length_eq_zero htn
    simp only [HE.sat, OwnL] at s2
    obtain ⟨_, rfl⟩ := s2
    rw [List.append_nil]
    refine ⟨v, w, ?_, ⟨f1 ++ f3, ⟨f1, f3, rfl, s1, s3⟩, by simpa using nd, by simpa using ge, kp⟩⟩
    simp only [HE.sat, Own] at s1
    rcases s1 with ⟨_, rfl, _⟩ | ⟨g, n, cap, cur, fp', rfl, _, _, hle, _⟩
    · cases ad <;> simp [Builtin.append_, run_underlying q1, sizeOf, typeInfo, q4, Builtin.lenOf, Builtin.firstCells, loadCells, loadCellsFrom]
    · cases ad <;> simp [Builtin.append_, run_underlying q1, sizeOf, typeInfo, q4, Builtin.lenOf, Builtin.firstCells, loadCells, loadCellsFrom, storeCells, hle]
  · rcases hs with hs | ⟨a, rfl, hcells⟩
    · exact absurd hs hm
    · have hl' : news.length = m * i.size := by rw [q5]; exact hl
      simp only [HE.sat, Own] at s1
      rcases s1 with ⟨rfl, rfl, rfl⟩ | ⟨g, n, cap, cur, fp', rfl, hg, hlen, hnc, hcm, hcs, hol, rfl⟩
      · -- onto nil
        have hr := run_append_nil (P := P) w t ty e i zv q1 q4 q7 a m c news hl' hcells (by omega) (by simp only [List.length_nil] at hbig; omega) (by
          rw [q6]; refine Nat.le_trans (Nat.mul_le_mul_right b hmk) ?_; rw [← hl]; simp only [List.length_nil, Nat.zero_add] at hb; omega)
        have hge := grownCap_ge w m 0 e
        have hcm := grownCap_le_maxLen w m 0 e (by unfold maxLen; simp only [List.length_nil] at hbig; omega)
        refine ⟨_, _, hr, ⟨(w.heap.size :: f2) ++ f3, ⟨w.heap.size :: f2, f3, rfl, ?_, ?_⟩, ?_, ?_, ?_⟩⟩
        · simp only [HE.sat, Own, List.nil_append]
          refine .inr ⟨w.heap.size, m, _, _, f2, rfl, al_new w _, by rw [htn, hl], hge, hcm, ?_, ?_, rfl⟩
          · simp only [Array.size_append, List.size_toArray, size_zeroCells, hzs, hl, ← Nat.add_mul]
            congr 1; omega
          · simp only [Array.toList_append, ← hl, List.take_left']
            exact OwnL.loc s2 (fun b hb => al_old w _ b (OwnL.lt s2 b hb))
        · exact s3.loc (fun b hb => al_old w _ b (s3.lt b hb))
        · have nd' : (f2 ++ f3).Nodup := by simpa using nd
          rw [List.cons_append, List.nodup_cons]
          refine ⟨fun h => ?_, nd'⟩
          rcases List.mem_append.1 h with h | h
          · exact Nat.lt_irrefl _ (OwnL.lt s2 _ h)
          · exact Nat.lt_irrefl _ (s3.lt _ h)
        · intro b hb
          rcases List.mem_cons.1 hb with rfl | hb
          · exact .inr kp.size
          · exact ge b (by simpa using hb)
        · exact ⟨kp.os, kp.tape, kp.output, Nat.le_trans kp.size (al_le w _), fun j hj hM => by
            rw [al_old w _ j (Nat.lt_of_lt_of_le hj kp.size)]; exact kp.block j hj hM⟩
      · have hnk : n ≤ n * k := Nat.le_mul_of_pos_right n q3
        have hnm : (n + m) * i.bytes ≤ 140737488355328 := by
          rw [q6]
          refine Nat.le_trans (Nat.mul_le_mul_right b ?_) hb
          rw [hlen, hl]; omega
        by_cases hroom : n + m ≤ cap
        · -- there is room
          have hfit : n * i.size + news.length ≤ cur.size := by rw [hl', hcs, q5, ← Nat.add_mul]; exact Nat.mul_le_mul_right _ hroom
          have hr := run_append_room (P := P) w t ty e i q1 q4 g n cap cur hg a m c news hl' hcells h1 hroom hfit
          have keep : ∀ b, b ≠ g → (w.setRow g (cur.toList.take (n * i.size) ++ news ++ cur.toList.drop (n * i.size + news.length)).toArray).heap[b]? = w.heap[b]? := fun b hb => setRow_other w g b _ hb
          have hgn : g ∉ fp' ++ (f2 ++ f3) := (List.nodup_cons.1 (by simpa using nd)).1
          simp only [List.mem_append, not_or] at hgn
          refine ⟨_, _, hr, ⟨(g :: (fp' ++ f2)) ++ f3, ⟨g :: (fp' ++ f2), f3, rfl, ?_, ?_⟩, ?_, ?_, ?_⟩⟩
          · simp only [HE.sat, Own]
            refine .inr ⟨g, n + m, cap, _, fp' ++ f2, rfl, setRow_heap w g cur _ e _ hg, ?_, hroom, hcm, ?_, ?_, rfl⟩
            · rw [List.length_append, hlen, htn, hl, Nat.add_mul]
            · simp only [List.size_toArray, List.length_append, List.length_take, List.length_drop, Array.length_toList]
              omega
            · simp only [q5]
              rw [show (n + m) * k = (cur.toList.take (n * k) ++ news).length by rw [List.length_append, List.length_take, Array.length_toList, hl, Nat.add_mul]; have : n * k ≤ cur.size := (by rw [hcs]; exact Nat.mul_le_mul_right _ hnc); omega]
              rw [List.take_left]
              exact OwnL.append (OwnL.loc hol (fun b hb => by simpa only [q5] using keep b (fun e => hgn.1 (e ▸ hb)))) (OwnL.loc s2 (fun b hb => by simpa only [q5] using keep b (fun e => hgn.2.1 (e ▸ hb))))
          · exact s3.loc (fun b hb => keep b (fun e => hgn.2.2 (e ▸ hb)))
          · simpa using nd
          · intro b hb; exact ge b (by simpa using hb)
          · refine ⟨kp.os, kp.tape, kp.output, by simpa using kp.size, fun j hj hM => ?_⟩
            rw [keep j (fun e => ?_)]
            · exact kp.block j hj hM
            · subst e
              rcases ge j (by simp) with h | h
              · exact hM h
              · omega
        · -- it grows
          have holds : ∀ j u, (cur.toList.take (n * k))[j]? = some u → w.cell? ((⟨g, 0, none⟩ : Addr).add j) = some u := by
            intro j u hu
            rw [List.getElem?_take] at hu
            split at hu
            · simp only [Addr.add_lit, World.cell?, hg, Nat.zero_add]; simpa using hu
            · cases hu
          have hcur : (cur.toList.take (n * k)).length = n * i.size := by
            rw [List.length_take, Array.length_toList, q5, hcs]
            exact Nat.min_eq_left (Nat.mul_le_mul_right _ hnc)
          have hr := run_append_grow (P := P) w t ty e i zv q1 q4 q7 ⟨g, 0, none⟩ n cap (cur.toList.take (n * k)) hcur holds a m c news hl' hcells (by omega) (by omega) (by
            have := nextslicecap_le (need := n + m) (old := cap) (by omega)
            refine Nat.le_trans (Nat.mul_le_mul_right _ this) ?_
            rw [Nat.mul_assoc]; omega)
          have hge := grownCap_ge w (n + m) cap e
          have hcm' := grownCap_le_maxLen w (n + m) cap e (by unfold maxLen; omega)
          have hgn : g ∉ fp' ++ (f2 ++ f3) := (List.nodup_cons.1 (by simpa using nd)).1
          have nd' : (fp' ++ (f2 ++ f3)).Nodup := (List.nodup_cons.1 (by simpa using nd)).2
          refine ⟨_, _, hr, ⟨(w.heap.size :: (fp' ++ f2)) ++ f3, ⟨w.heap.size :: (fp' ++ f2), f3, rfl, ?_, ?_⟩, ?_, ?_, ?_⟩⟩
          · simp only [HE.sat, Own]
            refine .inr ⟨w.heap.size, n + m, _, _, fp' ++ f2, rfl, al_new w _, ?_, hge, hcm', ?_, ?_, rfl⟩
            · rw [List.length_append, hlen, htn, hl, Nat.add_mul]
            · simp only [Array.size_append, List.size_toArray, size_zeroCells, hzs, hcur, hl, q5, ← Nat.add_mul]
              congr 1; omega
            · simp only [Array.toList_append]
              rw [show (n + m) * k = (cur.toList.take (n * k) ++ news).length by rw [List.length_append, hcur, hl, q5, Nat.add_mul]]
              rw [List.take_left]
              exact OwnL.append (OwnL.loc hol (fun b hb => al_old w _ b (OwnL.lt hol b hb))) (OwnL.loc s2 (fun b hb => al_old w _ b (OwnL.lt s2 b hb)))
          · exact s3.loc (fun b hb => al_old w _ b (s3.lt b hb))
          · rw [List.cons_append, List.nodup_cons, List.append_assoc]
            refine ⟨fun h => ?_, nd'⟩
            rcases List.mem_append.1 h with h | h
            · exact Nat.lt_irrefl _ (OwnL.lt hol _ h)
            · rcases List.mem_append.1 h with h | h
              · exact Nat.lt_irrefl _ (OwnL.lt s2 _ h)
              · exact Nat.lt_irrefl _ (s3.lt _ h)
          · intro b hb
            rcases List.mem_cons.1 hb with rfl | hb
            · exact .inr kp.size
            · exact ge b (by
              have hb' : b ∈ (fp' ++ f2) ++ f3 := hb
              rw [List.append_assoc] at hb'
              exact List.mem_cons_of_mem _ hb')
          · exact ⟨kp.os, kp.tape, kp.output, Nat.le_trans kp.size (al_le w _), fun j hj hM => by
              rw [al_old w _ j (Nat.lt_of_lt_of_le hj kp.size)]; exact kp.block j hj hM⟩
end
end Go.Lg
