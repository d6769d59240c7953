import Derived.Lib.AppendZeros
import Derived.Test.YtcplmeajmpkpkaaGreatLCqsp
namespace Go.Lg
open Go.RowKit
section
variable {P : Program} {n : Nat} {C : World → Prop} {s : List (Nat × Value)} {Q : Exit → Act → World → Prop} {ops : Array Oper} {rest : List Oper}
variable {d ty t t' : Nat} {pos : String} {af : Array Edge} {v : Value} {x y : Operand} {M : List Nat} {w0 w : World} {H : List HE}

theorem y_cap [Dfs] (T : Tabs P) {a0 : Option Addr} {m k : Nat} {e : Nat × Nat × Nat × List Value} (ht : lk T.sl t = some e) (hx : ev s x = some (.slice a0 m k)) : Y P n C s (.call ⟨.builtin .cap, #[x], #[t]⟩) ty (.int .i64 k) := fun a w f c d pos af g => by
  obtain ⟨e, sz, b, z⟩ := e
  obtain ⟨h1, _⟩ := T.sl_ok _ _ _ _ _ ht
  simp [execOp, resolve, invoke, builtin, f.ev hx, Builtin.cap_, run_underlying h1, goInt]
theorem y_sl0 [Dfs] (T : Tabs P) {e k b m cap g : Nat} {z : List Value} {hi' : Operand} (ht : lk T.sl t = some (e, k, b, z)) (hx : ev s x = some (.slice (some ⟨g, 0, none⟩) m cap)) (hh : ev s hi' = some (.int .i64 0)) :
    Y P n C s (.slice t x none (some hi') none) ty (.slice (some ⟨g, 0, none⟩) 0 cap) := by
  have h := y_slh (n := n) (C := C) (ty := ty) (hi := 0) T ht hx hh rfl (Nat.zero_le _)
  have e : subA (some ⟨g, 0, none⟩) k 0 cap = some ⟨g, 0, none⟩ := by
    unfold subA
    split
    · rfl
    · simp [Addr.add_lit]
  rwa [e] at h
theorem y_sln [Dfs] (T : Tabs P) {e k b : Nat} {z : List Value} {hi' : Operand} (ht : lk T.sl t = some (e, k, b, z)) (hx : ev s x = some (.slice none 0 0)) (hh : ev s hi' = some (.int .i64 0)) :
    Y P n C s (.slice t x none (some hi') none) ty (.slice none 0 0) := by
  have h := y_slh (n := n) (C := C) (ty := ty) (hi := 0) T ht hx hh rfl (Nat.zero_le _)
  have e : subA none k 0 0 = none := by unfold subA; simp
  rwa [e] at h
theorem m_zeros [Dfs] (T0 : Tabs P) {e k b tn nn : Nat} {z : List Value} {q : Int} (htn : P.underlying tn = some (.int .i64)) (ht : lk T0.sl t = some (e, k, b, z)) (hx : ev s x = some (.slice none 0 0)) (hy : ev s y = some (.int .i64 q)) (hq : q = (nn : Int)) (hn : 0 < nn) (hb : nn * b ≤ 140737488355328) (hb1 : 1 ≤ b) (hd : Nat.blt d n = true)
    (h : ∀ g c, w0.heap.size ≤ g → nn ≤ c → AT n (Hp M w0 (.own (.s e k []) (.slice (some ⟨g, 0, none⟩) 0 c) :: H)) ((d, .slice (some ⟨g, 0, none⟩) nn c) :: s) (wpList P ops Q rest)) :
    AT n (Hp M w0 H) s (wpList P ops Q (⟨some d, .call ⟨.builtin .append, #[x, y], #[t, tn]⟩, ty, pos, af, none⟩ :: rest)) := fun a w f cw => by
  obtain ⟨q1, q2, q3, i, zv, q4, q5, q6, q7, q8⟩ := T0.sl_ok _ _ _ _ _ ht
  have hnn : nn ≤ 140737488355328 := Nat.le_trans (Nat.le_mul_of_pos_right _ hb1) hb
  have hzs : zv.cells.size = k := by rw [q8]; simp [q2]
  have hr := Lib.run_append_nil_zeros (P := P) w t tn ty e i zv .i64 .i64 q1 htn q4 q7 nn hn om om (by rw [q6]; omega)
  have hge := grownCap_ge w nn 0 e
  have hcm := grownCap_le_maxLen w nn 0 e (by unfold maxLen; omega)
  refine wpList_one rfl ?_
  unfold Oper.wp
  subst hq
  have : (execOp a.eval ⟨some d, .call ⟨.builtin .append, #[x, y], #[t, tn]⟩, ty, pos, af, none⟩).run P w = .ok (.value (.slice (some ⟨w.heap.size, 0, none⟩) nn (grownCap w nn 0 e))) (w.drew.alloc (.cells (Builtin.zeroCells zv.cells nn ++ Builtin.zeroCells zv.cells (grownCap w nn 0 e - nn)) e)) := by
    simp [execOp, resolve, invoke, builtin, f.ev hx, f.ev hy, hr]
  rw [this]
  obtain ⟨fp, sl, nd, ge, kp⟩ := cw
  have hp : Hp M w0 (.own (.s e k []) (.slice (some ⟨w.heap.size, 0, none⟩) 0 (grownCap w nn 0 e)) :: H) (w.drew.alloc (.cells (Builtin.zeroCells zv.cells nn ++ Builtin.zeroCells zv.cells (grownCap w nn 0 e - nn)) e)) := by
    refine ⟨[w.heap.size] ++ fp, ⟨[w.heap.size], fp, rfl, ?_, sl.loc (fun b hb => al_old w _ b (sl.lt b hb))⟩, ?_, ?_, ?_⟩
    · simp only [HE.sat, Own]
      refine .inr ⟨w.heap.size, 0, _, _, [], rfl, al_new w _, by simp, Nat.zero_le _, hcm, ?_, ?_, rfl⟩
      · simp only [Array.size_append, size_zeroCells, hzs, ← Nat.add_mul]
        congr 1; omega
      · simp [OwnL]
    · rw [List.singleton_append, List.nodup_cons]
      exact ⟨fun h => Nat.lt_irrefl _ (sl.lt _ h), nd⟩
    · intro b hb
      rcases List.mem_cons.1 hb with rfl | hb
      · exact .inr kp.size
      · exact ge b hb
    · exact ⟨kp.os, kp.tape, kp.output, Nat.le_trans kp.size (al_le w _), fun j hj hM => by
        rw [al_old w _ j (Nat.lt_of_lt_of_le hj kp.size)]; exact kp.block j hj hM⟩
  exact h _ _ kp.size hge _ _ (f.put (by simpa [Nat.blt_eq] using hd) _) hp

theorem m_apps [Dfs] (T0 : Tabs P) {e b m' m c : Nat} {z us us' : List Value} {ad : Option Addr} {H' : List HE} (ht : lk T0.sl t = some (e, 1, b, z)) (hx : ev s x = some v) (hy : ev s y = some (.slice ad m c)) (hd : Nat.blt d n = true)
    (hl : us'.length = m) (h1 : ∀ u ∈ us', u.oneCell' = true) (hm : us.length + us'.length = m') (hb : (us.length + us'.length) * b ≤ 140737488355328) (hb1 : 1 ≤ b)
    (hp : ∀ w, Hp M w0 H w → Hp M w0 (.own (.s e 1 (us.map T.c)) v :: H') w)
    (hs : ∀ w, Hp M w0 H w → m = 0 ∨ ∃ a, ad = some a ∧ ∀ j u, us'[j]? = some u → w.cell? (a.add j) = some u)
    (h : ∀ a cc, AT n (Hp M w0 (.own (.s e 1 ((us ++ us').map T.c)) (.slice a m' cc) :: H')) ((d, .slice a m' cc) :: s) (wpList P ops Q rest)) :
    AT n (Hp M w0 H) s (wpList P ops Q (⟨some d, .call ⟨.builtin .append, #[x, y], #[t, t]⟩, ty, pos, af, none⟩ :: rest)) := by
  refine m_app (ts := us.map T.c) (tn := us'.map T.c) (news := us') (m' := m') (H' := H') T0 ht hx hy hd om h1 (by simp; omega) (by simpa using hb) hb1 (fun w c => ((hp w c).free us').swap) hs (fun a cc => ?_)
  rw [← List.map_append]
  exact h a cc
theorem Hp.rdC {ts : List T} {cs : List Value} (h : Hp [] w0 H w) (hr : RdC w0 ts cs) : RdC w ts cs := ⟨hr.1, fun j t u ht hu => h.rd (hr.2 j t u ht hu)⟩
theorem RdC.append {t1 t2 : List T} {c1 c2 : List Value} (h1 : RdC w t1 c1) (h2 : RdC w t2 c2) : RdC w (t1 ++ t2) (c1 ++ c2) := by
  refine ⟨by rw [List.length_append, List.length_append, h1.1, h2.1], fun j t u ht hu => ?_⟩
  have hl := h1.1
  rw [List.getElem?_append] at ht hu
  by_cases hj : j < t1.length
  · rw [if_pos hj] at ht; rw [if_pos om] at hu
    exact h1.2 j t u ht hu
  · rw [if_neg hj] at ht; rw [if_neg om] at hu
    rw [← hl] at ht
    exact h2.2 _ t u ht hu
theorem RdC.nil : RdC w [] [] := ⟨rfl, fun j t u ht hu => by simp at ht⟩
theorem RdC.one {tt : T} (h : Rd w tt v) : RdC w [tt] [v] := ⟨rfl, fun j t u ht hu => by
  match j, ht, hu with
  | 0, ht, hu => simp at ht hu; rw [← ht, ← hu]; exact h
  | j + 1, ht, hu => simp at ht⟩
theorem rd_cells {e m c : Nat} {ts : List T} {a : Option Addr} (hr : Rd w (.s e 1 ts) (.slice a m c)) : ∃ us, ts.length = m ∧ RdC w ts us ∧ (m = 0 ∨ a = some ⟨ab a, ao a, none⟩) ∧ ∀ j u, us[j]? = some u → w.cell? ⟨ab a, ao a + j, none⟩ = some u := by
  obtain ⟨a', n', c', h1, h2, h3, h4, h5, h6⟩ := Rd.open (by decide) hr
  cases h1
  have key : ∀ k, k ≤ ts.length → ∃ us : List Value, us.length = k ∧ ∀ j u, us[j]? = some u → ∃ t, ts[j]? = some t ∧ w.cell? ⟨ab a, ao a + j, none⟩ = some u ∧ Rd w t u := fun k => by
    induction k with
    | zero => exact fun _ => ⟨[], rfl, fun j u h => by simp at h⟩
    | succ k ih =>
      intro hk
      obtain ⟨us, h7, h8⟩ := ih om
      obtain ⟨u, g1, g2⟩ := h6 k ts[k] (List.getElem?_eq_getElem om)
      refine ⟨us ++ [u], by simp [h7], fun j u' hj => ?_⟩
      rw [List.getElem?_append] at hj
      split at hj
      · exact h8 j u' hj
      · rename_i hjn
        have hjk : j = k := by
          have := (List.getElem?_eq_some_iff.1 hj).1
          simp at this; omega
        subst hjk
        rw [h7] at hj
        simp at hj
        subst hj
        exact ⟨ts[j], List.getElem?_eq_getElem om, g1, g2⟩
  obtain ⟨us, h7, h8⟩ := key ts.length (Nat.le_refl _)
  refine ⟨us, by omega, ⟨h7, fun j t u ht hu => ?_⟩, h2, fun j u hu => ?_⟩
  · obtain ⟨t', e1, _, e3⟩ := h8 j u hu
    rw [ht] at e1
    cases e1
    exact e3
  · obtain ⟨_, _, e2, _⟩ := h8 j u hu
    exact e2
theorem rd_named (i : Nat) {e e' m c : Nat} {ts : List T} {us : List Value} {a : Option Addr} (hi : H[i]? = some (.own (.s e 1 (us.map T.c)) (.slice a m c))) (cw : Hp M w0 H w) (hr : RdC w ts us) : Rd w (.s e' 1 ts) (.slice a m c) := by
  have h := cw.own_rd hi
  simp only [Rd] at h ⊢
  obtain ⟨a', n', c', h1, h2, h3, h4, h5⟩ := h
  cases h1
  refine ⟨_, _, _, rfl, h2, h3, by rw [← hr.1]; simpa using h4, ?_⟩
  have key : ∀ i t, ts[i]? = some t → ∃ b o u, a = some ⟨b, o, none⟩ ∧ w.cell? ⟨b, o + (0 + i), none⟩ = some u ∧ Rd w t u := fun i t ht => by
    have hil : i < us.length := by rw [hr.1]; exact (List.getElem?_eq_some_iff.1 ht).1
    obtain ⟨b, o, u, g1, g2, g3⟩ := h5.get i (.c us[i]) (by simp [hil])
    simp only [Rd] at g3
    subst g3
    exact ⟨b, o, _, g1, g2, hr.2 i t _ ht (List.getElem?_eq_getElem hil)⟩
  cases hts : ts with
  | nil => simp [RdL]
  | cons t0 tl =>
    obtain ⟨b, o, u, g1, _, _⟩ := key 0 t0 (by rw [hts]; rfl)
    subst g1
    rw [← hts]
    refine RdL.of_get (fun i t ht => ?_)
    obtain ⟨b', o', u', g1', g2', g3'⟩ := key i t ht
    cases g1'
    exact ⟨u', g2', g3'⟩
theorem named_src {m : Nat} {us : List Value} {a : Option Addr} (hs : m = 0 ∨ a = some ⟨ab a, ao a, none⟩) (hc : ∀ j u, us[j]? = some u → w0.cell? ⟨ab a, ao a + j, none⟩ = some u) : ∀ w, Hp [] w0 H w → m = 0 ∨ ∃ ad, a = some ad ∧ ∀ j u, us[j]? = some u → w.cell? (ad.add j) = some u := fun w c => by
  rcases hs with h | h
  · exact .inl h
  · exact .inr ⟨_, h, fun j u hu => by rw [Addr.add_lit]; exact c.cell (hc j u hu)⟩
end
section
variable {P : Program} {n : Nat} {M : List Nat} {w0 w : World} {S : World → Prop} {ops : Array Oper} {K : Act → World → Prop} {i0 d0 e0 : Nat} {z : List Value} {H : List HE} {s : List (Nat × Value)} {fuel : Nat} {listed : Array Bool}
def Stp [Dfs] (P : Program) (n : Nat) (M : List Nat) (w0 : World) (ops : Array Oper) (K : Act → World → Prop) (H : List HE) (s : List (Nat × Value)) (o : Oper) (d : Nat) (φ : Value → List HE → Prop) : Prop :=
  ∀ E X (R : Act → World → Prop), (∀ v H1, φ v H1 → AT n (Hp M w0 (H1 ++ E)) ((d, v) :: (s ++ X)) R) → AT n (Hp M w0 (H ++ E)) (s ++ X) (wpList P ops (Qk R (Qn K)) [o])
end
end Go.Lg
