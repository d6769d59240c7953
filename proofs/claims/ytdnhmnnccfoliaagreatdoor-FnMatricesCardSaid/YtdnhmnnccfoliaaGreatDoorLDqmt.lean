import Derived.Lib.AppendZeros
import Derived.Test.YtdnhmnnccfoliaaGreatDoorLCqmt
namespace Go.Lg
open Go.RowKit
section
variable {P : Program} {n : Nat} {C : World → Prop} {s : List (Nat × Value)} {Q : Exit → Act → World → Prop} {ops : Array Oper} {rest : List Oper}
variable {d ty t t' : Nat} {pos : String} {af : Array Edge} {v : Value} {x y : Operand} {M : List Nat} {w0 w : World} {H : List HE}

theorem y_cap (T : Tabs P) {a0 : Option Addr} {m k : Nat} {e : Nat × Nat × Nat × List Value} (ht : lk T.sl t = some e) (hx : ev s x = some (.slice a0 m k)) : Y P n C s (.call ⟨.builtin .cap, #[x], #[t]⟩) ty (.int .i64 k) := fun a w f c d pos af g => by
  obtain ⟨e, sz, b, z⟩ := e
  obtain ⟨h1, _⟩ := T.sl_ok _ _ _ _ _ ht
  simp [execOp, resolve, invoke, builtin, f.ev hx, Builtin.cap_, run_underlying h1, goInt]
theorem y_sl0 (T : Tabs P) {e k b m cap g : Nat} {z : List Value} {hi' : Operand} (ht : lk T.sl t = some (e, k, b, z)) (hx : ev s x = some (.slice (some ⟨g, 0, none⟩) m cap)) (hh : ev s hi' = some (.int .i64 0)) :
    Y P n C s (.slice t x none (some hi') none) ty (.slice (some ⟨g, 0, none⟩) 0 cap) := by
  have h := y_slh (n := n) (C := C) (ty := ty) (hi := 0) T ht hx hh rfl (Nat.zero_le _)
  have e : subA (some ⟨g, 0, none⟩) k 0 cap = some ⟨g, 0, none⟩ := by
    unfold subA
    split
    · rfl
    · simp [Addr.add_lit]
  rwa [e] at h
theorem y_sln (T : Tabs P) {e k b : Nat} {z : List Value} {hi' : Operand} (ht : lk T.sl t = some (e, k, b, z)) (hx : ev s x = some (.slice none 0 0)) (hh : ev s hi' = some (.int .i64 0)) :
    Y P n C s (.slice t x none (some hi') none) ty (.slice none 0 0) := by
  have h := y_slh (n := n) (C := C) (ty := ty) (hi := 0) T ht hx hh rfl (Nat.zero_le _)
  have e : subA none k 0 0 = none := by unfold subA; simp
  rwa [e] at h
theorem m_zeros (T0 : Tabs P) {e k b tn nn : Nat} {z : List Value} {q : Int} (htn : P.underlying tn = some (.int .i64)) (ht : lk T0.sl t = some (e, k, b, z)) (hx : ev s x = some (.slice none 0 0)) (hy : ev s y = some (.int .i64 q)) (hq : q = (nn : Int)) (hn : 0 < nn) (hb : nn * b ≤ 140737488355328) (hb1 : 1 ≤ b) (hd : Nat.blt d n = true)
    (h : ∀ g c, w0.heap.size ≤ g → nn ≤ c → AT n (Hp M w0 (.own (.s e k []) (.slice (some ⟨g, 0, none⟩) 0 c) :: H)) ((d, .slice (some ⟨g, 0, none⟩) nn c) :: s) (wpList P ops Q rest)) :
    AT n (Hp M w0 H) s (wpList P ops Q (⟨some d, .call ⟨.builtin .append, #[x, y], #[t, tn]⟩, ty, pos, af, none⟩ :: rest)) := fun a w f cw => by
  obtain ⟨q1, q2, q3, i, zv, q4, q5, q6, q7, q8⟩ := T0.sl_ok _ _ _ _ _ ht
  have hnn : nn ≤ 140737488355328 := Nat.le_trans (Nat.le_mul_of_pos_right _ hb1) hb
  have hzs : zv.cells.size = k := by rw [q8]; simp [q2]
  have hr := Lib.run_append_nil_zeros (P := P) w t tn ty e i zv .i64 .i64 q1 htn q4 q7 nn hn om om (by rw [q6]; omega)
  have hge := grownCap_ge w nn 0 e
  have hcm := grownCap_le_maxLen w nn 0 e (by unfold maxLen; omega)
  refine wpList_one rfl ?_
  unfold Oper.wp
  subst hq
  have : (execOp a.eval ⟨some d, .call ⟨.builtin .append, #[x, y], #[t, tn]⟩, ty, pos, af, none⟩).run P w = .ok (.value (.slice (some ⟨w.heap.size, 0, none⟩) nn (grownCap w nn 0 e))) (w.drew.alloc (.cells (Builtin.zeroCells zv.cells nn ++ Builtin.zeroCells zv.cells (grownCap w nn 0 e - nn)) e)) := by
    simp [execOp, resolve, invoke, builtin, f.ev hx, f.ev hy, hr]
  rw [this]
  obtain ⟨fp, sl, nd, ge, kp⟩ := cw
  have hp : Hp M w0 (.own (.s e k []) (.slice (some ⟨w.heap.size, 0, none⟩) 0 (grownCap w nn 0 e)) :: H) (w.drew.alloc (.cells (Builtin.zeroCells zv.cells nn ++ Builtin.zeroCells zv.cells (grownCap w nn 0 e - nn)) e)) := by
    refine ⟨[w.heap.size] ++ fp, ⟨[w.heap.size], fp, rfl, ?_, sl.loc (fun b hb => al_old w _ b (sl.lt b hb))⟩, ?_, ?_, ?_⟩
    · simp only [HE.sat, Own]
      refine .inr ⟨w.heap.size, 0, _, _, [], rfl, al_new w _, by simp, Nat.zero_le _, hcm, ?_, ?_, rfl⟩
      · simp only [Array.size_append, size_zeroCells, hzs, ← Nat.add_mul]
        congr 1; omega
      · simp [OwnL]
    · rw [List.singleton_append, List.nodup_cons]
      exact ⟨fun h => Nat.lt_irrefl _ (sl.lt _ h), nd⟩
    · intro b hb
      rcases List.mem_cons.1 hb with rfl | hb
      · exact .inr kp.size
      · exact ge b hb
    · exact ⟨kp.os, kp.tape, kp.output, Nat.le_trans kp.size (al_le w _), fun j hj hM => by
        rw [al_old w _ j (Nat.lt_of_lt_of_le hj kp.size)]; exact kp.block j hj hM⟩
  exact h _ _ kp.size hge _ _ (f.put (by simpa [Nat.blt_eq] using hd) _) hp

theorem RdC.append {t1 t2 : List T} {c1 c2 : List Value} (h1 : RdC w t1 c1) (h2 : RdC w t2 c2) : RdC w (t1 ++ t2) (c1 ++ c2) := by
  refine ⟨by rw [List.length_append, List.length_append, h1.1, h2.1], fun j t u ht hu => ?_⟩
  have hl := h1.1
  rw [List.getElem?_append] at ht hu
  by_cases hj : j < t1.length
  · rw [if_pos hj] at ht; rw [if_pos om] at hu
    exact h1.2 j t u ht hu
  · rw [if_neg hj] at ht; rw [if_neg om] at hu
    rw [← hl] at ht
    exact h2.2 _ t u ht hu
theorem RdC.nil : RdC w [] [] := ⟨rfl, fun j t u ht hu => by simp at ht⟩
theorem RdC.one {tt : T} (h : Rd w tt v) : RdC w [tt] [v] := ⟨rfl, fun j t u ht hu => by
  match j, ht, hu with
  | 0, ht, hu => simp at ht hu; rw [← ht, ← hu]; exact h
  | j + 1, ht, hu => simp at ht⟩
end
section
variable {P : Program} {n : Nat} {M : List Nat} {w0 w : World} {S : World → Prop} {ops : Array Oper} {K : Act → World → Prop} {i0 d0 e0 : Nat} {z : List Value} {H : List HE} {s : List (Nat × Value)} {fuel : Nat} {listed : Array Bool}
end
end Go.Lg
