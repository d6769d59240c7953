import Derived.Test.YtbpgnnejlablnaaLgD
namespace Go.Lg
open Go.RowKit

/-- what a call comes to: its value, and the pieces of memory that it hands over; M: the blocks that it may turn -/
def DoesB (P : Program) (f : Nat) (vs : List Value) (w : World) (M : List Nat) (φ : Value → List HE → Prop) : Prop :=
  Calls P f vs.toArray w fun e w' => ∃ v H, e = .returned v ∧ φ v H ∧ Hp M w H w'
/-- .. of a call that turns nothing -/
abbrev Does (P : Program) (f : Nat) (vs : List Value) (w : World) (φ : Value → List HE → Prop) : Prop := DoesB P f vs w [] φ

/-- a function of the program with a body -/
def Ent (P : Program) (f : Nat) : Prop := ∀ args w, (callFunc f args).run P w = .ok (.enter f args) w
theorem ent_of {P : Program} {f : Nat} {fn : Func} (h : P.funcs[f]? = some fn) (hn : (fn.name == "runtime.NumGoroutine") = false) (hb : fn.body.isNone = false) : Ent P f := fun args w => by
  have h1 : ¬ fn.name = "runtime.NumGoroutine" := by simpa using hn
  have h2 : ¬ fn.body = none := fun h => by rw [h] at hb; cases hb
  simp [callFunc, h, h1, h2]

section
variable {P : Program} {n : Nat} {C : World → Prop} {s : List (Nat × Value)} {Q : Exit → Act → World → Prop} {ops : Array Oper} {rest : List Oper}
variable {d ty t t' : Nat} {pos : String} {af : Array Edge} {v : Value} {x y : Operand} {M : List Nat} {w0 : World} {H : List HE}

/-- one operation that comes to v and another world -/
theorem st_go {op : Op} {C' : World → Prop} (hd : Nat.blt d n = true)
    (hr : ∀ a w, Fr n s a → C w → ∃ w', C' w' ∧ (execOp a.eval ⟨some d, op, ty, pos, af, none⟩).run P w = .ok (.value v) w')
    (h : AT n C' ((d, v) :: s) (wpList P ops Q rest)) : AT n C s (wpList P ops Q (⟨some d, op, ty, pos, af, none⟩ :: rest)) := fun a w f c => by
  obtain ⟨w', hc', hrun⟩ := hr a w f c
  refine wpList_one rfl ?_
  unfold Oper.wp
  rw [hrun]
  exact h _ _ (f.put (by simpa [Nat.blt_eq] using hd) v) hc'
theorem st_gov {op : Op} {C' : Value → World → Prop} (hd : Nat.blt d n = true)
    (hr : ∀ a w, Fr n s a → C w → ∃ v w', C' v w' ∧ (execOp a.eval ⟨some d, op, ty, pos, af, none⟩).run P w = .ok (.value v) w')
    (h : ∀ v, AT n (C' v) ((d, v) :: s) (wpList P ops Q rest)) : AT n C s (wpList P ops Q (⟨some d, op, ty, pos, af, none⟩ :: rest)) := fun a w f c => by
  obtain ⟨v, w', hc', hrun⟩ := hr a w f c
  refine wpList_one rfl ?_
  unfold Oper.wp
  rw [hrun]
  exact h v _ _ (f.put (by simpa [Nat.blt_eq] using hd) v) hc'
theorem st_skip {op : Op} {C' : World → Prop}
    (hr : ∀ a w, Fr n s a → C w → ∃ w', C' w' ∧ (execOp a.eval ⟨none, op, ty, pos, af, none⟩).run P w = .ok .skip w')
    (h : AT n C' s (wpList P ops Q rest)) : AT n C s (wpList P ops Q (⟨none, op, ty, pos, af, none⟩ :: rest)) := fun a w f c => by
  obtain ⟨w', hc', hrun⟩ := hr a w f c
  refine wpList_one rfl ?_
  unfold Oper.wp
  rw [hrun]
  exact h _ _ f hc'

/-- a class with a block number: as often as not -/
theorem m_new {R : Act → World → Prop} {cur : Array Value} {e : Nat} {g : Nat → List (Nat × Value)}
    (h : ∀ b, w0.heap.size ≤ b → AT n (Hp M w0 (.blk b cur e :: H)) (g b) R) : ∀ b, AT n (fun w => w0.heap.size ≤ b ∧ Hp M w0 (.blk b cur e :: H) w) (g b) R :=
  fun b => AT.pr (h b)

theorem m_box {e : Nat} {u : Value} (hx : ev s x = some u) (hd : Nat.blt d n = true)
    (h : ∀ b, w0.heap.size ≤ b → AT n (Hp M w0 (.blk b u.cells e :: H)) ((d, .pointer (some ⟨b, 0, none⟩)) :: s) (wpList P ops Q rest)) :
    AT n (Hp M w0 H) s (wpList P ops Q (⟨some d, .box e x, ty, pos, af, none⟩ :: rest)) := fun a w f c => by
  refine wpList_one rfl ?_
  unfold Oper.wp
  have : (execOp a.eval ⟨some d, .box e x, ty, pos, af, none⟩).run P w = .ok (.value (.pointer (some ⟨w.heap.size, 0, none⟩))) (w.alloc (.cells u.cells e)) := by
    simp [execOp, f.ev hx, Instr.box, newVar, newRow]
  rw [this]
  exact h _ c.kept.size _ _ (f.put (by simpa [Nat.blt_eq] using hd) _) (c.alloc _ _)

theorem m_alloc (T : Tabs P) {e : Nat} {z : List Value} (ht : lk T.sz e = some z) (hd : Nat.blt d n = true)
    (h : ∀ b, w0.heap.size ≤ b → AT n (Hp M w0 (.blk b z.toArray e :: H)) ((d, .pointer (some ⟨b, 0, none⟩)) :: s) (wpList P ops Q rest)) :
    AT n (Hp M w0 H) s (wpList P ops Q (⟨some d, .alloc e, ty, pos, af, none⟩ :: rest)) := fun a w f c => by
  refine wpList_one rfl ?_
  unfold Oper.wp
  obtain ⟨zv, h1, h2⟩ := (T.sz_ok _ _ ht).1 w
  have : (execOp a.eval ⟨some d, .alloc e, ty, pos, af, none⟩).run P w = .ok (.value (.pointer (some ⟨w.heap.size, 0, none⟩))) (w.alloc (.cells z.toArray e)) := by
    simp [execOp, Instr.alloc, h1, newVar, newRow, h2]
  rw [this]
  exact h _ c.kept.size _ _ (f.put (by simpa [Nat.blt_eq] using hd) _) (c.alloc _ _)

/-- what a cell of a block of ours holds -/
theorem hc_blk (i : Nat) {b o e : Nat} {cur : Array Value} (hi : H[i]? = some (.blk b cur e)) (hv : cur[o]? = some v) : ∀ w, Hp M w0 H w → w.cell? ⟨b, o, none⟩ = some v := fun w c => by
  have := c.blk hi
  simp only [World.cell?, this]
  simpa using hv
theorem hc_w0 {a : Addr} (hv : w0.cell? a = some v) : ∀ w, Hp [] w0 H w → w.cell? a = some v := fun _ c => c.cell hv
theorem hcs_blk (i : Nat) {b o e : Nat} {cur : Array Value} {cs : List Value} (hi : H[i]? = some (.blk b cur e)) (hv : ∀ j v, cs[j]? = some v → cur[o + j]? = some v) :
    ∀ w, Hp M w0 H w → ∀ j v, cs[j]? = some v → w.cell? ((⟨b, o, none⟩ : Addr).add j) = some v := fun w c j v hj => by
  rw [Addr.add_lit]
  exact hc_blk i hi (hv j v hj) w c

theorem m_store (i : Nat) (T : Tabs P) {b o e : Nat} {cur : Array Value} {u : Value} (ht : lk T.one t = some ()) (hx : ev s x = some (.pointer (some ⟨b, o, none⟩))) (hy : ev s y = some u) (hu : u.oneCell' = true)
    (hi : H[i]? = some (.blk b cur e)) (ho : o < cur.size) (h : AT n (Hp M w0 (H.set i (.blk b (cur.setIfInBounds o u) e))) s (wpList P ops Q rest)) :
    AT n (Hp M w0 H) s (wpList P ops Q (⟨none, .store t x y, ty, pos, af, none⟩ :: rest)) := st_skip (fun a w f c => by
  have hb := c.blk hi
  have hcell : w.cell? ⟨b, o, none⟩ = some cur[o] := by simp [World.cell?, hb, ho]
  have hfro : w.frozen? ⟨b, o, none⟩ = false := by simp [World.frozen?, hb]
  refine ⟨w.setCell ⟨b, o, none⟩ u, c.turn hi (fun f hf => ?_) rfl rfl rfl (by simp [World.setCell]), ?_⟩
  · obtain ⟨h1, h2⟩ := hf
    subst h2
    refine ⟨⟨?_, rfl⟩, fun k _ hk => Below.heap_setCell w ⟨b, o, none⟩ u k (by simpa using hk)⟩
    simp [World.setCell, Array.getElem?_modify, h1]
  · simp [execOp, f.ev hx, f.ev hy, (T.one_ok _ ht).2 _ _ w hu, stored, hcell, hfro]) h

theorem take_set_drop (l : List Value) (o : Nat) (cs : List Value) : (l.take o ++ cs ++ l.drop (o + cs.length)).length = if o + cs.length ≤ l.length then l.length else (l.take o).length + cs.length := by
  simp only [List.length_append, List.length_take, List.length_drop]; split <;> omega

/-- a struct is stored whole -/
theorem m_stores (i : Nat) (T : Tabs P) {b o e : Nat} {cur : Array Value} {cs z : List Value} (ht : lk T.sz t = some z) (hl : cs.length = z.length) (hx : ev s x = some (.pointer (some ⟨b, o, none⟩))) (hy : ev s y = some (.agg cs.toArray)) (hu : ∀ u ∈ cs, u.oneCell' = true)
    (hi : H[i]? = some (.blk b cur e)) (ho : o + cs.length ≤ cur.size) (h : AT n (Hp M w0 (H.set i (.blk b (cur.toList.take o ++ cs ++ cur.toList.drop (o + cs.length)).toArray e))) s (wpList P ops Q rest)) :
    AT n (Hp M w0 H) s (wpList P ops Q (⟨none, .store t x y, ty, pos, af, none⟩ :: rest)) := st_skip (fun a w f c => by
  have hb := c.blk hi
  refine ⟨w.setRow b (cur.toList.take o ++ cs ++ cur.toList.drop (o + cs.length)).toArray, c.turn hi (fun f hf => ?_) rfl rfl rfl (by simp), ?_⟩
  · obtain ⟨h1, h2⟩ := hf
    subst h2
    exact ⟨⟨setRow_heap w b cur _ e _ h1, rfl⟩, fun k _ hk => setRow_other w b k _ (by simpa using hk)⟩
  · have := run_storeCells_at P b o e cs 0 cur w hb (by omega) hu
    simp only [Nat.add_zero] at this
    simp [execOp, f.ev hx, f.ev hy, (T.sz_ok _ _ ht).2.2 _ _ w hl, this]) h

/-- make -/
def zeros (z : List Value) (m : Nat) : Array Value := madeCells z.toArray (m * z.length)
theorem m_make (T : Tabs P) {e k by' : Nat} {z : List Value} {l c : Int} (ht : lk T.sl t = some (e, k, by', z)) (hx : ev s x = some (.int .i64 l)) (hy : ev s y = some (.int .i64 c)) (h0 : 0 ≤ l) (hlc : l ≤ c) (hb : by' * c.toNat ≤ 281474976710656) (hc : c ≤ 140737488355328) (hd : Nat.blt d n = true)
    (h : ∀ b, w0.heap.size ≤ b → AT n (Hp M w0 (.blk b (zeros z c.toNat) e :: H)) ((d, .slice (some ⟨b, 0, none⟩) l.toNat c.toNat) :: s) (wpList P ops Q rest)) :
    AT n (Hp M w0 H) s (wpList P ops Q (⟨some d, .makeSlice t x y, ty, pos, af, none⟩ :: rest)) := fun a w f cc => by
  refine wpList_one rfl ?_
  unfold Oper.wp
  obtain ⟨q1, q2, q3, i, zv, q4, q5, q6, q7, q8⟩ := T.sl_ok _ _ _ _ _ ht
  have hr := run_make (P := P) w t e i zv q1 q4 q7 .i64 .i64 l c h0 hlc (by rw [q6]; rw [show c = ((c.toNat : Nat) : Int) by omega, ← Int.natCast_mul]; omega) (by omega)
  have : (execOp a.eval ⟨some d, .makeSlice t x y, ty, pos, af, none⟩).run P w = .ok (.value (.slice (some ⟨w.heap.size, 0, none⟩) l.toNat c.toNat)) (w.alloc (.cells (zeros z c.toNat) e)) := by
    simp [execOp, f.ev hx, f.ev hy, hr, zeros, q8, q5, q2]
  rw [this]
  exact h _ cc.kept.size _ _ (f.put (by simpa [Nat.blt_eq] using hd) _) (cc.alloc _ _)

/-- a call of a function of the program -/
theorem m_call {f : Nat} {args : Array Operand} {vs : List Value} {φ : Value → List HE → Prop} {at' : Array Nat} (he : Ent P f) (ha : evs s args.toList = some vs) (hd : Nat.blt d n = true)
    (hc : ∀ w, Hp M w0 H w → Does P f vs w φ) (h : ∀ v H', φ v H' → AT n (Hp M w0 (H' ++ H)) ((d, v) :: s) (wpList P ops Q rest)) :
    AT n (Hp M w0 H) s (wpList P ops Q (⟨some d, .call ⟨.value (.func f), args, at'⟩, ty, pos, af, none⟩ :: rest)) := fun a w fr c => by
  refine wpList_one rfl ?_
  unfold Oper.wp
  have hm : args.map a.eval = vs.toArray := by
    rw [← fr.evs ha]
    apply Array.ext'
    simp
  have : (execOp a.eval ⟨some d, .call ⟨.value (.func f), args, at'⟩, ty, pos, af, none⟩).run P w = .ok (.enter f vs.toArray) w := by
    simp [execOp, resolve, Act.eval, Deferred.ofValue, hm, invoke, he vs.toArray w]
  rw [this]
  refine (hc w c).mono ?_
  rintro e w' ⟨v, H', rfl, hφ, fp, hs, nd, ge, kp⟩
  refine h v H' hφ _ _ (fr.put (by simpa [Nat.blt_eq] using hd) v) (c.more kp.below hs nd (fun b hb => (ge b hb).resolve_left (by simp)))

/-- blocks are lent to a call and come back -/
theorem Hp.lend {w w' : World} {H0 H1 : List HE} {M' : List Nat} (hp : ∃ f2, satL w H0 M' ∧ satL w H f2 ∧ (M' ++ f2).Nodup ∧ (∀ b ∈ M' ++ f2, b ∈ M ∨ w0.heap.size ≤ b) ∧ Kept M w0 w) (hb : Hp M' w H1 w') : Hp M w0 (H1 ++ H) w' := by
  obtain ⟨f2, s1, s2, nd, ge, kp⟩ := hp
  obtain ⟨f1, t1, nd1, ge1, kp1⟩ := hb
  have nd2 := List.nodup_append.1 nd
  refine ⟨f1 ++ f2, t1.append (s2.loc (fun b hb => kp1.block b (s2.lt b hb) (fun h => nd2.2.2 b h b hb rfl))), List.nodup_append.2 ⟨nd1, nd2.2.1, fun a ha b hb e => ?_⟩, fun b hb => ?_, kp1.os.trans kp.os, kp1.tape.trans kp.tape, kp1.output.trans kp.output, Nat.le_trans kp.size kp1.size, fun j hj hM => ?_⟩
  · subst e
    rcases ge1 a ha with h | h
    · exact nd2.2.2 a h a hb rfl
    · have := s2.lt a hb; omega
  · rcases List.mem_append.1 hb with hb | hb
    · rcases ge1 b hb with h | h
      · exact ge b (by simp [h])
      · exact .inr (Nat.le_trans kp.size h)
    · exact ge b (by simp [hb])
  · rw [kp1.block j (Nat.lt_of_lt_of_le hj kp.size) (fun h => ?_)]
    · exact kp.block j hj hM
    · rcases ge j (by simp [h]) with h' | h'
      · exact hM h'
      · omega

/-- a call that is lent the piece number i -/
theorem m_callB (i : Nat) {h0 : HE} {f : Nat} {args : Array Operand} {vs : List Value} {φ : Value → List HE → Prop} {at' : Array Nat} (he : Ent P f) (ha : evs s args.toList = some vs) (hd : Nat.blt d n = true) (hi : H[i]? = some h0)
    (hc : ∀ w M', Hp M w0 H w → h0.sat w M' → M'.Nodup → DoesB P f vs w M' φ) (h : ∀ v H', φ v H' → AT n (Hp M w0 (H' ++ H.eraseIdx i)) ((d, v) :: s) (wpList P ops Q rest)) :
    AT n (Hp M w0 H) s (wpList P ops Q (⟨some d, .call ⟨.value (.func f), args, at'⟩, ty, pos, af, none⟩ :: rest)) := fun a w fr c => by
  refine wpList_one rfl ?_
  unfold Oper.wp
  have hm : args.map a.eval = vs.toArray := by
    rw [← fr.evs ha]
    apply Array.ext'
    simp
  have : (execOp a.eval ⟨some d, .call ⟨.value (.func f), args, at'⟩, ty, pos, af, none⟩).run P w = .ok (.enter f vs.toArray) w := by
    simp [execOp, resolve, Act.eval, Deferred.ofValue, hm, invoke, he vs.toArray w]
  rw [this]
  obtain ⟨fp, ⟨f1, f2, e, s1, s2⟩, nd, ge, kp⟩ := c.front hi
  subst e
  refine (hc w f1 c s1 (List.nodup_append.1 nd).1).mono ?_
  rintro e w' ⟨v, H', rfl, hφ, hp'⟩
  exact h v H' hφ _ _ (fr.put (by simpa [Nat.blt_eq] using hd) v) (Hp.lend (H0 := [h0]) ⟨f2, ⟨f1, [], by simp, s1, rfl⟩, s2, nd, ge, kp⟩ hp')

/-- the call of a function value -/
theorem m_callv {f : Nat} {g : Operand} {cap : Array Value} {args : Array Operand} {vs : List Value} {φ : Value → List HE → Prop} {at' : Array Nat} (hg : ev s g = some (.func (.func f) #[] cap)) (he : Ent P f) (ha : evs s args.toList = some vs) (hd : Nat.blt d n = true)
    (hc : ∀ w, Hp M w0 H w → Does P f (vs ++ cap.toList) w φ) (h : ∀ v H', φ v H' → AT n (Hp M w0 (H' ++ H)) ((d, v) :: s) (wpList P ops Q rest)) :
    AT n (Hp M w0 H) s (wpList P ops Q (⟨some d, .call ⟨.value g, args, at'⟩, ty, pos, af, none⟩ :: rest)) := fun a w fr c => by
  refine wpList_one rfl ?_
  unfold Oper.wp
  have hm : args.map a.eval = vs.toArray := by
    rw [← fr.evs ha]
    apply Array.ext'
    simp
  have hm2 : vs.toArray ++ cap = (vs ++ cap.toList).toArray := by apply Array.ext'; simp
  have : (execOp a.eval ⟨some d, .call ⟨.value g, args, at'⟩, ty, pos, af, none⟩).run P w = .ok (.enter f (vs ++ cap.toList).toArray) w := by
    have := he (vs ++ cap.toList).toArray w
    rw [← hm2] at this ⊢
    simp [execOp, resolve, fr.ev hg, Deferred.ofValue, hm, invoke, this]
  rw [this]
  refine (hc w c).mono ?_
  rintro e w' ⟨v, H', rfl, hφ, fp, hs, nd, ge, kp⟩
  refine h v H' hφ _ _ (fr.put (by simpa [Nat.blt_eq] using hd) v) (c.more kp.below hs nd (fun b hb => (ge b hb).resolve_left (by simp)))

/-- the arguments in their slots -/
def en : Nat → List Value → List (Nat × Value)
  | _, [] => []
  | k, v :: r => (k, v) :: en (k + 1) r
theorem lk_en : ∀ {l : List Value} {k j : Nat} {v : Value}, lk (en k l) j = some v → k ≤ j ∧ l[j - k]? = some v
  | [], k, j, v, h => by cases h
  | u :: l, k, j, v, h => by
    simp only [en, lk] at h
    by_cases hk : k = j
    · subst hk; simp at h; subst h; simp
    · have : Nat.beq k j = false := by
        cases hb : Nat.beq k j with
        | false => rfl
        | true => exact absurd (Nat.eq_of_beq_eq_true hb) hk
      simp only [this, cond_false] at h
      obtain ⟨h1, h2⟩ := lk_en h
      exact ⟨by omega, by rw [show j - k = (j - (k + 1)) + 1 by omega]; simpa using h2⟩

theorem fnb_enter {f : Nat} {fn : Func} {c : Code} {vs : List Value} {w : World} {R : Ending → World → Prop} {H0 : List HE} (hf : P.funcs[f]? = some fn) (hb : fn.body = some c) (hn : fn.ntmps = n) (hs : Nat.ble vs.length n = true)
    (hp : Hp M w H0 w) (h : AT n (Hp M w H0) (en 0 vs) (c.wp P (bodyPost P fn R))) : Calls P f vs.toArray w R := by
  refine calls_of_wp hf hb (h _ _ ⟨?_, rfl, fun k v hk => ?_⟩ hp)
  · have := Nat.le_of_ble_eq_true hs
    simp [hn]; omega
  · obtain ⟨_, h2⟩ := lk_en hk
    simp only [Nat.sub_zero] at h2
    have := (List.getElem?_eq_some_iff.1 h2).1
    rw [Array.getElem?_append_left (by simpa using this)]
    simpa using h2
theorem fn_enter {f : Nat} {fn : Func} {c : Code} {vs : List Value} {w : World} {φ : Value → List HE → Prop} (hf : P.funcs[f]? = some fn) (hb : fn.body = some c) (hn : fn.ntmps = n) (hs : Nat.ble vs.length n = true)
    (h : AT n (Hp [] w []) (en 0 vs) (c.wp P (bodyPost P fn (fun e w' => ∃ v H, e = .returned v ∧ φ v H ∧ Hp [] w H w')))) : Does P f vs w φ :=
  fnb_enter hf hb hn hs Hp.nil h
theorem fnb_start {f : Nat} {fn : Func} {c : Code} {vs : List Value} {w : World} {φ : Value → List HE → Prop} {H0 : List HE} (hf : P.funcs[f]? = some fn) (hb : fn.body = some c) (hn : fn.ntmps = n) (hs : Nat.ble vs.length n = true)
    (hp : satL w H0 M) (nd : M.Nodup)
    (h : AT n (Hp M w H0) (en 0 vs) (c.wp P (bodyPost P fn (fun e w' => ∃ v H, e = .returned v ∧ φ v H ∧ Hp M w H w')))) : DoesB P f vs w M φ :=
  fnb_enter hf hb hn hs ⟨M, hp, nd, fun _ hb => .inl hb, Kept.refl⟩ h

/-- what a result variable reads as -/
def ResV (P : Program) (C : World → Prop) (s : List (Nat × Value)) : ResultVar → Value → Prop
  | .tmp t, v => lk s t = some v
  | .cell t ty, v => ∃ a, lk s t = some (.pointer (some a)) ∧ ∀ w, C w → (loadVar ty a).run P w = .ok v w
theorem res_tmp {t : Nat} (h : lk s t = some v) : ResV P C s (.tmp t) v := h
theorem res_cell (T : Tabs P) {t ty : Nat} {a : Addr} {cs z : List Value} (ht : lk T.sz ty = some z) (hl : cs.length = z.length) (h : lk s t = some (.pointer (some a))) (hc : ∀ w, C w → ∀ j v, cs[j]? = some v → w.cell? (a.add j) = some v) : ResV P C s (.cell t ty) (.agg cs.toArray) :=
  ⟨a, h, fun w c => by have := (T.sz_ok _ _ ht).2.1 a cs w hl (hc w c); simpa [Instr.loadAt, Instr.sureAddr] using this⟩
def resM (tmps : Array Value) : ResultVar → Sem Value
  | .tmp t => pure (tmps.getD t undef)
  | .cell a t => do loadVar t (← asAddr (tmps.getD a undef))
theorem ResV.run {r : ResultVar} {v : Value} (h : ResV P C s r v) {a : Act} {w : World} (f : Fr n s a) (c : C w) : (resM a.tmps r).run P w = .ok v w := by
  cases r with
  | tmp t => simp [resM, Array.getD_eq_getD_getElem?, f.has _ _ h]
  | cell t ty =>
    obtain ⟨ad, h1, h2⟩ := h
    simp [resM, Array.getD_eq_getD_getElem?, f.has _ _ h1, asAddr, h2 w c]
theorem results1 {fn : Func} {r1 : ResultVar} (hf : fn.results = #[r1]) (tmps : Array Value) (w : World) : (results fn tmps).run P w = (resM tmps r1).run P w := by
  cases r1 <;> simp [results, hf, resM]
theorem andThen_ok_self {α : Type} (r : Result α) : (r.andThen fun a w' => Result.ok a w') = r := by cases r <;> rfl
theorem andThen_assoc {α β γ : Type} (r : Result α) (f : α → World → Result β) (g : β → World → Result γ) : (r.andThen f).andThen g = r.andThen fun a w => (f a w).andThen g := by cases r <;> rfl
theorem results2 {fn : Func} {r1 r2 : ResultVar} (hf : fn.results = #[r1, r2]) (tmps : Array Value) (w : World) : (results fn tmps).run P w = ((resM tmps r1).run P w).andThen fun v1 w1 => ((resM tmps r2).run P w1).andThen fun v2 w2 => .ok (.tuple #[v1, v2]) w2 := by
  cases r1 <;> cases r2 <;> simp [results, hf, resM, andThen_assoc]
theorem results3 {fn : Func} {r1 r2 r3 : ResultVar} (hf : fn.results = #[r1, r2, r3]) (tmps : Array Value) (w : World) : (results fn tmps).run P w = ((resM tmps r1).run P w).andThen fun v1 w1 => ((resM tmps r2).run P w1).andThen fun v2 w2 => ((resM tmps r3).run P w2).andThen fun v3 w3 => .ok (.tuple #[v1, v2, v3]) w3 := by
  cases r1 <;> cases r2 <;> cases r3 <;> simp [results, hf, resM, andThen_assoc]

theorem x_end {fn : Func} {R : Ending → World → Prop} {e : Exit} (he : e = .ret ∨ e = .normal) (hr : ∀ a w, Fr n s a → C w → (results fn a.tmps).run P w = .ok v w) (h : ∀ w, C w → R (.returned v) w) : AT n C s (bodyPost P fn R e) := fun a w f c => by
  rcases he with rfl | rfl
  · exact ⟨f.dfr, v, hr a w f c, h w c⟩
  · exact ⟨f.dfr, v, hr a w f c, h w c⟩
theorem x_ret1 {fn : Func} {R : Ending → World → Prop} {r1 : ResultVar} {v1 : Value} (hf : fn.results = #[r1]) (h1 : ResV P C s r1 v1) (h : ∀ w, C w → R (.returned v1) w) : AT n C s (bodyPost P fn R .ret) :=
  x_end (.inl rfl) (fun a w f c => by rw [results1 hf, h1.run f c]) h
theorem x_ret2 {fn : Func} {R : Ending → World → Prop} {r1 r2 : ResultVar} {v1 v2 : Value} (hf : fn.results = #[r1, r2]) (h1 : ResV P C s r1 v1) (h2 : ResV P C s r2 v2) (h : ∀ w, C w → R (.returned (.tuple #[v1, v2])) w) : AT n C s (bodyPost P fn R .ret) :=
  x_end (.inl rfl) (fun a w f c => by simp only [results2 hf, h1.run f c, h2.run f c, Result.andThen]) h
theorem x_ret3 {fn : Func} {R : Ending → World → Prop} {r1 r2 r3 : ResultVar} {v1 v2 v3 : Value} (hf : fn.results = #[r1, r2, r3]) (h1 : ResV P C s r1 v1) (h2 : ResV P C s r2 v2) (h3 : ResV P C s r3 v3) (h : ∀ w, C w → R (.returned (.tuple #[v1, v2, v3])) w) : AT n C s (bodyPost P fn R .ret) :=
  x_end (.inl rfl) (fun a w f c => by simp only [results3 hf, h1.run f c, h2.run f c, h3.run f c, Result.andThen]) h
end
end Go.Lg
