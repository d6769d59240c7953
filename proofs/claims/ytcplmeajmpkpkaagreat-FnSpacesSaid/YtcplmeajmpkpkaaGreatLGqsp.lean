import Derived.Test.YtcplmeajmpkpkaaGreatLEqsp
namespace Go.Lg
open Go.RowKit
section
variable {P : Program} {n : Nat} {M : List Nat} {w0 w : World} {S : World → Prop} {ops : Array Oper} {K : Act → World → Prop} {i0 d0 e0 : Nat} {z : List Value} {H : List HE} {s : List (Nat × Value)} {fuel : Nat} {listed : Array Bool}
def AllB [Dfs] (P : Program) (n : Nat) (M : List Nat) (w0 : World) (S : World → Prop) (ops : Array Oper) (K : Act → World → Prop) (i0 d0 e0 : Nat) (z : List Value) (H : List HE) (s : List (Nat × Value)) (fuel : Nat) (listed : Array Bool) : List MO → Prop
  | [] => True
  | m :: L => (ops[m.i]? = some m.o ∧ m.i ≠ i0 ∧ Stp P n M w0 ops K H s m.o m.d m.φ ∧ (∀ v H1, m.φ v H1 → ∀ w, Hp M w0 H1 w → S w) ∧ ∀ v H1, m.φ v H1 → FL P n M w0 S ops K i0 d0 e0 z H1 ((m.d, v) :: s) fuel (listed.setIfInBounds m.i true)) ∧ AllB P n M w0 S ops K i0 d0 e0 z H s fuel listed L
theorem AllB.get [Dfs] : ∀ {L : List MO}, AllB P n M w0 S ops K i0 d0 e0 z H s fuel listed L → ∀ m ∈ L, ops[m.i]? = some m.o ∧ m.i ≠ i0 ∧ Stp P n M w0 ops K H s m.o m.d m.φ ∧ (∀ v H1, m.φ v H1 → ∀ w, Hp M w0 H1 w → S w) ∧ ∀ v H1, m.φ v H1 → FL P n M w0 S ops K i0 d0 e0 z H1 ((m.d, v) :: s) fuel (listed.setIfInBounds m.i true)
  | [], _, m, hm => by cases hm
  | _ :: L, h, m, hm => by
    rcases List.mem_cons.1 hm with rfl | hm
    · exact h.1
    · exact AllB.get h.2 m hm
end
end Go.Lg

namespace Go.Lg
open Go.RowKit
section
variable {P : Program} {n : Nat} {w0 w1 w : World} {H H' : List HE} {s : List (Nat × Value)} {R : Act → World → Prop} {x : Operand} {t ty : Nat}
theorem AT.base [Dfs] (h : ∀ w1, Hp [] w0 H w1 → AT n (Hp [] w1 []) s R) : AT n (Hp [] w0 H) s R := fun a w f c => h w c a w f Hp.nil
theorem Hp.after (h : Hp [] w0 H w1) (h' : Hp [] w1 H' w) : Hp [] w0 H' w := by
  obtain ⟨_, _, _, _, k⟩ := h
  obtain ⟨fp, s', nd, ge, k'⟩ := h'
  refine ⟨fp, s', nd, fun b hb => ?_, ⟨k'.os.trans k.os, k'.tape.trans k.tape, k'.output.trans k.output, Nat.le_trans k.size k'.size, fun b hb hm => ?_⟩⟩
  · rcases ge b hb with h | h
    · simp at h
    · exact .inr (Nat.le_trans k.size h)
  · rw [k'.block b (Nat.lt_of_lt_of_le hb k.size) hm, k.block b hb hm]
structure BoxAt (w : World) (b : Nat) (cur : Array Value) (e : Nat) : Prop where
  at' : w.heap[b]? = some (.cells cur e (0, 0))
theorem Hp.box {i b e : Nat} {cur : Array Value} (hp : Hp [] w0 H w) (hi : H[i]? = some (.blk b cur e)) : BoxAt w b cur e := ⟨hp.blk hi⟩
theorem Hp.boxk {b e : Nat} {cur : Array Value} (hp : Hp [] w0 H w) (hb : BoxAt w0 b cur e) : BoxAt w b cur e := ⟨by
  rw [hp.kept.block b (Array.getElem?_eq_some_iff.1 hb.at').1 (by simp)]; exact hb.at'⟩
theorem hc_box {b o e : Nat} {cur : Array Value} {v : Value} (hb : BoxAt w0 b cur e) (hv : cur[o]? = some v) : ∀ w, Hp [] w0 H w → w.cell? ⟨b, o, none⟩ = some v := fun w c => by
  have := (c.boxk hb).at'
  simp only [World.cell?, this]
  simpa using hv
theorem y_loadz [Dfs] (T : Tabs P) {b e : Nat} {cur : Array Value} {z : List Value} (ht : lk T.sz t = some z) (hx : ev s x = some (.pointer (some ⟨b, 0, none⟩))) (hb : BoxAt w0 b cur e) (hl : Nat.beq cur.size z.length = true) : Y P n (Hp [] w0 H) s (.load t x) ty (.agg cur) := by
  have h := y_loads (P := P) (n := n) (C := Hp [] w0 H) (s := s) (ty := ty) (cs := cur.toList) T ht (by rw [← Nat.eq_of_beq_eq_true hl]; simp) hx (fun w c j v hj => by
    rw [Addr.add_lit]
    exact hc_box hb (by simpa using hj) w c)
  simpa using h
end
section
variable {P : Program} {n : Nat} {M : List Nat} {w0 : World} {K : Act → World → Prop} {ops : Array Oper} {H : List HE} {s : List (Nat × Value)}
end
theorem range_get {α : Type} : ∀ (l : List α), (List.range l.length).filterMap (fun i => l[i]?) = l
  | [] => rfl
  | x :: l => by
    rw [List.length_cons, List.range_succ_eq_map, List.filterMap_cons, List.filterMap_map]
    have := range_get l
    simpa [Function.comp_def] using this
theorem sel_in {α : Type} (l : List α) : ∀ (is : List Nat), is.filterMap (fun i => l[i]?) = (is.filter (fun i => decide (i < l.length))).filterMap (fun i => l[i]?)
  | [] => rfl
  | i :: is => by
    have ih := sel_in l is
    by_cases h : i < l.length
    · rw [List.filter_cons_of_pos (by simpa using h), List.filterMap_cons, List.filterMap_cons, ih]
    · rw [List.filter_cons_of_neg (by simpa using h), List.filterMap_cons, List.getElem?_eq_none om, ih]
theorem Hp.sel {M : List Nat} {w0 w : World} {H : List HE} (is : List Nat) (hn : decide is.Nodup = true) (hp : Hp M w0 H w) : Hp M w0 (is.filterMap (fun i => H[i]?)) w := by
  have hn' : is.Nodup := of_decide_eq_true hn
  have h1 : (is.filter (fun i => decide (i < H.length)) ++ (List.range H.length).filter (fun i => !is.contains i)).Perm (List.range H.length) := by
    refine (List.perm_ext_iff_of_nodup ?_ List.nodup_range).2 (fun x => ?_)
    · refine List.nodup_append.2 ⟨hn'.filter _, List.nodup_range.filter _, fun a ha b hb e => ?_⟩
      subst e
      simp at ha hb
      exact hb.2 ha.1
    · simp only [List.mem_append, List.mem_filter, decide_eq_true_eq, List.mem_range, Bool.not_eq_true', List.contains_eq_mem, decide_eq_false_iff_not]
      constructor
      · rintro (h | h)
        · exact h.2
        · exact h.1
      · intro h
        by_cases hx : x ∈ is
        · exact .inl ⟨hx, h⟩
        · exact .inr ⟨h, hx⟩
  have h2 := h1.filterMap (fun i => H[i]?)
  rw [range_get, List.filterMap_append, ← sel_in] at h2
  exact (hp.perm h2.symm).sub (List.sublist_append_left _ _)
theorem AT.sel [Dfs] {M : List Nat} {w0 : World} {H : List HE} {n : Nat} {s : List (Nat × Value)} {R : Act → World → Prop} (is : List Nat) (hn : decide is.Nodup = true) (h : AT n (Hp M w0 (is.filterMap (fun i => H[i]?))) s R) : AT n (Hp M w0 H) s R := AT.cls (fun _ c => c.sel is hn) h
section
variable {P : Program} {n : Nat} {C : World → Prop} {s : List (Nat × Value)} {k : Act → World → Prop} {Q : Exit → Act → World → Prop}
end
section
variable {P : Program} {n : Nat} {S C : World → Prop} {s : List (Nat × Value)} {K : Act → World → Prop} {ops : Array Oper} {fuel : Nat} {listed : Array Bool}
theorem h_takey [Dfs] (i : Nat) {op : Op} {d ty j dj : Nat} {pos : String} {af : Array Edge} {v : Value} {b : Bool} (hi : ops[i]? = some ⟨some d, op, ty, pos, af, some (j, b)⟩)
    (hs : Region.noSelect ops = true) (hf : Region.free .any ops listed i = true) (hr : (Region.ready .any ops listed).contains i = true)
    (hj : (ops[j]?).bind (·.dst) = some dj) (hb : lk s dj = some (.bool b)) (hy : Y P n S s op ty v) (hd : Nat.blt d n = true) (hS : ∀ w, C w → S w)
    (h : AT n C ((d, v) :: s) (wpAnyH P .any ops (Qn K) S fuel (listed.setIfInBounds i true))) : AT n C s (wpAnyH P .any ops (Qn K) S (fuel + 1) listed) := fun a w f c =>
  wpAnyH_take hi hs hf hr (fun _ _ _ h => h.elim) (.inl ⟨by simp [Region.wanted, yielded, hj, f.has _ _ hb], fun w' hw' => hy a w' f hw' _ _ _ _⟩) (hS w c) (h _ w (f.put (by simpa [Nat.blt_eq] using hd) v) c)
end
end Go.Lg
