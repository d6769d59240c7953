import Derived.Test.YtdnhmnnccfoliaaDoorDrrqqv
import Derived.Test.YtdnhmnnccfoliaaDoorLEqqv
import Derived.Test.YtdnhmnnccfoliaaDoorQscqqv
import Derived.Test.YtdnhmnnccfoliaaDoorSpoqqv
import Derived.Test.YtdnhmnnccfoliaaDoorZerqqv
namespace Go.Lg
open Go.RowKit
section
variable {P : Program} {n : Nat} {M : List Nat} {w0 w : World} {S : World → Prop} {ops : Array Oper} {K : Act → World → Prop} {i0 d0 e0 : Nat} {z : List Value} {H : List HE} {s : List (Nat × Value)} {fuel : Nat} {listed : Array Bool}
def AllB (P : Program) (n : Nat) (M : List Nat) (w0 : World) (S : World → Prop) (ops : Array Oper) (K : Act → World → Prop) (i0 d0 e0 : Nat) (z : List Value) (H : List HE) (s : List (Nat × Value)) (fuel : Nat) (listed : Array Bool) : List MO → Prop
  | [] => True
  | m :: L => (ops[m.i]? = some m.o ∧ m.i ≠ i0 ∧ Stp P n M w0 ops K H s m.o m.d m.φ ∧ (∀ v H1, m.φ v H1 → ∀ w, Hp M w0 H1 w → S w) ∧ ∀ v H1, m.φ v H1 → FL P n M w0 S ops K i0 d0 e0 z H1 ((m.d, v) :: s) fuel (listed.setIfInBounds m.i true)) ∧ AllB P n M w0 S ops K i0 d0 e0 z H s fuel listed L
theorem AllB.get : ∀ {L : List MO}, AllB P n M w0 S ops K i0 d0 e0 z H s fuel listed L → ∀ m ∈ L, ops[m.i]? = some m.o ∧ m.i ≠ i0 ∧ Stp P n M w0 ops K H s m.o m.d m.φ ∧ (∀ v H1, m.φ v H1 → ∀ w, Hp M w0 H1 w → S w) ∧ ∀ v H1, m.φ v H1 → FL P n M w0 S ops K i0 d0 e0 z H1 ((m.d, v) :: s) fuel (listed.setIfInBounds m.i true)
  | [], _, m, hm => by cases hm
  | _ :: L, h, m, hm => by
    rcases List.mem_cons.1 hm with rfl | hm
    · exact h.1
    · exact AllB.get h.2 m hm
end
end Go.Lg

namespace Go.Lg
open Go.RowKit
section
variable {P : Program} {n : Nat} {w0 w1 w : World} {H H' : List HE} {s : List (Nat × Value)} {R : Act → World → Prop} {x : Operand} {t ty : Nat}
theorem AT.base (h : ∀ w1, Hp [] w0 H w1 → AT n (Hp [] w1 []) s R) : AT n (Hp [] w0 H) s R := fun a w f c => h w c a w f Hp.nil
theorem Hp.after (h : Hp [] w0 H w1) (h' : Hp [] w1 H' w) : Hp [] w0 H' w := by
  obtain ⟨_, _, _, _, k⟩ := h
  obtain ⟨fp, s', nd, ge, k'⟩ := h'
  refine ⟨fp, s', nd, fun b hb => ?_, ⟨k'.os.trans k.os, k'.tape.trans k.tape, k'.output.trans k.output, Nat.le_trans k.size k'.size, fun b hb hm => ?_⟩⟩
  · rcases ge b hb with h | h
    · simp at h
    · exact .inr (Nat.le_trans k.size h)
  · rw [k'.block b (Nat.lt_of_lt_of_le hb k.size) hm, k.block b hb hm]
theorem Hp.afterA (h : Hp [] w0 H w1) (h' : Hp [] w1 H' w) : Hp [] w0 (H' ++ H) w := by
  obtain ⟨fp, s, nd, ge, k⟩ := h'
  exact h.more k.below s nd (fun b hb => (ge b hb).resolve_left (by simp))
structure BoxAt (w : World) (b : Nat) (cur : Array Value) (e : Nat) : Prop where
  at' : w.heap[b]? = some (.cells cur e (0, 0))
theorem Hp.box {i b e : Nat} {cur : Array Value} (hp : Hp [] w0 H w) (hi : H[i]? = some (.blk b cur e)) : BoxAt w b cur e := ⟨hp.blk hi⟩
theorem Hp.boxk {b e : Nat} {cur : Array Value} (hp : Hp [] w0 H w) (hb : BoxAt w0 b cur e) : BoxAt w b cur e := ⟨by
  rw [hp.kept.block b (Array.getElem?_eq_some_iff.1 hb.at').1 (by simp)]; exact hb.at'⟩
theorem hc_box {b o e : Nat} {cur : Array Value} {v : Value} (hb : BoxAt w0 b cur e) (hv : cur[o]? = some v) : ∀ w, Hp [] w0 H w → w.cell? ⟨b, o, none⟩ = some v := fun w c => by
  have := (c.boxk hb).at'
  simp only [World.cell?, this]
  simpa using hv
theorem y_loadz (T : Tabs P) {b e : Nat} {cur : Array Value} {z : List Value} (ht : lk T.sz t = some z) (hx : ev s x = some (.pointer (some ⟨b, 0, none⟩))) (hb : BoxAt w0 b cur e) (hl : Nat.beq cur.size z.length = true) : Y P n (Hp [] w0 H) s (.load t x) ty (.agg cur) := by
  have h := y_loads (P := P) (n := n) (C := Hp [] w0 H) (s := s) (ty := ty) (cs := cur.toList) T ht (by rw [← Nat.eq_of_beq_eq_true hl]; simp) hx (fun w c j v hj => by
    rw [Addr.add_lit]
    exact hc_box hb (by simpa using hj) w c)
  simpa using h
end
section
variable {P : Program} {n : Nat} {M : List Nat} {w0 : World} {K : Act → World → Prop} {ops : Array Oper} {H : List HE} {s : List (Nat × Value)}
end
theorem range_get {α : Type} : ∀ (l : List α), (List.range l.length).filterMap (fun i => l[i]?) = l
  | [] => rfl
  | x :: l => by
    rw [List.length_cons, List.range_succ_eq_map, List.filterMap_cons, List.filterMap_map]
    have := range_get l
    simpa [Function.comp_def] using this
theorem sel_in {α : Type} (l : List α) : ∀ (is : List Nat), is.filterMap (fun i => l[i]?) = (is.filter (fun i => decide (i < l.length))).filterMap (fun i => l[i]?)
  | [] => rfl
  | i :: is => by
    have ih := sel_in l is
    by_cases h : i < l.length
    · rw [List.filter_cons_of_pos (by simpa using h), List.filterMap_cons, List.filterMap_cons, ih]
    · rw [List.filter_cons_of_neg (by simpa using h), List.filterMap_cons, List.getElem?_eq_none om, ih]
theorem Hp.sel {M : List Nat} {w0 w : World} {H : List HE} (is : List Nat) (hn : decide is.Nodup = true) (hp : Hp M w0 H w) : Hp M w0 (is.filterMap (fun i => H[i]?)) w := by
  have hn' : is.Nodup := of_decide_eq_true hn
  have h1 : (is.filter (fun i => decide (i < H.length)) ++ (List.range H.length).filter (fun i => !is.contains i)).Perm (List.range H.length) := by
    refine (List.perm_ext_iff_of_nodup ?_ List.nodup_range).2 (fun x => ?_)
    · refine List.nodup_append.2 ⟨hn'.filter _, List.nodup_range.filter _, fun a ha b hb e => ?_⟩
      subst e
      simp at ha hb
      exact hb.2 ha.1
    · simp only [List.mem_append, List.mem_filter, decide_eq_true_eq, List.mem_range, Bool.not_eq_true', List.contains_eq_mem, decide_eq_false_iff_not]
      constructor
      · rintro (h | h)
        · exact h.2
        · exact h.1
      · intro h
        by_cases hx : x ∈ is
        · exact .inl ⟨hx, h⟩
        · exact .inr ⟨h, hx⟩
  have h2 := h1.filterMap (fun i => H[i]?)
  rw [range_get, List.filterMap_append, ← sel_in] at h2
  exact (hp.perm h2.symm).sub (List.sublist_append_left _ _)
theorem AT.sel {M : List Nat} {w0 : World} {H : List HE} {n : Nat} {s : List (Nat × Value)} {R : Act → World → Prop} (is : List Nat) (hn : decide is.Nodup = true) (h : AT n (Hp M w0 (is.filterMap (fun i => H[i]?))) s R) : AT n (Hp M w0 H) s R := AT.cls (fun _ c => c.sel is hn) h
section
variable {P : Program} {n : Nat} {C : World → Prop} {s : List (Nat × Value)} {k : Act → World → Prop} {Q : Exit → Act → World → Prop}
end
section
variable {P : Program} {n : Nat} {S C : World → Prop} {s : List (Nat × Value)} {K : Act → World → Prop} {ops : Array Oper} {fuel : Nat} {listed : Array Bool}
theorem h_takey (i : Nat) {op : Op} {d ty j dj : Nat} {pos : String} {af : Array Edge} {v : Value} {b : Bool} (hi : ops[i]? = some ⟨some d, op, ty, pos, af, some (j, b)⟩)
    (hs : Region.noSelect ops = true) (hf : Region.free .any ops listed i = true) (hr : (Region.ready .any ops listed).contains i = true)
    (hj : (ops[j]?).bind (·.dst) = some dj) (hb : lk s dj = some (.bool b)) (hy : Y P n S s op ty v) (hd : Nat.blt d n = true) (hS : ∀ w, C w → S w)
    (h : AT n C ((d, v) :: s) (wpAnyH P .any ops (Qn K) S fuel (listed.setIfInBounds i true))) : AT n C s (wpAnyH P .any ops (Qn K) S (fuel + 1) listed) := fun a w f c =>
  wpAnyH_take hi hs hf hr (fun _ _ _ h => h.elim) (.inl ⟨by simp [Region.wanted, yielded, hj, f.has _ _ hb], fun w' hw' => hy a w' f hw' _ _ _ _⟩) (hS w c) (h _ w (f.put (by simpa [Nat.blt_eq] using hd) v) c)
end
end Go.Lg

namespace Go.Proofs.YtdnhmnnccfoliaaDoor
open Go.Lg Go.Proofs Go.RowKit
attribute [local irreducible] Code.wp wpList bodyPost Exit.then Exit.inBlock Hp Again Calls Y AT ResV QT Qn QI wpAny wpAnyQ
set_option maxRecDepth 20000
set_option maxHeartbeats 4000000

theorem DrawFormatQuiver_ok {w : World} {u : Value} (hc : CodeF w [] u) : Does Tryd.prog 5 [u] w (GivesQd QivB) := by
  refine fn_enter Tryd.func5 rfl Tryd.ntmps5 rfl ?_
  repeat' (first | (show oL; first | refine sMv rfl rfl ?_ | (show oA (.call _); first | (refine m_call (ent_of Tryd.func35 kr rfl) rfl rfl (fun w c => l1New_ok (hp_code c hc)) ?_; rintro v H' ⟨b, ch, rfl, rfl⟩) | (refine m_callL 0 (ent_of Tryd.func34 kr rfl) rfl rfl rfl (fun w M' hl => l6Any_ok hl hc (Nat.zero_le _)) ?_; rintro v H' ⟨i, ch, _, hi, rfl, q, aq, cq, bq, dq, rfl, hq, rfl⟩)) | (show oA (.store _ _ _); refine m_storeb 3 tabs rfl rfl rfl rfl rfl rfl rfl ?_) | (show oA (.alloc _); refine m_alloc tabs rfl rfl (fun b9 hb9 => ?_))) | refine xNt ?_ | (show oC; first | refine c_seq ?_ | refine c_region ?_ | refine c_ret ?_))
  exact x_ret1 Tryd.results5 (res_cellb 3 tabs rfl rfl rfl rfl) (fun w' c' => ⟨_, _, rfl, ⟨q, aq, cq, bq, dq, rfl, hq, rfl⟩, c'.sel [1, 2] rfl⟩)
def qwL : List (List UInt8) := [[], [50], [50, 58], [48, 58], [54, 58], [50, 58, 32, 48, 50], [50, 58, 32, 32, 48, 49], [50, 58, 32, 48], [50, 59, 32, 48, 49], [50, 58, 32, 48, 49, 32, 48, 49]]
theorem qw_len : ∀ x ∈ qwL, x.length ≤ 10 := by decide
theorem DrawParseQuiver_ok {w : World} {u : Value} (hc : CodeF w [] u) : Does Tryd.prog 8 [u] w (fun v H => ∃ s : List UInt8, v = sV s ∧ s.length ≤ 200 ∧ H = []) := by
  refine fn_enter Tryd.func8 rfl Tryd.ntmps8 rfl ?_
  repeat' (first | (show oL; first | refine sMv rfl rfl ?_ | refine sAs rfl rfl ?_ | (show oA (.binOp _ _ _ _ _); refine st_y (y_eql rfl rfl) rfl ?_) | (show oA (.call _); first | (refine m_call (ent_of Tryd.func35 kr rfl) rfl rfl (fun w c => l1New_ok (hp_code c hc)) ?_; rintro v H' ⟨b, ch, rfl, rfl⟩) | (refine m_callL 0 (ent_of Tryd.func34 kr rfl) rfl rfl rfl (fun w M' hl => l6Any_ok hl hc (Nat.zero_le _)) ?_; rintro v H' ⟨i, ch, _, hi, rfl, q, aq, cq, bq, dq, rfl, hq, rfl⟩) | (refine m_call (ent_of Tryd.func10 kr rfl) rfl rfl (fun w c => spec_FormatQuiver_ok (q := q) (c.own_rd (i := 2) rfl) (c.own_rd (i := 1) rfl)) ?_; rintro v H' ⟨rfl, rfl⟩; have hfl := fmtQ_len q) | (refine m_callL 0 (ent_of Tryd.func38 kr rfl) rfl rfl rfl (fun w M' hl => l1BelowN_ok 4 (by decide) hl hc hi) ?_; rintro v H' ⟨i, ch, _, hi, rfl, z, rfl, hz, rfl⟩) | (refine m_callL 0 (ent_of Tryd.func39 kr rfl) rfl rfl rfl (fun w M' hl => l1Spoil_ok (s := fmtQ q) om hl hc hi) ?_; rintro v H' ⟨i, ch, _, hi, rfl, x, rfl, hx, rfl⟩) | (refine m_callL 1 (ent_of Tryd.func40 kr rfl) rfl rfl rfl (fun w M' hl => l1Pick_ok (l := qwL) hl hc hi (hl.own 0 rfl) (by decide)) ?_; rintro v H' ⟨i, ch, _, hi, rfl, x, rfl, hx, rfl⟩; have hxl := qw_len x hx)) | (show oA (.buildSlice _ _ _); refine m_buildc tabs (qwL.map sV) rfl rfl rfl rfl rfl rfl rfl (fun u hu => by obtain ⟨q, _, rfl⟩ := List.mem_map.1 hu; rfl) (fun g hg => ?_))) | refine xNt ?_ | (show oC; first | refine c_seq ?_ | refine c_region ?_ | refine c_skip (x_blk ?_) | refine c_block ?_ | refine c_ret ?_ | refine c_if rfl (fun h => ?_) (fun h => ?_)) | (show AT _ _ _ _; first | refine x_then ?_ | refine x_then_ret ?_ | refine x_blk_ret ?_))
  · exact x_ret1 Tryd.results8 (res_tmp rfl) (fun w' c' => ⟨_, _, rfl, ⟨x, rfl, by omega, rfl⟩, c'.sub (List.nil_sublist _)⟩)
  · exact x_ret1 Tryd.results8 (res_tmp rfl) (fun w' c' => ⟨_, _, rfl, ⟨x, rfl, by omega, rfl⟩, c'.sub (List.nil_sublist _)⟩)
  · exact x_ret1 Tryd.results8 (res_tmp rfl) (fun w' c' => ⟨_, _, rfl, ⟨fmtQ q, rfl, by omega, rfl⟩, c'.sub (List.nil_sublist _)⟩)
def ndL : List (List UInt8) := [[], [97, 50], [69, 54]]
theorem DrawNamedQuiver_ok {w : World} {u : Value} (hc : CodeF w [] u) : Does Tryd.prog 25 [u] w (fun v H => ∃ s : List UInt8, v = sV s ∧ H = []) := by
  refine fn_enter Tryd.func25 rfl Tryd.ntmps25 rfl ?_
  repeat' (first | (show oL; first | refine sMv rfl rfl ?_ | refine sAs rfl rfl ?_ | (show oA (.load _ _); refine st_y (y_load tabs rfl rfl (hc_nm 1 rfl (nm_cell (k := k) om))) rfl ?_) | (show oA (.indexAddr _ _ _); refine st_y (y_ix1 tabs (j := k) rfl rfl rfl hsn rfl (show k < 12 by omega)) rfl ?_) | (show oA (.call _); first | (refine m_call (ent_of Tryd.func35 kr rfl) rfl rfl (fun w c => l1New_ok (hp_code c hc)) ?_; rintro v H' ⟨b, ch, rfl, rfl⟩) | (refine m_call (ent_of Tryd.func56 kr rfl) rfl rfl (fun w c => l6Names_ok) ?_; rintro v H' ⟨an, cn, rfl, hsn, rfl⟩) | (refine m_callL 1 (ent_of Tryd.func57 kr rfl) rfl rfl rfl (fun w M' hl => l1Once_ok 6 hl hc (Nat.zero_le _)) ?_; rintro v H' ⟨i, ch, _, hi, rfl, (_ | _), rfl, rfl⟩) | (refine m_callL 1 (ent_of Tryd.func40 kr rfl) rfl rfl rfl (fun w M' hl => l1Pick_ok (l := ndL) hl hc hi (hl.own 0 rfl) (by decide)) ?_; rintro v H' ⟨i, ch, _, hi, rfl, x, rfl, hx, rfl⟩) | (refine m_callL 0 (ent_of Tryd.func38 kr rfl) rfl rfl rfl (fun w M' hl => l1BelowN_ok 12 (by decide) hl hc hi) ?_; rintro v H' ⟨i, ch, _, hi, rfl, k, rfl, hk, rfl⟩) | refine sLn tabs rfl rfl rfl ?_) | (show oA (.buildSlice _ _ _); refine m_buildc tabs (ndL.map sV) rfl rfl rfl rfl rfl rfl rfl (fun u hu => by obtain ⟨q, _, rfl⟩ := List.mem_map.1 hu; rfl) (fun g hg => ?_))) | refine xNt ?_ | (show oC; first | refine c_seq ?_ | refine c_region ?_ | refine c_skip (x_then ?_) | refine c_ret ?_ | refine c_true rfl ?_ | refine c_false rfl ?_) | (show AT _ _ _ _; refine x_then_ret ?_))
  all_goals exact x_ret1 Tryd.results25 (res_tmp rfl) (fun w' c' => ⟨_, _, rfl, ⟨_, rfl, rfl⟩, c'.sub (List.nil_sublist _)⟩)
theorem DrawReverseAt_ok {w : World} {u : Value} (hc : CodeF w [] u) : Does Tryd.prog 22 [u] w (fun v H => ∃ (q : Qv) (a : Option Addr) (c : Nat) (a' : Option Addr) (c' : Nat) (x : Int), v = .tuple #[.agg #[iV q.1, .slice a q.2.1.length c, .slice a' q.2.2.length c'], iV x] ∧ QivB q ∧ H = [.own (iT q.2.2) (.slice a' q.2.2.length c'), .own (iT q.2.1) (.slice a q.2.1.length c)]) := by
  have tok0 : True := trivial
  refine fn_enter Tryd.func22 rfl Tryd.ntmps22 rfl ?_
  repeat' (first | (show oL; first | refine sMv rfl rfl ?_ | refine sAs rfl rfl ?_ | (show oA (.call _); first | (refine m_call (ent_of Tryd.func35 kr rfl) rfl rfl (fun w c => l1New_ok (hp_code c hc)) ?_; rintro v H' ⟨b, ch, rfl, rfl⟩) | (refine m_callL 0 (ent_of Tryd.func34 kr rfl) rfl rfl rfl (fun w M' hl => l6Any_ok hl hc (Nat.zero_le _)) ?_; rintro v H' ⟨i, ch, _, hi, rfl, q, aq, cq, bq, dq, rfl, hq, rfl⟩)) | (show oA (.store _ _ _); refine m_storeb 0 tabs rfl rfl rfl rfl rfl rfl rfl ?_) | (show oA (.alloc _); first | (have _t := tok0; refine m_alloc tabs rfl rfl (fun b2 hb2 => ?_); clear _t tok0) | refine m_alloc tabs rfl rfl (fun b5 hb5 => ?_))) | refine xNt ?_ | (show oC; first | refine c_seq ?_ | refine c_region ?_))
  refine c_all (Hp [] w [.blk b5 #[iV q.1, .slice aq q.2.1.length cq, .slice bq q.2.2.length dq] 26]) kr (fun _ c => Hp.drew c) ?_
  refine h_take 0 rfl kr kr kr (by first | exact y_loadb 0 tabs rfl rfl rfl rfl | exact y_loadb 0 tabs rfl rfl rfl rfl) rfl sS ?_
  refine h_take 1 rfl kr kr kr (by exact y_move rfl) rfl sS ?_
  refine h_only 2 rfl kr ?_
  first | (refine m_callL 1 (ent_of Tryd.func38 kr rfl) rfl rfl rfl (fun w M' hl => l1BelowN_ok 7 (by decide) hl hc hi) ?_; rintro v H' ⟨i, ch, _, hi, rfl, k, rfl, hk, rfl⟩) | (refine m_storeb 4 tabs rfl rfl rfl rfl rfl rfl rfl ?_) | (refine m_storeb 4 tabs rfl rfl rfl rfl rfl rfl rfl ?_)
  refine c_nil (x_one (h_keep sS ?_))
  refine h_take 3 rfl kr kr kr (by exact y_sub rfl rfl om) rfl sS ?_
  refine h_only 4 rfl kr ?_
  first | (refine m_callL 1 (ent_of Tryd.func38 kr rfl) rfl rfl rfl (fun w M' hl => l1BelowN_ok 7 (by decide) hl hc hi) ?_; rintro v H' ⟨i, ch, _, hi, rfl, k, rfl, hk, rfl⟩) | (refine m_storeb 4 tabs rfl rfl rfl rfl rfl rfl rfl ?_) | (refine m_storeb 4 tabs rfl rfl rfl rfl rfl rfl rfl ?_)
  refine c_nil (x_one (h_keep sS ?_))
  refine h_take 5 rfl kr kr kr (by exact y_assign rfl) rfl sS ?_
  refine h_end kr ?_
  repeat' (first | (show oC; refine c_ret ?_) | (show AT _ _ _ _; refine x_then ?_))
  exact x_ret2 Tryd.results22 (res_cellb 4 tabs rfl rfl rfl rfl) (res_tmp rfl) (fun w' c' => ⟨_, _, rfl, ⟨q, aq, cq, bq, dq, _, rfl, hq, rfl⟩, c'.sel [2, 3] rfl⟩)
theorem DrawEqualQuivers_ok {w : World} {u : Value} (hc : CodeF w [] u) : Does Tryd.prog 28 [u] w (fun v H => ∃ (q : Qv) (a : Option Addr) (c : Nat) (a' : Option Addr) (c' : Nat) (r : Qv) (x : Option Addr) (y : Nat) (x' : Option Addr) (y' : Nat), v = .tuple #[.agg #[iV q.1, .slice a q.2.1.length c, .slice a' q.2.2.length c'], .agg #[iV r.1, .slice x r.2.1.length y, .slice x' r.2.2.length y']] ∧ H = [.own (iT r.2.2) (.slice x' r.2.2.length y'), .own (iT r.2.1) (.slice x r.2.1.length y), .own (iT q.2.2) (.slice a' q.2.2.length c'), .own (iT q.2.1) (.slice a q.2.1.length c)]) := by
  have tok0 : True := trivial
  have tok1 : True := trivial
  refine fn_enter Tryd.func28 rfl Tryd.ntmps28 rfl ?_
  repeat' (first | (show oL; first | refine sMv rfl rfl ?_ | refine sAs rfl rfl ?_ | (show oA (.call _); first | (refine m_call (ent_of Tryd.func35 kr rfl) rfl rfl (fun w c => l1New_ok (hp_code c hc)) ?_; rintro v H' ⟨b, ch, rfl, rfl⟩) | (refine m_callL 0 (ent_of Tryd.func34 kr rfl) rfl rfl rfl (fun w M' hl => l6Any_ok hl hc (Nat.zero_le _)) ?_; rintro v H' ⟨i, ch, _, hi, rfl, q, aq, cq, bq, dq, rfl, hq, rfl⟩) | (refine m_callL 1 (ent_of Tryd.func57 kr rfl) rfl rfl rfl (fun w M' hl => l1Once_ok 2 hl hc hi) ?_; rintro v H' ⟨i, ch, _, hi, rfl, (_ | _), rfl, rfl⟩)) | (show oA (.store _ _ _); refine m_storeb 0 tabs rfl rfl rfl rfl rfl rfl rfl ?_) | (show oA (.alloc _); first | (have _t := tok0; refine m_alloc tabs rfl rfl (fun b2 hb2 => ?_); clear _t tok0) | (have _t := tok1; refine m_alloc tabs rfl rfl (fun b3 hb3 => ?_); clear _t tok1) | refine m_alloc tabs rfl rfl (fun b5 hb5 => ?_))) | refine xNt ?_ | (show oC; first | refine c_seq ?_ | refine c_region ?_ | refine c_skip (x_then ?_) | refine c_true rfl ?_ | refine c_false rfl ?_))
  · skip
    refine c_all (Hp [] w [.blk b5 #[iV q.1, .slice aq q.2.1.length cq, .slice bq q.2.2.length dq] 26]) kr (fun _ c => Hp.drew c) ?_
    refine h_take 0 rfl kr kr kr (by first | exact y_loadb 0 tabs rfl rfl rfl rfl | exact y_loadb 0 tabs rfl rfl rfl rfl) rfl sS ?_
    refine h_take 1 rfl kr kr kr (by exact y_move rfl) rfl sS ?_
    refine h_only 2 rfl kr ?_
    first | (refine m_callL 0 (ent_of Tryd.func34 kr rfl) rfl rfl rfl (fun w M' hl => l6Any_ok hl hc hi) ?_; rintro v H' ⟨i, ch, _, hi, rfl, r, ar, cr, br, dr, rfl, hr, rfl⟩) | (refine m_storeb 7 tabs rfl rfl rfl rfl rfl rfl rfl ?_) | (refine m_storeb 6 tabs rfl rfl rfl rfl rfl rfl rfl ?_)
    refine c_nil (x_one (h_keep sS ?_))
    refine h_only 3 rfl kr ?_
    first | (refine m_callL 0 (ent_of Tryd.func34 kr rfl) rfl rfl rfl (fun w M' hl => l6Any_ok hl hc hi) ?_; rintro v H' ⟨i, ch, _, hi, rfl, r, ar, cr, br, dr, rfl, hr, rfl⟩) | (refine m_storeb 7 tabs rfl rfl rfl rfl rfl rfl rfl ?_) | (refine m_storeb 6 tabs rfl rfl rfl rfl rfl rfl rfl ?_)
    refine c_nil (x_one (h_keep sS ?_))
    refine h_only 4 rfl kr ?_
    first | (refine m_callL 0 (ent_of Tryd.func34 kr rfl) rfl rfl rfl (fun w M' hl => l6Any_ok hl hc hi) ?_; rintro v H' ⟨i, ch, _, hi, rfl, r, ar, cr, br, dr, rfl, hr, rfl⟩) | (refine m_storeb 7 tabs rfl rfl rfl rfl rfl rfl rfl ?_) | (refine m_storeb 6 tabs rfl rfl rfl rfl rfl rfl rfl ?_)
    refine c_nil (x_one (h_keep sS ?_))
    refine h_end kr ?_
    repeat' (first | (show oC; refine c_ret ?_) | (show AT _ _ _ _; refine x_then ?_))
    exact x_ret2 Tryd.results28 (res_cellb 7 tabs rfl rfl rfl rfl) (res_cellb 6 tabs rfl rfl rfl rfl) (fun w' c' => ⟨_, _, rfl, ⟨q, aq, cq, bq, dq, r, ar, cr, br, dr, rfl, rfl⟩, c'.sel [1, 2, 4, 5] rfl⟩)
  · skip
    refine c_all (Hp [] w [.blk b5 #[iV q.1, .slice aq q.2.1.length cq, .slice bq q.2.2.length dq] 26]) kr (fun _ c => Hp.drew c) ?_
    refine h_take 0 rfl kr kr kr (by first | exact y_loadb 0 tabs rfl rfl rfl rfl | exact y_loadb 0 tabs rfl rfl rfl rfl) rfl sS ?_
    refine h_take 1 rfl kr kr kr (by first | exact y_loadb 0 tabs rfl rfl rfl rfl | exact y_loadb 0 tabs rfl rfl rfl rfl) rfl sS ?_
    refine h_only 2 rfl kr ?_
    first | (refine m_call (ent_of Tryd.func55 kr rfl) rfl rfl (fun w c => l6Copy_ok (q := q) (c.own_rd (i := 3) rfl) (c.own_rd (i := 2) rfl) (by have := hq.1; have := hq.2.1; simp only [szQ]; omega)) ?_; rintro v H' ⟨ar, cr, br, dr, rfl, _, _, rfl⟩) | (refine m_storeb 7 tabs rfl rfl rfl rfl rfl rfl rfl ?_) | (refine m_storeb 6 tabs rfl rfl rfl rfl rfl rfl rfl ?_)
    refine c_nil (x_one (h_keep sS ?_))
    refine h_only 3 rfl kr ?_
    first | (refine m_call (ent_of Tryd.func55 kr rfl) rfl rfl (fun w c => l6Copy_ok (q := q) (c.own_rd (i := 3) rfl) (c.own_rd (i := 2) rfl) (by have := hq.1; have := hq.2.1; simp only [szQ]; omega)) ?_; rintro v H' ⟨ar, cr, br, dr, rfl, _, _, rfl⟩) | (refine m_storeb 7 tabs rfl rfl rfl rfl rfl rfl rfl ?_) | (refine m_storeb 6 tabs rfl rfl rfl rfl rfl rfl rfl ?_)
    refine c_nil (x_one (h_keep sS ?_))
    refine h_only 4 rfl kr ?_
    first | (refine m_call (ent_of Tryd.func55 kr rfl) rfl rfl (fun w c => l6Copy_ok (q := q) (c.own_rd (i := 3) rfl) (c.own_rd (i := 2) rfl) (by have := hq.1; have := hq.2.1; simp only [szQ]; omega)) ?_; rintro v H' ⟨ar, cr, br, dr, rfl, _, _, rfl⟩) | (refine m_storeb 7 tabs rfl rfl rfl rfl rfl rfl rfl ?_) | (refine m_storeb 6 tabs rfl rfl rfl rfl rfl rfl rfl ?_)
    refine c_nil (x_one (h_keep sS ?_))
    refine h_end kr ?_
    repeat' (first | (show oC; refine c_ret ?_) | (show AT _ _ _ _; first | refine x_then ?_ | refine x_then_ret ?_))
    exact x_ret2 Tryd.results28 (res_cellb 7 tabs rfl rfl rfl rfl) (res_cellb 6 tabs rfl rfl rfl rfl) (fun w' c' => ⟨_, _, rfl, ⟨q, aq, cq, bq, dq, q, ar, cr, br, dr, rfl, rfl⟩, c'.sel [0, 1, 4, 5] rfl⟩)
end Go.Proofs.YtdnhmnnccfoliaaDoor
