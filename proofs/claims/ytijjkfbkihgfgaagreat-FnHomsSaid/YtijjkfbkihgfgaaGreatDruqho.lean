import Derived.Test.YtijjkfbkihgfgaaGreatDrrqho
import Derived.Test.YtijjkfbkihgfgaaGreatLEqho
import Derived.Test.YtijjkfbkihgfgaaGreatLFqho
import Derived.Test.YtijjkfbkihgfgaaGreatLwsqho
import Derived.Test.YtijjkfbkihgfgaaGreatRepqho
import Derived.Test.YtijjkfbkihgfgaaGreatSpbqho
namespace Go.Lg
open Go.RowKit
section
variable {P : Program} {n : Nat} {w0 w1 w : World} {H H' : List HE} {s : List (Nat × Value)} {R : Act → World → Prop} {x : Operand} {t ty : Nat}
theorem AT.base (h : ∀ w1, Hp [] w0 H w1 → AT n (Hp [] w1 []) s R) : AT n (Hp [] w0 H) s R := fun a w f c => h w c a w f Hp.nil
theorem Hp.after (h : Hp [] w0 H w1) (h' : Hp [] w1 H' w) : Hp [] w0 H' w := by
  obtain ⟨_, _, _, _, k⟩ := h
  obtain ⟨fp, s', nd, ge, k'⟩ := h'
  refine ⟨fp, s', nd, fun b hb => ?_, ⟨k'.os.trans k.os, k'.tape.trans k.tape, k'.output.trans k.output, Nat.le_trans k.size k'.size, fun b hb hm => ?_⟩⟩
  · rcases ge b hb with h | h
    · simp at h
    · exact .inr (Nat.le_trans k.size h)
  · rw [k'.block b (Nat.lt_of_lt_of_le hb k.size) hm, k.block b hb hm]
structure BoxAt (w : World) (b : Nat) (cur : Array Value) (e : Nat) : Prop where
  at' : w.heap[b]? = some (.cells cur e (0, 0))
theorem Hp.box {i b e : Nat} {cur : Array Value} (hp : Hp [] w0 H w) (hi : H[i]? = some (.blk b cur e)) : BoxAt w b cur e := ⟨hp.blk hi⟩
theorem Hp.boxk {b e : Nat} {cur : Array Value} (hp : Hp [] w0 H w) (hb : BoxAt w0 b cur e) : BoxAt w b cur e := ⟨by
  rw [hp.kept.block b (Array.getElem?_eq_some_iff.1 hb.at').1 (by simp)]; exact hb.at'⟩
theorem hc_box {b o e : Nat} {cur : Array Value} {v : Value} (hb : BoxAt w0 b cur e) (hv : cur[o]? = some v) : ∀ w, Hp [] w0 H w → w.cell? ⟨b, o, none⟩ = some v := fun w c => by
  have := (c.boxk hb).at'
  simp only [World.cell?, this]
  simpa using hv
theorem y_loadz (T : Tabs P) {b e : Nat} {cur : Array Value} {z : List Value} (ht : lk T.sz t = some z) (hx : ev s x = some (.pointer (some ⟨b, 0, none⟩))) (hb : BoxAt w0 b cur e) (hl : Nat.beq cur.size z.length = true) : Y P n (Hp [] w0 H) s (.load t x) ty (.agg cur) := by
  have h := y_loads (P := P) (n := n) (C := Hp [] w0 H) (s := s) (ty := ty) (cs := cur.toList) T ht (by rw [← Nat.eq_of_beq_eq_true hl]; simp) hx (fun w c j v hj => by
    rw [Addr.add_lit]
    exact hc_box hb (by simpa using hj) w c)
  simpa using h
end
section
variable {P : Program} {n : Nat} {M : List Nat} {w0 : World} {K : Act → World → Prop} {ops : Array Oper} {H : List HE} {s : List (Nat × Value)}
theorem stp_callL (i : Nat) {h0 : HE} {f d ty : Nat} {pos : String} {af : Array Edge} {args : Array Operand} {at' : Array Nat} {vs : List Value} {φ : Value → List HE → Prop} (he : Ent P f) (ha : evs s args.toList = some vs) (hd : Nat.blt d n = true) (hi : H[i]? = some h0)
    (hc : ∀ E w M', Lent M w0 h0 (H.eraseIdx i ++ E) M' w → DoesB P f vs w M' φ) :
    Stp P n M w0 ops K H s ⟨some d, .call ⟨.value (.func f), args, at'⟩, ty, pos, af, none⟩ d (fun v H1 => ∃ H0, φ v H0 ∧ H1 = H0 ++ H.eraseIdx i) := fun E X R hR => by
  have hil := (List.getElem?_eq_some_iff.1 hi).1
  refine m_callL i he (evs_sub sub_left ha) hd (by rw [List.getElem?_append_left hil]; exact hi) (fun w M' hl => hc E w M' (by rw [List.eraseIdx_append_of_lt_length hil] at hl; exact hl)) (fun v H' hφ => c_nil (x_one ?_))
  rw [List.eraseIdx_append_of_lt_length hil, ← List.append_assoc]
  exact hR _ _ ⟨H', hφ, rfl⟩
end
theorem range_get {α : Type} : ∀ (l : List α), (List.range l.length).filterMap (fun i => l[i]?) = l
  | [] => rfl
  | x :: l => by
    rw [List.length_cons, List.range_succ_eq_map, List.filterMap_cons, List.filterMap_map]
    have := range_get l
    simpa [Function.comp_def] using this
theorem sel_in {α : Type} (l : List α) : ∀ (is : List Nat), is.filterMap (fun i => l[i]?) = (is.filter (fun i => decide (i < l.length))).filterMap (fun i => l[i]?)
  | [] => rfl
  | i :: is => by
    have ih := sel_in l is
    by_cases h : i < l.length
    · rw [List.filter_cons_of_pos (by simpa using h), List.filterMap_cons, List.filterMap_cons, ih]
    · rw [List.filter_cons_of_neg (by simpa using h), List.filterMap_cons, List.getElem?_eq_none om, ih]
theorem Hp.sel {M : List Nat} {w0 w : World} {H : List HE} (is : List Nat) (hn : decide is.Nodup = true) (hp : Hp M w0 H w) : Hp M w0 (is.filterMap (fun i => H[i]?)) w := by
  have hn' : is.Nodup := of_decide_eq_true hn
  have h1 : (is.filter (fun i => decide (i < H.length)) ++ (List.range H.length).filter (fun i => !is.contains i)).Perm (List.range H.length) := by
    refine (List.perm_ext_iff_of_nodup ?_ List.nodup_range).2 (fun x => ?_)
    · refine List.nodup_append.2 ⟨hn'.filter _, List.nodup_range.filter _, fun a ha b hb e => ?_⟩
      subst e
      simp at ha hb
      exact hb.2 ha.1
    · simp only [List.mem_append, List.mem_filter, decide_eq_true_eq, List.mem_range, Bool.not_eq_true', List.contains_eq_mem, decide_eq_false_iff_not]
      constructor
      · rintro (h | h)
        · exact h.2
        · exact h.1
      · intro h
        by_cases hx : x ∈ is
        · exact .inl ⟨hx, h⟩
        · exact .inr ⟨h, hx⟩
  have h2 := h1.filterMap (fun i => H[i]?)
  rw [range_get, List.filterMap_append, ← sel_in] at h2
  exact (hp.perm h2.symm).sub (List.sublist_append_left _ _)
theorem AT.sel {M : List Nat} {w0 : World} {H : List HE} {n : Nat} {s : List (Nat × Value)} {R : Act → World → Prop} (is : List Nat) (hn : decide is.Nodup = true) (h : AT n (Hp M w0 (is.filterMap (fun i => H[i]?))) s R) : AT n (Hp M w0 H) s R := AT.cls (fun _ c => c.sel is hn) h
def MidQ (n : Nat) (s' : List (Nat × Value)) (C' : World → Prop) (Q : Exit → Act → World → Prop) : Exit → Act → World → Prop
  | .normal => fun a w => Fr n s' a ∧ C' w
  | .exit i => Q (.exit i)
  | .goto l => Q (.goto l)
  | .ret => Q .ret
  | .panic c => Q (.panic c)
  | .outgrown => Q .outgrown
section
variable {P : Program} {n : Nat} {C : World → Prop} {s : List (Nat × Value)} {k : Act → World → Prop} {Q : Exit → Act → World → Prop}
structure Stay (p : Prop) : Prop where
  to : p
theorem stay {p : Prop} (h : p) : Stay p := ⟨h⟩
theorem c_cutq {id : Nat} {x : Code} (s' : List (Nat × Value)) (C' : World → Prop) (h : Stay (AT n C s ((Code.block id x).wp P (MidQ n s' C' Q)))) (h2 : Stay (AT n C' s' k)) : AT n C s ((Code.block id x).wp P (Exit.then k Q)) := fun a w f c =>
  Code.wp_mono (fun e a' w' hq => by
    cases e with
    | normal => exact h2.to a' w' hq.1 hq.2
    | _ => exact hq) (h.to a w f c)
theorem x_midq {s' : List (Nat × Value)} {C' : World → Prop} (hs : Sub s' s) (hC : ∀ w, C w → C' w) : AT n C s (MidQ n s' C' Q .normal) := fun _ w f c => ⟨f.sub hs, hC w c⟩
theorem x_midr {s' : List (Nat × Value)} {C' : World → Prop} (h : AT n C s (Q .ret)) : AT n C s (MidQ n s' C' Q .ret) := h
end
section
variable {P : Program} {n : Nat} {S C : World → Prop} {s : List (Nat × Value)} {K : Act → World → Prop} {ops : Array Oper} {fuel : Nat} {listed : Array Bool}
end
theorem results4 {P : Program} {fn : Func} {r1 r2 r3 r4 : ResultVar} (hf : fn.results = #[r1, r2, r3, r4]) (tmps : Array Value) (w : World) : (results fn tmps).run P w = ((resM tmps r1).run P w).andThen fun v1 w1 => ((resM tmps r2).run P w1).andThen fun v2 w2 => ((resM tmps r3).run P w2).andThen fun v3 w3 => ((resM tmps r4).run P w3).andThen fun v4 w4 => .ok (.tuple #[v1, v2, v3, v4]) w4 := by
  cases r1 <;> cases r2 <;> cases r3 <;> cases r4 <;> simp [results, hf, resM, andThen_assoc]
theorem x_ret4 {P : Program} {n : Nat} {C : World → Prop} {s : List (Nat × Value)} {fn : Func} {R : Ending → World → Prop} {r1 r2 r3 r4 : ResultVar} {v1 v2 v3 v4 : Value} (hf : fn.results = #[r1, r2, r3, r4]) (h1 : ResV P C s r1 v1) (h2 : ResV P C s r2 v2) (h3 : ResV P C s r3 v3) (h4 : ResV P C s r4 v4) (h : ∀ w, C w → R (.returned (.tuple #[v1, v2, v3, v4])) w) : AT n C s (bodyPost P fn R .ret) :=
  x_end (.inl rfl) (fun a w f c => by simp only [results4 hf, h1.run f c, h2.run f c, h3.run f c, h4.run f c, Result.andThen]) h
end Go.Lg

namespace Go.Proofs.YtijjkfbkihgfgaaGreat
open Go.Lg Go.Proofs Go.RowKit
attribute [local irreducible] Code.wp wpList bodyPost Exit.then Exit.inBlock Hp Again Calls Y AT ResV QT Qn QI wpAny wpAnyQ
set_option maxRecDepth 20000
set_option maxHeartbeats 4000000

theorem l8Dims_ok {w1 : World} {M1 : List Nat} {H1 : List HE} {w : World} {M' : List Nat} {u : Value} {b i : Nat} {h : Int} {q : Qv} {u0 u1 : Value} (most : Nat) (hm : most ≤ 3) (hl : Lent M1 w1 (cu u b i h) H1 M' w) (hc : CodeF w1 M1 u) (hi : i ≤ vlen u) :
    DoesB Tryz.prog 265 [cuV b, .agg #[iV q.1, u0, u1], iV most] w M' (Gcu u b (fun v H => ∃ (ds : List Int) (a : Option Addr) (c : Nat), v = .slice a ds.length c ∧ ((ds.length : Int) = max 0 (min q.1 5)) ∧ InP 0 most ds ∧ ds.sum ≤ 8 ∧ H = [.own (iT ds) (.slice a ds.length c)])) := by
  have hc2 := lent_code hl hc
  refine fnb_lent Tryz.func265 rfl Tryz.ntmps265 rfl hl ?_
  repeat' (first | (show oL; first | refine sAs rfl rfl ?_ | (show oA (.box _ _); refine m_box rfl rfl (fun b4 hb4 => ?_)) | (show oA (.buildSlice _ _ _); refine m_build0 tabs rfl rfl (fun g hg => ?_))) | refine xNt ?_ | (show oC; first | refine c_seq ?_ | refine c_region ?_ | refine c_block ?_))
  refine c_loopH (α := (List Int × Option Addr × Nat) × Int × Nat × Int) [0, 2, 4] (fun s => [(7, .slice s.1.2.1 s.1.1.length s.1.2.2), (8, iV s.2.1), (9, iV s.1.1.length)]) (fun s => ((s.1.1.length : Int) ≤ max 0 (min q.1 5) ∧ s.1.1.sum + s.2.1 = 8 ∧ 0 ≤ s.2.1) ∧ InP 0 most s.1.1 ∧ s.2.2.1 ≤ vlen u) (fun s => [.own (iT s.1.1) (.slice s.1.2.1 s.1.1.length s.1.2.2), cu u b s.2.2.1 s.2.2.2, .blk b4 #[iV q.1, u0, u1] 57]) (fun s => 5 - s.1.1.length) (([], some ⟨g, 0, none⟩, 0), 8, i, h) rfl sB ?_ ?_ ?_
  · exact ⟨⟨by simp only [List.length_nil]; omega, by simp, by show (0 : Int) ≤ 8; omega⟩, by intro x hx; simp at hx, hi⟩
  · exact fun w' c' => (c'.front (i := 2) rfl).swap
  · rintro ⟨⟨ds, a, c⟩, left, i, ch⟩ ⟨⟨hds, hsum, hleft⟩, hin, hi⟩
    simp only at hds hsum hleft hin hi ⊢
    have hsn := sum_in (xs := ds) (fun x hx => by have := hin x hx; omega)
    repeat' (first | (show oL; first | refine sMv rfl rfl ?_ | refine sAs rfl rfl ?_ | refine sFd tabs rfl rfl rfl rfl ?_ | refine sLd 2 tabs rfl rfl rfl rfl rfl ?_ | (show oA (.binOp _ _ _ _ _); first | refine sAd rfl rfl om rfl ?_ | refine st_y (y_sub rfl rfl om) rfl ?_ | refine sLs rfl rfl rfl ?_) | (show oA (.call _); first | (refine m_callL 1 (ent_of Tryz.func120 kr rfl) rfl rfl rfl (fun w M' hl => l1Below_ok ((most : Int) + 1) hl hc2 hi) ?_; rintro v H' ⟨i, ch, _, hi, rfl, y, rfl, hy, rfl⟩) | refine st_y (y_min rfl rfl) rfl ?_ | refine m_pushi 1 tabs rfl rfl rfl rfl rfl om (fun a6 c6 => ?_)) | (show oA (.pick _ _ _); first | refine st_y (y_pickt rfl aO rfl) rfl ?_ | refine st_y (y_pickf rfl aO rfl) rfl ?_) | (show oA (.buildSlice _ _ _); refine m_build1 tabs (us := [iV (min left y)]) rfl rfl rfl rfl (by decide) rfl (fun g6 hg6 => ?_)) | refine st_gdy rfl rfl aO ?_ | refine st_gdn rfl rfl aO rfl ?_ | refine st_gd rfl rfl (fun h => ?_) (fun h => ?_)) | (show oN; first | refine c_nil (x_then ?_) | refine c_nil ?_) | (show oC; first | refine c_seq ?_ | refine c_region ?_ | refine c_skip (x_then ?_) | refine c_block ?_ | refine c_ret ?_ | refine c_exit ?_ | refine c_false rfl ?_ | refine c_if rfl (fun h => ?_) (fun h => ?_)) | (show AT _ _ _ _; first | refine x_then ?_ | refine x_then_exit ?_ | refine x_blk_exit rfl ?_ | refine x_blk ?_))
    · exact x_nx ((ds ++ [min left y], a6, c6), left - min left y, i, ch) (by simp only [List.length_append, List.length_singleton]; repeat' (first | exact Sub.nil | refine Sub.cons rfl ?_ | refine Sub.consi rfl om ?_)) ⟨⟨by simp only [List.length_append, List.length_singleton]; omega, by simp only [List.sum_append, List.sum_cons, List.sum_nil]; omega, by simp only; omega⟩, inP_app hin om, hi⟩ (fun w' c' => by rw [List.length_append]; exact c') (by simp only [List.length_append, List.length_singleton]; omega)
    all_goals exact x_ret1 Tryz.results265 (res_tmp rfl) (fun w' c' => ⟨_, _, rfl, ⟨i, ch, _, hi, rfl, ds, a, c, rfl, by omega, hin, by omega, rfl⟩, c'.swap.sub (.cons_cons _ (.cons_cons _ (List.nil_sublist _)))⟩)
theorem hc_mr0 (i : Nat) {M : List Nat} {w0 : World} {H : List HE} {e m c j : Nat} {rs : List Mat} {a : Option Addr} {z : Mat} {x : Int} (hi : H[i]? = some (.own (matsT e rs) (.slice a m c))) (hz : rs[j]? = some z) (hx : z.1 = x) : ∀ w, Hp M w0 H w → w.cell? ⟨ab a, ao a + j * 3, none⟩ = some (iV x) := fun w cw => by
  subst hx
  obtain ⟨a', c', k1, _, _, _, k2⟩ := rd_mats (cw.own_rd hi)
  injection k1 with k5
  subst k5
  obtain ⟨a4, c4, k3, _⟩ := k2 j z hz
  exact k3
theorem hc_mr1 (i : Nat) {M : List Nat} {w0 : World} {H : List HE} {e m c j : Nat} {rs : List Mat} {a : Option Addr} {z : Mat} {x : Int} (hi : H[i]? = some (.own (matsT e rs) (.slice a m c))) (hz : rs[j]? = some z) (hx : z.2.1 = x) : ∀ w, Hp M w0 H w → w.cell? ⟨ab a, ao a + j * 3 + 1, none⟩ = some (iV x) := fun w cw => by
  subst hx
  obtain ⟨a', c', k1, _, _, _, k2⟩ := rd_mats (cw.own_rd hi)
  injection k1 with k5
  subst k5
  obtain ⟨a4, c4, _, k3, _⟩ := k2 j z hz
  exact k3
def SmM (ms : List Mat) : Prop := ∀ (j : Nat) (m : Mat), ms[j]? = some m → ∃ R C : Nat, m.1 = R ∧ m.2.1 = C ∧ R ≤ 1000 ∧ C ≤ 1000
theorem smM_set {ms : List Mat} {j : Nat} {m : Mat} (h : SmM ms) (hm : ∃ R C : Nat, m.1 = R ∧ m.2.1 = C ∧ R ≤ 1000 ∧ C ≤ 1000) : SmM (ms.set j m) := fun k x hx => by
  rw [List.getElem?_set] at hx
  split at hx
  · split at hx
    · simp at hx; subst hx; exact hm
    · simp at hx
  · exact h k x hx
theorem zMs_sm {q : Qv} {d : List Int} (h : ArrP q d) : SmM (zMs q d q.2.1.length) := fun j m hm => by
  have hj : j < q.2.1.length := by
    have := (List.getElem?_eq_some_iff.1 hm).1
    simpa using this
  obtain ⟨f, t, dt, df, _, _, _, _, _, _, h1, h2, h3⟩ := h.at hj
  have : m = zM q d j := by
    simp [zMs, hj] at hm; exact hm.symm
  rw [this, h3]
  exact ⟨dt, df, rfl, rfl, h1, h2⟩
structure RepQ (q : Qv) (p : Int) (r : Rp) : Prop where
  ep : r.p = p
  eq : r.q = q
  ed : DimsP q r.d
  em : r.m.length = q.2.1.length
theorem bld_rp2 (p r : Int) (a0 a1 : Option Addr) (m0 c0 m1 c1 : Nat) (w : World) : (Instr.build 60 #[(0, iV p), (1, .agg #[iV r, .slice a0 m0 c0, .slice a1 m1 c1])]).run Tryz.prog w = .ok (.agg #[iV p, iV r, .slice a0 m0 c0, .slice a1 m1 c1, .slice none 0 0, .slice none 0 0]) w := by kernel_rfl
def OfG (p : Int) (q : Qv) (u0 u1 : Value) (v : Value) (H : List HE) : Prop := (∃ r, RepQ q p r ∧ GivesR r v H) ∨ (¬ QuivP q ∧ v = .agg #[iV p, iV q.1, u0, u1, .slice none 0 0, .slice none 0 0] ∧ H = [])
theorem l8Of_ok {w1 : World} {M1 : List Nat} {H1 : List HE} {w : World} {M' : List Nat} {u : Value} {b i : Nat} {h : Int} {q : Qv} {u0 u1 : Value} (p : Int) (most : Nat) (hm : most ≤ 2) (hl : Lent M1 w1 (cu u b i h) H1 M' w) (hc : CodeF w1 M1 u) (hi : i ≤ vlen u) (h0 : RdOut w M' (iT q.2.1) u0) (h1 : RdOut w M' (iT q.2.2) u1) :
    DoesB Tryz.prog 189 [cuV b, iV p, .agg #[iV q.1, u0, u1], iV most] w M' (Gcu u b (OfG p q u0 u1)) := by
  have hc2 := lent_code hl hc
  have h0' := h0
  have h1' := h1
  obtain ⟨a0, c0, rfl, hs0, hg0⟩ := h0'.intsO
  obtain ⟨a1, c1, rfl, hs1, hg1⟩ := h1'.intsO
  refine fnb_lent Tryz.func189 rfl Tryz.ntmps189 rfl hl ?_
  repeat' (first | (show oL; first | refine sMv rfl rfl ?_ | refine sLb 1 tabs rfl rfl rfl rfl rfl ?_ | (show oA (.unOp _ _ _); refine st_y (y_notd rfl) rfl ?_) | (show oA (.call _); (refine m_call (ent_of Tryz.func264 kr rfl) rfl rfl (fun w c => spec_IsQuiver_ok (q := q) (h0.rd c) (h1.rd c)) ?_; rintro v H' ⟨rfl, rfl⟩)) | (show oA (.store _ _ _); refine m_storeb 0 tabs rfl rfl rfl rfl rfl rfl rfl ?_) | (show oA (.box _ _); refine m_box rfl rfl (fun b4 hb4 => ?_)) | (show oA (.alloc _); refine m_alloc tabs rfl rfl (fun b8 hb8 => ?_)) | (show oA (.build _ _); refine st_y (y_bld2 (bld_rp2 _ _ _ _ _ _ _ _) rfl rfl) rfl ?_)) | refine xNt ?_ | (show oC; first | refine c_seq ?_ | refine c_region ?_ | refine c_skip (x_then ?_) | refine c_ret ?_ | refine c_ifnd rfl (fun h => ?_) (fun h => ?_)) | (show AT _ _ _ _; refine x_then_ret ?_))
  · exact x_ret1 Tryz.results189 (res_cellb 0 tabs rfl rfl rfl rfl) (fun wz cz => ⟨_, _, rfl, ⟨i, _, [], hi, rfl, .inr ⟨h, rfl, rfl⟩⟩, cz.sub (.cons _ (.cons _ (.cons_cons _ (List.nil_sublist _))))⟩)
  · have hQ : QuivP q := h
    refine c_all (Hp M' w [.blk b4 #[iV q.1, .slice a0 q.2.1.length c0, .slice a1 q.2.2.length c1] 57]) kr (fun _ c => Hp.drew c) ?_
    refine fl_begin 7 rfl tabs rfl rfl ?_
    refine fl_take 0 rfl kr kr kr kr kr kr (by exact y_move rfl) rfl sS ?_
    refine fl_take 1 rfl kr kr kr kr kr kr (by exact y_loadb 0 tabs rfl rfl rfl rfl) rfl sS ?_
    refine fl_take 2 rfl kr kr kr kr kr kr (by exact y_move rfl) rfl sS ?_
    refine fl_take 3 rfl kr kr kr kr kr kr (by exact y_loadb 0 tabs rfl rfl rfl rfl) rfl sS ?_
    refine fl_take 4 rfl kr kr kr kr kr kr (by exact y_move rfl) rfl sS ?_
    refine fl_step 5 rfl rfl rfl tabs rfl rfl rfl kr kr kr (stp_callL 2 (ent_of Tryz.func265 kr rfl) rfl rfl rfl (fun E w M' hl => l8Dims_ok most om hl hc2 hi)) (fun w' c' => c'.sub (.cons _ (.cons_cons _ (List.nil_sublist _)))) (by rintro v H1 ⟨H0, ⟨i, ch, _, hi, rfl, ds, a, c, rfl, hds, hin, hsum, rfl⟩, rfl⟩ w' c'; exact c'.sub (.cons _ (.cons _ (.cons _ (.cons_cons _ (List.nil_sublist _)))))) ?_
    rintro v H1 ⟨H0, ⟨i, ch, _, hi, rfl, ds, a, c, rfl, hds, hin, hsum, rfl⟩, rfl⟩
    have hD : DimsP q ds := ⟨hQ, by have := hQ.1; omega, fun x hx => by have := hin x hx; omega, hsum⟩
    refine fl_step 6 rfl rfl rfl tabs rfl rfl rfl kr kr kr (stf_call (ent_of Tryz.func198 kr rfl) rfl rfl (fun w c => l8Zero_ok (p := p) (q := q) (d := ds) (h0.rd c) (h1.rd c) (c.own_rd (i := 1) rfl) hD.arr)).stp (fun w' c' => c'.sub (.cons _ (.cons _ (.cons _ (.cons_cons _ (List.nil_sublist _)))))) (by rintro v H1 ⟨H0, ⟨aF, cF, aT, cT, ad, cd, am, cm, rfl, hsF, hsT, hsd, hsm, rfl⟩, rfl⟩ w' c'; exact c'.sub (.cons _ (.cons _ (.cons _ (.cons _ (.cons _ (.cons _ (.cons _ (.cons_cons _ (List.nil_sublist _)))))))))) ?_
    rintro v H1 ⟨H0, ⟨aF, cF, aT, cT, ad, cd, am, cm, rfl, hsF, hsT, hsd, hsm, rfl⟩, rfl⟩
    refine fl_end rfl tabs rfl rfl rfl kr sS (fun bf hbf => ?_)
    refine h_only 8 rfl kr ?_
    first | (refine m_storeb 0 tabs rfl rfl rfl rfl rfl rfl rfl ?_) | (refine m_storeb 0 tabs rfl rfl rfl rfl rfl rfl rfl ?_)
    refine c_nil (x_one (h_keep sS ?_))
    refine h_end kr ?_
    repeat' (first | (show oL; first | refine sAs rfl rfl ?_) | refine xNt ?_ | (show oC; first | refine c_seq ?_ | refine c_region ?_ | refine c_block ?_) | (show AT _ _ _ _; refine x_then ?_))
    have hzl : (zMs q ds q.2.1.length).length = q.2.1.length := by simp
    simp only [zeroR, hzl] at hsF hsT hsd hsm ⊢
    refine c_loopH (α := List Mat × Nat × Nat × Int) [0, 1, 8, 9] (fun s => [(10, iV s.2.1)]) (fun s => (s.1.length = q.2.1.length ∧ s.2.1 ≤ q.2.1.length) ∧ SmM s.1 ∧ s.2.2.1 ≤ vlen u) (fun s => [.own (matsT 47 s.1) (.slice am q.2.1.length cm), cu u b s.2.2.1 s.2.2.2, .blk bf #[iV p, iV q.1, .slice aF q.2.1.length cF, .slice aT q.2.2.length cT, .slice ad ds.length cd, .slice am q.2.1.length cm] 60, .own (iT ds) (.slice ad ds.length cd), .own (iT q.2.2) (.slice aT q.2.2.length cT), .own (iT q.2.1) (.slice aF q.2.1.length cF), .blk b8 #[iV 0, iV 0, .slice none 0 0, .slice none 0 0, .slice none 0 0, .slice none 0 0] 60]) (fun s => q.2.1.length - s.2.1) (zMs q ds q.2.1.length, 0, i, ch) rfl sB ?_ ?_ ?_
    · exact ⟨⟨hzl, Nat.zero_le _⟩, zMs_sm hD.arr, hi⟩
    · intro w' c'
      exact ((c'.front (i := 5) rfl).front (i := 2) rfl).sub (.cons_cons _ (.cons_cons _ (.cons_cons _ (.cons_cons _ (.cons_cons _ (.cons_cons _ (.cons _ (.cons_cons _ (List.nil_sublist _)))))))))
    · rintro ⟨ms, k, i, ch⟩ ⟨⟨hml, hk⟩, hsm2, hi⟩
      simp only at hml hk hsm2 hi ⊢
      have hq6 := hQ.2.1
      by_cases hin2 : k < q.2.1.length
      · obtain ⟨z, hz⟩ : ∃ z, ms[k]? = some z := ⟨_, List.getElem?_eq_getElem om⟩
        obtain ⟨R, C, e1, e2, hR, hC⟩ := hsm2 k z hz
        repeat' (first | (show oL; first | refine sMv rfl rfl ?_ | refine sFd tabs rfl rfl rfl rfl ?_ | refine sLd 2 tabs rfl rfl rfl rfl rfl ?_ | refine sLs rfl rfl rfl ?_ | refine sLn tabs rfl rfl rfl ?_) | refine xNt ?_ | (show oC; first | refine c_seq ?_ | refine c_region ?_ | refine c_skip (x_then ?_) | refine c_block ?_ | refine c_ift rfl aO ?_))
        refine c_mixR (Hp M' w [.own (matsT 47 ms) (.slice am q.2.1.length cm), .blk bf #[iV p, iV q.1, .slice aF q.2.1.length cF, .slice aT q.2.2.length cT, .slice ad ds.length cd, .slice am q.2.1.length cm] 60]) 18 kr kr kr kr kr (fun _ c => Hp.drew c) ?_
        refine h_take 0 rfl kr kr kr (by exact y_field tabs rfl rfl rfl) rfl sS ?_
        refine h_take 1 rfl kr kr kr (by exact y_load tabs rfl rfl (hc_blk 1 rfl rfl)) rfl sS ?_
        refine h_take 2 rfl kr kr kr (by exact y_move rfl) rfl sS ?_
        refine h_take 3 rfl kr kr kr (by exact y_move rfl) rfl sS ?_
        refine h_take 4 rfl kr kr kr (by exact y_move rfl) rfl sS ?_
        refine h_take 5 rfl kr kr kr (by exact y_field tabs rfl rfl rfl) rfl sS ?_
        refine h_take 6 rfl kr kr kr (by exact y_load tabs rfl rfl (hc_blk 1 rfl rfl)) rfl sS ?_
        refine h_take 7 rfl kr kr kr (by exact y_move rfl) rfl sS ?_
        refine h_take 8 rfl kr kr kr (by exact y_ixa tabs rfl rfl rfl hsm om om) rfl sS ?_
        refine h_take 9 rfl kr kr kr (by exact y_field tabs rfl rfl rfl) rfl sS ?_
        refine h_take 10 rfl kr kr kr (by exact y_load tabs rfl rfl (hc_mr0 0 rfl hz e1)) rfl sS ?_
        refine h_take 11 rfl kr kr kr (by exact y_field tabs rfl rfl rfl) rfl sS ?_
        refine h_take 12 rfl kr kr kr (by exact y_load tabs rfl rfl (hc_blk 1 rfl rfl)) rfl sS ?_
        refine h_take 13 rfl kr kr kr (by exact y_move rfl) rfl sS ?_
        refine h_take 14 rfl kr kr kr (by exact y_ixa tabs rfl rfl rfl hsm om om) rfl sS ?_
        refine h_take 15 rfl kr kr kr (by exact y_field tabs rfl rfl rfl) rfl sS ?_
        refine h_take 16 rfl kr kr kr (by exact y_load tabs rfl rfl (hc_mr1 0 rfl hz e2)) rfl sS ?_
        refine h_only 17 rfl kr ?_
        (refine m_callL 1 (ent_of Tryz.func239 kr rfl) rfl rfl rfl (fun w M' hl => l3Random_ok p (R := R) (C := C) hl hc2 hi hR hC) ?_; rintro v H' ⟨i, ch, _, hi, rfl, xs, ax, cx, rfl, hx, rfl⟩)
        refine c_nil (x_one (h_keep sS ?_))
        refine h_end kr ?_
        repeat' (first | (show oL; first | refine sMv rfl rfl ?_ | refine sAs rfl rfl ?_ | (show oA (.indexAddr _ _ _); refine st_y (y_ixa tabs rfl rfl rfl hsm om om) rfl ?_) | refine sAd rfl rfl om rfl ?_ | (show oA (.store _ _ _); refine m_storeT tabs (m := q.2.1.length) (tn := matT ((R : Int), (C : Int), xs)) (j := k) rfl rfl rfl rfl rfl rfl (by decide) (by rw [flatMap_length matT_length, hml]) hin2 (fun w c => ((c.front (i := 1) rfl).mat (u0 := iV (R : Int)) (u1 := iV (C : Int))).front (i := 2) rfl) ?_)) | (show oN; first | refine c_nil (x_then ?_) | refine c_nil ?_) | (show oC; refine c_region ?_) | (show AT _ _ _ _; first | refine x_then ?_ | refine x_blk ?_))
        refine x_nx (ms.set k ((R : Int), (C : Int), xs), k + 1, i, ch) sB ⟨⟨by simp only [List.length_set]; exact hml, by simp only; omega⟩, smM_set hsm2 ⟨R, C, rfl, rfl, hR, hC⟩, hi⟩ (fun w' c' => ?_) (by simp only; omega)
        rw [flatMap_set matT_length _ _ _ om] at c'
        exact c'
      · have : k = q.2.1.length := by omega
        subst this
        repeat' (first | (show oL; first | refine sMv rfl rfl ?_ | refine sFd tabs rfl rfl rfl rfl ?_ | (show oA (.load _ _); first | refine sLd 2 tabs rfl rfl rfl rfl rfl ?_ | refine sLb 2 tabs rfl rfl rfl rfl rfl ?_) | refine sLs rfl rfl rfl ?_ | refine sLn tabs rfl rfl rfl ?_ | (show oA (.store _ _ _); refine m_storeb 6 tabs rfl rfl rfl rfl rfl rfl rfl ?_)) | refine xNt ?_ | (show oC; first | refine c_seq ?_ | refine c_region ?_ | refine c_ret ?_ | refine c_exit ?_ | refine c_iff rfl nN ?_) | (show AT _ _ _ _; first | refine x_then ?_ | refine x_then_exit ?_ | refine x_blk_exit rfl ?_))
        exact x_ret1 Tryz.results189 (res_cellb 6 tabs rfl rfl rfl rfl) (fun wz cz => ⟨_, _, rfl, ⟨i, ch, _, hi, rfl, .inl ⟨⟨p, q, ds, ms⟩, ⟨rfl, rfl, hD, hml⟩, aF, cF, aT, cT, ad, cd, am, cm, by simp only [hml], hsF, hsT, hsd, by simp only [hml]; exact hsm, by simp only [hml]⟩⟩, (cz.swap.sub (.cons_cons _ (.cons_cons _ (.cons _ (.cons_cons _ (.cons_cons _ (.cons_cons _ (List.nil_sublist _))))))))⟩)
end Go.Proofs.YtijjkfbkihgfgaaGreat

namespace Go.Proofs.YtijjkfbkihgfgaaGreat
open Go.Lg Go.Proofs Go.RowKit
attribute [local irreducible] Code.wp wpList bodyPost Exit.then Exit.inBlock Hp Again Calls Y AT ResV QT Qn QI wpAny wpAnyQ
set_option maxRecDepth 20000
set_option maxHeartbeats 4000000

theorem l8Prime_ok {w1 : World} {M1 : List Nat} {H1 : List HE} {w : World} {M' : List Nat} {u : Value} {b i : Nat} {h : Int} (hl : Lent M1 w1 (cu u b i h) H1 M' w) (hc : CodeF w1 M1 u) (hi : i ≤ vlen u) :
    DoesB Tryz.prog 187 [cuV b] w M' (Gcu u b (fun v H => ∃ x : Int, v = iV x ∧ (x = 2 ∨ x = 3) ∧ H = [])) := by
  have hc2 := lent_code hl hc
  refine fnb_lent Tryz.func187 rfl Tryz.ntmps187 rfl hl ?_
  repeat' (first | (show oL; first | refine sMv rfl rfl ?_ | refine sAs rfl rfl ?_ | (show oA (.call _); (refine m_callL 1 (ent_of Tryz.func119 kr rfl) rfl rfl rfl (fun w M' hl => l1PickInt_ok hl hc2 hi (hl.own 0 rfl) (by decide)) ?_; rintro v H' ⟨i, h, _, hi, rfl, x, rfl, hx, rfl⟩)) | (show oA (.buildSlice _ _ _); refine m_buildi tabs [2, 3, 2] rfl rfl rfl rfl rfl rfl rfl (fun g hg => ?_))) | refine xNt ?_ | (show oC; first | refine c_seq ?_ | refine c_region ?_ | refine c_ret ?_))
  exact x_ret1 Tryz.results187 (res_tmp rfl) (fun w' c' => ⟨_, _, rfl, ⟨i, _, [], hi, rfl, _, rfl, by simp at hx; omega, rfl⟩, c'.sub (.cons_cons _ (List.nil_sublist _))⟩)
structure BndR (r : Rp) : Prop where
  f : r.q.2.1.length ≤ 7
  t : r.q.2.2.length ≤ 7
  d : r.d.length ≤ 7
  m : r.m.length ≤ 7
theorem RepQ.bnd {q : Qv} {p : Int} {r : Rp} (h : RepQ q p r) : BndR r := by
  have hQ := h.ed.1
  refine ⟨by rw [h.eq]; have := hQ.2.1; omega, by rw [h.eq]; have := hQ.2.1; have := hQ.2.2.1; omega, by have := h.ed.2.1; have := hQ.1; omega, by rw [h.em]; have := hQ.2.1; omega⟩
theorem OfG.all {p : Int} {q : Qv} {a a' : Option Addr} {c c' : Nat} {v : Value} {H : List HE} (h : OfG p q (.slice a q.2.1.length c) (.slice a' q.2.2.length c') v H) (hs : SA a q.2.1.length) (hs' : SA a' q.2.2.length) (hB : QivB q) :
    ∃ r a0 c0 a1 c1 a2 c2 a3 c3, v = .agg #[iV r.p, iV r.q.1, .slice a0 r.q.2.1.length c0, .slice a1 r.q.2.2.length c1, .slice a2 r.d.length c2, .slice a3 r.m.length c3] ∧ (SA a0 r.q.2.1.length ∧ SA a1 r.q.2.2.length ∧ SA a2 r.d.length ∧ SA a3 r.m.length) ∧ BndR r ∧ (r.p = p ∧ r.d.length ≤ 5) ∧
      ∀ (M : List Nat) (w0 w : World) (x y : HE) (HX : List HE), Hp M w0 (x :: H ++ (y :: .own (iT q.2.2) (.slice a' q.2.2.length c') :: .own (iT q.2.1) (.slice a q.2.1.length c) :: HX)) w →
        Hp M w0 (.own (matsT 47 r.m) (.slice a3 r.m.length c3) :: .own (iT r.d) (.slice a2 r.d.length c2) :: .own (iT r.q.2.2) (.slice a1 r.q.2.2.length c1) :: .own (iT r.q.2.1) (.slice a0 r.q.2.1.length c0) :: x :: y :: HX) w := by
  rcases h with ⟨r, hr, a0, c0, a1, c1, a2, c2, a3, c3, rfl, h0, h1, h2, h3, rfl⟩ | ⟨_, rfl, rfl⟩
  · exact ⟨r, a0, c0, a1, c1, a2, c2, a3, c3, rfl, ⟨h0, h1, h2, h3⟩, hr.bnd, ⟨hr.ep, by have := hr.ed.2.1; have := hr.ed.1.1; omega⟩, fun M w0 w x y HX c => ((((c.front (i := 4) rfl).front (i := 4) rfl).front (i := 4) rfl).front (i := 4) rfl).sub (.cons_cons _ (.cons_cons _ (.cons_cons _ (.cons_cons _ (.cons_cons _ (.cons_cons _ (.cons _ (.cons _ (List.Sublist.refl _)))))))))⟩
  · exact ⟨⟨p, q, [], []⟩, a, c, a', c', none, 0, none, 0, rfl, ⟨hs, hs', .inl rfl, .inl rfl⟩, ⟨hB.1, hB.2.1, by simp, by simp⟩, ⟨rfl, by simp⟩, fun M w0 w x y HX c => Hp.nilp _ _ (Hp.nilp _ _ ((c.front (i := 3) rfl).front (i := 3) rfl))⟩
def GivesRp (φ : Rp → Prop) (v : Value) (H : List HE) : Prop := ∃ r, φ r ∧ GivesR r v H
theorem l8Any_ok {w1 : World} {M1 : List Nat} {H1 : List HE} {w : World} {M' : List Nat} {u : Value} {b i : Nat} {h : Int} (hl : Lent M1 w1 (cu u b i h) H1 M' w) (hc : CodeF w1 M1 u) (hi : i ≤ vlen u) :
    DoesB Tryz.prog 168 [cuV b] w M' (Gcu u b (GivesRp BndR)) := by
  have hc2 := lent_code hl hc
  have tok0 : True := trivial
  have tok1 : True := trivial
  refine fnb_lent Tryz.func168 rfl Tryz.ntmps168 rfl hl ?_
  repeat' (first | (show oL; first | refine sMv rfl rfl ?_ | refine sAs rfl rfl ?_ | refine sFd tabs rfl rfl rfl rfl ?_ | (show oA (.load _ _); first | refine sLd 1 tabs rfl rfl rfl rfl rfl ?_ | refine sLb 0 tabs rfl rfl rfl rfl rfl ?_ | refine sLb 1 tabs rfl rfl rfl rfl rfl ?_) | (show oA (.binOp _ _ _ _ _); first | refine st_y (y_gtr rfl rfl) rfl ?_ | refine st_y (y_eql rfl rfl) rfl ?_) | (show oA (.call _); first | (refine m_callL 1 (ent_of Tryz.func125 kr rfl) rfl rfl rfl (fun w M' hl => l2Prime_ok hl hc2 hi) ?_; rintro v H' ⟨i, h, _, hi, rfl, p, rfl, hp, rfl⟩) | (refine m_callL 0 (ent_of Tryz.func256 kr rfl) rfl rfl rfl (fun w M' hl => l6Any_ok hl hc2 hi) ?_; rintro v H' ⟨i, h, _, hi, rfl, q, a, c, a', c', rfl, hq, rfl⟩; refine AT.fact (own_sl 1 rfl) (fun hsT => ?_); obtain ⟨_, _, eT, hsT⟩ := hsT; cases eT; refine AT.fact (own_sl 2 rfl) (fun hsF => ?_); obtain ⟨_, _, eF, hsF⟩ := hsF; cases eF) | (refine m_callL 1 (ent_of Tryz.func189 kr rfl) rfl rfl rfl (fun w M' hl => l8Of_ok (q := q) p 2 (by decide) hl hc2 hi (hl.own 2 rfl) (hl.own 1 rfl)) ?_; rintro v H' ⟨i, h, H0, hi, rfl, hO⟩; obtain ⟨r, a0, c0, a1, c1, a2, c2, a3, c3, rfl, ⟨s0, s1, s2, s3⟩, hB, ⟨hrp, hd5⟩, hcl⟩ := hO.all hsF hsT hq; refine AT.cls (fun w cz => hcl _ _ _ _ _ _ cz) ?_) | (refine m_callL 5 (ent_of Tryz.func120 kr rfl) rfl rfl rfl (fun w M' hl => l1BelowN_ok 14 (by decide) hl hc2 hi) ?_; rintro v H' ⟨i, ch, _, hi, rfl, k, rfl, hk, rfl⟩) | refine sLn tabs rfl rfl rfl ?_) | (show oA (.store _ _ _); refine m_storeb 0 tabs rfl rfl rfl rfl rfl rfl rfl ?_) | (show oA (.alloc _); first | (have _t := tok0; refine m_alloc tabs rfl rfl (fun b0 hb0 => ?_); clear _t tok0) | (have _t := tok1; refine m_alloc tabs rfl rfl (fun bq hbq => ?_); clear _t tok1) | refine m_alloc tabs rfl rfl (fun b2 hb2 => ?_))) | refine xNt ?_ | (show oC; first | refine c_seq ?_ | refine c_region ?_ | refine c_skip (x_blk ?_) | refine c_block ?_ | refine c_if rfl (fun h => ?_) (fun h => ?_)) | (show AT _ _ _ _; refine x_then ?_))
  · skip
    refine AT.cls (C' := Hp _ _ [cu u b i ch, .blk b2 #[iV r.p, iV r.q.1, .slice a0 r.q.2.1.length c0, .slice a1 r.q.2.2.length c1, .slice a2 r.d.length c2, .slice a3 r.m.length c3] 60, .own (matsT 47 r.m) (.slice a3 r.m.length c3), .own (iT r.d) (.slice a2 r.d.length c2), .own (iT r.q.2.2) (.slice a1 r.q.2.2.length c1), .own (iT r.q.2.1) (.slice a0 r.q.2.1.length c0), .blk b0 #[iV 0, iV 0, .slice none 0 0, .slice none 0 0, .slice none 0 0, .slice none 0 0] 60]) (fun w' c' => c'.sub sL) ?_
    repeat' (first | (show oL; first | refine sFd tabs rfl rfl rfl rfl ?_ | refine sLb 2 tabs rfl rfl rfl rfl rfl ?_ | (show oA (.call _); refine m_pushi 3 tabs rfl rfl rfl rfl rfl om (fun a6 c6 => ?_)) | (show oA (.store _ _ _); first | refine m_storef 2 tabs rfl rfl rfl rfl rfl rfl ?_ | refine m_storeb 6 tabs rfl rfl rfl rfl rfl rfl rfl ?_) | (show oA (.buildSlice _ _ _); refine m_build1 tabs (us := [iV 1]) rfl rfl rfl rfl (by decide) rfl (fun g6 hg6 => ?_))) | (show oN; first | refine c_nil (x_then ?_) | refine c_nil ?_) | (show oC; first | refine c_seq ?_ | refine c_region ?_ | refine c_ret ?_) | (show AT _ _ _ _; first | refine x_then ?_ | refine x_blk ?_))
    refine AT.fact (own_sl 0 rfl) (fun hs6 => ?_)
    obtain ⟨_, _, e6, hs6⟩ := hs6
    injection e6 with k6
    rw [← k6] at hs6
    exact x_ret1 Tryz.results168 (res_cellb 6 tabs rfl rfl rfl rfl) (fun wz cz => ⟨_, _, rfl, ⟨i, ch, _, hi, rfl, ⟨r.p, r.q, r.d ++ [1], r.m⟩, ⟨hB.f, hB.t, by simp only [List.length_append, List.length_singleton]; omega, hB.m⟩, a0, c0, a1, c1, a6, c6, a3, c3, by simp only [List.length_append, List.length_singleton]; rfl, s0, s1, hs6, s3, rfl⟩, by
      simp only [List.length_append, List.length_singleton]
      exact (cz.swap.front (i := 3) rfl).swap.sub (.cons_cons _ (.cons_cons _ (.cons_cons _ (.cons _ (.cons_cons _ (.cons_cons _ (List.nil_sublist _)))))))⟩)
  · skip
    refine AT.cls (C' := Hp _ _ [cu u b i ch, .blk b2 #[iV r.p, iV r.q.1, .slice a0 r.q.2.1.length c0, .slice a1 r.q.2.2.length c1, .slice a2 r.d.length c2, .slice a3 r.m.length c3] 60, .own (matsT 47 r.m) (.slice a3 r.m.length c3), .own (iT r.d) (.slice a2 r.d.length c2), .own (iT r.q.2.2) (.slice a1 r.q.2.2.length c1), .own (iT r.q.2.1) (.slice a0 r.q.2.1.length c0), .blk b0 #[iV 0, iV 0, .slice none 0 0, .slice none 0 0, .slice none 0 0, .slice none 0 0] 60]) (fun w' c' => c'.sub sL) ?_
    refine c_mixR (Hp M' w [.blk b2 #[iV r.p, iV r.q.1, .slice a0 r.q.2.1.length c0, .slice a1 r.q.2.2.length c1, .slice a2 r.d.length c2, .slice a3 r.m.length c3] 60]) 5 kr kr kr kr kr (fun _ c => Hp.drew c) ?_
    refine h_take 0 rfl kr kr kr (by exact y_field tabs rfl rfl rfl) rfl sS ?_
    refine h_take 1 rfl kr kr kr (by exact y_load tabs rfl rfl (hc_blk 0 rfl rfl)) rfl sS ?_
    refine h_take 2 rfl kr kr kr (by exact y_move rfl) rfl sS ?_
    refine h_take 3 rfl kr kr kr (by exact y_move rfl) rfl sS ?_
    refine h_only 4 rfl kr ?_
    (refine m_callL 0 (ent_of Tryz.func131 kr rfl) rfl rfl rfl (fun w M' hl => l3Any_ok p hl hc2 hi) ?_; rintro v H' ⟨i, ch, _, hi, rfl, m, a5, c5, rfl, hm, rfl⟩)
    refine c_nil (x_one (h_keep sS ?_))
    refine h_end kr ?_
    repeat' (first | (show oL; first | refine sLb 2 tabs rfl rfl rfl rfl rfl ?_ | (show oA (.indexAddr _ _ _); refine st_y (y_ixa tabs rfl rfl rfl s3 om om) rfl ?_) | (show oA (.store _ _ _); first | refine m_storeT tabs (m := r.m.length) (tn := matT m) (j := 0) rfl rfl rfl rfl rfl rfl (by decide) (by rw [flatMap_length matT_length]) om (fun w c => ((c.front (i := 1) rfl).mat (u0 := iV m.1) (u1 := iV m.2.1)).front (i := 3) rfl) ?_ | refine m_storeb 6 tabs rfl rfl rfl rfl rfl rfl rfl ?_)) | (show oN; first | refine c_nil (x_then ?_) | refine c_nil ?_) | (show oC; first | refine c_seq ?_ | refine c_region ?_ | refine c_ret ?_) | (show AT _ _ _ _; first | refine x_then ?_ | refine x_blk ?_))
    exact x_ret1 Tryz.results168 (res_cellb 6 tabs rfl rfl rfl rfl) (fun wz cz => ⟨_, _, rfl, ⟨i, ch, _, hi, rfl, ⟨r.p, r.q, r.d, r.m.set 0 m⟩, ⟨hB.f, hB.t, hB.d, by simp only [List.length_set]; exact hB.m⟩, a0, c0, a1, c1, a2, c2, a3, c3, by simp only [List.length_set], s0, s1, s2, by simp only [List.length_set]; exact s3, rfl⟩, by
      simp only [List.length_set]
      rw [flatMap_set matT_length _ _ _ om] at cz
      exact cz.swap.sub (.cons_cons _ (.cons_cons _ (.cons _ (.cons_cons _ (.cons_cons _ (.cons_cons _ (List.nil_sublist _)))))))⟩)
  · skip
    refine AT.cls (C' := Hp _ _ [cu u b i ch, .blk b2 #[iV r.p, iV r.q.1, .slice a0 r.q.2.1.length c0, .slice a1 r.q.2.2.length c1, .slice a2 r.d.length c2, .slice a3 r.m.length c3] 60, .own (matsT 47 r.m) (.slice a3 r.m.length c3), .own (iT r.d) (.slice a2 r.d.length c2), .own (iT r.q.2.2) (.slice a1 r.q.2.2.length c1), .own (iT r.q.2.1) (.slice a0 r.q.2.1.length c0), .blk b0 #[iV 0, iV 0, .slice none 0 0, .slice none 0 0, .slice none 0 0, .slice none 0 0] 60]) (fun w' c' => c'.sub sL) ?_
    repeat' (first | (show oL; first | (show oA (.store _ _ _); refine m_storeb 6 tabs rfl rfl rfl rfl rfl rfl rfl ?_)) | refine xNt ?_ | (show oC; refine c_ret ?_))
    exact x_ret1 Tryz.results168 (res_cellb 6 tabs rfl rfl rfl rfl) (fun wz cz => ⟨_, _, rfl, ⟨i, ch, _, hi, rfl, r, hB, a0, c0, a1, c1, a2, c2, a3, c3, rfl, s0, s1, s2, s3, rfl⟩, cz.sub (.cons_cons _ (.cons _ (.cons_cons _ (.cons_cons _ (.cons_cons _ (.cons_cons _ (List.nil_sublist _)))))))⟩)
  · skip
    refine AT.cls (C' := Hp _ _ [cu u b i ch, .blk b2 #[iV r.p, iV r.q.1, .slice a0 r.q.2.1.length c0, .slice a1 r.q.2.2.length c1, .slice a2 r.d.length c2, .slice a3 r.m.length c3] 60, .own (matsT 47 r.m) (.slice a3 r.m.length c3), .own (iT r.d) (.slice a2 r.d.length c2), .own (iT r.q.2.2) (.slice a1 r.q.2.2.length c1), .own (iT r.q.2.1) (.slice a0 r.q.2.1.length c0), .blk b0 #[iV 0, iV 0, .slice none 0 0, .slice none 0 0, .slice none 0 0, .slice none 0 0] 60]) (fun w' c' => c'.sub sL) ?_
    refine c_mixR (Hp M' w [.blk b2 #[iV r.p, iV r.q.1, .slice a0 r.q.2.1.length c0, .slice a1 r.q.2.2.length c1, .slice a2 r.d.length c2, .slice a3 r.m.length c3] 60]) 5 kr kr kr kr kr (fun _ c => Hp.drew c) ?_
    refine h_take 0 rfl kr kr kr (by exact y_field tabs rfl rfl rfl) rfl sS ?_
    refine h_take 1 rfl kr kr kr (by exact y_load tabs rfl rfl (hc_blk 0 rfl rfl)) rfl sS ?_
    refine h_take 2 rfl kr kr kr (by exact y_move rfl) rfl sS ?_
    refine h_only 3 rfl kr ?_
    first | (refine m_buildi tabs [-1, 5, 0] rfl rfl rfl rfl rfl rfl rfl (fun g hg => ?_)) | (refine m_callL 1 (ent_of Tryz.func119 kr rfl) rfl rfl rfl (fun w M' hl => l1PickInt_ok hl hc2 hi (hl.own 0 rfl) (by decide)) ?_; rintro v H' ⟨i, ch, _, hi, rfl, y, rfl, hy, rfl⟩)
    refine c_nil (x_one (h_keep sS ?_))
    refine h_only 4 rfl kr ?_
    first | (refine m_buildi tabs [-1, 5, 0] rfl rfl rfl rfl rfl rfl rfl (fun g hg => ?_)) | (refine m_callL 1 (ent_of Tryz.func119 kr rfl) rfl rfl rfl (fun w M' hl => l1PickInt_ok hl hc2 hi (hl.own 0 rfl) (by decide)) ?_; rintro v H' ⟨i, ch, _, hi, rfl, y, rfl, hy, rfl⟩)
    refine c_nil (x_one (h_keep sS ?_))
    refine h_end kr ?_
    repeat' (first | (show oL; first | refine sLb 2 tabs rfl rfl rfl rfl rfl ?_ | (show oA (.indexAddr _ _ _); refine st_y (y_ix1 tabs (j := 0) rfl rfl rfl s2 rfl om) rfl ?_) | (show oA (.store _ _ _); first | refine m_storeo 4 (j := 0) tabs rfl rfl rfl rfl om ?_ | refine m_storeb 7 tabs rfl rfl rfl rfl rfl rfl rfl ?_)) | (show oN; first | refine c_nil (x_then ?_) | refine c_nil ?_) | (show oC; first | refine c_seq ?_ | refine c_region ?_ | refine c_ret ?_) | (show AT _ _ _ _; first | refine x_then ?_ | refine x_blk ?_))
    exact x_ret1 Tryz.results168 (res_cellb 7 tabs rfl rfl rfl rfl) (fun wz cz => ⟨_, _, rfl, ⟨i, ch, _, hi, rfl, ⟨r.p, r.q, r.d.set 0 y, r.m⟩, ⟨hB.f, hB.t, by simp only [List.length_set]; exact hB.d, hB.m⟩, a0, c0, a1, c1, a2, c2, a3, c3, by simp only [List.length_set], s0, s1, by simp only [List.length_set]; exact s2, s3, rfl⟩, by
      simp only [List.length_set]
      exact cz.sub (.cons_cons _ (.cons _ (.cons _ (.cons_cons _ (.cons_cons _ (.cons_cons _ (.cons_cons _ (List.nil_sublist _))))))))⟩)
  · skip
    refine AT.cls (C' := Hp _ _ [cu u b i ch, .blk b2 #[iV r.p, iV r.q.1, .slice a0 r.q.2.1.length c0, .slice a1 r.q.2.2.length c1, .slice a2 r.d.length c2, .slice a3 r.m.length c3] 60, .own (matsT 47 r.m) (.slice a3 r.m.length c3), .own (iT r.d) (.slice a2 r.d.length c2), .own (iT r.q.2.2) (.slice a1 r.q.2.2.length c1), .own (iT r.q.2.1) (.slice a0 r.q.2.1.length c0), .blk b0 #[iV 0, iV 0, .slice none 0 0, .slice none 0 0, .slice none 0 0, .slice none 0 0] 60]) (fun w' c' => c'.sub sL) ?_
    repeat' (first | (show oL; first | (show oA (.store _ _ _); refine m_storeb 6 tabs rfl rfl rfl rfl rfl rfl rfl ?_)) | refine xNt ?_ | (show oC; refine c_ret ?_))
    exact x_ret1 Tryz.results168 (res_cellb 6 tabs rfl rfl rfl rfl) (fun wz cz => ⟨_, _, rfl, ⟨i, ch, _, hi, rfl, r, hB, a0, c0, a1, c1, a2, c2, a3, c3, rfl, s0, s1, s2, s3, rfl⟩, cz.sub (.cons_cons _ (.cons _ (.cons_cons _ (.cons_cons _ (.cons_cons _ (.cons_cons _ (List.nil_sublist _)))))))⟩)
  · skip
    refine AT.cls (C' := Hp _ _ [cu u b i ch, .blk b2 #[iV r.p, iV r.q.1, .slice a0 r.q.2.1.length c0, .slice a1 r.q.2.2.length c1, .slice a2 r.d.length c2, .slice a3 r.m.length c3] 60, .own (matsT 47 r.m) (.slice a3 r.m.length c3), .own (iT r.d) (.slice a2 r.d.length c2), .own (iT r.q.2.2) (.slice a1 r.q.2.2.length c1), .own (iT r.q.2.1) (.slice a0 r.q.2.1.length c0), .blk b0 #[iV 0, iV 0, .slice none 0 0, .slice none 0 0, .slice none 0 0, .slice none 0 0] 60]) (fun w' c' => c'.sub sL) ?_
    repeat' (first | (show oL; first | (show oA (.store _ _ _); refine m_storeb 6 tabs rfl rfl rfl rfl rfl rfl rfl ?_)) | refine xNt ?_ | (show oC; refine c_ret ?_))
    exact x_ret1 Tryz.results168 (res_cellb 6 tabs rfl rfl rfl rfl) (fun wz cz => ⟨_, _, rfl, ⟨i, ch, _, hi, rfl, r, hB, a0, c0, a1, c1, a2, c2, a3, c3, rfl, s0, s1, s2, s3, rfl⟩, cz.sub (.cons_cons _ (.cons _ (.cons_cons _ (.cons_cons _ (.cons_cons _ (.cons_cons _ (List.nil_sublist _)))))))⟩)
end Go.Proofs.YtijjkfbkihgfgaaGreat

namespace Go.Lg
open Go.RowKit
theorem y_maxn {P : Program} {n : Nat} {C : World → Prop} {s : List (Nat × Value)} {ty : Nat} {x y : Operand} {p q r : Int} {at' : Array Nat} (hx : ev s x = some (.int .i64 p)) (hy : ev s y = some (.int .i64 q)) (h : max p q = r) : Y P n C s (.call ⟨.builtin .max, #[x, y], at'⟩) ty (.int .i64 r) := by
  subst h; exact y_max hx hy
end Go.Lg
namespace Go.Proofs.YtijjkfbkihgfgaaGreat
open Go.Lg Go.Proofs Go.RowKit
attribute [local irreducible] Code.wp wpList bodyPost Exit.then Exit.inBlock Hp Again Calls Y AT ResV QT Qn QI wpAny wpAnyQ
set_option maxRecDepth 20000
set_option maxHeartbeats 4000000

theorem OfG.rep {p : Int} {q : Qv} {u0 u1 v : Value} {H : List HE} (h : OfG p q u0 u1 v H) (hQ : QuivP q) : ∃ r, RepQ q p r ∧ GivesR r v H := by
  rcases h with h | ⟨h, _⟩
  · exact h
  · exact absurd hQ h
def GivesPr (φ : Rp → Rp → Prop) (v : Value) (H : List HE) : Prop := ∃ a b va vb Ha Hb, v = .tuple #[va, vb] ∧ φ a b ∧ GivesR a va Ha ∧ GivesR b vb Hb ∧ H = Hb ++ Ha
structure PairR (a b : Rp) : Prop where
  a : ∃ q p, RepQ q p a
  b : BndR b
theorem l9Pair_ok {w1 : World} {M1 : List Nat} {H1 : List HE} {w : World} {M' : List Nat} {u : Value} {b i : Nat} {h : Int} (hl : Lent M1 w1 (cu u b i h) H1 M' w) (hc : CodeF w1 M1 u) (hi : i ≤ vlen u) :
    DoesB Tryz.prog 170 [cuV b] w M' (Gcu u b (GivesPr PairR)) := by
  have hc2 := lent_code hl hc
  have tok0 : True := trivial
  have tok1 : True := trivial
  have tok2 : True := trivial
  refine fnb_lent Tryz.func170 rfl Tryz.ntmps170 rfl hl ?_
  repeat' (first | (show oL; first | refine sMv rfl rfl ?_ | refine sAs rfl rfl ?_ | refine sLb 0 tabs rfl rfl rfl rfl rfl ?_ | (show oA (.call _); first | (refine m_callL 2 (ent_of Tryz.func187 kr rfl) rfl rfl rfl (fun w M' hl => l8Prime_ok hl hc2 hi) ?_; rintro v H' ⟨i, ch, _, hi, rfl, p, rfl, hp, rfl⟩) | (refine m_callL 0 (ent_of Tryz.func188 kr rfl) rfl rfl rfl (fun w M' hl => l6Acyclic_ok hl hc2 hi) ?_; rintro v H' ⟨i, ch, _, hi, rfl, q, a, c, a', c', rfl, hq, rfl⟩) | (refine m_callL 1 (ent_of Tryz.func189 kr rfl) rfl rfl rfl (fun w M' hl => l8Of_ok (q := q) p 2 (by decide) hl hc2 hi (hl.own 2 rfl) (hl.own 1 rfl)) ?_; rintro v H' ⟨i, ch, H0, hi, rfl, hO⟩; obtain ⟨r, hr, a0, c0, a1, c1, a2, c2, a3, c3, rfl, s0, s1, s2, s3, rfl⟩ := hO.rep hq) | (refine m_callL 1 (ent_of Tryz.func127 kr rfl) rfl rfl rfl (fun w M' hl => l1Once_ok 14 hl hc2 hi) ?_; rintro v H' ⟨i, ch, _, hi, rfl, (_ | _), rfl, rfl⟩)) | (show oA (.store _ _ _); refine m_storeb 0 tabs rfl rfl rfl rfl rfl rfl rfl ?_) | (show oA (.alloc _); first | (have _t := tok0; refine m_alloc tabs rfl rfl (fun b0 hb0 => ?_); clear _t tok0) | (have _t := tok1; refine m_alloc tabs rfl rfl (fun b1 hb1 => ?_); clear _t tok1) | (have _t := tok2; refine m_alloc tabs rfl rfl (fun bq hbq => ?_); clear _t tok2) | refine m_alloc tabs rfl rfl (fun br hbr => ?_))) | refine xNt ?_ | (show oC; first | refine c_seq ?_ | refine c_region ?_ | refine c_skip (x_then ?_) | refine c_true rfl ?_ | refine c_false rfl ?_))
  · skip
    refine AT.cls (C' := Hp _ _ [cu u b i ch, .blk br #[iV r.p, iV r.q.1, .slice a0 r.q.2.1.length c0, .slice a1 r.q.2.2.length c1, .slice a2 r.d.length c2, .slice a3 r.m.length c3] 60, .own (matsT 47 r.m) (.slice a3 r.m.length c3), .own (iT r.d) (.slice a2 r.d.length c2), .own (iT r.q.2.2) (.slice a1 r.q.2.2.length c1), .own (iT r.q.2.1) (.slice a0 r.q.2.1.length c0), .blk bq #[iV q.1, .slice a q.2.1.length c, .slice a' q.2.2.length c'] 57, .own (iT q.2.2) (.slice a' q.2.2.length c'), .own (iT q.2.1) (.slice a q.2.1.length c), .blk b1 #[iV 0, iV 0, .slice none 0 0, .slice none 0 0, .slice none 0 0, .slice none 0 0] 60, .blk b0 #[iV 0, iV 0, .slice none 0 0, .slice none 0 0, .slice none 0 0, .slice none 0 0] 60]) (fun w' c' => c'.sub sL) ?_
    refine c_mixR (Hp M' w [.blk br #[iV r.p, iV r.q.1, .slice a0 r.q.2.1.length c0, .slice a1 r.q.2.2.length c1, .slice a2 r.d.length c2, .slice a3 r.m.length c3] 60, .blk bq #[iV q.1, .slice a q.2.1.length c, .slice a' q.2.2.length c'] 57]) 5 kr kr kr kr kr (fun _ c => Hp.drew c) ?_
    refine h_take 0 rfl kr kr kr (by first | exact y_loadb 0 tabs rfl rfl rfl rfl | exact y_loadb 0 tabs rfl rfl rfl rfl) rfl sS ?_
    refine h_take 1 rfl kr kr kr (by exact y_move rfl) rfl sS ?_
    refine h_take 2 rfl kr kr kr (by exact y_move rfl) rfl sS ?_
    refine h_take 3 rfl kr kr kr (by first | exact y_loadb 1 tabs rfl rfl rfl rfl | exact y_loadb 1 tabs rfl rfl rfl rfl) rfl sS ?_
    refine h_only 4 rfl kr ?_
    (refine m_callL 0 (ent_of Tryz.func189 kr rfl) rfl rfl rfl (fun w M' hl => l8Of_ok (q := q) p 1 (by decide) hl hc2 hi (hl.own 7 rfl) (hl.own 6 rfl)) ?_; rintro v H' ⟨i, ch, H0, hi, rfl, hO⟩; obtain ⟨r', hr', a0', c0', a1', c1', a2', c2', a3', c3', rfl, s0', s1', s2', s3', rfl⟩ := hO.rep hq)
    refine c_nil (x_one (h_keep sS ?_))
    refine h_end kr ?_
    repeat' (first | (show oL; first | (show oA (.store _ _ _); first | refine m_storeb 14 tabs rfl rfl rfl rfl rfl rfl rfl ?_ | refine m_storeb 13 tabs rfl rfl rfl rfl rfl rfl rfl ?_)) | refine xNt ?_ | (show oC; refine c_ret ?_))
    exact x_ret2 Tryz.results170 (res_cellb 14 tabs rfl rfl rfl rfl) (res_cellb 13 tabs rfl rfl rfl rfl) (fun wz cz => ⟨_, _, rfl, ⟨i, ch, _, hi, rfl, r, r', _, _, [.own (matsT 47 r.m) (.slice a3 r.m.length c3), .own (iT r.d) (.slice a2 r.d.length c2), .own (iT r.q.2.2) (.slice a1 r.q.2.2.length c1), .own (iT r.q.2.1) (.slice a0 r.q.2.1.length c0)], [.own (matsT 47 r'.m) (.slice a3' r'.m.length c3'), .own (iT r'.d) (.slice a2' r'.d.length c2'), .own (iT r'.q.2.2) (.slice a1' r'.q.2.2.length c1'), .own (iT r'.q.2.1) (.slice a0' r'.q.2.1.length c0')], rfl, ⟨⟨q, p, hr⟩, hr'.bnd⟩, ⟨a0, c0, a1, c1, a2, c2, a3, c3, rfl, s0, s1, s2, s3, rfl⟩, ⟨a0', c0', a1', c1', a2', c2', a3', c3', rfl, s0', s1', s2', s3', rfl⟩, rfl⟩, cz.sub (.cons_cons _ (.cons_cons _ (.cons_cons _ (.cons_cons _ (.cons_cons _ (.cons _ (.cons_cons _ (.cons_cons _ (.cons_cons _ (.cons_cons _ (List.nil_sublist _)))))))))))⟩)
  · skip
    refine AT.cls (C' := Hp _ _ [cu u b i ch, .blk br #[iV r.p, iV r.q.1, .slice a0 r.q.2.1.length c0, .slice a1 r.q.2.2.length c1, .slice a2 r.d.length c2, .slice a3 r.m.length c3] 60, .own (matsT 47 r.m) (.slice a3 r.m.length c3), .own (iT r.d) (.slice a2 r.d.length c2), .own (iT r.q.2.2) (.slice a1 r.q.2.2.length c1), .own (iT r.q.2.1) (.slice a0 r.q.2.1.length c0), .blk bq #[iV q.1, .slice a q.2.1.length c, .slice a' q.2.2.length c'] 57, .own (iT q.2.2) (.slice a' q.2.2.length c'), .own (iT q.2.1) (.slice a q.2.1.length c), .blk b1 #[iV 0, iV 0, .slice none 0 0, .slice none 0 0, .slice none 0 0, .slice none 0 0] 60, .blk b0 #[iV 0, iV 0, .slice none 0 0, .slice none 0 0, .slice none 0 0, .slice none 0 0] 60]) (fun w' c' => c'.sub sL) ?_
    refine c_mixR (Hp M' w [.blk br #[iV r.p, iV r.q.1, .slice a0 r.q.2.1.length c0, .slice a1 r.q.2.2.length c1, .slice a2 r.d.length c2, .slice a3 r.m.length c3] 60, .blk bq #[iV q.1, .slice a q.2.1.length c, .slice a' q.2.2.length c'] 57]) 3 kr kr kr kr kr (fun _ c => Hp.drew c) ?_
    refine h_take 0 rfl kr kr kr (by first | exact y_loadb 0 tabs rfl rfl rfl rfl | exact y_loadb 0 tabs rfl rfl rfl rfl) rfl sS ?_
    refine h_take 1 rfl kr kr kr (by exact y_move rfl) rfl sS ?_
    refine h_only 2 rfl kr ?_
    (refine m_callL 0 (ent_of Tryz.func168 kr rfl) rfl rfl rfl (fun w M' hl => l8Any_ok hl hc2 hi) ?_; rintro v H' ⟨i, ch, H0, hi, rfl, r', hr', a0', c0', a1', c1', a2', c2', a3', c3', rfl, s0', s1', s2', s3', rfl⟩)
    refine c_nil (x_one (h_keep sS ?_))
    refine h_end kr ?_
    repeat' (first | (show oL; first | (show oA (.store _ _ _); first | refine m_storeb 14 tabs rfl rfl rfl rfl rfl rfl rfl ?_ | refine m_storeb 13 tabs rfl rfl rfl rfl rfl rfl rfl ?_)) | refine xNt ?_ | (show oC; refine c_ret ?_) | (show AT _ _ _ _; refine x_then_ret ?_))
    exact x_ret2 Tryz.results170 (res_cellb 14 tabs rfl rfl rfl rfl) (res_cellb 13 tabs rfl rfl rfl rfl) (fun wz cz => ⟨_, _, rfl, ⟨i, ch, _, hi, rfl, r, r', _, _, [.own (matsT 47 r.m) (.slice a3 r.m.length c3), .own (iT r.d) (.slice a2 r.d.length c2), .own (iT r.q.2.2) (.slice a1 r.q.2.2.length c1), .own (iT r.q.2.1) (.slice a0 r.q.2.1.length c0)], [.own (matsT 47 r'.m) (.slice a3' r'.m.length c3'), .own (iT r'.d) (.slice a2' r'.d.length c2'), .own (iT r'.q.2.2) (.slice a1' r'.q.2.2.length c1'), .own (iT r'.q.2.1) (.slice a0' r'.q.2.1.length c0')], rfl, ⟨⟨q, p, hr⟩, hr'⟩, ⟨a0, c0, a1, c1, a2, c2, a3, c3, rfl, s0, s1, s2, s3, rfl⟩, ⟨a0', c0', a1', c1', a2', c2', a3', c3', rfl, s0', s1', s2', s3', rfl⟩, rfl⟩, cz.sub (.cons_cons _ (.cons_cons _ (.cons_cons _ (.cons_cons _ (.cons_cons _ (.cons _ (.cons_cons _ (.cons_cons _ (.cons_cons _ (.cons_cons _ (List.nil_sublist _)))))))))))⟩)
def SmC (ms : List Mat) : Prop := ∀ m ∈ ms, m.2.2.length ≤ 1000
theorem smC_snoc {ms : List Mat} {R C : Int} {xs : List Int} (h : SmC ms) (hx : xs.length ≤ 1000) : SmC (ms ++ [(R, C, xs)]) := fun m hm => by
  rcases List.mem_append.1 hm with h1 | h1
  · exact h m h1
  · simp at h1; subst h1; exact hx
theorem smC_set {ms : List Mat} {i : Nat} {x : Mat} (h : SmC ms) (hx : x.2.2.length ≤ 1000) : SmC (ms.set i x) := fun m hm => by
  rcases List.mem_or_eq_of_mem_set hm with h1 | h1
  · exact h m h1
  · subst h1; exact hx
def GivesML (n : Nat) (v : Value) (H : List HE) : Prop := ∃ (ms : List Mat) (a : Option Addr) (c : Nat), v = .slice a ms.length c ∧ ms.length = n ∧ SA a ms.length ∧ SmC ms ∧ H = [.own (matsT 47 ms) (.slice a ms.length c)]
theorem ml_next {ms : List Mat} {n : Nat} {xs : List Int} : ms.flatMap matT ++ (List.map T.c [iV n, iV n] ++ [iT xs]) = (ms ++ [((n : Int), (n : Int), xs)]).flatMap matT := by
  rw [List.flatMap_append]; rfl
theorem l9Changes_ok {w1 : World} {M1 : List Nat} {H1 : List HE} {w : World} {M' : List Nat} {u : Value} {b i : Nat} {h : Int} {r : Rp} {u0 u1 u2 u3 : Value} (hl : Lent M1 w1 (cu u b i h) H1 M' w) (hc : CodeF w1 M1 u) (hi : i ≤ vlen u) (hd : r.d.length ≤ 7) (h2 : RdOut w M' (iT r.d) u2) :
    DoesB Tryz.prog 149 [cuV b, .agg #[iV r.p, iV r.q.1, u0, u1, u2, u3]] w M' (Gcu u b (GivesML r.d.length)) := by
  have hc2 := lent_code hl hc
  obtain ⟨a2, c2, rfl, hs2, hg2⟩ := h2.intsO
  refine fnb_lent Tryz.func149 rfl Tryz.ntmps149 rfl hl ?_
  repeat' (first | (show oL; first | refine sAs rfl rfl ?_ | (show oA (.box _ _); refine m_box rfl rfl (fun b3 hb3 => ?_)) | (show oA (.buildSlice _ _ _); refine m_build0 tabs rfl rfl (fun g hg => ?_))) | refine xNt ?_ | (show oC; first | refine c_seq ?_ | refine c_region ?_ | refine c_block ?_))
  refine c_loopH (α := (List Mat × Option Addr × Nat) × Nat × Int) [0, 3] (fun s => [(5, .slice s.1.2.1 s.1.1.length s.1.2.2), (6, iV s.1.1.length)]) (fun s => (s.1.1.length ≤ r.d.length ∧ SmC s.1.1) ∧ s.2.1 ≤ vlen u) (fun s => [.own (matsT 47 s.1.1) (.slice s.1.2.1 s.1.1.length s.1.2.2), cu u b s.2.1 s.2.2, .blk b3 #[iV r.p, iV r.q.1, u0, u1, .slice a2 r.d.length c2, u3] 60]) (fun s => r.d.length - s.1.1.length) (([], some ⟨g, 0, none⟩, 0), i, h) rfl sB ?_ ?_ ?_
  · exact ⟨⟨Nat.zero_le _, by intro m hm; simp at hm⟩, hi⟩
  · exact fun w' c' => (c'.front (i := 2) rfl).swap
  · rintro ⟨⟨ms, a, c⟩, i, ch⟩ ⟨⟨hml, hmc⟩, hi⟩
    simp only at hml hmc hi ⊢
    by_cases hin : ms.length < r.d.length
    · obtain ⟨N, hN⟩ : ∃ N : Nat, max 0 (min 4 (r.d.getD ms.length 0)) = N := ⟨(max 0 (min 4 (r.d.getD ms.length 0))).toNat, by omega⟩
      have hgi := hg2 ms.length hin
      repeat' (first | (show oL; first | refine sMv rfl rfl ?_ | refine sAs rfl rfl ?_ | refine sFd tabs rfl rfl rfl rfl ?_ | (show oA (.load _ _); first | refine sLd 2 tabs rfl rfl rfl rfl rfl ?_ | refine st_y (y_load tabs rfl rfl (fun w' c' => hgi w' c'.agree)) rfl ?_ | refine sLd 4 tabs rfl rfl rfl rfl rfl ?_ | refine sLb 0 tabs rfl rfl rfl rfl rfl ?_ | refine sLb 1 tabs rfl rfl rfl rfl rfl ?_) | (show oA (.indexAddr _ _ _); refine st_y (y_ix1 tabs (j := ms.length) rfl rfl rfl hs2 rfl hin) rfl ?_) | refine sLs rfl rfl rfl ?_ | (show oA (.unOp _ _ _); refine st_y (y_notd rfl) rfl ?_) | (show oA (.call _); first | refine st_y (y_min rfl rfl) rfl ?_ | refine st_y (y_maxn rfl rfl hN) rfl ?_ | (refine m_callL 1 (ent_of Tryz.func239 kr rfl) rfl rfl rfl (fun w M' hl => l3Random_ok r.p (R := N) (C := N) hl hc2 hi om om) ?_; rintro v H' ⟨i, ch, _, hi, rfl, xs, ax, cx, rfl, hx, rfl⟩) | (refine m_call (ent_of Tryz.func244 kr rfl) rfl rfl (fun w c => spec_IsInvertible_ok (m := ((N : Int), (N : Int), xs)) (c.own_rd (i := 2) rfl)) ?_; rintro v H' ⟨rfl, rfl⟩) | (refine m_call (ent_of Tryz.func169 kr rfl) rfl rfl (fun w c => l3Identity_ok (n := N) om) ?_; rintro v H' ⟨az, cz, rfl, hsz, rfl⟩) | refine sLn tabs rfl rfl rfl ?_) | (show oA (.store _ _ _); first | refine m_storeb 0 tabs rfl rfl rfl rfl rfl rfl rfl ?_ | refine m_storeb 1 tabs rfl rfl rfl rfl rfl rfl rfl ?_) | (show oA (.alloc _); refine m_alloc tabs rfl rfl (fun b8 hb8 => ?_))) | refine xNt ?_ | (show oC; first | refine c_seq ?_ | refine c_region ?_ | refine c_skip (x_then ?_) | refine c_block ?_ | refine c_ift rfl aO ?_ | refine c_ifnd rfl (fun h => ?_) (fun h => ?_)))
      · skip
        repeat' (first | (show oL; first | refine sMv rfl rfl ?_ | refine sAs rfl rfl ?_ | refine sAd rfl rfl om rfl ?_ | (show oA (.call _); refine m_push1 [iV N, iV N] 3 0 tabs (m' := ms.length) rfl rfl rfl rfl rfl rfl rfl (by rw [flatMap_length matT_length]) (by rw [flatMap_length matT_length]; omega) (by decide) rfl rfl (fun a9 c9 => ?_)) | (show oA (.buildSlice _ _ _); refine m_build1 tabs (us := [iV N, iV N, .slice az (N * N) cz]) rfl rfl rfl rfl (by decide) rfl (fun g2 hg2 => ?_))) | (show oN; first | refine c_nil (x_then ?_) | refine c_nil ?_) | (show oC; refine c_region ?_) | (show AT _ _ _ _; first | refine x_then ?_ | refine x_blk ?_))
        refine x_nx ((ms ++ [((N : Int), (N : Int), mk N N idF)], a9, c9), i, ch) (by simp only [List.length_append, List.length_singleton]; repeat' (first | exact Sub.nil | refine Sub.cons rfl ?_ | refine Sub.consi rfl om ?_)) ⟨⟨by simp only [List.length_append, List.length_singleton]; omega, smC_snoc hmc (by rw [mk_length]; have := Nat.mul_le_mul (show N ≤ 4 by omega) (show N ≤ 4 by omega); omega)⟩, hi⟩ (fun w' c' => ?_) (by simp only [List.length_append, List.length_singleton]; omega)
        rw [ml_next] at c'
        simp only [List.length_append, List.length_singleton]
        exact (c'.front (i := 2) rfl).swap.sub sL
      · skip
        repeat' (first | (show oL; first | refine sMv rfl rfl ?_ | refine sAs rfl rfl ?_ | refine sAd rfl rfl om rfl ?_ | (show oA (.call _); refine m_push1 [iV N, iV N] 2 2 tabs (m' := ms.length) rfl rfl rfl rfl rfl rfl rfl (by rw [flatMap_length matT_length]) (by rw [flatMap_length matT_length]; omega) (by decide) rfl rfl (fun a9 c9 => ?_)) | (show oA (.buildSlice _ _ _); refine m_build1 tabs (us := [iV N, iV N, .slice ax xs.length cx]) rfl rfl rfl rfl (by decide) rfl (fun g2 hg2 => ?_))) | (show oN; first | refine c_nil (x_then ?_) | refine c_nil ?_) | (show oC; refine c_region ?_) | (show AT _ _ _ _; first | refine x_then ?_ | refine x_blk ?_))
        refine x_nx ((ms ++ [((N : Int), (N : Int), xs)], a9, c9), i, ch) (by simp only [List.length_append, List.length_singleton]; repeat' (first | exact Sub.nil | refine Sub.cons rfl ?_ | refine Sub.consi rfl om ?_)) ⟨⟨by simp only [List.length_append, List.length_singleton]; omega, smC_snoc hmc (by rw [hx]; have := Nat.mul_le_mul (show N ≤ 4 by omega) (show N ≤ 4 by omega); omega)⟩, hi⟩ (fun w' c' => ?_) (by simp only [List.length_append, List.length_singleton]; omega)
        rw [ml_next] at c'
        simp only [List.length_append, List.length_singleton]
        exact (c'.front (i := 2) rfl).swap.sub sL
    · have hfull : ms.length = r.d.length := by omega
      refine AT.fact (mats_sl 0 rfl) (fun hsm => ?_)
      repeat' (first | (show oL; first | refine sMv rfl rfl ?_ | refine sAs rfl rfl ?_ | refine sFd tabs rfl rfl rfl rfl ?_ | refine sLd 2 tabs rfl rfl rfl rfl rfl ?_ | (show oA (.binOp _ _ _ _ _); first | refine sLs rfl rfl rfl ?_ | refine st_y (y_gtr rfl rfl) rfl ?_) | (show oA (.call _); first | (refine m_callL 1 (ent_of Tryz.func127 kr rfl) rfl rfl rfl (fun w M' hl => l1Once_ok 12 hl hc2 hi) ?_; rintro v H' ⟨i, ch, _, hi, rfl, (_ | _), rfl, rfl⟩) | refine sLn tabs rfl rfl rfl ?_) | (show oA (.pick _ _ _); first | refine st_y (y_pickt rfl aO rfl) rfl ?_ | refine st_y (y_pickf rfl aO rfl) rfl ?_) | refine st_gdy rfl rfl aO ?_ | refine st_gdn rfl rfl aO rfl ?_ | refine st_gd rfl rfl (fun h => ?_) (fun h => ?_)) | refine xNt ?_ | (show oC; first | refine c_seq ?_ | refine c_region ?_ | refine c_skip (x_then ?_) | refine c_ret ?_ | refine c_exit ?_ | refine c_true rfl ?_ | refine c_false rfl ?_ | refine c_iff rfl nN ?_) | (show AT _ _ _ _; first | refine x_then ?_ | refine x_then_exit ?_ | refine x_blk_exit rfl ?_))
      · exact x_ret1 Tryz.results149 (res_tmp rfl) (fun wz cz => ⟨_, _, rfl, ⟨i, ch, _, hi, rfl, ms, a, c, rfl, hfull, hsm, hmc, rfl⟩, cz.sub (.cons_cons _ (.cons_cons _ (List.nil_sublist _)))⟩)
      · skip
        repeat' (first | (show oL; first | refine sMv rfl rfl ?_ | refine sAs rfl rfl ?_ | (show oA (.indexAddr _ _ _); refine st_y (y_ixa tabs rfl rfl rfl hsm om om) rfl ?_) | (show oA (.call _); (refine m_callL 0 (ent_of Tryz.func131 kr rfl) rfl rfl rfl (fun w M' hl => l3Any_ok r.p hl hc2 hi) ?_; rintro v H' ⟨i, ch, _, hi, rfl, m, a5, c5, rfl, hm, rfl⟩)) | (show oA (.store _ _ _); refine m_storeT tabs (m := ms.length) (tn := matT m) (j := 0) rfl rfl rfl rfl rfl rfl (by decide) (by rw [flatMap_length matT_length]) om (fun w c => ((c.front (i := 1) rfl).mat (u0 := iV m.1) (u1 := iV m.2.1)).front (i := 2) rfl) ?_)) | refine xNt ?_ | (show oC; first | refine c_seq ?_ | refine c_region ?_ | refine c_ret ?_))
        exact x_ret1 Tryz.results149 (res_tmp rfl) (fun wz cz => ⟨_, _, rfl, ⟨i, ch, _, hi, rfl, ms.set 0 m, a, c, by rw [List.length_set], by rw [List.length_set]; exact hfull, by rw [List.length_set]; exact hsm, smC_set hmc om, by rw [List.length_set]⟩, by
          rw [flatMap_set matT_length _ _ _ om] at cz
          exact cz.swap.sub (.cons_cons _ (.cons_cons _ (List.nil_sublist _)))⟩)
      · exact x_ret1 Tryz.results149 (res_tmp rfl) (fun wz cz => ⟨_, _, rfl, ⟨i, ch, _, hi, rfl, ms, a, c, rfl, hfull, hsm, hmc, rfl⟩, cz.swap.sub (.cons_cons _ (.cons_cons _ (List.nil_sublist _)))⟩)
end Go.Proofs.YtijjkfbkihgfgaaGreat
