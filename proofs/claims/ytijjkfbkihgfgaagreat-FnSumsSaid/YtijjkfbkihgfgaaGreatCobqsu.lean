import Derived.Test.YtijjkfbkihgfgaaGreatAloqsu
import Derived.Test.YtijjkfbkihgfgaaGreatCopqsu
import Derived.Test.YtijjkfbkihgfgaaGreatFitqsu
namespace Go.Proofs.YtijjkfbkihgfgaaGreat
open Go.Lg Go.Proofs Go.RowKit
attribute [local irreducible] Code.wp wpList bodyPost Exit.then Exit.inBlock Hp Again Calls Y AT ResV QT Qn QI wpAny wpAnyQ
set_option maxRecDepth 20000
set_option maxHeartbeats 4000000

def plusF (p k : Int) (f g : Nat → Nat → Int) : Nat → Nat → Int := fun i j => (f i j + k * g i j) % p
theorem addTo_all {p k : Int} {C : Nat} {f : Nat → Int} {ys : List Int} : addTo p k (mkv C f) 0 ys C = mkv C (fun b => (f b + k * ys.getD b 0) % p) := by
  have key : ∀ n, n ≤ C → addTo p k (mkv C f) 0 ys n = mkv C (fun b => if b < n then (f b + k * ys.getD b 0) % p else f b) := fun n => by
    induction n with
    | zero => intro _; simp [addTo]
    | succ n ih =>
      intro hn
      rw [addTo, ih om, Nat.zero_add, mkv_get om, mkv_set]
      exact mkv_ext (fun b hb => by
        by_cases h : b = n
        · subst h; simp
        · rw [if_neg h]
          by_cases h2 : b < n
          · rw [if_pos h2, if_pos om]
          · rw [if_neg h2, if_neg om])
  rw [key C (Nat.le_refl _)]
  exact mkv_ext (fun b hb => by rw [if_pos hb])
theorem addTo_plus {p k : Int} {R C : Nat} {f g : Nat → Nat → Int} : addTo p k (mk R C f) 0 (mk R C g) (R * C) = mk R C (plusF p k f g) := by
  have h := addTo_all (p := p) (k := k) (C := R * C) (f := fun q => f (q / C) (q % C)) (ys := mk R C g)
  have e : mkv (R * C) (fun b => (f (b / C) (b % C) + k * (mk R C g).getD b 0) % p) = mk R C (plusF p k f g) := mkv_ext (g := fun q => plusF p k f g (q / C) (q % C)) (fun b hb => by
    have : (mk R C g).getD b 0 = g (b / C) (b % C) := mkv_get (g := fun q => g (q / C) (q % C)) hb
    rw [this]; rfl)
  rw [← e]
  exact h
theorem plus_ok {w : World} {p k : Int} {R C : Nat} {f g : Nat → Nat → Int} {u u' : Value} (hr : Rd w (iT (mk R C f)) u) (hr' : Rd w (iT (mk R C g)) u') (hF : FieldP p) (hk : 0 ≤ k ∧ k ≤ 5) (hR : R ≤ 64) (hC : C ≤ 64) (hf : inF p R C f) (hg : inF p R C g) :
    Does Tryz.prog 246 [iV p, .agg #[iV R, iV C, u], iV k, .agg #[iV R, iV C, u']] w (GivesK R C (plusF p k f g)) := by
  have hp := fieldP_pos hF
  obtain ⟨av, cv, rfl, hsv, hcv⟩ := rd_mk hr'
  have hRC := rc_le (R := R) (C := C) om om
  have hcell : ∀ (h : Nat → Nat → Int), inF p R C h → ∀ j, j < R * C → 0 ≤ (mk R C h).getD j 0 ∧ (mk R C h).getD j 0 ≤ 5 := fun h hh j hj => by
    have e : (mk R C h).getD j 0 = h (j / C) (j % C) := mkv_get (g := fun q => h (q / C) (q % C)) hj
    have hC0 : 0 < C := by
      rcases Nat.eq_zero_or_pos C with h0 | h0
      · subst h0; simp at hj
      · exact h0
    have h1 : j / C < R := Nat.div_lt_of_lt_mul (by rw [Nat.mul_comm]; exact hj)
    have := hh (j / C) (j % C) h1 (Nat.mod_lt _ hC0)
    rw [e]; omega
  refine fn_enter Tryz.func246 rfl Tryz.ntmps246 rfl ?_
  repeat' (first | (show oL; first | refine sMv rfl rfl ?_ | refine sFd tabs rfl rfl rfl rfl ?_ | (show oA (.load _ _); first | refine sLb 2 tabs rfl rfl rfl rfl rfl ?_ | refine sLd 3 tabs rfl rfl rfl rfl rfl ?_ | refine sLd 0 tabs rfl rfl rfl rfl rfl ?_ | refine sLb 1 tabs rfl rfl rfl rfl rfl ?_) | (show oA (.call _); first | (refine m_call (ent_of Tryz.func196 kr rfl) rfl rfl (fun w c => clone_ok (m := (↑R, ↑C, mk R C f)) (c.rd hr) (by rw [mk_length]; exact hRC)) ?_; rintro v H' ⟨ac, cc, rfl, hsc, rfl⟩) | (refine m_callL 1 (ent_of Tryz.func221 kr rfl) rfl rfl rfl (fun w M' hl => (by rw [mk_length]; exact addMultiple_ok (o := 0) (n := R * C) (xs := mk R C f) (ys := mk R C g) hF hk hl (fun h => by have := hsc.get (by simpa using h); exact this) (by rw [mk_length]; omega) om (fun j hj => by rw [Nat.zero_add]; exact hcell f hf j hj) (fun j hj => hcell g hg j hj) hsv (fun w' xs' c' hxl hxo j hj => by have h := (RdOut.rd (hl.old hr') c').ints; obtain ⟨_, _, e, _, _, _, hh⟩ := h; rw [mk_length] at e hh; cases e; exact hh j hj))) ?_; rintro v H' ⟨rfl, rfl⟩)) | (show oA (.store _ _ _); first | refine m_storeb 0 tabs rfl rfl rfl rfl rfl rfl rfl ?_ | refine m_storeb 2 tabs rfl rfl rfl rfl rfl rfl rfl ?_) | (show oA (.box _ _); refine m_box rfl rfl (fun b7 hb7 => ?_)) | (show oA (.alloc _); refine m_alloc tabs rfl rfl (fun b9 hb9 => ?_))) | refine xNt ?_ | (show oC; first | refine c_seq ?_ | refine c_region ?_ | refine c_ret ?_))
  rw [mk_length] at hsc
  rw [addTo_plus, mk_length]
  exact x_ret1 Tryz.results246 (res_cellb 2 tabs rfl rfl rfl rfl) (fun w' c' => ⟨_, _, rfl, ⟨ac, cc, rfl, hsc, rfl⟩, c'.sub (.cons_cons _ (List.nil_sublist _))⟩)
theorem isZero1_ok {w : World} {x : Int} : Does Tryz.prog 248 [iV x] w (fun r H => r = .bool (decide (x ≠ 0)) ∧ H = []) := by
  refine fn_enter Tryz.func248 rfl Tryz.ntmps248 rfl ?_
  repeat' (first | (show oL; first | refine sMv rfl rfl ?_ | refine sAs rfl rfl ?_ | (show oA (.binOp _ _ _ _ _); refine st_y (y_neq rfl rfl) rfl ?_)) | refine xNt ?_ | (show oC; first | refine c_seq ?_ | refine c_region ?_ | refine c_ret ?_))
  exact x_ret1 Tryz.results248 (res_tmp rfl) (fun w c => ⟨_, _, rfl, ⟨rfl, rfl⟩, c⟩)
theorem isZero_ok {w : World} {m : Mat} {u : Value} (hr : Rd w (iT m.2.2) u) : Does Tryz.prog 156 [.agg #[iV m.1, iV m.2.1, u]] w (fun r H => r = .bool (decide (∀ x ∈ m.2.2, x = 0)) ∧ H = []) := by
  refine fn_enter Tryz.func156 rfl Tryz.ntmps156 rfl ?_
  repeat' (first | (show oL; first | refine sAs rfl rfl ?_ | refine sFd tabs rfl rfl rfl rfl ?_ | refine sLd 0 tabs rfl rfl rfl rfl rfl ?_ | (show oA (.unOp _ _ _); refine st_y (y_notd rfl) rfl ?_) | (show oA (.call _); (refine m_call (ent_of Tryz.func247 kr rfl) rfl rfl (fun w c => ContainsFunc_ok (p := fun x => x ≠ 0) (c.rd hr) (ent_of Tryz.func248 kr rfl) (fun w' x c' => isZero1_ok)) ?_; rintro v H' ⟨rfl, rfl⟩)) | (show oA (.box _ _); refine m_box rfl rfl (fun b hb => ?_))) | refine xNt ?_ | (show oC; first | refine c_seq ?_ | refine c_region ?_ | refine c_ret ?_))
  refine x_ret1 Tryz.results156 (res_tmp rfl) (fun w' c' => ⟨_, _, rfl, ⟨congrArg Value.bool ?_, rfl⟩, c'.sub (List.nil_sublist _)⟩)
  refine decide_eq_decide.2 ?_
  simp
theorem IsMorphism1_ok {w : World} {m : Mat} {u : Value} (hr : Rd w (iT m.2.2) u) : Does Tryz.prog 155 [.agg #[iV m.1, iV m.2.1, u]] w (fun r H => r = .bool (decide (¬ ∀ x ∈ m.2.2, x = 0)) ∧ H = []) := by
  refine fn_enter Tryz.func155 rfl Tryz.ntmps155 rfl ?_
  repeat' (first | (show oL; first | refine sAs rfl rfl ?_ | refine sLb 0 tabs rfl rfl rfl rfl rfl ?_ | (show oA (.unOp _ _ _); refine st_y (y_notd rfl) rfl ?_) | (show oA (.call _); (refine m_call (ent_of Tryz.func156 kr rfl) rfl rfl (fun w c => isZero_ok (m := m) (c.rd hr)) ?_; rintro v H' ⟨rfl, rfl⟩)) | (show oA (.box _ _); refine m_box rfl rfl (fun b hb => ?_))) | refine xNt ?_ | (show oC; first | refine c_seq ?_ | refine c_region ?_ | refine c_ret ?_))
  refine x_ret1 Tryz.results155 (res_tmp rfl) (fun w' c' => ⟨_, _, rfl, ⟨?_, rfl⟩, c'.sub (List.nil_sublist _)⟩)
  first | rfl | rw [decide_not]
theorem IndexFuncM_ok {w : World} {v : Value} {e : Nat} {ms : List Mat} {g : Nat} {p : Mat → Prop} [DecidablePred p] (hr : Rd w (matsT e ms) v) (he : Ent Tryz.prog g)
    (hf : ∀ w' m u, Rd w' (iT m.2.2) u → Does Tryz.prog g [.agg #[iV m.1, iV m.2.1, u]] w' (fun r H => r = .bool (decide (p m)) ∧ H = [])) :
    Does Tryz.prog 245 [v, .func (.func g) #[] #[]] w (fun r H => (∃ k, r = iV k ∧ (0 ≤ k ↔ ∃ x ∈ ms, p x)) ∧ H = []) := by
  obtain ⟨a, c, rfl, hs, hc1, hc2, hget⟩ := rd_mats hr
  unfold maxLen at hc2
  refine fn_enter Tryz.func245 rfl Tryz.ntmps245 rfl ?_
  repeat' (first | (show oL; first | refine sMv rfl rfl ?_ | refine sAs rfl rfl ?_ | refine sLn tabs rfl rfl rfl ?_) | refine xNt ?_ | (show oC; first | refine c_seq ?_ | refine c_region ?_ | refine c_block ?_))
  refine c_loopH (α := Nat) [0, 1, 7] (fun i => [(8, .int .i64 i)]) (fun i => i ≤ ms.length ∧ ∀ x ∈ ms.take i, ¬ p x) (fun i => []) (fun i => ms.length - i) 0 rfl sB ?_ ?_ ?_
  · exact ⟨Nat.zero_le _, by simp⟩
  · exact fun w' c' => c'
  · rintro i ⟨hi, hn⟩
    by_cases hin : i < ms.length
    · obtain ⟨m, hx⟩ : ∃ m, ms[i]? = some m := ⟨_, List.getElem?_eq_getElem hin⟩
      obtain ⟨a2, c2, g1, g2, g3, g4⟩ := hget i m hx
      have hmem := List.mem_of_getElem? hx
      repeat' (first | (show oL; first | refine sMv rfl rfl ?_ | refine sAs rfl rfl ?_ | (show oA (.load _ _); refine st_y (y_load3 tabs rfl rfl (hc_w0 g1) (hc_w0 g2) (hc_w0 g3)) rfl ?_) | (show oA (.indexAddr _ _ _); refine st_y (y_ixa tabs rfl rfl rfl hs om om) rfl ?_) | (show oA (.binOp _ _ _ _ _); first | refine sAd rfl rfl om rfl ?_ | refine sLs rfl rfl rfl ?_) | (show oA (.call _); (refine m_callv rfl he rfl rfl (fun w c => hf w m _ (c.rd g4)) ?_; rintro v H' ⟨rfl, rfl⟩))) | refine xNt ?_ | (show oC; first | refine c_seq ?_ | refine c_region ?_ | refine c_skip (x_then ?_) | refine c_skip (x_blk ?_) | refine c_block ?_ | refine c_ret ?_ | refine c_ift rfl aO ?_ | refine c_if rfl (fun h => ?_) (fun h => ?_)) | (show AT _ _ _ _; first | refine x_then ?_ | refine x_then_ret ?_ | refine x_blk_ret ?_))
      · exact x_ret1 Tryz.results245 (res_tmp rfl) (fun w' c' => ⟨_, _, rfl, ⟨⟨i, rfl, fun _ => ⟨m, hmem, by assumption⟩, fun _ => by omega⟩, rfl⟩, c'⟩)
      · refine x_nx (i + 1) sB ⟨by omega, fun x hxm => ?_⟩ (fun w' c' => c') om
        rw [List.take_add_one, hx] at hxm
        rcases List.mem_append.1 hxm with hxm | hxm
        · exact hn x hxm
        · simp at hxm
          subst hxm
          assumption
    · repeat' (first | (show oL; first | refine sAs rfl rfl ?_ | refine sLs rfl rfl rfl ?_) | refine xNt ?_ | (show oC; first | refine c_seq ?_ | refine c_region ?_ | refine c_ret ?_ | refine c_exit ?_ | refine c_iff rfl nN ?_) | (show AT _ _ _ _; first | refine x_then ?_ | refine x_then_exit ?_ | refine x_blk_exit rfl ?_))
      refine x_ret1 Tryz.results245 (res_tmp rfl) (fun w' c' => ⟨_, _, rfl, ⟨⟨-1, rfl, fun h => by omega, ?_⟩, rfl⟩, c'⟩)
      rw [take_end om] at hn
      rintro ⟨x, hx, hp⟩
      exact absurd hp (hn x hx)
theorem ContainsFuncM_ok {w : World} {v : Value} {e : Nat} {ms : List Mat} {g : Nat} {p : Mat → Prop} [DecidablePred p] (hr : Rd w (matsT e ms) v) (he : Ent Tryz.prog g)
    (hf : ∀ w' m u, Rd w' (iT m.2.2) u → Does Tryz.prog g [.agg #[iV m.1, iV m.2.1, u]] w' (fun r H => r = .bool (decide (p m)) ∧ H = [])) :
    Does Tryz.prog 153 [v, .func (.func g) #[] #[]] w (fun r H => r = .bool (decide (∃ x ∈ ms, p x)) ∧ H = []) := by
  refine fn_enter Tryz.func153 rfl Tryz.ntmps153 rfl ?_
  repeat' (first | (show oL; first | refine sMv rfl rfl ?_ | refine sAs rfl rfl ?_ | (show oA (.binOp _ _ _ _ _); refine st_y (y_geq rfl rfl) rfl ?_) | (show oA (.call _); (refine m_call (ent_of Tryz.func245 kr rfl) rfl rfl (fun w c => IndexFuncM_ok (c.rd hr) he hf) ?_; rintro v H' ⟨⟨k, rfl, hk⟩, rfl⟩))) | refine xNt ?_ | (show oC; first | refine c_seq ?_ | refine c_region ?_ | refine c_ret ?_))
  refine x_ret1 Tryz.results153 (res_tmp rfl) (fun w' c' => ⟨_, _, rfl, ⟨?_, rfl⟩, c'⟩)
  simp [hk]

def CellsP (p : Int) (m : Mat) (R C : Nat) : Prop := m.1 = R ∧ m.2.1 = C ∧ m.2.2 = mk R C (matF m) ∧ inF p R C (matF m)
theorem cellsP_of {p : Int} {m : Mat} {R C : Nat} (h : MatP p m) (h1 : m.1 = R) (h2 : m.2.1 = C) : CellsP p m R C := by
  obtain ⟨R', C', e1, e2, _, _, e3, e4⟩ := matP_cells h
  have r1 : R' = R := by omega
  have r2 : C' = C := by omega
  subst r1; subst r2
  exact ⟨e1, e2, e3, e4⟩
def dN (d : List Int) (v : Int) : Nat := (d.getD v.toNat 0).toNat
def firF (a b : Rp) (ms : List Mat) (i : Nat) : Nat → Nat → Int := mulF a.p (dN b.d (a.q.2.1.getD i 0)) (matF (b.m.getD i mat0)) (matF (ms.getD (a.q.2.1.getD i 0).toNat mat0))
def secF (a : Rp) (ms : List Mat) (i : Nat) : Nat → Nat → Int := mulF a.p (dN a.d (a.q.2.2.getD i 0)) (matF (ms.getD (a.q.2.2.getD i 0).toNat mat0)) (matF (a.m.getD i mat0))
def MorP (a b : Rp) (ms : List Mat) : Prop := AreP a b ms ∧ ∀ i, i < a.q.2.1.length → mk (dN b.d (a.q.2.2.getD i 0)) (dN a.d (a.q.2.1.getD i 0)) (firF a b ms i) = mk (dN b.d (a.q.2.2.getD i 0)) (dN a.d (a.q.2.1.getD i 0)) (secF a ms i)
instance (a b : Rp) (ms : List Mat) : Decidable (MorP a b ms) := by unfold MorP; infer_instance
theorem mor_at {a b : Rp} {ms : List Mat} {i : Nat} (h : AreP a b ms) (hi : i < a.q.2.1.length) : ∃ (s t x y z v : Nat) (A B P Q : Mat), a.q.2.1.getD i 0 = s ∧ a.q.2.2.getD i 0 = t ∧ s < ms.length ∧ t < ms.length ∧ i < a.m.length ∧ i < b.m.length ∧ i < a.q.2.2.length ∧
    a.m[i]? = some A ∧ b.m[i]? = some B ∧ ms[s]? = some P ∧ ms[t]? = some Q ∧ (x ≤ 4 ∧ y ≤ 4 ∧ z ≤ 4 ∧ v ≤ 4) ∧ CellsP a.p B x y ∧ CellsP a.p P y z ∧ CellsP a.p Q x v ∧ CellsP a.p A v z ∧
    dN b.d (a.q.2.2.getD i 0) = x ∧ dN a.d (a.q.2.1.getD i 0) = z ∧ firF a b ms i = mulF a.p y (matF B) (matF P) ∧ secF a ms i = mulF a.p v (matF Q) (matF A) := by
  obtain ⟨⟨hA, hB, hp, hq⟩, hL, hE⟩ := h
  have hQ := hA.2.1.1
  have hTl := hQ.2.2.1
  have hs := inP_get hQ.2.2.2.1 (i := i) hi
  have ht := inP_get hQ.2.2.2.2 (i := i) om
  have hdl := hA.2.1.2.1
  have hml := hA.2.2.1
  have hml' := hB.2.2.1
  rw [← hq] at hml'
  obtain ⟨s, es⟩ : ∃ s : Nat, a.q.2.1.getD i 0 = s := ⟨(a.q.2.1.getD i 0).toNat, by omega⟩
  obtain ⟨t, et⟩ : ∃ t : Nat, a.q.2.2.getD i 0 = t := ⟨(a.q.2.2.getD i 0).toNat, by omega⟩
  rw [es] at hs
  rw [et] at ht
  have hsl : s < ms.length := by omega
  have htl : t < ms.length := by omega
  obtain ⟨A, hAi⟩ : ∃ m, a.m[i]? = some m := ⟨_, List.getElem?_eq_getElem om⟩
  obtain ⟨B, hBi⟩ : ∃ m, b.m[i]? = some m := ⟨_, List.getElem?_eq_getElem om⟩
  obtain ⟨P, hPi⟩ : ∃ m, ms[s]? = some m := ⟨_, List.getElem?_eq_getElem hsl⟩
  obtain ⟨Q, hQi⟩ : ∃ m, ms[t]? = some m := ⟨_, List.getElem?_eq_getElem htl⟩
  have gA : a.m.getD i mat0 = A := by rw [List.getD, hAi]; rfl
  have gB : b.m.getD i mat0 = B := by rw [List.getD, hBi]; rfl
  have gP : ms.getD s mat0 = P := by rw [List.getD, hPi]; rfl
  have gQ : ms.getD t mat0 = Q := by rw [List.getD, hQi]; rfl
  obtain ⟨a1, a2, a3⟩ := hA.2.2.2 i om
  obtain ⟨b1, b2, b3⟩ := hB.2.2.2 i om
  obtain ⟨p1, p2, p3⟩ := hE s hsl
  obtain ⟨q1, q2, q3⟩ := hE t htl
  rw [← hq] at b2 b3
  rw [gA, es, Int.toNat_natCast] at a2
  rw [gA, et, Int.toNat_natCast] at a3
  rw [gB, es, Int.toNat_natCast] at b2
  rw [gB, et, Int.toNat_natCast] at b3
  rw [gA] at a1
  rw [gB, ← hp] at b1
  rw [gP] at p1 p2 p3
  rw [gQ] at q1 q2 q3
  have d1 := hB.dg t
  have d2 := hB.dg s
  have d3 := hA.dg s
  have d4 := hA.dg t
  refine ⟨s, t, (b.d.getD t 0).toNat, (b.d.getD s 0).toNat, (a.d.getD s 0).toNat, (a.d.getD t 0).toNat, A, B, P, Q, es, et, hsl, htl, by omega, by omega, by omega, hAi, hBi, hPi, hQi, by omega, cellsP_of b1 om om, cellsP_of p1 om om, cellsP_of q1 om om, cellsP_of a1 om om, ?_, ?_, ?_, ?_⟩
  · simp only [dN, et, Int.toNat_natCast]
  · simp only [dN, es, Int.toNat_natCast]
  · simp only [firF, dN, es, Int.toNat_natCast, gB, gP]
  · simp only [secF, dN, et, Int.toNat_natCast, gA, gQ]
theorem zero_iff {p : Int} {R C : Nat} {f g : Nat → Nat → Int} (hf : inF p R C f) (hg : inF p R C g) : (∀ x ∈ mk R C (plusF p (p - 1) f g), x = 0) ↔ mk R C f = mk R C g := by
  have hpt : ∀ i j, i < R → j < C → (plusF p (p - 1) f g i j = 0 ↔ f i j = g i j) := fun i j hi hj => by
    have h1 := hf i j hi hj
    have h2 := hg i j hi hj
    unfold plusF
    refine ⟨fun h => ?_, fun h => ?_⟩
    · have hd := Int.dvd_of_emod_eq_zero h
      refine dvd_eq (p := p) ?_ h1 h2
      obtain ⟨y, hy⟩ := hd
      exact ⟨y - g i j, by grind⟩
    · rw [h, show g i j + (p - 1) * g i j = p * g i j by grind]
      exact Int.mul_emod_right _ _
  refine ⟨fun h => mk_ext (fun i j hi hj => ?_), fun h x hx => ?_⟩
  · rw [← hpt i j hi hj, ← mk_get (f := plusF p (p - 1) f g) hi hj]
    have hc := cell_lt hi hj
    exact h _ (List.mem_of_getElem? (getD_some (z := 0) (by rw [mk_length]; exact hc)))
  · simp only [mk, List.mem_map, List.mem_range] at hx
    obtain ⟨q, hq, rfl⟩ := hx
    have hC0 : 0 < C := by
      rcases Nat.eq_zero_or_pos C with h0 | h0
      · subst h0; simp at hq
      · exact h0
    have h1 : q / C < R := Nat.div_lt_of_lt_mul (by rw [Nat.mul_comm]; exact hq)
    have h2 := Nat.mod_lt q hC0
    rw [hpt _ _ h1 h2, ← mk_get (f := f) h1 h2, ← mk_get (f := g) h1 h2, h]
end Go.Proofs.YtijjkfbkihgfgaaGreat
