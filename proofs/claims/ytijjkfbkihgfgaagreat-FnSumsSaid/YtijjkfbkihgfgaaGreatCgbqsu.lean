import Derived.Test.YtijjkfbkihgfgaaGreatAloqsu
import Derived.Test.YtijjkfbkihgfgaaGreatChgqsu
import Derived.Test.YtijjkfbkihgfgaaGreatCobqsu
import Derived.Test.YtijjkfbkihgfgaaGreatDsaqsu
import Derived.Test.YtijjkfbkihgfgaaGreatIvsqsu
import Derived.Test.YtijjkfbkihgfgaaGreatLEqsu
namespace Go.Proofs.YtijjkfbkihgfgaaGreat
open Go.Lg Go.Proofs Go.RowKit
attribute [local irreducible] Code.wp wpList bodyPost Exit.then Exit.inBlock Hp Again Calls Y AT ResV QT Qn QI wpAny wpAnyQ
set_option maxRecDepth 20000
set_option maxHeartbeats 4000000

def repN (F : Nat → Mat) (ms : List Mat) (i : Nat) : List Mat := (List.range ms.length).map (fun k => if k < i then F k else ms.getD k mat0)
@[simp] theorem repN_length {F : Nat → Mat} {ms : List Mat} {i : Nat} : (repN F ms i).length = ms.length := by simp [repN]
theorem repN_zero {F : Nat → Mat} {ms : List Mat} : repN F ms 0 = ms := by
  apply List.ext_getElem?
  intro q
  by_cases hq : q < ms.length
  · simp [repN, hq]
  · rw [List.getElem?_eq_none (by simp; omega), List.getElem?_eq_none om]
theorem repN_next {F : Nat → Mat} {ms : List Mat} {i : Nat} (hi : i < ms.length) : (repN F ms i).set i (F i) = repN F ms (i + 1) := by
  apply List.ext_getElem?
  intro q
  rw [List.getElem?_set]
  by_cases hq : q < ms.length
  · by_cases h : i = q
    · subst h; simp [repN, hi]
    · have h' : (q < i + 1) = (q < i) := by apply propext; omega
      simp [repN, hq, h, h']
  · have h : ¬ i = q := by omega
    rw [if_neg h, List.getElem?_eq_none (by simp; omega), List.getElem?_eq_none (by simp; omega)]
theorem repN_end {F : Nat → Mat} {ms : List Mat} : repN F ms ms.length = tabM F ms.length := List.map_congr_left (fun k hk => by rw [if_pos (List.mem_range.1 hk)])
def cgM (r : Rp) (g : List Mat) (i : Nat) : Mat := (((dN r.d (r.q.2.2.getD i 0) : Nat) : Int), ((dN r.d (r.q.2.1.getD i 0) : Nat) : Int), mk (dN r.d (r.q.2.2.getD i 0)) (dN r.d (r.q.2.1.getD i 0))
  (mulF r.p (dN r.d (r.q.2.1.getD i 0)) (mulF r.p (dN r.d (r.q.2.2.getD i 0)) (matF (g.getD (r.q.2.2.getD i 0).toNat mat0)) (matF (r.m.getD i mat0))) (invF r.p (dN r.d (r.q.2.1.getD i 0)) (matF (g.getD (r.q.2.1.getD i 0).toNat mat0)))))
def cgR (r : Rp) (g : List Mat) : Rp := ⟨r.p, r.q, r.d, tabM (cgM r g) r.m.length⟩
def cgRb (r : Rp) (g : List Mat) : Rp := if ChgP r g then cgR r g else repZ
theorem invF_in {p : Int} {n : Nat} {f : Nat → Nat → Int} (hF : FieldP p) (h : inF p n n f) : inF p n n (invF p n f) := fun i j hi hj => by
  have hp := fieldP_pos hF
  have hau : inF p n (n + n) (augF n f) := inF_bes h (inF_id om)
  exact (redTo_in om hau (n + n)).1 i (n + j) hi om
theorem inv_cells {p : Int} {m : Mat} {n : Nat} (h : InvP p m) (hn : m.1 = n) : CellsP p m n n ∧ (redTo p n (matF m) n).2.length = n := by
  obtain ⟨h1, h2, h3⟩ := h
  have hc := cellsP_of (R := n) (C := n) h1 hn om
  refine ⟨hc, ?_⟩
  have e3 : m = ((n : Int), (n : Int), mk n n (matF m)) := Prod.ext hc.1 (Prod.ext hc.2.1 hc.2.2.1)
  rw [e3, redL_mk] at h3
  omega
theorem chg_at {r : Rp} {g : List Mat} {i : Nat} (h : ChgP r g) (hi : i < r.m.length) : ∃ (s t x z : Nat) (A P Q : Mat), r.q.2.1.getD i 0 = s ∧ r.q.2.2.getD i 0 = t ∧ s < g.length ∧ t < g.length ∧ i < r.q.2.1.length ∧ i < r.q.2.2.length ∧
    r.m[i]? = some A ∧ g[s]? = some P ∧ g[t]? = some Q ∧ x ≤ 4 ∧ z ≤ 4 ∧ CellsP r.p A x z ∧ CellsP r.p P z z ∧ CellsP r.p Q x x ∧ (redTo r.p z (matF P) z).2.length = z ∧
    cgM r g i = ((x : Int), (z : Int), mk x z (mulF r.p z (mulF r.p x (matF Q) (matF A)) (invF r.p z (matF P)))) := by
  obtain ⟨hR, hL, hE⟩ := h
  have hQ := hR.2.1.1
  have hTl := hQ.2.2.1
  have hml := hR.2.2.1
  have hs := inP_get hQ.2.2.2.1 (i := i) om
  have ht := inP_get hQ.2.2.2.2 (i := i) om
  have hdl := hR.2.1.2.1
  obtain ⟨s, es⟩ : ∃ s : Nat, r.q.2.1.getD i 0 = s := ⟨(r.q.2.1.getD i 0).toNat, by omega⟩
  obtain ⟨t, et⟩ : ∃ t : Nat, r.q.2.2.getD i 0 = t := ⟨(r.q.2.2.getD i 0).toNat, by omega⟩
  rw [es] at hs
  rw [et] at ht
  have hsl : s < g.length := by omega
  have htl : t < g.length := by omega
  obtain ⟨A, hAi⟩ : ∃ m, r.m[i]? = some m := ⟨_, List.getElem?_eq_getElem hi⟩
  obtain ⟨P, hPi⟩ : ∃ m, g[s]? = some m := ⟨_, List.getElem?_eq_getElem hsl⟩
  obtain ⟨Q, hQi⟩ : ∃ m, g[t]? = some m := ⟨_, List.getElem?_eq_getElem htl⟩
  have gA : r.m.getD i mat0 = A := by rw [List.getD, hAi]; rfl
  have gP : g.getD s mat0 = P := by rw [List.getD, hPi]; rfl
  have gQ : g.getD t mat0 = Q := by rw [List.getD, hQi]; rfl
  obtain ⟨a1, a2, a3⟩ := hR.2.2.2 i hi
  rw [gA] at a1
  rw [gA, es, Int.toNat_natCast] at a2
  rw [gA, et, Int.toNat_natCast] at a3
  have ps := hE s hsl
  have pt := hE t htl
  rw [ElemC, gP] at ps
  rw [ElemC, gQ] at pt
  have d3 := hR.dg s
  have d4 := hR.dg t
  obtain ⟨c1, k1⟩ := inv_cells (n := (r.d.getD s 0).toNat) ps.1 om
  obtain ⟨c2, _⟩ := inv_cells (n := (r.d.getD t 0).toNat) pt.1 om
  refine ⟨s, t, (r.d.getD t 0).toNat, (r.d.getD s 0).toNat, A, P, Q, es, et, hsl, htl, by omega, by omega, hAi, hPi, hQi, by omega, by omega, cellsP_of a1 om om, c1, c2, k1, ?_⟩
  simp only [cgM, dN, es, et, Int.toNat_natCast, gA, gP, gQ]
theorem impl_ChangeBasis_ok {w : World} {r : Rp} {gs : List Mat} {e e2 : Nat} {u0 u1 u2 u3 ug : Value} (h0 : Rd w (iT r.q.2.1) u0) (h1 : Rd w (iT r.q.2.2) u1) (h2 : Rd w (iT r.d) u2) (h3 : Rd w (matsT e r.m) u3) (hg : Rd w (matsT e2 gs) ug) :
    Does Tryz.prog 70 [.agg #[iV r.p, iV r.q.1, u0, u1, u2, u3], ug] w (GivesRB (cgRb r gs) (decide (ChgP r gs))) := by
  have h30 := h3
  have hg0 := hg
  obtain ⟨a0, c0, rfl, hs0, _, _, hg0'⟩ := h0.ints
  obtain ⟨a1, c1, rfl, hs1, _, _, hg1'⟩ := h1.ints
  obtain ⟨a3, c3, rfl, hs3, _, _, hg3⟩ := rd_mats h3
  obtain ⟨ag, cg, rfl, hsg, _, _, hgg⟩ := rd_mats hg
  by_cases hC : ChgP r gs
  · rw [cgRb, if_pos hC, decide_eq_true hC]
    have hC' := not_not_intro hC
    have hR := hC.1
    have hF := hR.1
    have hm6 : r.m.length ≤ 6 := by have := hR.2.2.1; have := hR.2.1.1.2.1; omega
    have hp := fieldP_pos hF
    refine fn_enter Tryz.func70 rfl Tryz.ntmps70 rfl ?_
    repeat' (first | (show oL; first | refine sMv rfl rfl ?_ | refine sAs rfl rfl ?_ | refine sFd tabs rfl rfl rfl rfl ?_ | (show oA (.load _ _); first | refine sLb 1 tabs rfl rfl rfl rfl rfl ?_ | refine sLd 6 tabs rfl rfl rfl rfl rfl ?_) | (show oA (.unOp _ _ _); refine st_y (y_notd rfl) rfl ?_) | (show oA (.call _); first | (refine m_call (ent_of Tryz.func72 kr rfl) rfl rfl (fun w c => impl_AreChanges_ok (r := r) (ms := gs) (c.rd h0) (c.rd h1) (c.rd h2) (c.rd h30) (c.rd hg0)) ?_; rintro v H' ⟨rfl, rfl⟩) | (refine m_call (ent_of Tryz.func182 kr rfl) rfl rfl (fun w c => rclone_ok (r := r) (c.rd h0) (c.rd h1) (c.rd h2) (c.rd h30) hR) ?_; rintro v H' ⟨aF, cF, aT, cT, ad, cd, am, cm, rfl, hsF, hsT, hsd, hsm, rfl⟩) | refine sLn tabs rfl rfl rfl ?_) | (show oA (.store _ _ _); refine m_storeb 0 tabs rfl rfl rfl rfl rfl rfl rfl ?_) | (show oA (.box _ _); refine m_box rfl rfl (fun b1 hb1 => ?_)) | (show oA (.alloc _); refine m_alloc tabs rfl rfl (fun b5 hb5 => ?_))) | refine xNt ?_ | (show oC; first | refine c_seq ?_ | refine c_region ?_ | refine c_skip (x_then ?_) | refine c_block ?_ | refine c_iff rfl nN ?_))
    all_goals first | exact absurd hC aS | skip
    rename_i b4 hb4
    refine c_loopH (α := Nat) [1, 2, 4, 6, 18, 19] (fun i => [(20, .int .i64 i)]) (fun i => i ≤ r.m.length) (fun i => [.own (matsT 47 (repN (cgM r gs) r.m i)) (.slice am r.m.length cm), .blk b5 #[iV r.p, iV r.q.1, .slice aF r.q.2.1.length cF, .slice aT r.q.2.2.length cT, .slice ad r.d.length cd, .slice am r.m.length cm] 60, .own (iT r.d) (.slice ad r.d.length cd), .own (iT r.q.2.2) (.slice aT r.q.2.2.length cT), .own (iT r.q.2.1) (.slice aF r.q.2.1.length cF), .blk b4 #[iV 0, iV 0, .slice none 0 0, .slice none 0 0, .slice none 0 0, .slice none 0 0] 60, .blk b1 #[iV r.p, iV r.q.1, .slice a0 r.q.2.1.length c0, .slice a1 r.q.2.2.length c1, u2, .slice a3 r.m.length c3] 60]) (fun i => r.m.length - i) 0 rfl sB ?_ ?_ ?_
    · exact Nat.zero_le _
    · intro w' c'
      rw [repN_zero]
      exact (c'.front (i := 1) rfl).sub sL
    · intro i hi
      by_cases hin : i < r.m.length
      · obtain ⟨s, t, x, z, A, P, Q, es, et, hsl, htl, hiF, hiT, hA1, hP1, hQ1, hx4, hz4, ⟨A1, A2, A3, A4⟩, ⟨P1, P2, P3, P4⟩, ⟨Q1, Q2, Q3, Q4⟩, hk, hz⟩ := chg_at hC hin
        obtain ⟨aA, cA, A5, A6, A7, A8⟩ := hg3 i A hA1
        obtain ⟨aP, cP, P5, P6, P7, P8⟩ := hgg s P hP1
        obtain ⟨aQ, cQ, Q5, Q6, Q7, Q8⟩ := hgg t Q hQ1
        rw [A1] at A5; rw [A2] at A6; rw [A3] at A7 A8; rw [mk_length] at A7 A8
        rw [P1] at P5; rw [P2] at P6; rw [P3] at P7 P8; rw [mk_length] at P7 P8
        rw [Q1] at Q5; rw [Q2] at Q6; rw [Q3] at Q7 Q8; rw [mk_length] at Q7 Q8
        have gF := hg0' i hiF
        have gT := hg1' i hiT
        rw [es] at gF
        rw [et] at gT
        repeat' (first | (show oL; first | refine sMv rfl rfl ?_ | refine sAs rfl rfl ?_ | (show oA (.load _ _); refine st_y (y_load3 tabs rfl rfl (hc_w0 A5) (hc_w0 A6) (hc_w0 A7)) rfl ?_) | (show oA (.indexAddr _ _ _); refine st_y (y_ixa tabs rfl rfl rfl hs3 om om) rfl ?_) | refine sLs rfl rfl rfl ?_ | (show oA (.store _ _ _); refine m_storeb 0 tabs rfl rfl rfl rfl rfl rfl rfl ?_) | (show oA (.alloc _); refine m_alloc tabs rfl rfl (fun b8 hb8 => ?_))) | refine xNt ?_ | (show oC; first | refine c_seq ?_ | refine c_region ?_ | refine c_skip (x_then ?_) | refine c_block ?_ | refine c_ift rfl aO ?_))
        refine c_all (Hp [] w [.blk b8 #[iV x, iV z, .slice aA (x * z) cA] 47, .blk b5 #[iV r.p, iV r.q.1, .slice aF r.q.2.1.length cF, .slice aT r.q.2.2.length cT, .slice ad r.d.length cd, .slice am r.m.length cm] 60, .blk b1 #[iV r.p, iV r.q.1, .slice a0 r.q.2.1.length c0, .slice a1 r.q.2.2.length c1, u2, .slice a3 r.m.length c3] 60]) kr (fun _ c => Hp.drew c) ?_
        refine fl_begin 12 rfl tabs rfl rfl ?_
        refine fl_take 0 rfl kr kr kr kr kr kr (by exact y_field tabs rfl rfl rfl) rfl sS ?_
        refine fl_take 1 rfl kr kr kr kr kr kr (by exact y_load tabs rfl rfl (hc_blk 2 rfl rfl)) rfl sS ?_
        refine fl_take 2 rfl kr kr kr kr kr kr (by exact y_move rfl) rfl sS ?_
        refine fl_take 3 rfl kr kr kr kr kr kr (by exact y_field tabs rfl rfl rfl) rfl sS ?_
        refine fl_take 4 rfl kr kr kr kr kr kr (by exact y_field tabs rfl rfl rfl) rfl sS ?_
        refine fl_take 5 rfl kr kr kr kr kr kr (by exact y_load tabs rfl rfl (hc_blk 2 rfl rfl)) rfl sS ?_
        refine fl_take 6 rfl kr kr kr kr kr kr (by exact y_move rfl) rfl sS ?_
        refine fl_take 7 rfl kr kr kr kr kr kr (by exact y_ix1 tabs (j := i) rfl rfl rfl hs0 rfl hiF) rfl sS ?_
        refine fl_take 8 rfl kr kr kr kr kr kr (by exact y_load tabs rfl rfl (hc_w0 gF)) rfl sS ?_
        refine fl_take 9 rfl kr kr kr kr kr kr (by exact y_ixa tabs rfl rfl rfl hsg om om) rfl sS ?_
        refine fl_take 10 rfl kr kr kr kr kr kr (by exact y_load3 tabs rfl rfl (hc_w0 P5) (hc_w0 P6) (hc_w0 P7)) rfl sS ?_
        (refine fl_call 11 rfl rfl kr tabs rfl rfl rfl kr kr kr (ent_of Tryz.func158 kr rfl) rfl rfl (fun w c => inverse_ok (c.rd P8) hF om P4) sC ?_; rintro v H' ⟨a7, c7, rfl, hs7, rfl⟩)
        refine fl_end rfl tabs rfl rfl rfl kr sS (fun bf hbf => ?_)
        refine h_only 13 rfl kr ?_
        (refine m_storeb 0 tabs rfl rfl rfl rfl rfl rfl rfl ?_)
        refine c_nil (x_one (h_keep sS ?_))
        refine h_end kr ?_
        repeat' (first | (show AT _ _ _ _; refine x_then ?_))
        have hI : inF r.p z z (invF r.p z (matF P)) := invF_in hF P4
        refine c_all (Hp [] w [.blk bf #[iV z, iV z, .slice a7 (z * z) c7] 47, .blk b8 #[iV x, iV z, .slice aA (x * z) cA] 47, .blk b5 #[iV r.p, iV r.q.1, .slice aF r.q.2.1.length cF, .slice aT r.q.2.2.length cT, .slice ad r.d.length cd, .slice am r.m.length cm] 60, .blk b1 #[iV r.p, iV r.q.1, .slice a0 r.q.2.1.length c0, .slice a1 r.q.2.2.length c1, u2, .slice a3 r.m.length c3] 60]) kr (fun _ c => Hp.drew c) ?_
        refine h_take 0 rfl kr kr kr (by exact y_field tabs rfl rfl rfl) rfl sS ?_
        refine h_take 1 rfl kr kr kr (by exact y_load tabs rfl rfl (hc_blk 2 rfl rfl)) rfl sS ?_
        refine h_take 2 rfl kr kr kr (by exact y_move rfl) rfl sS ?_
        refine h_take 3 rfl kr kr kr (by exact y_field tabs rfl rfl rfl) rfl sS ?_
        refine h_take 4 rfl kr kr kr (by exact y_load tabs rfl rfl (hc_blk 3 rfl rfl)) rfl sS ?_
        refine h_take 5 rfl kr kr kr (by exact y_field tabs rfl rfl rfl) rfl sS ?_
        refine h_take 6 rfl kr kr kr (by exact y_load tabs rfl rfl (hc_blk 3 rfl rfl)) rfl sS ?_
        refine h_take 7 rfl kr kr kr (by exact y_move rfl) rfl sS ?_
        refine h_take 8 rfl kr kr kr (by exact y_field tabs rfl rfl rfl) rfl sS ?_
        refine h_take 9 rfl kr kr kr (by exact y_field tabs rfl rfl rfl) rfl sS ?_
        refine h_take 10 rfl kr kr kr (by exact y_load tabs rfl rfl (hc_blk 3 rfl rfl)) rfl sS ?_
        refine h_take 11 rfl kr kr kr (by exact y_move rfl) rfl sS ?_
        refine h_take 12 rfl kr kr kr (by exact y_ix1 tabs (j := i) rfl rfl rfl hs1 rfl hiT) rfl sS ?_
        refine h_take 13 rfl kr kr kr (by exact y_load tabs rfl rfl (hc_w0 gT)) rfl sS ?_
        refine h_take 14 rfl kr kr kr (by exact y_ixa tabs rfl rfl rfl hsg om om) rfl sS ?_
        refine h_take 15 rfl kr kr kr (by exact y_load3 tabs rfl rfl (hc_w0 Q5) (hc_w0 Q6) (hc_w0 Q7)) rfl sS ?_
        refine h_take 16 rfl kr kr kr (by first | exact y_loadb 1 tabs rfl rfl rfl rfl | exact y_loadb 1 tabs rfl rfl rfl rfl) rfl sS ?_
        refine h_take 18 rfl kr kr kr (by first | exact y_loadb 0 tabs rfl rfl rfl rfl | exact y_loadb 0 tabs rfl rfl rfl rfl) rfl sS ?_
        refine h_only 17 rfl kr ?_
        first | (refine m_call (ent_of Tryz.func183 kr rfl) rfl rfl (fun w c => times_ok (R := x) (N := x) (C := z) (c.rd Q8) (c.rd A8) hF om om om Q4 A4) ?_; rintro v H' ⟨a8, c8, rfl, hs8, rfl⟩) | (refine m_call (ent_of Tryz.func183 kr rfl) rfl rfl (fun w c => times_ok (R := x) (N := z) (C := z) (c.own_rd (i := 0) rfl) (by first | exact c.own_rd (i := 1) rfl | exact c.own_rd (i := 2) rfl | exact c.own_rd (i := 3) rfl) hF om om om (inF_mul om) hI) ?_; rintro v H' ⟨a9, c9, rfl, hs9, rfl⟩) | (refine m_storeT tabs (m := r.m.length) (tn := matT ((x : Int), (z : Int), mk x z (mulF r.p z (mulF r.p x (matF Q) (matF A)) (invF r.p z (matF P))))) (j := i) rfl rfl rfl rfl rfl rfl (by decide) (by rw [flatMap_length matT_length, repN_length]) hin (fun w c => (c.mat (u0 := iV (x : Int)) (u1 := iV (z : Int))).front (i := 5) rfl) ?_)
        refine c_nil (x_one (h_keep sS ?_))
        refine h_only 19 rfl kr ?_
        first | (refine m_call (ent_of Tryz.func183 kr rfl) rfl rfl (fun w c => times_ok (R := x) (N := x) (C := z) (c.rd Q8) (c.rd A8) hF om om om Q4 A4) ?_; rintro v H' ⟨a8, c8, rfl, hs8, rfl⟩) | (refine m_call (ent_of Tryz.func183 kr rfl) rfl rfl (fun w c => times_ok (R := x) (N := z) (C := z) (c.own_rd (i := 0) rfl) (by first | exact c.own_rd (i := 1) rfl | exact c.own_rd (i := 2) rfl | exact c.own_rd (i := 3) rfl) hF om om om (inF_mul om) hI) ?_; rintro v H' ⟨a9, c9, rfl, hs9, rfl⟩) | (refine m_storeT tabs (m := r.m.length) (tn := matT ((x : Int), (z : Int), mk x z (mulF r.p z (mulF r.p x (matF Q) (matF A)) (invF r.p z (matF P))))) (j := i) rfl rfl rfl rfl rfl rfl (by decide) (by rw [flatMap_length matT_length, repN_length]) hin (fun w c => (c.mat (u0 := iV (x : Int)) (u1 := iV (z : Int))).front (i := 5) rfl) ?_)
        refine c_nil (x_one (h_keep sS ?_))
        refine h_take 20 rfl kr kr kr (by exact y_ixa tabs rfl rfl rfl hsm om om) rfl sS ?_
        refine h_only 21 rfl kr ?_
        first | (refine m_call (ent_of Tryz.func183 kr rfl) rfl rfl (fun w c => times_ok (R := x) (N := x) (C := z) (c.rd Q8) (c.rd A8) hF om om om Q4 A4) ?_; rintro v H' ⟨a8, c8, rfl, hs8, rfl⟩) | (refine m_call (ent_of Tryz.func183 kr rfl) rfl rfl (fun w c => times_ok (R := x) (N := z) (C := z) (c.own_rd (i := 0) rfl) (by first | exact c.own_rd (i := 1) rfl | exact c.own_rd (i := 2) rfl | exact c.own_rd (i := 3) rfl) hF om om om (inF_mul om) hI) ?_; rintro v H' ⟨a9, c9, rfl, hs9, rfl⟩) | (refine m_storeT tabs (m := r.m.length) (tn := matT ((x : Int), (z : Int), mk x z (mulF r.p z (mulF r.p x (matF Q) (matF A)) (invF r.p z (matF P))))) (j := i) rfl rfl rfl rfl rfl rfl (by decide) (by rw [flatMap_length matT_length, repN_length]) hin (fun w c => (c.mat (u0 := iV (x : Int)) (u1 := iV (z : Int))).front (i := 5) rfl) ?_)
        refine c_nil (x_one (h_keep sS ?_))
        refine h_end kr ?_
        repeat' (first | (show oL; first | refine sMv rfl rfl ?_ | refine sAd rfl rfl om rfl ?_) | refine xNt ?_ | (show oC; refine c_region ?_) | (show AT _ _ _ _; first | refine x_then ?_ | refine x_blk ?_))
        refine x_nx (i + 1) sB om (fun w' c' => ?_) om
        rw [← hz, flatMap_set matT_length _ _ _ (by simp; omega), repN_next hin] at c'
        exact c'.sub sL
      · have hie : i = r.m.length := by omega
        subst hie
        rw [repN_end]
        repeat' (first | (show oL; first | refine sAs rfl rfl ?_ | refine sLb 1 tabs rfl rfl rfl rfl rfl ?_ | refine sLs rfl rfl rfl ?_ | (show oA (.store _ _ _); refine m_storeb 5 tabs rfl rfl rfl rfl rfl rfl rfl ?_)) | refine xNt ?_ | (show oC; first | refine c_seq ?_ | refine c_region ?_ | refine c_ret ?_ | refine c_exit ?_ | refine c_iff rfl nN ?_) | (show AT _ _ _ _; first | refine x_then ?_ | refine x_then_exit ?_ | refine x_blk_exit rfl ?_))
        exact x_ret2 Tryz.results70 (res_cellb 5 tabs rfl rfl rfl rfl) (res_tmp rfl) (fun w' c' => ⟨_, [.own (matsT 47 (tabM (cgM r gs) r.m.length)) (.slice am r.m.length cm), .own (iT r.d) (.slice ad r.d.length cd), .own (iT r.q.2.2) (.slice aT r.q.2.2.length cT), .own (iT r.q.2.1) (.slice aF r.q.2.1.length cF)], rfl, ⟨aF, cF, aT, cT, ad, cd, am, cm, by simp only [cgR, tabM_length], hsF, hsT, hsd, by simpa only [cgR, tabM_length] using hsm, by simp only [cgR, tabM_length]⟩, c'.sub sL⟩)
  · rw [cgRb, if_neg hC, decide_eq_false hC]
    refine fn_enter Tryz.func70 rfl Tryz.ntmps70 rfl ?_
    repeat' (first | (show oL; first | refine sMv rfl rfl ?_ | refine sAs rfl rfl ?_ | refine sLb 1 tabs rfl rfl rfl rfl rfl ?_ | (show oA (.unOp _ _ _); refine st_y (y_notd rfl) rfl ?_) | (show oA (.call _); (refine m_call (ent_of Tryz.func72 kr rfl) rfl rfl (fun w c => impl_AreChanges_ok (r := r) (ms := gs) (c.rd h0) (c.rd h1) (c.rd h2) (c.rd h30) (c.rd hg0)) ?_; rintro v H' ⟨rfl, rfl⟩)) | (show oA (.store _ _ _); refine m_storeb 0 tabs rfl rfl rfl rfl rfl rfl rfl ?_) | (show oA (.box _ _); refine m_box rfl rfl (fun b1 hb1 => ?_)) | (show oA (.alloc _); refine m_alloc tabs rfl rfl (fun b5 hb5 => ?_)) | (show oA (.build _ _); refine st_y (y_bld0 bld_rp0) rfl ?_)) | refine xNt ?_ | (show oC; first | refine c_seq ?_ | refine c_region ?_ | refine c_ret ?_ | refine c_ift rfl aO ?_) | (show AT _ _ _ _; refine x_then_ret ?_))
    all_goals first | exact absurd aS hC | skip
    refine x_ret2 Tryz.results70 (res_cellb 0 tabs rfl rfl rfl rfl) (res_tmp rfl) (fun w' c' => ⟨_, _, rfl, ⟨none, 0, none, 0, none, 0, none, 0, rfl, .inl rfl, .inl rfl, .inl rfl, .inl rfl, rfl⟩, ?_⟩)
    exact Hp.nilp _ _ (Hp.nilp _ _ (Hp.nilp _ _ (Hp.nilp _ _ (c'.sub (List.nil_sublist _)))))
end Go.Proofs.YtijjkfbkihgfgaaGreat
