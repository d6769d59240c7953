import Derived.Test.YtdnhmnnccfoliaaGreatDoorAlgqrp
import Derived.Test.YtdnhmnnccfoliaaGreatDoorAloqrp
import Derived.Test.YtdnhmnnccfoliaaGreatDoorCopqrp
import Derived.Test.YtdnhmnnccfoliaaGreatDoorDrqqrp
import Derived.Test.YtdnhmnnccfoliaaGreatDoorDrrqrp
import Derived.Test.YtdnhmnnccfoliaaGreatDoorFmrqrp
import Derived.Test.YtdnhmnnccfoliaaGreatDoorLFqrp
import Derived.Test.YtdnhmnnccfoliaaGreatDoorLwsqrp
import Derived.Test.YtdnhmnnccfoliaaGreatDoorOrsqrp
import Derived.Test.YtdnhmnnccfoliaaGreatDoorRepqrp
import Derived.Test.YtdnhmnnccfoliaaGreatDoorZerqrp
namespace Go.Proofs.YtdnhmnnccfoliaaGreatDoor
open Go.Lg Go.Proofs Go.RowKit
attribute [local irreducible] Code.wp wpList bodyPost Exit.then Exit.inBlock Hp Again Calls Y AT ResV QT Qn QI wpAny wpAnyQ
set_option maxRecDepth 20000
set_option maxHeartbeats 4000000

theorem l8Dims_ok {w1 : World} {M1 : List Nat} {H1 : List HE} {w : World} {M' : List Nat} {u : Value} {b i : Nat} {h : Int} {q : Qv} {u0 u1 : Value} (most : Nat) (hm : most ≤ 3) (hl : Lent M1 w1 (cu u b i h) H1 M' w) (hc : CodeF w1 M1 u) (hi : i ≤ vlen u) :
    DoesB Tryz.prog 175 [cuV b, .agg #[iV q.1, u0, u1], iV most] w M' (Gcu u b (fun v H => ∃ (ds : List Int) (a : Option Addr) (c : Nat), v = .slice a ds.length c ∧ ((ds.length : Int) = max 0 (min q.1 5)) ∧ InP 0 most ds ∧ ds.sum ≤ 8 ∧ H = [.own (iT ds) (.slice a ds.length c)])) := by
  have hc2 := lent_code hl hc
  refine fnb_lent Tryz.func175 rfl Tryz.ntmps175 rfl hl ?_
  repeat' (first | (show oL; first | refine sAs rfl rfl ?_ | (show oA (.box _ _); refine m_box rfl rfl (fun b4 hb4 => ?_)) | (show oA (.buildSlice _ _ _); refine m_build0 tabs rfl rfl (fun g hg => ?_))) | refine xNt ?_ | (show oC; first | refine c_seq ?_ | refine c_region ?_ | refine c_block ?_))
  refine c_loopH (α := (List Int × Option Addr × Nat) × Int × Nat × Int) [0, 2, 4] (fun s => [(7, .slice s.1.2.1 s.1.1.length s.1.2.2), (8, iV s.2.1), (9, iV s.1.1.length)]) (fun s => ((s.1.1.length : Int) ≤ max 0 (min q.1 5) ∧ s.1.1.sum + s.2.1 = 8 ∧ 0 ≤ s.2.1) ∧ InP 0 most s.1.1 ∧ s.2.2.1 ≤ vlen u) (fun s => [.own (iT s.1.1) (.slice s.1.2.1 s.1.1.length s.1.2.2), cu u b s.2.2.1 s.2.2.2, .blk b4 #[iV q.1, u0, u1] 26]) (fun s => 5 - s.1.1.length) (([], some ⟨g, 0, none⟩, 0), 8, i, h) rfl sB ?_ ?_ ?_
  · exact ⟨⟨by simp only [List.length_nil]; omega, by simp, by show (0 : Int) ≤ 8; omega⟩, by intro x hx; simp at hx, hi⟩
  · exact fun w' c' => (c'.front (i := 2) rfl).swap
  · rintro ⟨⟨ds, a, c⟩, left, i, ch⟩ ⟨⟨hds, hsum, hleft⟩, hin, hi⟩
    simp only at hds hsum hleft hin hi ⊢
    have hsn := sum_in (xs := ds) (fun x hx => by have := hin x hx; omega)
    repeat' (first | (show oL; first | refine sMv rfl rfl ?_ | refine sAs rfl rfl ?_ | refine sFd tabs rfl rfl rfl rfl ?_ | refine sLd 2 tabs rfl rfl rfl rfl rfl ?_ | (show oA (.binOp _ _ _ _ _); first | refine sAd rfl rfl om rfl ?_ | refine st_y (y_sub rfl rfl om) rfl ?_ | refine sLs rfl rfl rfl ?_) | (show oA (.call _); first | (refine m_callL 1 (ent_of Tryz.func100 kr rfl) rfl rfl rfl (fun w M' hl => l1Below_ok ((most : Int) + 1) hl hc2 hi) ?_; rintro v H' ⟨i, ch, _, hi, rfl, y, rfl, hy, rfl⟩) | refine st_y (y_min rfl rfl) rfl ?_ | refine m_pushi 1 tabs rfl rfl rfl rfl rfl om (fun a6 c6 => ?_)) | (show oA (.pick _ _ _); first | refine st_y (y_pickt rfl aO rfl) rfl ?_ | refine st_y (y_pickf rfl aO rfl) rfl ?_) | (show oA (.buildSlice _ _ _); refine m_build1 tabs (us := [iV (min left y)]) rfl rfl rfl rfl (by decide) rfl (fun g6 hg6 => ?_)) | refine st_gdy rfl rfl aO ?_ | refine st_gdn rfl rfl aO rfl ?_ | refine st_gd rfl rfl (fun h => ?_) (fun h => ?_)) | (show oN; first | refine c_nil (x_then ?_) | refine c_nil ?_) | (show oC; first | refine c_seq ?_ | refine c_region ?_ | refine c_skip (x_then ?_) | refine c_block ?_ | refine c_ret ?_ | refine c_exit ?_ | refine c_false rfl ?_ | refine c_if rfl (fun h => ?_) (fun h => ?_)) | (show AT _ _ _ _; first | refine x_then ?_ | refine x_then_exit ?_ | refine x_blk_exit rfl ?_ | refine x_blk ?_))
    · exact x_nx ((ds ++ [min left y], a6, c6), left - min left y, i, ch) (by simp only [List.length_append, List.length_singleton]; repeat' (first | exact Sub.nil | refine Sub.cons rfl ?_ | refine Sub.consi rfl om ?_)) ⟨⟨by simp only [List.length_append, List.length_singleton]; omega, by simp only [List.sum_append, List.sum_cons, List.sum_nil]; omega, by simp only; omega⟩, inP_app hin om, hi⟩ (fun w' c' => by rw [List.length_append]; exact c') (by simp only [List.length_append, List.length_singleton]; omega)
    all_goals exact x_ret1 Tryz.results175 (res_tmp rfl) (fun w' c' => ⟨_, _, rfl, ⟨i, ch, _, hi, rfl, ds, a, c, rfl, by omega, hin, by omega, rfl⟩, c'.swap.sub (.cons_cons _ (.cons_cons _ (List.nil_sublist _)))⟩)
theorem hc_mr0 (i : Nat) {M : List Nat} {w0 : World} {H : List HE} {e m c j : Nat} {rs : List Mat} {a : Option Addr} {z : Mat} {x : Int} (hi : H[i]? = some (.own (matsT e rs) (.slice a m c))) (hz : rs[j]? = some z) (hx : z.1 = x) : ∀ w, Hp M w0 H w → w.cell? ⟨ab a, ao a + j * 3, none⟩ = some (iV x) := fun w cw => by
  subst hx
  obtain ⟨a', c', k1, _, _, _, k2⟩ := rd_mats (cw.own_rd hi)
  injection k1 with k5
  subst k5
  obtain ⟨a4, c4, k3, _⟩ := k2 j z hz
  exact k3
theorem hc_mr1 (i : Nat) {M : List Nat} {w0 : World} {H : List HE} {e m c j : Nat} {rs : List Mat} {a : Option Addr} {z : Mat} {x : Int} (hi : H[i]? = some (.own (matsT e rs) (.slice a m c))) (hz : rs[j]? = some z) (hx : z.2.1 = x) : ∀ w, Hp M w0 H w → w.cell? ⟨ab a, ao a + j * 3 + 1, none⟩ = some (iV x) := fun w cw => by
  subst hx
  obtain ⟨a', c', k1, _, _, _, k2⟩ := rd_mats (cw.own_rd hi)
  injection k1 with k5
  subst k5
  obtain ⟨a4, c4, _, k3, _⟩ := k2 j z hz
  exact k3
def SmM (ms : List Mat) : Prop := ∀ (j : Nat) (m : Mat), ms[j]? = some m → ∃ R C : Nat, m.1 = R ∧ m.2.1 = C ∧ R ≤ 1000 ∧ C ≤ 1000 ∧ m.2.2.length ≤ 1048576
theorem smM_set {ms : List Mat} {j : Nat} {m : Mat} (h : SmM ms) (hm : ∃ R C : Nat, m.1 = R ∧ m.2.1 = C ∧ R ≤ 1000 ∧ C ≤ 1000 ∧ m.2.2.length ≤ 1048576) : SmM (ms.set j m) := fun k x hx => by
  rw [List.getElem?_set] at hx
  split at hx
  · split at hx
    · simp at hx; subst hx; exact hm
    · simp at hx
  · exact h k x hx
theorem zMs_sm {q : Qv} {d : List Int} (h : ArrP q d) : SmM (zMs q d q.2.1.length) := fun j m hm => by
  have hj : j < q.2.1.length := by
    have := (List.getElem?_eq_some_iff.1 hm).1
    simpa using this
  obtain ⟨f, t, dt, df, _, _, _, _, _, _, h1, h2, h3⟩ := h.at hj
  have : m = zM q d j := by
    simp [zMs, hj] at hm; exact hm.symm
  rw [this, h3]
  refine ⟨dt, df, rfl, rfl, h1, h2, ?_⟩
  have := Nat.mul_le_mul h1 h2
  simp only [mk_length]
  omega
structure RepQ (q : Qv) (p : Int) (r : Rp) : Prop where
  ep : r.p = p
  eq : r.q = q
  ed : DimsP q r.d
  em : r.m.length = q.2.1.length
  es : SmM r.m
theorem bld_rp2 (p r : Int) (a0 a1 : Option Addr) (m0 c0 m1 c1 : Nat) (w : World) : (Instr.build 29 #[(0, iV p), (1, .agg #[iV r, .slice a0 m0 c0, .slice a1 m1 c1])]).run Tryz.prog w = .ok (.agg #[iV p, iV r, .slice a0 m0 c0, .slice a1 m1 c1, .slice none 0 0, .slice none 0 0]) w := by kernel_rfl
def OfG (p : Int) (q : Qv) (u0 u1 : Value) (v : Value) (H : List HE) : Prop := (∃ r, RepQ q p r ∧ GivesR r v H) ∨ (¬ QuivP q ∧ v = .agg #[iV p, iV q.1, u0, u1, .slice none 0 0, .slice none 0 0] ∧ H = [])
theorem l8Of_ok {w1 : World} {M1 : List Nat} {H1 : List HE} {w : World} {M' : List Nat} {u : Value} {b i : Nat} {h : Int} {q : Qv} {u0 u1 : Value} (p : Int) (most : Nat) (hm : most ≤ 2) (hl : Lent M1 w1 (cu u b i h) H1 M' w) (hc : CodeF w1 M1 u) (hi : i ≤ vlen u) (h0 : RdOut w M' (iT q.2.1) u0) (h1 : RdOut w M' (iT q.2.2) u1) :
    DoesB Tryz.prog 170 [cuV b, iV p, .agg #[iV q.1, u0, u1], iV most] w M' (Gcu u b (OfG p q u0 u1)) := by
  have hc2 := lent_code hl hc
  have h0' := h0
  have h1' := h1
  obtain ⟨a0, c0, rfl, hs0, hg0⟩ := h0'.intsO
  obtain ⟨a1, c1, rfl, hs1, hg1⟩ := h1'.intsO
  refine fnb_lent Tryz.func170 rfl Tryz.ntmps170 rfl hl ?_
  repeat' (first | (show oL; first | refine sMv rfl rfl ?_ | refine sLb 1 tabs rfl rfl rfl rfl rfl ?_ | (show oA (.unOp _ _ _); refine st_y (y_notd rfl) rfl ?_) | (show oA (.call _); (refine m_call (ent_of Tryz.func77 kr rfl) rfl rfl (fun w c => spec_IsQuiver_ok (q := q) (h0.rd c) (h1.rd c)) ?_; rintro v H' ⟨rfl, rfl⟩)) | (show oA (.store _ _ _); refine m_storeb 0 tabs rfl rfl rfl rfl rfl rfl rfl ?_) | (show oA (.box _ _); refine m_box rfl rfl (fun b4 hb4 => ?_)) | (show oA (.alloc _); refine m_alloc tabs rfl rfl (fun b8 hb8 => ?_)) | (show oA (.build _ _); refine st_y (y_bld2 (bld_rp2 _ _ _ _ _ _ _ _) rfl rfl) rfl ?_)) | refine xNt ?_ | (show oC; first | refine c_seq ?_ | refine c_region ?_ | refine c_skip (x_then ?_) | refine c_ret ?_ | refine c_ifnd rfl (fun h => ?_) (fun h => ?_)) | (show AT _ _ _ _; refine x_then_ret ?_))
  · exact x_ret1 Tryz.results170 (res_cellb 0 tabs rfl rfl rfl rfl) (fun wz cz => ⟨_, _, rfl, ⟨i, _, [], hi, rfl, .inr ⟨h, rfl, rfl⟩⟩, cz.sub (.cons _ (.cons _ (.cons_cons _ (List.nil_sublist _))))⟩)
  · have hQ : QuivP q := h
    refine c_all (Hp M' w [.blk b4 #[iV q.1, .slice a0 q.2.1.length c0, .slice a1 q.2.2.length c1] 26]) kr (fun _ c => Hp.drew c) ?_
    refine fl_begin 7 rfl tabs rfl rfl ?_
    refine fl_take 0 rfl kr kr kr kr kr kr (by exact y_move rfl) rfl sS ?_
    refine fl_take 1 rfl kr kr kr kr kr kr (by exact y_loadb 0 tabs rfl rfl rfl rfl) rfl sS ?_
    refine fl_take 2 rfl kr kr kr kr kr kr (by exact y_move rfl) rfl sS ?_
    refine fl_take 3 rfl kr kr kr kr kr kr (by exact y_loadb 0 tabs rfl rfl rfl rfl) rfl sS ?_
    refine fl_take 4 rfl kr kr kr kr kr kr (by exact y_move rfl) rfl sS ?_
    refine fl_step 5 rfl rfl rfl tabs rfl rfl rfl kr kr kr (stp_callL 2 (ent_of Tryz.func175 kr rfl) rfl rfl rfl (fun E w M' hl => l8Dims_ok most om hl hc2 hi)) (fun w' c' => c'.sub (.cons _ (.cons_cons _ (List.nil_sublist _)))) (by rintro v H1 ⟨H0, ⟨i, ch, _, hi, rfl, ds, a, c, rfl, hds, hin, hsum, rfl⟩, rfl⟩ w' c'; exact c'.sub (.cons _ (.cons _ (.cons _ (.cons_cons _ (List.nil_sublist _)))))) ?_
    rintro v H1 ⟨H0, ⟨i, ch, _, hi, rfl, ds, a, c, rfl, hds, hin, hsum, rfl⟩, rfl⟩
    have hD : DimsP q ds := ⟨hQ, by have := hQ.1; omega, fun x hx => by have := hin x hx; omega, hsum⟩
    refine fl_step 6 rfl rfl rfl tabs rfl rfl rfl kr kr kr (stf_call (ent_of Tryz.func147 kr rfl) rfl rfl (fun w c => l8Zero_ok (p := p) (q := q) (d := ds) (h0.rd c) (h1.rd c) (c.own_rd (i := 1) rfl) hD.arr)).stp (fun w' c' => c'.sub (.cons _ (.cons _ (.cons _ (.cons_cons _ (List.nil_sublist _)))))) (by rintro v H1 ⟨H0, ⟨aF, cF, aT, cT, ad, cd, am, cm, rfl, hsF, hsT, hsd, hsm, rfl⟩, rfl⟩ w' c'; exact c'.sub (.cons _ (.cons _ (.cons _ (.cons _ (.cons _ (.cons _ (.cons _ (.cons_cons _ (List.nil_sublist _)))))))))) ?_
    rintro v H1 ⟨H0, ⟨aF, cF, aT, cT, ad, cd, am, cm, rfl, hsF, hsT, hsd, hsm, rfl⟩, rfl⟩
    refine fl_end rfl tabs rfl rfl rfl kr sS (fun bf hbf => ?_)
    refine h_only 8 rfl kr ?_
    first | (refine m_storeb 0 tabs rfl rfl rfl rfl rfl rfl rfl ?_) | (refine m_storeb 0 tabs rfl rfl rfl rfl rfl rfl rfl ?_)
    refine c_nil (x_one (h_keep sS ?_))
    refine h_end kr ?_
    repeat' (first | (show oL; first | refine sAs rfl rfl ?_) | refine xNt ?_ | (show oC; first | refine c_seq ?_ | refine c_region ?_ | refine c_block ?_) | (show AT _ _ _ _; refine x_then ?_))
    have hzl : (zMs q ds q.2.1.length).length = q.2.1.length := by simp
    simp only [zeroR, hzl] at hsF hsT hsd hsm ⊢
    refine c_loopH (α := List Mat × Nat × Nat × Int) [0, 1, 8, 9] (fun s => [(10, iV s.2.1)]) (fun s => (s.1.length = q.2.1.length ∧ s.2.1 ≤ q.2.1.length) ∧ SmM s.1 ∧ s.2.2.1 ≤ vlen u) (fun s => [.own (matsT 41 s.1) (.slice am q.2.1.length cm), cu u b s.2.2.1 s.2.2.2, .blk bf #[iV p, iV q.1, .slice aF q.2.1.length cF, .slice aT q.2.2.length cT, .slice ad ds.length cd, .slice am q.2.1.length cm] 29, .own (iT ds) (.slice ad ds.length cd), .own (iT q.2.2) (.slice aT q.2.2.length cT), .own (iT q.2.1) (.slice aF q.2.1.length cF), .blk b8 #[iV 0, iV 0, .slice none 0 0, .slice none 0 0, .slice none 0 0, .slice none 0 0] 29]) (fun s => q.2.1.length - s.2.1) (zMs q ds q.2.1.length, 0, i, ch) rfl sB ?_ ?_ ?_
    · exact ⟨⟨hzl, Nat.zero_le _⟩, zMs_sm hD.arr, hi⟩
    · intro w' c'
      exact ((c'.front (i := 5) rfl).front (i := 2) rfl).sub (.cons_cons _ (.cons_cons _ (.cons_cons _ (.cons_cons _ (.cons_cons _ (.cons_cons _ (.cons _ (.cons_cons _ (List.nil_sublist _)))))))))
    · rintro ⟨ms, k, i, ch⟩ ⟨⟨hml, hk⟩, hsm2, hi⟩
      simp only at hml hk hsm2 hi ⊢
      have hq6 := hQ.2.1
      by_cases hin2 : k < q.2.1.length
      · obtain ⟨z, hz⟩ : ∃ z, ms[k]? = some z := ⟨_, List.getElem?_eq_getElem om⟩
        obtain ⟨R, C, e1, e2, hR, hC, _⟩ := hsm2 k z hz
        have hRC := Nat.mul_le_mul hR hC
        repeat' (first | (show oL; first | refine sMv rfl rfl ?_ | refine sFd tabs rfl rfl rfl rfl ?_ | refine sLd 2 tabs rfl rfl rfl rfl rfl ?_ | refine sLs rfl rfl rfl ?_ | refine sLn tabs rfl rfl rfl ?_) | refine xNt ?_ | (show oC; first | refine c_seq ?_ | refine c_region ?_ | refine c_skip (x_then ?_) | refine c_block ?_ | refine c_ift rfl aO ?_))
        refine c_mixR (Hp M' w [.own (matsT 41 ms) (.slice am q.2.1.length cm), .blk bf #[iV p, iV q.1, .slice aF q.2.1.length cF, .slice aT q.2.2.length cT, .slice ad ds.length cd, .slice am q.2.1.length cm] 29]) 18 kr kr kr kr kr (fun _ c => Hp.drew c) ?_
        refine h_take 0 rfl kr kr kr (by exact y_field tabs rfl rfl rfl) rfl sS ?_
        refine h_take 1 rfl kr kr kr (by exact y_load tabs rfl rfl (hc_blk 1 rfl rfl)) rfl sS ?_
        refine h_take 2 rfl kr kr kr (by exact y_move rfl) rfl sS ?_
        refine h_take 3 rfl kr kr kr (by exact y_move rfl) rfl sS ?_
        refine h_take 4 rfl kr kr kr (by exact y_move rfl) rfl sS ?_
        refine h_take 5 rfl kr kr kr (by exact y_field tabs rfl rfl rfl) rfl sS ?_
        refine h_take 6 rfl kr kr kr (by exact y_load tabs rfl rfl (hc_blk 1 rfl rfl)) rfl sS ?_
        refine h_take 7 rfl kr kr kr (by exact y_move rfl) rfl sS ?_
        refine h_take 8 rfl kr kr kr (by exact y_ixa tabs rfl rfl rfl hsm om om) rfl sS ?_
        refine h_take 9 rfl kr kr kr (by exact y_field tabs rfl rfl rfl) rfl sS ?_
        refine h_take 10 rfl kr kr kr (by exact y_load tabs rfl rfl (hc_mr0 0 rfl hz e1)) rfl sS ?_
        refine h_take 11 rfl kr kr kr (by exact y_field tabs rfl rfl rfl) rfl sS ?_
        refine h_take 12 rfl kr kr kr (by exact y_load tabs rfl rfl (hc_blk 1 rfl rfl)) rfl sS ?_
        refine h_take 13 rfl kr kr kr (by exact y_move rfl) rfl sS ?_
        refine h_take 14 rfl kr kr kr (by exact y_ixa tabs rfl rfl rfl hsm om om) rfl sS ?_
        refine h_take 15 rfl kr kr kr (by exact y_field tabs rfl rfl rfl) rfl sS ?_
        refine h_take 16 rfl kr kr kr (by exact y_load tabs rfl rfl (hc_mr1 0 rfl hz e2)) rfl sS ?_
        refine h_only 17 rfl kr ?_
        (refine m_callL 1 (ent_of Tryz.func109 kr rfl) rfl rfl rfl (fun w M' hl => l3Random_ok p (R := R) (C := C) hl hc2 hi hR hC) ?_; rintro v H' ⟨i, ch, _, hi, rfl, xs, ax, cx, rfl, hx, rfl⟩)
        refine c_nil (x_one (h_keep sS ?_))
        refine h_end kr ?_
        repeat' (first | (show oL; first | refine sMv rfl rfl ?_ | refine sAs rfl rfl ?_ | (show oA (.indexAddr _ _ _); refine st_y (y_ixa tabs rfl rfl rfl hsm om om) rfl ?_) | refine sAd rfl rfl om rfl ?_ | (show oA (.store _ _ _); refine m_storeT tabs (m := q.2.1.length) (tn := matT ((R : Int), (C : Int), xs)) (j := k) rfl rfl rfl rfl rfl rfl (by decide) (by rw [flatMap_length matT_length, hml]) hin2 (fun w c => ((c.front (i := 1) rfl).mat (u0 := iV (R : Int)) (u1 := iV (C : Int))).front (i := 2) rfl) ?_)) | (show oN; first | refine c_nil (x_then ?_) | refine c_nil ?_) | (show oC; refine c_region ?_) | (show AT _ _ _ _; first | refine x_then ?_ | refine x_blk ?_))
        refine x_nx (ms.set k ((R : Int), (C : Int), xs), k + 1, i, ch) sB ⟨⟨by simp only [List.length_set]; exact hml, by simp only; omega⟩, smM_set hsm2 ⟨R, C, rfl, rfl, hR, hC, by simp only; omega⟩, hi⟩ (fun w' c' => ?_) (by simp only; omega)
        rw [flatMap_set matT_length _ _ _ om] at c'
        exact c'
      · have : k = q.2.1.length := by omega
        subst this
        repeat' (first | (show oL; first | refine sMv rfl rfl ?_ | refine sFd tabs rfl rfl rfl rfl ?_ | (show oA (.load _ _); first | refine sLd 2 tabs rfl rfl rfl rfl rfl ?_ | refine sLb 2 tabs rfl rfl rfl rfl rfl ?_) | refine sLs rfl rfl rfl ?_ | refine sLn tabs rfl rfl rfl ?_ | (show oA (.store _ _ _); refine m_storeb 6 tabs rfl rfl rfl rfl rfl rfl rfl ?_)) | refine xNt ?_ | (show oC; first | refine c_seq ?_ | refine c_region ?_ | refine c_ret ?_ | refine c_exit ?_ | refine c_iff rfl nN ?_) | (show AT _ _ _ _; first | refine x_then ?_ | refine x_then_exit ?_ | refine x_blk_exit rfl ?_))
        exact x_ret1 Tryz.results170 (res_cellb 6 tabs rfl rfl rfl rfl) (fun wz cz => ⟨_, _, rfl, ⟨i, ch, _, hi, rfl, .inl ⟨⟨p, q, ds, ms⟩, ⟨rfl, rfl, hD, hml, hsm2⟩, aF, cF, aT, cT, ad, cd, am, cm, by simp only [hml], hsF, hsT, hsd, by simp only [hml]; exact hsm, by simp only [hml]⟩⟩, (cz.swap.sub (.cons_cons _ (.cons_cons _ (.cons _ (.cons_cons _ (.cons_cons _ (.cons_cons _ (List.nil_sublist _))))))))⟩)
end Go.Proofs.YtdnhmnnccfoliaaGreatDoor

namespace Go.Proofs.YtdnhmnnccfoliaaGreatDoor
open Go.Lg Go.Proofs Go.RowKit
attribute [local irreducible] Code.wp wpList bodyPost Exit.then Exit.inBlock Hp Again Calls Y AT ResV QT Qn QI wpAny wpAnyQ
set_option maxRecDepth 20000
set_option maxHeartbeats 4000000

structure BndR (r : Rp) : Prop where
  f : r.q.2.1.length ≤ 7
  t : r.q.2.2.length ≤ 7
  d : r.d.length ≤ 7
  m : r.m.length ≤ 7
  c : ∀ m ∈ r.m, m.2.2.length ≤ 1048576
theorem RepQ.bnd {q : Qv} {p : Int} {r : Rp} (h : RepQ q p r) : BndR r := by
  have hQ := h.ed.1
  refine ⟨by rw [h.eq]; have := hQ.2.1; omega, by rw [h.eq]; have := hQ.2.1; have := hQ.2.2.1; omega, by have := h.ed.2.1; have := hQ.1; omega, by rw [h.em]; have := hQ.2.1; omega, fun m hm => by
    obtain ⟨j, hj, e⟩ := List.getElem_of_mem hm
    obtain ⟨_, _, _, _, _, _, h6⟩ := h.es j m (by rw [List.getElem?_eq_getElem hj, e])
    exact h6⟩
theorem OfG.all {p : Int} {q : Qv} {a a' : Option Addr} {c c' : Nat} {v : Value} {H : List HE} (h : OfG p q (.slice a q.2.1.length c) (.slice a' q.2.2.length c') v H) (hs : SA a q.2.1.length) (hs' : SA a' q.2.2.length) (hB : QivB q) :
    ∃ r a0 c0 a1 c1 a2 c2 a3 c3, v = .agg #[iV r.p, iV r.q.1, .slice a0 r.q.2.1.length c0, .slice a1 r.q.2.2.length c1, .slice a2 r.d.length c2, .slice a3 r.m.length c3] ∧ (SA a0 r.q.2.1.length ∧ SA a1 r.q.2.2.length ∧ SA a2 r.d.length ∧ SA a3 r.m.length) ∧ BndR r ∧ (r.p = p ∧ r.d.length ≤ 5) ∧
      ∀ (M : List Nat) (w0 w : World) (x y : HE) (HX : List HE), Hp M w0 (x :: H ++ (y :: .own (iT q.2.2) (.slice a' q.2.2.length c') :: .own (iT q.2.1) (.slice a q.2.1.length c) :: HX)) w →
        Hp M w0 (.own (matsT 41 r.m) (.slice a3 r.m.length c3) :: .own (iT r.d) (.slice a2 r.d.length c2) :: .own (iT r.q.2.2) (.slice a1 r.q.2.2.length c1) :: .own (iT r.q.2.1) (.slice a0 r.q.2.1.length c0) :: x :: y :: HX) w := by
  rcases h with ⟨r, hr, a0, c0, a1, c1, a2, c2, a3, c3, rfl, h0, h1, h2, h3, rfl⟩ | ⟨_, rfl, rfl⟩
  · exact ⟨r, a0, c0, a1, c1, a2, c2, a3, c3, rfl, ⟨h0, h1, h2, h3⟩, hr.bnd, ⟨hr.ep, by have := hr.ed.2.1; have := hr.ed.1.1; omega⟩, fun M w0 w x y HX c => ((((c.front (i := 4) rfl).front (i := 4) rfl).front (i := 4) rfl).front (i := 4) rfl).sub (.cons_cons _ (.cons_cons _ (.cons_cons _ (.cons_cons _ (.cons_cons _ (.cons_cons _ (.cons _ (.cons _ (List.Sublist.refl _)))))))))⟩
  · exact ⟨⟨p, q, [], []⟩, a, c, a', c', none, 0, none, 0, rfl, ⟨hs, hs', .inl rfl, .inl rfl⟩, ⟨hB.1, hB.2.1, by simp, by simp, by simp⟩, ⟨rfl, by simp⟩, fun M w0 w x y HX c => Hp.nilp _ _ (Hp.nilp _ _ ((c.front (i := 3) rfl).front (i := 3) rfl))⟩
def GivesRp (φ : Rp → Prop) (v : Value) (H : List HE) : Prop := ∃ r, φ r ∧ GivesR r v H
theorem l8Any_ok {w1 : World} {M1 : List Nat} {H1 : List HE} {w : World} {M' : List Nat} {u : Value} {b i : Nat} {h : Int} (hl : Lent M1 w1 (cu u b i h) H1 M' w) (hc : CodeF w1 M1 u) (hi : i ≤ vlen u) :
    DoesB Tryz.prog 130 [cuV b] w M' (Gcu u b (GivesRp BndR)) := by
  have hc2 := lent_code hl hc
  have tok0 : True := trivial
  have tok1 : True := trivial
  refine fnb_lent Tryz.func130 rfl Tryz.ntmps130 rfl hl ?_
  repeat' (first | (show oL; first | refine sMv rfl rfl ?_ | refine sAs rfl rfl ?_ | refine sFd tabs rfl rfl rfl rfl ?_ | (show oA (.load _ _); first | refine sLd 1 tabs rfl rfl rfl rfl rfl ?_ | refine sLb 0 tabs rfl rfl rfl rfl rfl ?_ | refine sLb 1 tabs rfl rfl rfl rfl rfl ?_) | (show oA (.binOp _ _ _ _ _); first | refine st_y (y_gtr rfl rfl) rfl ?_ | refine st_y (y_eql rfl rfl) rfl ?_) | (show oA (.call _); first | (refine m_callL 1 (ent_of Tryz.func98 kr rfl) rfl rfl rfl (fun w M' hl => l2Prime_ok hl hc2 hi) ?_; rintro v H' ⟨i, h, _, hi, rfl, p, rfl, hp, rfl⟩) | (refine m_callL 0 (ent_of Tryz.func169 kr rfl) rfl rfl rfl (fun w M' hl => l6Any_ok hl hc2 hi) ?_; rintro v H' ⟨i, h, _, hi, rfl, q, a, c, a', c', rfl, hq, rfl⟩; refine AT.fact (own_sl 1 rfl) (fun hsT => ?_); obtain ⟨_, _, eT, hsT⟩ := hsT; cases eT; refine AT.fact (own_sl 2 rfl) (fun hsF => ?_); obtain ⟨_, _, eF, hsF⟩ := hsF; cases eF) | (refine m_callL 1 (ent_of Tryz.func170 kr rfl) rfl rfl rfl (fun w M' hl => l8Of_ok (q := q) p 2 (by decide) hl hc2 hi (hl.own 2 rfl) (hl.own 1 rfl)) ?_; rintro v H' ⟨i, h, H0, hi, rfl, hO⟩; obtain ⟨r, a0, c0, a1, c1, a2, c2, a3, c3, rfl, ⟨s0, s1, s2, s3⟩, hB, ⟨hrp, hd5⟩, hcl⟩ := hO.all hsF hsT hq; refine AT.cls (fun w cz => hcl _ _ _ _ _ _ cz) ?_) | (refine m_callL 5 (ent_of Tryz.func100 kr rfl) rfl rfl rfl (fun w M' hl => l1BelowN_ok 14 (by decide) hl hc2 hi) ?_; rintro v H' ⟨i, ch, _, hi, rfl, k, rfl, hk, rfl⟩) | refine sLn tabs rfl rfl rfl ?_) | (show oA (.store _ _ _); refine m_storeb 0 tabs rfl rfl rfl rfl rfl rfl rfl ?_) | (show oA (.alloc _); first | (have _t := tok0; refine m_alloc tabs rfl rfl (fun b0 hb0 => ?_); clear _t tok0) | (have _t := tok1; refine m_alloc tabs rfl rfl (fun bq hbq => ?_); clear _t tok1) | refine m_alloc tabs rfl rfl (fun b2 hb2 => ?_))) | refine xNt ?_ | (show oC; first | refine c_seq ?_ | refine c_region ?_ | refine c_skip (x_blk ?_) | refine c_block ?_ | refine c_if rfl (fun h => ?_) (fun h => ?_)) | (show AT _ _ _ _; refine x_then ?_))
  · skip
    refine AT.cls (C' := Hp _ _ [cu u b i ch, .blk b2 #[iV r.p, iV r.q.1, .slice a0 r.q.2.1.length c0, .slice a1 r.q.2.2.length c1, .slice a2 r.d.length c2, .slice a3 r.m.length c3] 29, .own (matsT 41 r.m) (.slice a3 r.m.length c3), .own (iT r.d) (.slice a2 r.d.length c2), .own (iT r.q.2.2) (.slice a1 r.q.2.2.length c1), .own (iT r.q.2.1) (.slice a0 r.q.2.1.length c0), .blk b0 #[iV 0, iV 0, .slice none 0 0, .slice none 0 0, .slice none 0 0, .slice none 0 0] 29]) (fun w' c' => c'.sub sL) ?_
    repeat' (first | (show oL; first | refine sFd tabs rfl rfl rfl rfl ?_ | refine sLb 2 tabs rfl rfl rfl rfl rfl ?_ | (show oA (.call _); refine m_pushi 3 tabs rfl rfl rfl rfl rfl om (fun a6 c6 => ?_)) | (show oA (.store _ _ _); first | refine m_storef 2 tabs rfl rfl rfl rfl rfl rfl ?_ | refine m_storeb 6 tabs rfl rfl rfl rfl rfl rfl rfl ?_) | (show oA (.buildSlice _ _ _); refine m_build1 tabs (us := [iV 1]) rfl rfl rfl rfl (by decide) rfl (fun g6 hg6 => ?_))) | (show oN; first | refine c_nil (x_then ?_) | refine c_nil ?_) | (show oC; first | refine c_seq ?_ | refine c_region ?_ | refine c_ret ?_) | (show AT _ _ _ _; first | refine x_then ?_ | refine x_blk ?_))
    refine AT.fact (own_sl 0 rfl) (fun hs6 => ?_)
    obtain ⟨_, _, e6, hs6⟩ := hs6
    injection e6 with k6
    rw [← k6] at hs6
    exact x_ret1 Tryz.results130 (res_cellb 6 tabs rfl rfl rfl rfl) (fun wz cz => ⟨_, _, rfl, ⟨i, ch, _, hi, rfl, ⟨r.p, r.q, r.d ++ [1], r.m⟩, ⟨hB.f, hB.t, by simp only [List.length_append, List.length_singleton]; omega, hB.m, hB.c⟩, a0, c0, a1, c1, a6, c6, a3, c3, by simp only [List.length_append, List.length_singleton]; rfl, s0, s1, hs6, s3, rfl⟩, by
      simp only [List.length_append, List.length_singleton]
      exact (cz.swap.front (i := 3) rfl).swap.sub (.cons_cons _ (.cons_cons _ (.cons_cons _ (.cons _ (.cons_cons _ (.cons_cons _ (List.nil_sublist _)))))))⟩)
  · skip
    refine AT.cls (C' := Hp _ _ [cu u b i ch, .blk b2 #[iV r.p, iV r.q.1, .slice a0 r.q.2.1.length c0, .slice a1 r.q.2.2.length c1, .slice a2 r.d.length c2, .slice a3 r.m.length c3] 29, .own (matsT 41 r.m) (.slice a3 r.m.length c3), .own (iT r.d) (.slice a2 r.d.length c2), .own (iT r.q.2.2) (.slice a1 r.q.2.2.length c1), .own (iT r.q.2.1) (.slice a0 r.q.2.1.length c0), .blk b0 #[iV 0, iV 0, .slice none 0 0, .slice none 0 0, .slice none 0 0, .slice none 0 0] 29]) (fun w' c' => c'.sub sL) ?_
    refine c_mixR (Hp M' w [.blk b2 #[iV r.p, iV r.q.1, .slice a0 r.q.2.1.length c0, .slice a1 r.q.2.2.length c1, .slice a2 r.d.length c2, .slice a3 r.m.length c3] 29]) 5 kr kr kr kr kr (fun _ c => Hp.drew c) ?_
    refine h_take 0 rfl kr kr kr (by exact y_field tabs rfl rfl rfl) rfl sS ?_
    refine h_take 1 rfl kr kr kr (by exact y_load tabs rfl rfl (hc_blk 0 rfl rfl)) rfl sS ?_
    refine h_take 2 rfl kr kr kr (by exact y_move rfl) rfl sS ?_
    refine h_take 3 rfl kr kr kr (by exact y_move rfl) rfl sS ?_
    refine h_only 4 rfl kr ?_
    (refine m_callL 0 (ent_of Tryz.func99 kr rfl) rfl rfl rfl (fun w M' hl => l3Any_ok p hl hc2 hi) ?_; rintro v H' ⟨i, ch, _, hi, rfl, m, a5, c5, rfl, hm, rfl⟩)
    refine c_nil (x_one (h_keep sS ?_))
    refine h_end kr ?_
    repeat' (first | (show oL; first | refine sLb 2 tabs rfl rfl rfl rfl rfl ?_ | (show oA (.indexAddr _ _ _); refine st_y (y_ixa tabs rfl rfl rfl s3 om om) rfl ?_) | (show oA (.store _ _ _); first | refine m_storeT tabs (m := r.m.length) (tn := matT m) (j := 0) rfl rfl rfl rfl rfl rfl (by decide) (by rw [flatMap_length matT_length]) om (fun w c => ((c.front (i := 1) rfl).mat (u0 := iV m.1) (u1 := iV m.2.1)).front (i := 3) rfl) ?_ | refine m_storeb 6 tabs rfl rfl rfl rfl rfl rfl rfl ?_)) | (show oN; first | refine c_nil (x_then ?_) | refine c_nil ?_) | (show oC; first | refine c_seq ?_ | refine c_region ?_ | refine c_ret ?_) | (show AT _ _ _ _; first | refine x_then ?_ | refine x_blk ?_))
    exact x_ret1 Tryz.results130 (res_cellb 6 tabs rfl rfl rfl rfl) (fun wz cz => ⟨_, _, rfl, ⟨i, ch, _, hi, rfl, ⟨r.p, r.q, r.d, r.m.set 0 m⟩, ⟨hB.f, hB.t, hB.d, by simp only [List.length_set]; exact hB.m, fun x hx => by
      rcases List.mem_or_eq_of_mem_set hx with hx | rfl
      · exact hB.c x hx
      · omega⟩, a0, c0, a1, c1, a2, c2, a3, c3, by simp only [List.length_set], s0, s1, s2, by simp only [List.length_set]; exact s3, rfl⟩, by
      simp only [List.length_set]
      rw [flatMap_set matT_length _ _ _ om] at cz
      exact cz.swap.sub (.cons_cons _ (.cons_cons _ (.cons _ (.cons_cons _ (.cons_cons _ (.cons_cons _ (List.nil_sublist _)))))))⟩)
  · skip
    refine AT.cls (C' := Hp _ _ [cu u b i ch, .blk b2 #[iV r.p, iV r.q.1, .slice a0 r.q.2.1.length c0, .slice a1 r.q.2.2.length c1, .slice a2 r.d.length c2, .slice a3 r.m.length c3] 29, .own (matsT 41 r.m) (.slice a3 r.m.length c3), .own (iT r.d) (.slice a2 r.d.length c2), .own (iT r.q.2.2) (.slice a1 r.q.2.2.length c1), .own (iT r.q.2.1) (.slice a0 r.q.2.1.length c0), .blk b0 #[iV 0, iV 0, .slice none 0 0, .slice none 0 0, .slice none 0 0, .slice none 0 0] 29]) (fun w' c' => c'.sub sL) ?_
    repeat' (first | (show oL; first | (show oA (.store _ _ _); refine m_storeb 6 tabs rfl rfl rfl rfl rfl rfl rfl ?_)) | refine xNt ?_ | (show oC; refine c_ret ?_))
    exact x_ret1 Tryz.results130 (res_cellb 6 tabs rfl rfl rfl rfl) (fun wz cz => ⟨_, _, rfl, ⟨i, ch, _, hi, rfl, r, hB, a0, c0, a1, c1, a2, c2, a3, c3, rfl, s0, s1, s2, s3, rfl⟩, cz.sub (.cons_cons _ (.cons _ (.cons_cons _ (.cons_cons _ (.cons_cons _ (.cons_cons _ (List.nil_sublist _)))))))⟩)
  · skip
    refine AT.cls (C' := Hp _ _ [cu u b i ch, .blk b2 #[iV r.p, iV r.q.1, .slice a0 r.q.2.1.length c0, .slice a1 r.q.2.2.length c1, .slice a2 r.d.length c2, .slice a3 r.m.length c3] 29, .own (matsT 41 r.m) (.slice a3 r.m.length c3), .own (iT r.d) (.slice a2 r.d.length c2), .own (iT r.q.2.2) (.slice a1 r.q.2.2.length c1), .own (iT r.q.2.1) (.slice a0 r.q.2.1.length c0), .blk b0 #[iV 0, iV 0, .slice none 0 0, .slice none 0 0, .slice none 0 0, .slice none 0 0] 29]) (fun w' c' => c'.sub sL) ?_
    refine c_mixR (Hp M' w [.blk b2 #[iV r.p, iV r.q.1, .slice a0 r.q.2.1.length c0, .slice a1 r.q.2.2.length c1, .slice a2 r.d.length c2, .slice a3 r.m.length c3] 29]) 5 kr kr kr kr kr (fun _ c => Hp.drew c) ?_
    refine h_take 0 rfl kr kr kr (by exact y_field tabs rfl rfl rfl) rfl sS ?_
    refine h_take 1 rfl kr kr kr (by exact y_load tabs rfl rfl (hc_blk 0 rfl rfl)) rfl sS ?_
    refine h_take 2 rfl kr kr kr (by exact y_move rfl) rfl sS ?_
    refine h_only 3 rfl kr ?_
    first | (refine m_buildi tabs [-1, 5, 0] rfl rfl rfl rfl rfl rfl rfl (fun g hg => ?_)) | (refine m_callL 1 (ent_of Tryz.func161 kr rfl) rfl rfl rfl (fun w M' hl => l1PickInt_ok hl hc2 hi (hl.own 0 rfl) (by decide)) ?_; rintro v H' ⟨i, ch, _, hi, rfl, y, rfl, hy, rfl⟩)
    refine c_nil (x_one (h_keep sS ?_))
    refine h_only 4 rfl kr ?_
    first | (refine m_buildi tabs [-1, 5, 0] rfl rfl rfl rfl rfl rfl rfl (fun g hg => ?_)) | (refine m_callL 1 (ent_of Tryz.func161 kr rfl) rfl rfl rfl (fun w M' hl => l1PickInt_ok hl hc2 hi (hl.own 0 rfl) (by decide)) ?_; rintro v H' ⟨i, ch, _, hi, rfl, y, rfl, hy, rfl⟩)
    refine c_nil (x_one (h_keep sS ?_))
    refine h_end kr ?_
    repeat' (first | (show oL; first | refine sLb 2 tabs rfl rfl rfl rfl rfl ?_ | (show oA (.indexAddr _ _ _); refine st_y (y_ix1 tabs (j := 0) rfl rfl rfl s2 rfl om) rfl ?_) | (show oA (.store _ _ _); first | refine m_storeo 4 (j := 0) tabs rfl rfl rfl rfl om ?_ | refine m_storeb 7 tabs rfl rfl rfl rfl rfl rfl rfl ?_)) | (show oN; first | refine c_nil (x_then ?_) | refine c_nil ?_) | (show oC; first | refine c_seq ?_ | refine c_region ?_ | refine c_ret ?_) | (show AT _ _ _ _; first | refine x_then ?_ | refine x_blk ?_))
    exact x_ret1 Tryz.results130 (res_cellb 7 tabs rfl rfl rfl rfl) (fun wz cz => ⟨_, _, rfl, ⟨i, ch, _, hi, rfl, ⟨r.p, r.q, r.d.set 0 y, r.m⟩, ⟨hB.f, hB.t, by simp only [List.length_set]; exact hB.d, hB.m, hB.c⟩, a0, c0, a1, c1, a2, c2, a3, c3, by simp only [List.length_set], s0, s1, by simp only [List.length_set]; exact s2, s3, rfl⟩, by
      simp only [List.length_set]
      exact cz.sub (.cons_cons _ (.cons _ (.cons _ (.cons_cons _ (.cons_cons _ (.cons_cons _ (.cons_cons _ (List.nil_sublist _))))))))⟩)
  · skip
    refine AT.cls (C' := Hp _ _ [cu u b i ch, .blk b2 #[iV r.p, iV r.q.1, .slice a0 r.q.2.1.length c0, .slice a1 r.q.2.2.length c1, .slice a2 r.d.length c2, .slice a3 r.m.length c3] 29, .own (matsT 41 r.m) (.slice a3 r.m.length c3), .own (iT r.d) (.slice a2 r.d.length c2), .own (iT r.q.2.2) (.slice a1 r.q.2.2.length c1), .own (iT r.q.2.1) (.slice a0 r.q.2.1.length c0), .blk b0 #[iV 0, iV 0, .slice none 0 0, .slice none 0 0, .slice none 0 0, .slice none 0 0] 29]) (fun w' c' => c'.sub sL) ?_
    repeat' (first | (show oL; first | (show oA (.store _ _ _); refine m_storeb 6 tabs rfl rfl rfl rfl rfl rfl rfl ?_)) | refine xNt ?_ | (show oC; refine c_ret ?_))
    exact x_ret1 Tryz.results130 (res_cellb 6 tabs rfl rfl rfl rfl) (fun wz cz => ⟨_, _, rfl, ⟨i, ch, _, hi, rfl, r, hB, a0, c0, a1, c1, a2, c2, a3, c3, rfl, s0, s1, s2, s3, rfl⟩, cz.sub (.cons_cons _ (.cons _ (.cons_cons _ (.cons_cons _ (.cons_cons _ (.cons_cons _ (List.nil_sublist _)))))))⟩)
  · skip
    refine AT.cls (C' := Hp _ _ [cu u b i ch, .blk b2 #[iV r.p, iV r.q.1, .slice a0 r.q.2.1.length c0, .slice a1 r.q.2.2.length c1, .slice a2 r.d.length c2, .slice a3 r.m.length c3] 29, .own (matsT 41 r.m) (.slice a3 r.m.length c3), .own (iT r.d) (.slice a2 r.d.length c2), .own (iT r.q.2.2) (.slice a1 r.q.2.2.length c1), .own (iT r.q.2.1) (.slice a0 r.q.2.1.length c0), .blk b0 #[iV 0, iV 0, .slice none 0 0, .slice none 0 0, .slice none 0 0, .slice none 0 0] 29]) (fun w' c' => c'.sub sL) ?_
    repeat' (first | (show oL; first | (show oA (.store _ _ _); refine m_storeb 6 tabs rfl rfl rfl rfl rfl rfl rfl ?_)) | refine xNt ?_ | (show oC; refine c_ret ?_))
    exact x_ret1 Tryz.results130 (res_cellb 6 tabs rfl rfl rfl rfl) (fun wz cz => ⟨_, _, rfl, ⟨i, ch, _, hi, rfl, r, hB, a0, c0, a1, c1, a2, c2, a3, c3, rfl, s0, s1, s2, s3, rfl⟩, cz.sub (.cons_cons _ (.cons _ (.cons_cons _ (.cons_cons _ (.cons_cons _ (.cons_cons _ (List.nil_sublist _)))))))⟩)
end Go.Proofs.YtdnhmnnccfoliaaGreatDoor

namespace Go.Proofs.YtdnhmnnccfoliaaGreatDoor
open Go.Lg Go.Proofs Go.RowKit
attribute [local irreducible] Code.wp wpList bodyPost Exit.then Exit.inBlock Hp Again Calls Y AT ResV QT Qn QI wpAny wpAnyQ
set_option maxRecDepth 20000
set_option maxHeartbeats 4000000

def paT (x : Pa) : List T := [.c (iV x.1), iT x.2]
theorem paT_length (x : Pa) : (paT x).length = 2 := rfl
abbrev pasT (l : List Pa) : T := .s 78 2 (l.flatMap paT)
theorem pas_open {M : List Nat} {w0 : World} {H : List HE} (j : Nat) {o : List Pa} {us : List Value} {q : Nat} {A : Pa} (hi : H[j]? = some (.ownL (o.flatMap paT) us)) (hl : us.length = o.length * 2) (hA : o[q]? = some A) : ∀ w, Hp M w0 H w → ∃ a c, us[q * 2]? = some (iV A.1) ∧ us[q * 2 + 1]? = some (.slice a A.2.length c) := fun w cw => by
  have hq : q < o.length := (List.getElem?_eq_some_iff.1 hA).1
  obtain ⟨x, hx⟩ : ∃ x, us[q * 2]? = some x := ⟨_, List.getElem?_eq_getElem om⟩
  obtain ⟨y, hy⟩ : ∃ y, us[q * 2 + 1]? = some y := ⟨_, List.getElem?_eq_getElem om⟩
  have h1 := Hp.ownL_rd j hi (flatMap_get (q := 0) paT_length hA om) hx cw
  have h2 := Hp.ownL_rd j hi (flatMap_get (q := 1) paT_length hA om) hy cw
  simp only [Rd] at h1
  obtain ⟨a, c, e, _⟩ := Rd.ints h2
  rw [h1] at hx
  rw [e] at hy
  exact ⟨a, c, hx, hy⟩
theorem pas_rd {M : List Nat} {w0 w : World} {H : List HE} (j : Nat) {o : List Pa} {us : List Value} {q : Nat} {A : Pa} {u : Value} (hi : H[j]? = some (.ownL (o.flatMap paT) us)) (hA : o[q]? = some A) (hu : us[q * 2 + 1]? = some u) (c : Hp M w0 H w) : Rd w (iT A.2) u :=
  Hp.ownL_rd j hi (flatMap_get (q := 1) paT_length hA om) hu c
theorem pas_sl (i : Nat) {M : List Nat} {w0 : World} {H : List HE} {l : List Pa} {a : Option Addr} {m c : Nat} (hi : H[i]? = some (.own (pasT l) (.slice a m c))) : ∀ w, Hp M w0 H w → SA a m ∧ m = l.length := fun w cw => by
  obtain ⟨a', m', cap, h1, h2, _, _, h5, _⟩ := Rd.open (by decide) (cw.own_rd hi)
  cases h1
  rw [flatMap_length paT_length] at h5
  exact ⟨h2, by omega⟩
theorem pas_snoc {l : List Pa} {x : Pa} : l.flatMap paT ++ (List.map T.c [iV x.1] ++ [iT x.2]) = (l ++ [x]).flatMap paT := by
  rw [List.flatMap_append]; rfl
theorem bld_pa (r : Int) (a : Option Addr) (m c : Nat) (w : World) : (Instr.build 78 #[(0, iV r), (1, .slice a m c)]).run Tryz.prog w = .ok (.agg #[iV r, .slice a m c]) w := by kernel_rfl
theorem bld_pa0 (r : Int) (w : World) : (Instr.build 78 #[(0, iV r)]).run Tryz.prog w = .ok (.agg #[iV r, .slice none 0 0]) w := by kernel_rfl
theorem blk_own {M : List Nat} {w0 w : World} {H : List HE} {g e k m : Nat} {us : List Value} (hm : us.length = m * k) (h64 : m ≤ 64) (c : Hp M w0 (.blk g us.toArray e :: H) w) : Hp M w0 (.own (.s e k (us.map T.c)) (.slice (some ⟨g, 0, none⟩) m m) :: H) w := by
  refine c.say (H1 := [.own (.s e k (us.map T.c)) (.slice (some ⟨g, 0, none⟩) m m)]) (fun f hf => ?_)
  obtain ⟨h1, rfl⟩ := hf
  refine ⟨[g], List.Perm.refl _, [g], [], rfl, ?_, rfl⟩
  simp only [HE.sat, Own]
  refine .inr ⟨g, m, m, _, [], rfl, h1, by simp [hm], Nat.le_refl _, by unfold maxLen; omega, by simp [hm], ?_, rfl⟩
  rw [List.toList_toArray, List.take_of_length_le om]
  exact OwnL.consts _
theorem pas_one {M : List Nat} {w0 w : World} {H : List HE} {g : Nat} {r : Int} {xs : List Int} {u : Value} (c : Hp M w0 (.blk g #[iV r, u] 78 :: .own (iT xs) u :: H) w) : Hp M w0 (.own (pasT [(r, xs)]) (.slice (some ⟨g, 0, none⟩) 1 1) :: H) w := by
  have h1 := blk_own (us := [iV r, u]) (m := 1) (k := 2) rfl (by decide) c
  exact ((h1.swap.single.free [iV r]).cat.swap).cls
def bdP : Nat → Nat
  | 0 => 0
  | d + 1 => 1 + 6 * bdP d
def GivesPs (d : Nat) (v : Value) (H : List HE) : Prop := ∃ (ps : List Pa) (a : Option Addr) (c : Nat), v = .slice a ps.length c ∧ (1 ≤ ps.length ∧ ps.length ≤ bdP d ∧ ∀ x ∈ ps, x.2.length ≤ d) ∧ H = [.own (pasT ps) (.slice a ps.length c)]
theorem bdP_le : ∀ d, d ≤ 5 → bdP d ≤ 1555
  | 0, _ | 1, _ | 2, _ | 3, _ | 4, _ | 5, _ => by decide
theorem l7From_ok {q : Qv} (hO : OrdP q) : ∀ (d : Nat), d ≤ 5 → ∀ (v : Nat) (w : World) (u0 u1 : Value), Rd w (iT q.2.1) u0 → Rd w (iT q.2.2) u1 → (∃ k, k < q.1.toNat ∧ (ordL q).getD k 0 = v ∧ q.1.toNat ≤ k + d) → Does Tryz.prog 194 [.agg #[iV q.1, u0, u1], iV v] w (GivesPs d)
  | 0, _, v, w, u0, u1, _, _, hk => by obtain ⟨k, h1, _, h2⟩ := hk; omega
  | d + 1, hd, v, w, u0, u1, h0, h1, hk => by
    obtain ⟨k0, hk1, hk2, hk3⟩ := hk
    obtain ⟨_, hol, hor⟩ := ordL_of hO
    have hB := bdP_le d om
    have hF6 := hO.1.2.1
    have hFT := hO.1.2.2.1
    have ih := l7From_ok hO d om
    have ahead : ∀ i, i < q.2.1.length → q.2.1.getD i 0 = (v : Int) → ∃ t : Nat, q.2.2.getD i 0 = (t : Int) ∧ ∃ k, k < q.1.toNat ∧ (ordL q).getD k 0 = (t : Int) ∧ q.1.toNat ≤ k + d := fun i hi e => by
      obtain ⟨a, b, hab, hb, ea, eb⟩ := ord_ahead hO hi
      have hT := inP_get hO.1.2.2.2.2 (show i < q.2.2.length by omega)
      have : a = k0 := ord_one hor.nd om om (by rw [ea, hk2, e])
      exact ⟨(q.2.2.getD i 0).toNat, by omega, b, by omega, by rw [eb]; omega, by omega⟩
    obtain ⟨a0, c0, e0, hs0, _, hm0, hg0⟩ := h0.ints
    subst e0
    obtain ⟨a1, c1, e1, hs1, _, hm1, hg1⟩ := h1.ints
    subst e1
    refine fn_enter Tryz.func194 rfl Tryz.ntmps194 rfl ?_
    repeat' (first | (show oL; first | refine sMv rfl rfl ?_ | refine sAs rfl rfl ?_ | (show oA (.box _ _); refine m_box rfl rfl (fun b hb => ?_)) | (show oA (.buildSlice _ _ _); first | refine m_build0 tabs rfl rfl (fun gb hgb => ?_) | refine m_build1 tabs (us := [iV v, .slice (some ⟨gb, 0, none⟩) 0 0]) rfl rfl rfl rfl (by decide) rfl (fun g5 hg5 => ?_)) | (show oA (.build _ _); refine st_y (y_bld2 (bld_pa _ _ _ _) rfl rfl) rfl ?_)) | refine xNt ?_ | (show oC; first | refine c_seq ?_ | refine c_region ?_ | refine c_block ?_))
    refine AT.cls (C' := Hp [] w [.own (pasT [((v : Int), [])]) (.slice (some ⟨g5, 0, none⟩) 1 1), .blk b #[iV q.1, .slice a0 q.2.1.length c0, .slice a1 q.2.2.length c1] 26]) (fun w' c' => pas_one c') ?_
    refine c_loopH (α := List Pa × Option Addr × Nat × Nat) [1, 2] (fun s => [(5, .slice s.2.1 s.1.length s.2.2.1), (6, iV s.2.2.2)]) (fun s => (s.2.2.2 ≤ q.2.1.length ∧ 1 ≤ s.1.length ∧ s.1.length ≤ 1 + s.2.2.2 * bdP d) ∧ ∀ x ∈ s.1, x.2.length ≤ d + 1) (fun s => [.own (pasT s.1) (.slice s.2.1 s.1.length s.2.2.1), .blk b #[iV q.1, .slice a0 q.2.1.length c0, .slice a1 q.2.2.length c1] 26]) (fun s => q.2.1.length - s.2.2.2) ([((v : Int), [])], some ⟨g5, 0, none⟩, 1, 0) rfl sB ?_ ?_ ?_
    · refine ⟨⟨Nat.zero_le _, Nat.le_refl _, by simp⟩, fun x hx => ?_⟩
      simp only [List.mem_singleton] at hx
      subst hx
      exact Nat.zero_le _
    · exact fun w' c' => c'
    · rintro ⟨ps, ap, cp, i⟩ ⟨⟨hi, hp1, hp2⟩, hpx⟩
      simp only at hi hp1 hp2 hpx ⊢
      by_cases hin : i < q.2.1.length
      · have hin1 : i < q.2.2.length := by omega
        have hmul := Nat.mul_le_mul (show i ≤ 5 by omega) hB
        by_cases hv : q.2.1.getD i 0 = (v : Int)
        · obtain ⟨t, et, hkt⟩ := ahead i hin hv
          have hg1' := hg1 i hin1
          rw [et] at hg1'
          repeat' (first | (show oL; first | refine sMv rfl rfl ?_ | refine sFd tabs rfl rfl rfl rfl ?_ | (show oA (.load _ _); first | refine st_y (y_load tabs rfl rfl (hc_w0 (hg0 i hin))) rfl ?_ | refine sLd 1 tabs rfl rfl rfl rfl rfl ?_) | (show oA (.indexAddr _ _ _); refine st_y (y_ix1 tabs (j := i) rfl rfl rfl hs0 rfl hin) rfl ?_) | (show oA (.binOp _ _ _ _ _); first | refine st_y (y_neqi_e rfl rfl hv) rfl ?_ | refine sLs rfl rfl rfl ?_) | refine sLn tabs rfl rfl rfl ?_) | refine xNt ?_ | (show oC; first | refine c_seq ?_ | refine c_region ?_ | refine c_skip (x_then ?_) | refine c_block ?_ | refine c_false rfl ?_ | refine c_ift rfl aO ?_))
          refine c_all (Hp [] w [.blk b #[iV q.1, .slice a0 q.2.1.length c0, .slice a1 q.2.2.length c1] 26]) kr (fun _ c => Hp.drew c) ?_
          refine h_take 0 rfl kr kr kr (by exact y_loadb 0 tabs rfl rfl rfl rfl) rfl (fun w c => by exact c.drop) ?_
          refine h_take 1 rfl kr kr kr (by exact y_field tabs rfl rfl rfl) rfl (fun w c => by exact c.drop) ?_
          refine h_take 2 rfl kr kr kr (by exact y_load tabs rfl rfl (hc_blk 0 rfl rfl)) rfl (fun w c => by exact c.drop) ?_
          refine h_take 3 rfl kr kr kr (by exact y_move rfl) rfl (fun w c => by exact c.drop) ?_
          refine h_take 4 rfl kr kr kr (by exact y_ix1 tabs (j := i) rfl rfl rfl hs1 rfl hin1) rfl (fun w c => by exact c.drop) ?_
          refine h_take 5 rfl kr kr kr (by exact y_load tabs rfl rfl (hc_w0 hg1')) rfl (fun w c => by exact c.drop) ?_
          refine h_only 6 rfl kr ?_
          (refine m_call (ent_of Tryz.func194 kr rfl) rfl rfl (fun w c => ih t w _ _ (c.rd h0) (c.rd h1) hkt) ?_; rintro v H' ⟨ps2, a2, c2, rfl, ⟨hq1, hq2, hq3⟩, rfl⟩)
          refine c_nil (x_one (h_keep (fun w c => by exact c.drop.drop) ?_))
          refine h_take 7 rfl kr kr kr (by exact y_assign rfl) rfl (fun w c => by exact c.drop.drop) ?_
          refine h_end kr ?_
          repeat' (first | (show oL; first | refine sAs rfl rfl ?_) | refine xNt ?_ | (show oC; first | refine c_seq ?_ | refine c_region ?_ | refine c_block ?_) | (show AT _ _ _ _; refine x_then ?_))
          refine AT.fact (pas_sl 0 rfl) (fun hsl2 => ?_)
          have hs2 := hsl2.1
          refine AT.opn 0 rfl (fun us hus => ?_)
          rw [flatMap_length paT_length] at hus
          refine c_loopH (α := List Pa × Option Addr × Nat × Nat) [1, 2, 6, 7] (fun s => [(5, .slice s.2.1 s.1.length s.2.2.1), (8, iV s.2.2.2)]) (fun s => (s.2.2.2 ≤ ps2.length ∧ s.1.length = ps.length + s.2.2.2) ∧ ∀ x ∈ s.1, x.2.length ≤ d + 1) (fun s => [.own (pasT s.1) (.slice s.2.1 s.1.length s.2.2.1), .own (.s 78 2 (us.map T.c)) (.slice a2 ps2.length c2), .ownL (ps2.flatMap paT) us, .blk b #[iV q.1, .slice a0 q.2.1.length c0, .slice a1 q.2.2.length c1] 26]) (fun s => ps2.length - s.2.2.2) (ps, ap, cp, 0) rfl sB ?_ ?_ ?_
          · exact ⟨⟨Nat.zero_le _, rfl⟩, hpx⟩
          · exact fun w' c' => c'.sel [2, 0, 1, 3] rfl
          · rintro ⟨ps', ap', cp', k⟩ ⟨⟨hk, hpl⟩, hpx'⟩
            simp only at hk hpl hpx' ⊢
            by_cases hkn : k < ps2.length
            · obtain ⟨A, hA⟩ : ∃ A, ps2[k]? = some A := ⟨_, List.getElem?_eq_getElem hkn⟩
              have hAl := hq3 A (List.mem_of_getElem? hA)
              refine AT.fact (pas_open 2 rfl hus hA) (fun hf => ?_)
              obtain ⟨ak, ck, f1, f2⟩ := hf
              repeat' (first | (show oL; first | refine sMv rfl rfl ?_ | refine sAs rfl rfl ?_ | refine sFd tabs rfl rfl rfl rfl ?_ | (show oA (.load _ _); refine st_y (y_load tabs rfl rfl (hc_nmk (q := k * 2 + 1) 2 (by decide) rfl f2)) rfl ?_) | (show oA (.indexAddr _ _ _); refine st_y (y_ixa tabs rfl rfl rfl hs2 om om) rfl ?_) | (show oA (.binOp _ _ _ _ _); first | refine sAd rfl rfl om rfl ?_ | refine sLs rfl rfl rfl ?_) | (show oA (.call _); first | refine m_appi 0 tabs (xs := [(i : Int)]) (ys := A.2) rfl rfl rfl rfl rfl (by simp only [List.length_singleton]; omega) (fun w c => rd_src (pas_rd 3 rfl hA f2 c)) (fun a4 c4 => ?_) | refine m_push1 [iV v] 0 0 tabs (m' := ps'.length) rfl rfl rfl rfl rfl rfl rfl (by rw [flatMap_length paT_length]) (by rw [flatMap_length paT_length]; omega) (by decide) rfl rfl (fun a8 c8 => ?_) | refine sLn tabs rfl rfl rfl ?_) | (show oA (.buildSlice _ _ _); first | refine m_buildi tabs [(i : Int)] rfl rfl rfl rfl rfl rfl rfl (fun g7 hg7 => ?_) | refine m_build1 tabs (us := [iV v, .slice a4 ([(i : Int)].length + A.2.length) c4]) rfl rfl rfl rfl (by decide) rfl (fun g8 hg8 => ?_)) | (show oA (.build _ _); refine st_y (y_bld2 (bld_pa _ _ _ _) rfl rfl) rfl ?_)) | (show oN; first | refine c_nil (x_then ?_) | refine c_nil ?_) | (show oC; first | refine c_seq ?_ | refine c_region ?_ | refine c_skip (x_then ?_) | refine c_block ?_ | refine c_ift rfl aO ?_) | (show AT _ _ _ _; first | refine x_then ?_ | refine x_blk ?_))
              exact x_nx (ps' ++ [((v : Int), [(i : Int)] ++ A.2)], a8, c8, k + 1) (by simp only [List.length_append, List.length_singleton]; exact sB) ⟨⟨by simp only; omega, by simp only [List.length_append, List.length_singleton]; omega⟩, fun x hx => by
                rcases List.mem_append.1 hx with hx | hx
                · exact hpx' x hx
                · simp only [List.mem_singleton] at hx
                  subst hx
                  simp only [List.length_append, List.length_singleton]
                  omega⟩ (fun w' c' => by
                simp only [List.length_append, List.length_singleton]
                have e := pas_snoc (l := ps') (x := ((v : Int), [(i : Int)] ++ A.2))
                simp only [pasT, ← e]
                exact c') (by simp only; omega)
            · have : k = ps2.length := by omega
              subst this
              repeat' (first | (show oL; first | refine sMv rfl rfl ?_ | refine sAs rfl rfl ?_ | (show oA (.binOp _ _ _ _ _); first | refine sAd rfl rfl om rfl ?_ | refine sLs rfl rfl rfl ?_) | refine sLn tabs rfl rfl rfl ?_) | refine xNt ?_ | (show oC; first | refine c_seq ?_ | refine c_region ?_ | refine c_exit ?_ | refine c_iff rfl nN ?_) | (show AT _ _ _ _; first | refine x_then ?_ | refine x_then_exit ?_ | refine x_blk_exit rfl ?_ | refine x_blk ?_))
              exact x_nx (ps', ap', cp', i + 1) sB ⟨⟨by simp only; omega, by simp only; omega, by simp only; rw [Nat.succ_mul]; omega⟩, hpx'⟩ (fun w' c' => c'.sel [0, 3] rfl) (by simp only; omega)
        · repeat' (first | (show oL; first | refine sMv rfl rfl ?_ | refine sAs rfl rfl ?_ | refine sFd tabs rfl rfl rfl rfl ?_ | (show oA (.load _ _); first | refine st_y (y_load tabs rfl rfl (hc_w0 (hg0 i hin))) rfl ?_ | refine sLd 1 tabs rfl rfl rfl rfl rfl ?_) | (show oA (.indexAddr _ _ _); refine st_y (y_ix1 tabs (j := i) rfl rfl rfl hs0 rfl hin) rfl ?_) | (show oA (.binOp _ _ _ _ _); first | refine st_y (y_neqi_ne rfl rfl hv) rfl ?_ | refine sAd rfl rfl om rfl ?_ | refine sLs rfl rfl rfl ?_) | refine sLn tabs rfl rfl rfl ?_) | refine xNt ?_ | (show oC; first | refine c_seq ?_ | refine c_region ?_ | refine c_skip (x_then ?_) | refine c_block ?_ | refine c_exit ?_ | refine c_true rfl ?_ | refine c_ift rfl aO ?_) | (show AT _ _ _ _; first | refine x_then ?_ | refine x_then_exit ?_ | refine x_blk_exit rfl ?_))
          exact x_nx (ps, ap, cp, i + 1) sB ⟨⟨by simp only; omega, hp1, by simp only; rw [Nat.succ_mul]; omega⟩, hpx⟩ (fun w' c' => c') (by simp only; omega)
      · have : i = q.2.1.length := by omega
        subst this
        have hmul := Nat.mul_le_mul_right (bdP d) hF6
        repeat' (first | (show oL; first | refine sMv rfl rfl ?_ | refine sAs rfl rfl ?_ | refine sFd tabs rfl rfl rfl rfl ?_ | refine sLd 1 tabs rfl rfl rfl rfl rfl ?_ | refine sLs rfl rfl rfl ?_ | refine sLn tabs rfl rfl rfl ?_) | refine xNt ?_ | (show oC; first | refine c_seq ?_ | refine c_region ?_ | refine c_ret ?_ | refine c_exit ?_ | refine c_iff rfl nN ?_) | (show AT _ _ _ _; first | refine x_then ?_ | refine x_then_exit ?_ | refine x_blk_exit rfl ?_))
        exact x_ret1 Tryz.results194 (res_tmp rfl) (fun w' c' => ⟨_, _, rfl, ⟨ps, ap, cp, rfl, ⟨hp1, by rw [bdP]; omega, hpx⟩, rfl⟩, c'.sub (.cons_cons _ (List.nil_sublist _))⟩)
end Go.Proofs.YtdnhmnnccfoliaaGreatDoor

namespace Go.Proofs.YtdnhmnnccfoliaaGreatDoor
open Go.Lg Go.Proofs Go.RowKit
attribute [local irreducible] Code.wp wpList bodyPost Exit.then Exit.inBlock Hp Again Calls Y AT ResV QT Qn QI wpAny wpAnyQ
set_option maxRecDepth 20000
set_option maxHeartbeats 4000000

theorem pas_ones (j : Nat) {M : List Nat} {w0 : World} {H : List HE} {o : List Pa} {us : List Value} (hi : H[j]? = some (.ownL (o.flatMap paT) us)) (hl : us.length = o.length * 2) : ∀ w, Hp M w0 H w → ∀ u ∈ us, u.oneCell' = true := fun w cw u hu => by
  obtain ⟨i, hi', e⟩ := List.getElem_of_mem hu
  obtain ⟨A, hA⟩ : ∃ A, o[i / 2]? = some A := ⟨_, List.getElem?_eq_getElem om⟩
  obtain ⟨a, c, h1, h2⟩ := pas_open j hi hl hA w cw
  rcases Nat.mod_two_eq_zero_or_one i with hm | hm
  · have : i = i / 2 * 2 := by omega
    rw [← this, List.getElem?_eq_getElem hi', e] at h1
    cases h1; rfl
  · have : i = i / 2 * 2 + 1 := by omega
    rw [← this, List.getElem?_eq_getElem hi', e] at h2
    cases h2; rfl
def GivesAP (q : Qv) (r : Value) (H : List HE) : Prop := ∃ (ps : List Pa) (a : Option Addr) (c : Nat), r = .tuple #[.slice a ps.length c, .bool (decide (OrdP q))] ∧ ((OrdP q → 1 ≤ ps.length) ∧ ps.length ≤ 7775 ∧ ∀ x ∈ ps, x.2.length ≤ 5) ∧ H = [.own (pasT ps) (.slice a ps.length c)]
theorem AllPaths_ok {w : World} {q : Qv} {u0 u1 : Value} (h0 : Rd w (iT q.2.1) u0) (h1 : Rd w (iT q.2.2) u1) : Does Tryz.prog 173 [.agg #[iV q.1, u0, u1]] w (GivesAP q) := by
  by_cases hO : OrdP q
  · obtain ⟨_, hol, hor⟩ := ordL_of hO
    have hn5 := hO.1.1
    obtain ⟨n, hn⟩ : ∃ n : Nat, q.1 = n := ⟨q.1.toNat, by omega⟩
    have hnn : q.1.toNat = n := by omega
    have hpos : ∀ v : Nat, v < n → ∃ k, k < q.1.toNat ∧ (ordL q).getD k 0 = (v : Int) ∧ q.1.toNat ≤ k + 5 := fun v hv => by
      obtain ⟨k, hk, e⟩ := ord_at (full_mem hor.nd hor.rng hol (v := (v : Int)) om om)
      exact ⟨k, by omega, e, by omega⟩
    have hB : bdP 5 = 1555 := by decide
    refine fn_enter Tryz.func173 rfl Tryz.ntmps173 rfl ?_
    repeat' (first | (show oL; first | refine sAs rfl rfl ?_ | refine sLb 1 tabs rfl rfl rfl rfl rfl ?_ | (show oA (.unOp _ _ _); refine st_y (y_not rfl) rfl ?_) | (show oA (.call _); (refine m_call (ent_of Tryz.func193 kr rfl) rfl rfl (fun w c => spec_IsAcyclic_ok (c.rd h0) (c.rd h1)) ?_; rw [decide_eq_true hO]; rintro v H' ⟨rfl, rfl⟩)) | (show oA (.box _ _); refine m_box rfl rfl (fun b hb => ?_)) | (show oA (.buildSlice _ _ _); refine m_build0 tabs rfl rfl (fun gb hgb => ?_))) | refine xNt ?_ | (show oC; first | refine c_seq ?_ | refine c_region ?_ | refine c_skip (x_then ?_) | refine c_block ?_ | refine c_false rfl ?_))
    refine c_loopH (α := List Pa × Option Addr × Nat × Nat) [1] (fun s => [(4, .slice s.2.1 s.1.length s.2.2.1), (5, iV s.2.2.2)]) (fun s => (s.2.2.2 ≤ n ∧ s.2.2.2 ≤ s.1.length ∧ s.1.length ≤ s.2.2.2 * 1555) ∧ ∀ x ∈ s.1, x.2.length ≤ 5) (fun s => [.own (pasT s.1) (.slice s.2.1 s.1.length s.2.2.1), .blk b #[iV q.1, u0, u1] 26]) (fun s => n - s.2.2.2) ([], some ⟨gb, 0, none⟩, 0, 0) rfl sB ?_ ?_ ?_
    · exact ⟨⟨Nat.zero_le _, Nat.zero_le _, Nat.zero_le _⟩, fun x hx => by simp at hx⟩
    · exact fun w' c' => c'
    · rintro ⟨ps, ap, cp, v⟩ ⟨⟨hv, hp1, hp2⟩, hpx⟩
      simp only at hv hp1 hp2 hpx ⊢
      by_cases hvn : v < n
      · repeat' (first | (show oL; first | refine sMv rfl rfl ?_ | refine sAs rfl rfl ?_ | refine sFd tabs rfl rfl rfl rfl ?_ | (show oA (.load _ _); first | refine sLd 1 tabs rfl rfl rfl rfl rfl ?_ | refine sLb 1 tabs rfl rfl rfl rfl rfl ?_) | (show oA (.binOp _ _ _ _ _); first | refine sAd rfl rfl om rfl ?_ | refine sLs rfl rfl rfl ?_) | (show oA (.call _); first | (refine m_call (ent_of Tryz.func194 kr rfl) rfl rfl (fun w c => l7From_ok hO 5 (by decide) v w _ _ (c.rd h0) (c.rd h1) (hpos v hvn)) ?_; rintro v' H' ⟨ps2, a2, c2, rfl, ⟨hq1, hq2, hq3⟩, rfl⟩; refine AT.fact (pas_sl 0 rfl) (fun hsl2 => ?_); refine AT.opn 0 rfl (fun us hus => ?_); rw [flatMap_length paT_length] at hus; refine AT.fact (pas_ones 1 rfl hus) (fun h1s => ?_)) | refine m_app (k := 2) (ts := ps.flatMap paT) (tn := ps2.flatMap paT) (news := us) (m' := ps.length + ps2.length) (H' := [.blk b #[iV q.1, u0, u1] 26]) tabs rfl rfl rfl rfl hus h1s (by rw [flatMap_length paT_length, flatMap_length paT_length, Nat.add_mul]) (by rw [flatMap_length paT_length, hus]; omega) (by decide) (fun w c => c.sel [2, 1, 3] rfl) (fun w c => .inr ⟨_, hsl2.1.get om, fun j u hu => by rw [Addr.add_lit]; exact hc_nmk 0 (by decide) rfl hu w c⟩) (fun a8 c8 => ?_))) | (show oN; first | refine c_nil (x_then ?_) | refine c_nil ?_) | (show oC; first | refine c_seq ?_ | refine c_region ?_ | refine c_skip (x_then ?_) | refine c_block ?_ | refine c_ift rfl aO ?_) | (show AT _ _ _ _; first | refine x_then ?_ | refine x_blk ?_))
        exact x_nx (ps ++ ps2, a8, c8, v + 1) (by simp only [List.length_append]; exact sB) ⟨⟨by simp only; omega, by simp only [List.length_append]; omega, by simp only [List.length_append]; rw [Nat.succ_mul]; omega⟩, fun x hx => by
          rcases List.mem_append.1 hx with hx | hx
          · exact hpx x hx
          · exact hq3 x hx⟩ (fun w' c' => by simp only [List.length_append, pasT, List.flatMap_append]; exact c') (by simp only; omega)
      · have : v = n := by omega
        subst this
        have hmul := Nat.mul_le_mul_right 1555 (show v ≤ 5 by omega)
        repeat' (first | (show oL; first | refine sMv rfl rfl ?_ | refine sAs rfl rfl ?_ | refine sFd tabs rfl rfl rfl rfl ?_ | refine sLd 1 tabs rfl rfl rfl rfl rfl ?_ | refine sLs rfl rfl rfl ?_) | refine xNt ?_ | (show oC; first | refine c_seq ?_ | refine c_region ?_ | refine c_ret ?_ | refine c_exit ?_ | refine c_iff rfl nN ?_) | (show AT _ _ _ _; first | refine x_then ?_ | refine x_then_exit ?_ | refine x_blk_exit rfl ?_))
        exact x_ret2 Tryz.results173 (res_tmp rfl) (res_tmp rfl) (fun w' c' => ⟨_, _, rfl, ⟨ps, ap, cp, by rw [decide_eq_true hO], ⟨fun _ => by omega, by omega, hpx⟩, rfl⟩, c'.sub (.cons_cons _ (List.nil_sublist _))⟩)
  · refine fn_enter Tryz.func173 rfl Tryz.ntmps173 rfl ?_
    repeat' (first | (show oL; first | refine sMv rfl rfl ?_ | refine sAs rfl rfl ?_ | refine sLb 1 tabs rfl rfl rfl rfl rfl ?_ | (show oA (.unOp _ _ _); refine st_y (y_not rfl) rfl ?_) | (show oA (.call _); (refine m_call (ent_of Tryz.func193 kr rfl) rfl rfl (fun w c => spec_IsAcyclic_ok (c.rd h0) (c.rd h1)) ?_; rw [decide_eq_false hO]; rintro v H' ⟨rfl, rfl⟩)) | (show oA (.box _ _); refine m_box rfl rfl (fun b hb => ?_)) | (show oA (.buildSlice _ _ _); refine m_build0 tabs rfl rfl (fun gb hgb => ?_))) | refine xNt ?_ | (show oC; first | refine c_seq ?_ | refine c_region ?_ | refine c_ret ?_ | refine c_true rfl ?_) | (show AT _ _ _ _; refine x_then_ret ?_))
    exact x_ret2 Tryz.results173 (res_tmp rfl) (res_tmp rfl) (fun w' c' => ⟨_, _, rfl, ⟨[], _, _, by rw [decide_eq_false hO]; rfl, ⟨fun h => absurd h hO, Nat.zero_le _, fun x hx => by simp at hx⟩, rfl⟩, c'.sub (.cons_cons _ (List.nil_sublist _))⟩)
end Go.Proofs.YtdnhmnnccfoliaaGreatDoor

namespace Go.Lg
open Go.RowKit
theorem y_bld1p {P : Program} {n : Nat} {K : World → Prop} {s : List (Nat × Value)} {ty t : Nat} {x0 : Operand} {v0 v : Value} (hb : ∀ w, (Instr.build t #[(0, v0)]).run P w = .ok v w) (h0 : ev s x0 = some v0) : Y P n K s (.build t #[(0, x0)]) ty v := fun a w f c d pos af g => by
  simp [execOp, f.ev h0, hb]
end Go.Lg
namespace Go.Proofs.YtdnhmnnccfoliaaGreatDoor
open Go.Lg Go.Proofs Go.RowKit
attribute [local irreducible] Code.wp wpList bodyPost Exit.then Exit.inBlock Hp Again Calls Y AT ResV QT Qn QI wpAny wpAnyQ
set_option maxRecDepth 20000
set_option maxHeartbeats 4000000

theorem rd_none {w : World} : Rd w (iT []) (.slice none 0 0) := by
  simp only [ints, it, List.map_nil, Rd]
  exact ⟨none, 0, 0, rfl, Nat.le_refl _, Nat.zero_le _, rfl, by simp [RdL]⟩
def GivesPth (v : Value) (H : List HE) : Prop := ∃ (x : Pa) (a : Option Addr) (c : Nat), v = .agg #[iV x.1, .slice a x.2.length c] ∧ x.2.length ≤ 21 ∧ ∀ M w0 w, Hp M w0 H w → Rd w (iT x.2) (.slice a x.2.length c)
theorem l7Path_ok {w1 : World} {M1 : List Nat} {H1 : List HE} {w : World} {M' : List Nat} {u : Value} {b i : Nat} {h : Int} {q : Qv} {u0 u1 : Value} (hl : Lent M1 w1 (cu u b i h) H1 M' w) (hc : CodeF w1 M1 u) (hi : i ≤ vlen u) (h0 : RdOut w M' (iT q.2.1) u0) (h1 : RdOut w M' (iT q.2.2) u1) :
    DoesB Tryz.prog 141 [cuV b, .agg #[iV q.1, u0, u1]] w M' (Gcu u b GivesPth) := by
  have hc2 := lent_code hl hc
  have tok0 : True := trivial
  refine fnb_lent Tryz.func141 rfl Tryz.ntmps141 rfl hl ?_
  repeat' (first | (show oL; first | refine sMv rfl rfl ?_ | refine sAs rfl rfl ?_ | refine sLb 1 tabs rfl rfl rfl rfl rfl ?_ | (show oA (.call _); first | (refine m_call (ent_of Tryz.func173 kr rfl) rfl rfl (fun w c => AllPaths_ok (q := q) (h0.rd c) (h1.rd c)) ?_; rintro v H' ⟨ps, ap, cp, rfl, ⟨hp1, hp2, hpx⟩, rfl⟩; refine AT.fact (pas_sl 0 rfl) (fun hsl => ?_); refine AT.opn 0 rfl (fun us hus => ?_); rw [flatMap_length paT_length] at hus) | (refine m_callL 4 (ent_of Tryz.func100 kr rfl) rfl rfl rfl (fun w M' hl => l1BelowN_ok 4 (by decide) hl hc2 hi) ?_; rintro v H' ⟨i, ch, _, hi, rfl, st, rfl, hst, rfl⟩) | refine sLn tabs rfl rfl rfl ?_) | (show oA (.extract _ _); refine st_y (y_ext rfl rfl) rfl ?_) | (show oA (.store _ _ _); refine m_storeb 0 tabs rfl rfl rfl rfl rfl rfl rfl ?_) | (show oA (.box _ _); refine m_box rfl rfl (fun b3 hb3 => ?_)) | (show oA (.alloc _); first | (have _t := tok0; refine m_alloc tabs rfl rfl (fun b4 hb4 => ?_); clear _t tok0) | refine m_alloc tabs rfl rfl (fun b7 hb7 => ?_)) | (show oA (.build _ _); refine st_y (y_bld1p (bld_pa0 _) rfl) rfl ?_)) | refine xNt ?_ | (show oC; first | refine c_if (x := .tmp 16) rfl (fun hO => ?_) (fun hO => ?_) | refine c_seq ?_ | refine c_region ?_ | refine c_skip (x_then ?_)))
  · have hpp := hp1 hO
    repeat' (first | (show oL; first | refine sMv rfl rfl ?_ | refine sAs rfl rfl ?_ | refine sFd tabs rfl rfl rfl rfl ?_ | (show oA (.load _ _); first | refine st_y (y_load2 tabs rfl rfl (hc_nmk (q := k * 2) 2 (by decide) rfl f1) (hc_nmk (q := k * 2 + 1) 2 (by decide) rfl f2)) rfl ?_ | refine sLb 1 tabs rfl rfl rfl rfl rfl ?_ | refine sLb 2 tabs rfl rfl rfl rfl rfl ?_ | refine sLd 2 tabs rfl rfl rfl rfl rfl ?_) | (show oA (.indexAddr _ _ _); refine st_y (y_ixa tabs rfl rfl rfl hsl.1 om om) rfl ?_) | (show oA (.binOp _ _ _ _ _); first | refine st_y (y_sub rfl rfl om) rfl ?_ | refine st_y (y_eql rfl rfl) rfl ?_) | (show oA (.call _); first | (refine m_callL 1 (ent_of Tryz.func100 kr rfl) rfl rfl rfl (fun w M' hl => l1BelowN_ok ps.length hpp hl hc2 hi) ?_; rintro v H' ⟨i, ch, _, hi, rfl, k, rfl, hk, rfl⟩; obtain ⟨A, hA⟩ : ∃ A, ps[k]? = some A := ⟨_, List.getElem?_eq_getElem hk⟩; have hAl := hpx A (List.mem_of_getElem? hA); refine AT.fact (pas_open 3 rfl hus hA) (fun hf => ?_); obtain ⟨ak, ck, f1, f2⟩ := hf) | (refine m_callL 0 (ent_of Tryz.func100 kr rfl) rfl rfl rfl (fun w M' hl => l1BelowN_ok 12 (by decide) hl hc2 hi) ?_; rintro v H' ⟨i, ch, _, hi, rfl, z, rfl, hz, rfl⟩) | refine m_appi 0 tabs (xs := []) (ys := A.2) rfl rfl rfl rfl rfl (by simp only [List.length_nil]; omega) (fun w c => rd_src (pas_rd 4 rfl hA f2 c)) (fun a2 c2 => ?_) | (refine m_callL 1 (ent_of Tryz.func100 kr rfl) rfl rfl rfl (fun w M' hl => l1BelowN_ok 8 (by decide) hl hc2 hi) ?_; rintro v H' ⟨i, ch, _, hi, rfl, y, rfl, hy, rfl⟩) | refine m_pushi 1 tabs rfl rfl rfl rfl rfl (by simp only [List.length_append, List.length_nil]; omega) (fun a9 c9 => ?_) | (refine m_callL 0 (ent_of Tryz.func100 kr rfl) rfl rfl rfl (fun w M' hl => l1BelowN_ok 6 (by decide) hl hc2 hi) ?_; rintro v H' ⟨i, ch, _, hi, rfl, y, rfl, hy, rfl⟩)) | (show oA (.store _ _ _); first | refine m_storeb 1 tabs rfl rfl rfl rfl rfl rfl rfl ?_ | refine m_storef 2 tabs rfl rfl rfl rfl rfl rfl ?_ | refine m_storef 1 tabs rfl rfl rfl rfl rfl rfl ?_ | refine m_storeb 4 tabs rfl rfl rfl rfl rfl rfl rfl ?_ | refine m_storeb 5 tabs rfl rfl rfl rfl rfl rfl rfl ?_) | (show oA (.buildSlice _ _ _); first | refine m_build0 tabs rfl rfl (fun g hg => ?_) | refine m_build1 tabs (us := [iV ((y : Int) - 1)]) rfl rfl rfl rfl (by decide) rfl (fun g5 hg5 => ?_))) | (show oN; first | refine c_nil (x_then ?_) | refine c_nil ?_) | (show oC; first | refine c_seq ?_ | refine c_region ?_ | refine c_skip (x_blk ?_) | refine c_block ?_ | refine c_ret ?_ | refine c_if rfl (fun h => ?_) (fun h => ?_)) | (show AT _ _ _ _; first | refine x_then ?_ | refine x_blk ?_))
    · exact x_ret1 Tryz.results141 (res_cellb 5 tabs rfl rfl rfl rfl) (fun w' c' => ⟨_, _, rfl, ⟨i, _, _, hi, rfl, (A.1, ([] ++ A.2) ++ [(y : Int) - 1]), a9, c9, by simp, by simp only [List.length_append, List.length_nil, List.length_singleton]; omega, fun M w0 w c => by have := c.own_rd (i := 0) rfl; simpa using this⟩, c'.sel [1, 0] rfl⟩)
    · exact x_ret1 Tryz.results141 (res_cellb 4 tabs rfl rfl rfl rfl) (fun w' c' => ⟨_, [cu u b i ch, .own (.s 78 2 (us.map T.c)) (.slice ap ps.length cp), .ownL (ps.flatMap paT) us], rfl, ⟨i, _, _, hi, rfl, ((y : Int) - 1, A.2), ak, ck, by rfl, by simp <;> omega, fun M w0 w c => pas_rd (A := A) 1 rfl hA f2 c⟩, c'.sel [0, 2, 3] rfl⟩)
    · exact x_ret1 Tryz.results141 (res_cellb 4 tabs rfl rfl rfl rfl) (fun w' c' => ⟨_, [cu u b i ch, .own (.s 78 2 (us.map T.c)) (.slice ap ps.length cp), .ownL (ps.flatMap paT) us], rfl, ⟨i, _, _, hi, rfl, (A.1, A.2), ak, ck, by rfl, by simp <;> omega, fun M w0 w c => pas_rd (A := A) 1 rfl hA f2 c⟩, c'.sel [0, 2, 3] rfl⟩)
  · skip
    repeat' (first | (show oL; first | refine sMv rfl rfl ?_ | refine sAs rfl rfl ?_ | refine sFd tabs rfl rfl rfl rfl ?_ | (show oA (.load _ _); first | refine sLb 1 tabs rfl rfl rfl rfl rfl ?_ | refine sLb 2 tabs rfl rfl rfl rfl rfl ?_ | refine sLd 2 tabs rfl rfl rfl rfl rfl ?_) | (show oA (.binOp _ _ _ _ _); first | refine st_y (y_sub rfl rfl om) rfl ?_ | refine st_y (y_eql rfl rfl) rfl ?_) | (show oA (.call _); first | (refine m_callL 1 (ent_of Tryz.func100 kr rfl) rfl rfl rfl (fun w M' hl => l1BelowN_ok 12 (by decide) hl hc2 hi) ?_; rintro v H' ⟨i, ch, _, hi, rfl, z, rfl, hz, rfl⟩) | refine m_appi 0 tabs (xs := []) (ys := []) rfl rfl rfl rfl rfl (by simp only [List.length_nil]; omega) (fun w c => .inl rfl) (fun a2 c2 => ?_) | (refine m_callL 1 (ent_of Tryz.func100 kr rfl) rfl rfl rfl (fun w M' hl => l1BelowN_ok 8 (by decide) hl hc2 hi) ?_; rintro v H' ⟨i, ch, _, hi, rfl, y, rfl, hy, rfl⟩) | refine m_pushi 1 tabs rfl rfl rfl rfl rfl (by simp only [List.length_append, List.length_nil]; omega) (fun a9 c9 => ?_) | (refine m_callL 0 (ent_of Tryz.func100 kr rfl) rfl rfl rfl (fun w M' hl => l1BelowN_ok 6 (by decide) hl hc2 hi) ?_; rintro v H' ⟨i, ch, _, hi, rfl, y, rfl, hy, rfl⟩)) | (show oA (.store _ _ _); first | refine m_storef 2 tabs rfl rfl rfl rfl rfl rfl ?_ | refine m_storef 1 tabs rfl rfl rfl rfl rfl rfl ?_ | refine m_storeb 4 tabs rfl rfl rfl rfl rfl rfl rfl ?_ | refine m_storeb 5 tabs rfl rfl rfl rfl rfl rfl rfl ?_) | (show oA (.buildSlice _ _ _); first | refine m_build0 tabs rfl rfl (fun g hg => ?_) | refine m_build1 tabs (us := [iV ((y : Int) - 1)]) rfl rfl rfl rfl (by decide) rfl (fun g5 hg5 => ?_))) | (show oN; first | refine c_nil (x_then ?_) | refine c_nil ?_) | (show oC; first | refine c_seq ?_ | refine c_region ?_ | refine c_skip (x_blk ?_) | refine c_block ?_ | refine c_ret ?_ | refine c_if rfl (fun h => ?_) (fun h => ?_)) | (show AT _ _ _ _; first | refine x_then ?_ | refine x_blk ?_))
    · exact x_ret1 Tryz.results141 (res_cellb 5 tabs rfl rfl rfl rfl) (fun w' c' => ⟨_, _, rfl, ⟨i, _, _, hi, rfl, ((st : Int), ([] ++ []) ++ [(y : Int) - 1]), a9, c9, by simp, by simp only [List.length_append, List.length_nil, List.length_singleton]; omega, fun M w0 w c => by have := c.own_rd (i := 0) rfl; simpa using this⟩, c'.sel [1, 0] rfl⟩)
    · exact x_ret1 Tryz.results141 (res_cellb 4 tabs rfl rfl rfl rfl) (fun w' c' => ⟨_, [cu u b i ch, .own (.s 78 2 (us.map T.c)) (.slice ap ps.length cp), .ownL (ps.flatMap paT) us], rfl, ⟨i, _, _, hi, rfl, ((y : Int) - 1, []), none, 0, by rfl, by simp <;> omega, fun M w0 w c => rd_none⟩, c'.sel [0, 2, 3] rfl⟩)
    · exact x_ret1 Tryz.results141 (res_cellb 4 tabs rfl rfl rfl rfl) (fun w' c' => ⟨_, [cu u b i ch, .own (.s 78 2 (us.map T.c)) (.slice ap ps.length cp), .ownL (ps.flatMap paT) us], rfl, ⟨i, _, _, hi, rfl, ((st : Int), []), none, 0, by rfl, by simp <;> omega, fun M w0 w c => rd_none⟩, c'.sel [0, 2, 3] rfl⟩)
end Go.Proofs.YtdnhmnnccfoliaaGreatDoor

namespace Go.Lg
open Go.RowKit
section
variable {P : Program} {n : Nat} {C : World → Prop} {s : List (Nat × Value)} {ty t : Nat} {x lo' hi' : Operand}
theorem y_slsh {a : List UInt8} {j : Nat} {q : Int} (ht : P.underlying t = some .string) (hx : ev s x = some (sV a)) (hh : ev s hi' = some (.int .i64 q)) (hq : q = (j : Int)) (h2 : j ≤ a.length) : Y P n C s (.slice t x none (some hi') none) ty (sV (a.take j)) := fun aa w f c d pos af g => by
  subst hq
  simp only [sV] at hx
  have h := run_slice_string_h (P := P) w t ⟨a.toArray⟩ ht .i64 j om (by simp [ByteArray.size]; omega)
  simp only [Int.toNat_natCast, ByteArray.extract_mk] at h
  simp [execOp, f.ev hx, f.ev hh, run_sliceAt_string, ht, h, sV]
theorem y_slsl {a : List UInt8} {i : Nat} {p : Int} (ht : P.underlying t = some .string) (hx : ev s x = some (sV a)) (hl : ev s lo' = some (.int .i64 p)) (hp : p = (i : Int)) (h2 : i ≤ a.length) : Y P n C s (.slice t x (some lo') none none) ty (sV (a.drop i)) := fun aa w f c d pos af g => by
  subst hp
  simp only [sV] at hx
  have h := run_slice_string_l (P := P) w t ⟨a.toArray⟩ ht .i64 i om (by simp [ByteArray.size]; omega)
  simp only [Int.toNat_natCast, ByteArray.extract_mk] at h
  have e : List.take (a.length - i) (List.drop i a) = List.drop i a := List.take_of_length_le (by rw [List.length_drop]; exact Nat.le_refl _)
  simp [execOp, f.ev hx, f.ev hl, run_sliceAt_string, ht, h, sV, ByteArray.size, e]
end
end Go.Lg
namespace Go.Proofs.YtdnhmnnccfoliaaGreatDoor
open Go.Lg Go.Proofs Go.RowKit
attribute [local irreducible] Code.wp wpList bodyPost Exit.then Exit.inBlock Hp Again Calls Y AT ResV QT Qn QI wpAny wpAnyQ
set_option maxRecDepth 20000
set_option maxHeartbeats 4000000

def u8 (x : Int) : UInt8 := UInt8.ofNat (x % 256).toNat
theorem u8_wrap (x : Int) : IntKind.u8.wrap x = ((u8 x).toNat : Int) := by
  have h0 := Int.emod_nonneg x (show (256 : Int) ≠ 0 by decide)
  have h1 := Int.emod_lt_of_pos x (show (0 : Int) < 256 by decide)
  have e : (u8 x).toNat = (x % 256).toNat := by
    rw [u8, UInt8.toNat_ofNat']
    omega
  rw [e]
  simp only [IntKind.wrap, IntKind.bits, IntKind.signed]
  simp
  omega
theorem byl_sl (i : Nat) {M : List Nat} {w0 : World} {H : List HE} {l : List UInt8} {a : Option Addr} {m c : Nat} (hi : H[i]? = some (.own (.s 5 1 ((l.map bV).map T.c)) (.slice a m c))) : ∀ w, Hp M w0 H w → SA a m := fun w cw => by
  obtain ⟨a', m', cap, h1, h2, _⟩ := Rd.open (by decide) (cw.own_rd hi)
  cases h1
  exact h2
theorem l1Text_ok {w1 : World} {M1 : List Nat} {H1 : List HE} {w : World} {M' : List Nat} {u : Value} {b i : Nat} {h : Int} (most : Nat) (hm : most ≤ 100) (hl : Lent M1 w1 (cu u b i h) H1 M' w) (hc : CodeF w1 M1 u) (hi : i ≤ vlen u) :
    DoesB Tryz.prog 163 [cuV b, iV most] w M' (Gcu u b (fun v H => ∃ x, v = sV x ∧ x.length ≤ most ∧ H = [])) := by
  have hc2 := lent_code hl hc
  have e1 : ((most : Int) + 1) = ((most + 1 : Nat) : Int) := by omega
  refine fnb_lent Tryz.func163 rfl Tryz.ntmps163 rfl hl ?_
  repeat' (first | (show oL; first | refine sMv rfl rfl ?_ | refine sAs rfl rfl ?_ | (show oA (.binOp _ _ _ _ _); (refine sAd rfl rfl om rfl ?_; rw [e1])) | (show oA (.call _); first | (refine m_callL 1 (ent_of Tryz.func100 kr rfl) rfl rfl rfl (fun w M' hl => l1BelowN_ok 4 (by decide) hl hc2 hi) ?_; rintro v H' ⟨i, ch, _, hi, rfl, st, rfl, hst, rfl⟩) | (refine m_callL 0 (ent_of Tryz.func100 kr rfl) rfl rfl rfl (fun w M' hl => l1BelowN_ok (most + 1) om hl hc2 hi) ?_; rintro v H' ⟨i, ch, _, hi, rfl, n, rfl, hn, rfl⟩)) | (show oA (.buildSlice _ _ _); refine m_build0 tabs rfl rfl (fun gb hgb => ?_))) | refine xNt ?_ | (show oC; first | refine c_seq ?_ | refine c_region ?_ | refine c_block ?_))
  refine c_loopH (α := List UInt8 × Nat × Option Addr × Nat × Nat × Int) [0, 6] (fun s => [(5, .slice s.2.2.1 s.1.length s.2.2.2.1), (7, iV s.2.1)]) (fun s => (s.1.length + s.2.1 ≤ most) ∧ s.2.2.2.2.1 ≤ vlen u) (fun s => [.own (.s 5 1 ((s.1.map bV).map T.c)) (.slice s.2.2.1 s.1.length s.2.2.2.1), cu u b s.2.2.2.2.1 s.2.2.2.2.2]) (fun s => s.2.1) ([], n, some ⟨gb, 0, none⟩, 0, i, ch) rfl sB ?_ ?_ ?_
  · exact ⟨by simp only [List.length_nil]; omega, hi⟩
  · exact fun w' c' => c'.swap
  · rintro ⟨xs, k, a, c, i, ch⟩ ⟨hx, hi⟩
    simp only at hx hi ⊢
    by_cases hk : 0 < k
    · obtain ⟨k, rfl⟩ : ∃ k', k = k' + 1 := ⟨k - 1, by omega⟩
      repeat' (first | (show oL; first | refine sMv rfl rfl ?_ | refine sAs rfl rfl ?_ | (show oA (.binOp _ _ _ _ _); first | refine st_y (y_rem rfl rfl (by decide)) rfl ?_ | refine st_y (y_add rfl rfl (by have : ((x : Int).tmod 4) = ((x % 4 : Nat) : Int) := rfl; omega)) rfl ?_ | refine st_y (y_sub rfl rfl om) rfl ?_ | refine st_y (y_gtr rfl rfl) rfl ?_ | refine st_y (y_eql rfl rfl) rfl ?_) | (show oA (.call _); first | (refine m_callL 1 (ent_of Tryz.func162 kr rfl) rfl rfl rfl (fun w M' hl => l1Byte_ok hl hc2 hi) ?_; rintro v H' ⟨i, ch, _, hi, rfl, x, rfl, hx3, rfl⟩; obtain ⟨x, rfl⟩ : ∃ k : Nat, x = k := ⟨x.toNat, by omega⟩) | refine m_pushc 1 tabs rfl rfl rfl rfl rfl rfl (by rw [List.length_map]; omega) rfl rfl (fun a9 c9 => ?_)) | (show oA (.buildSlice _ _ _); refine m_build1 tabs (us := [bV y]) rfl rfl rfl rfl (by decide) rfl (fun g5 hg5 => ?_)) | (show oA (.convert _ _ _); (refine st_y (y_convk (t := 3) (t' := 5) (k := .i64) (k' := .u8) kr kr kr rfl (u8_wrap _)) rfl ?_; generalize u8 _ = y))) | (show oN; first | refine c_nil (x_then ?_) | refine c_nil ?_) | (show oC; first | refine c_seq ?_ | refine c_region ?_ | refine c_skip (x_then ?_) | refine c_block ?_ | refine c_ift rfl aO ?_ | refine c_iff rfl nN ?_ | refine c_if rfl (fun h => ?_) (fun h => ?_)) | (show AT _ _ _ _; first | refine x_then ?_ | refine x_blk ?_))
      all_goals exact x_nx (xs ++ [y], k, a9, c9, i, ch) (by simp only [List.length_append, List.length_singleton, List.length_map]; repeat' (first | exact Sub.nil | refine Sub.cons rfl ?_ | refine Sub.consi rfl om ?_)) ⟨by simp only [List.length_append, List.length_singleton]; omega, hi⟩ (fun w' c' => by simp only [List.length_append, List.length_singleton, List.length_map, List.map_append] at c' ⊢; exact c') (by simp only; omega)
    · have : k = 0 := by omega
      subst this
      rcases Nat.eq_zero_or_pos xs.length with h0 | h0
      · obtain rfl : xs = [] := List.eq_nil_of_length_eq_zero h0
        repeat' (first | (show oL; first | refine sMv rfl rfl ?_ | refine sAs rfl rfl ?_ | (show oA (.binOp _ _ _ _ _); refine st_y (y_gtr rfl rfl) rfl ?_) | (show oA (.convert _ _ _); refine st_y (y_convbn (t := 38) (t' := 9) (e := 5) kr kr kr rfl) rfl ?_)) | refine xNt ?_ | (show oC; first | refine c_seq ?_ | refine c_region ?_ | refine c_ret ?_ | refine c_exit ?_ | refine c_false rfl ?_) | (show AT _ _ _ _; first | refine x_then ?_ | refine x_then_exit ?_ | refine x_blk_exit rfl ?_))
        exact x_ret1 Tryz.results163 (res_tmp rfl) (fun w' c' => ⟨_, _, rfl, ⟨i, ch, _, hi, rfl, [], rfl, Nat.zero_le _, rfl⟩, c'.swap.sub (.cons_cons _ (List.nil_sublist _))⟩)
      · refine AT.fact (byl_sl 0 rfl) (fun hs => ?_)
        rw [hs.get h0]
        repeat' (first | (show oL; first | refine sMv rfl rfl ?_ | refine sAs rfl rfl ?_ | (show oA (.binOp _ _ _ _ _); refine st_y (y_gtr rfl rfl) rfl ?_) | (show oA (.convert _ _ _); refine st_y (y_convbs (t := 38) (t' := 9) (e := 5) (l := xs) kr kr kr rfl (fun w c => fun j u hj => by rw [Addr.add_lit]; exact hc_nm (a := some ⟨ab a, ao a, none⟩) 0 rfl hj w c)) rfl ?_)) | refine xNt ?_ | (show oC; first | refine c_seq ?_ | refine c_region ?_ | refine c_ret ?_ | refine c_exit ?_ | refine c_false rfl ?_) | (show AT _ _ _ _; first | refine x_then ?_ | refine x_then_exit ?_ | refine x_blk_exit rfl ?_))
        exact x_ret1 Tryz.results163 (res_tmp rfl) (fun w' c' => ⟨_, _, rfl, ⟨i, ch, _, hi, rfl, xs, rfl, by omega, rfl⟩, c'.swap.sub (.cons_cons _ (List.nil_sublist _))⟩)
theorem l1Spoil_ok {w1 : World} {M1 : List Nat} {H1 : List HE} {w : World} {M' : List Nat} {u : Value} {b i : Nat} {h : Int} {s : List UInt8} (hs : s.length ≤ 1000000) (hl : Lent M1 w1 (cu u b i h) H1 M' w) (hc : CodeF w1 M1 u) (hi : i ≤ vlen u) :
    DoesB Tryz.prog 101 [cuV b, sV s] w M' (Gcu u b (fun v H => ∃ x, v = sV x ∧ x.length ≤ s.length + 3 ∧ H = [])) := by
  have hc2 := lent_code hl hc
  refine fnb_lent Tryz.func101 rfl Tryz.ntmps101 rfl hl ?_
  by_cases h0 : s.length = 0
  · have h0' : ((s.length : Nat) : Int) = 0 := by omega
    repeat' (first | (show oL; first | refine sMv rfl rfl ?_ | refine sAs rfl rfl ?_ | (show oA (.binOp _ _ _ _ _); refine st_y (y_eql rfl rfl) rfl ?_) | (show oA (.call _); first | refine st_y (y_lens Tryz.underlying9 rfl) rfl ?_ | (refine m_callL 0 (ent_of Tryz.func163 kr rfl) rfl rfl rfl (fun w M' hl => l1Text_ok 3 (by decide) hl hc2 hi) ?_; rintro v H' ⟨i, ch, _, hi, rfl, x, rfl, hx, rfl⟩))) | refine xNt ?_ | (show oC; first | refine c_seq ?_ | refine c_region ?_ | refine c_ret ?_ | refine c_ift rfl aO ?_) | (show AT _ _ _ _; refine x_then_ret ?_))
    all_goals first | omega | exact x_ret1 Tryz.results101 (res_tmp rfl) (fun w' c' => ⟨_, _, rfl, ⟨i, _, _, hi, rfl, x, rfl, by omega, rfl⟩, c'⟩)
  · have h0' : 0 < s.length := by omega
    repeat' (first | (show oL; first | refine sMv rfl rfl ?_ | refine sAs rfl rfl ?_ | (show oA (.binOp _ _ _ _ _); refine st_y (y_eql rfl rfl) rfl ?_) | (show oA (.call _); first | refine st_y (y_lens Tryz.underlying9 rfl) rfl ?_ | (refine m_callL 0 (ent_of Tryz.func100 kr rfl) rfl rfl rfl (fun w M' hl => l1BelowN_ok s.length h0' hl hc2 hi) ?_; rintro v H' ⟨i, ch, _, hi, rfl, k, rfl, hk, rfl⟩) | (refine m_callL 0 (ent_of Tryz.func100 kr rfl) rfl rfl rfl (fun w M' hl => l1BelowN_ok 4 (by decide) hl hc2 hi) ?_; rintro v H' ⟨i, ch, _, hi, rfl, z, rfl, hz, rfl⟩)) | (show oA (.slice _ _ _ _ _); refine st_y (y_slsh (j := k) Tryz.underlying9 rfl rfl rfl om) rfl ?_)) | refine xNt ?_ | (show oC; first | refine c_seq ?_ | refine c_region ?_ | refine c_skip (x_then ?_) | refine c_skip (x_blk ?_) | refine c_block ?_ | refine c_ret ?_ | refine c_iff rfl nN ?_ | refine c_if rfl (fun h => ?_) (fun h => ?_)) | (show AT _ _ _ _; first | refine x_then ?_ | refine x_then_ret ?_ | refine x_blk_ret ?_))
    · skip
      refine c_all (Hp M' w []) kr (fun _ c => Hp.drew c) ?_
      refine h_take 0 rfl kr kr kr (by exact y_move rfl) rfl (fun w c => by exact c.drop) ?_
      refine h_take 1 rfl kr kr kr (by exact y_move rfl) rfl (fun w c => by exact c.drop) ?_
      refine h_take 2 rfl kr kr kr (by exact y_slsh (j := k) Tryz.underlying9 rfl rfl rfl om) rfl (fun w c => by exact c.drop) ?_
      refine h_take 3 rfl kr kr kr (by exact y_move rfl) rfl (fun w c => by exact c.drop) ?_
      refine h_take 4 rfl kr kr kr (by exact y_move rfl) rfl (fun w c => by exact c.drop) ?_
      refine h_take 5 rfl kr kr kr (by exact y_add rfl rfl om) rfl (fun w c => by exact c.drop) ?_
      refine h_take 6 rfl kr kr kr (by exact y_slsl (i := k + 1) Tryz.underlying9 rfl rfl rfl om) rfl (fun w c => by exact c.drop) ?_
      refine h_take 7 rfl kr kr kr (by exact y_cat rfl rfl (by simp <;> omega) (by simp <;> omega)) rfl (fun w c => by exact c.drop) ?_
      refine h_take 8 rfl kr kr kr (by exact y_assign rfl) rfl (fun w c => by exact c.drop) ?_
      refine h_end kr ?_
      repeat' (first | (show oC; refine c_ret ?_) | (show AT _ _ _ _; first | refine x_then ?_ | refine x_then_ret ?_ | refine x_blk_ret ?_))
      exact x_ret1 Tryz.results101 (res_tmp rfl) (fun w' c' => ⟨_, _, rfl, ⟨i, _, _, hi, rfl, s.take k ++ s.drop (k + 1), rfl, by simp <;> omega, rfl⟩, c'⟩)
    · skip
      refine c_all (Hp M' w []) kr (fun _ c => Hp.drew c) ?_
      refine h_take 0 rfl kr kr kr (by exact y_move rfl) rfl (fun w c => by exact c.drop) ?_
      refine h_take 1 rfl kr kr kr (by exact y_move rfl) rfl (fun w c => by exact c.drop) ?_
      refine h_take 2 rfl kr kr kr (by exact y_slsh (j := k) Tryz.underlying9 rfl rfl rfl om) rfl (fun w c => by exact c.drop) ?_
      refine h_take 3 rfl kr kr kr (by exact y_move rfl) rfl (fun w c => by exact c.drop) ?_
      refine h_take 9 rfl kr kr kr (by exact y_move rfl) rfl (fun w c => by exact c.drop) ?_
      refine h_take 10 rfl kr kr kr (by exact y_move rfl) rfl (fun w c => by exact c.drop) ?_
      refine h_take 11 rfl kr kr kr (by exact y_slsl (i := k) Tryz.underlying9 rfl rfl rfl om) rfl (fun w c => by exact c.drop) ?_
      refine h_only 4 rfl kr ?_
      first | (refine m_build1 tabs (us := [bV (u8 x)]) rfl rfl rfl rfl (by decide) rfl (fun g5 hg5 => ?_)) | (refine m_callL 0 (ent_of Tryz.func162 kr rfl) rfl rfl rfl (fun w M' hl => l1Byte_ok hl hc2 hi) ?_; rintro v H' ⟨i, ch, _, hi, rfl, x, rfl, hx3, rfl⟩) | (refine st_y (y_convbs (t := 38) (t' := 9) (e := 5) (l := [u8 x]) kr kr kr rfl (fun w c => fun j u hj => by rw [Addr.add_lit]; exact hc_blk 0 rfl (by rw [Nat.zero_add, List.getElem?_toArray]; exact hj) w c)) rfl ?_)
      refine c_nil (x_one (h_keep (fun w c => by exact c.drop) ?_))
      refine h_take 5 rfl kr kr kr (by exact y_convk (t := 3) (t' := 5) (k := .i64) (k' := .u8) kr kr kr rfl (u8_wrap _)) rfl (fun w c => by exact c.drop) ?_
      refine h_only 6 rfl kr ?_
      first | (refine m_build1 tabs (us := [bV (u8 x)]) rfl rfl rfl rfl (by decide) rfl (fun g5 hg5 => ?_)) | (refine m_callL 0 (ent_of Tryz.func162 kr rfl) rfl rfl rfl (fun w M' hl => l1Byte_ok hl hc2 hi) ?_; rintro v H' ⟨i, ch, _, hi, rfl, x, rfl, hx3, rfl⟩) | (refine st_y (y_convbs (t := 38) (t' := 9) (e := 5) (l := [u8 x]) kr kr kr rfl (fun w c => fun j u hj => by rw [Addr.add_lit]; exact hc_blk 0 rfl (by rw [Nat.zero_add, List.getElem?_toArray]; exact hj) w c)) rfl ?_)
      refine c_nil (x_one (h_keep (fun w c => by exact c.drop.drop) ?_))
      refine h_only 7 rfl kr ?_
      first | (refine m_build1 tabs (us := [bV (u8 x)]) rfl rfl rfl rfl (by decide) rfl (fun g5 hg5 => ?_)) | (refine m_callL 0 (ent_of Tryz.func162 kr rfl) rfl rfl rfl (fun w M' hl => l1Byte_ok hl hc2 hi) ?_; rintro v H' ⟨i, ch, _, hi, rfl, x, rfl, hx3, rfl⟩) | (refine st_y (y_convbs (t := 38) (t' := 9) (e := 5) (l := [u8 x]) kr kr kr rfl (fun w c => fun j u hj => by rw [Addr.add_lit]; exact hc_blk 0 rfl (by rw [Nat.zero_add, List.getElem?_toArray]; exact hj) w c)) rfl ?_)
      refine c_nil (x_one (h_keep (fun w c => by exact c.drop.drop) ?_))
      refine h_take 8 rfl kr kr kr (by exact y_cat rfl rfl (by simp <;> omega) (by simp <;> omega)) rfl (fun w c => by exact c.drop.drop) ?_
      refine h_take 12 rfl kr kr kr (by exact y_cat rfl rfl (by simp <;> omega) (by simp <;> omega)) rfl (fun w c => by exact c.drop.drop) ?_
      refine h_take 13 rfl kr kr kr (by exact y_assign rfl) rfl (fun w c => by exact c.drop.drop) ?_
      refine h_end kr ?_
      repeat' (first | (show oC; refine c_ret ?_) | (show AT _ _ _ _; first | refine x_then ?_ | refine x_then_ret ?_ | refine x_blk_ret ?_))
      exact x_ret1 Tryz.results101 (res_tmp rfl) (fun w' c' => ⟨_, _, rfl, ⟨i, _, _, hi, rfl, s.take k ++ [u8 x] ++ s.drop k, rfl, by simp <;> omega, rfl⟩, c'.sub (.cons _ (List.Sublist.refl _))⟩)
    · exact x_ret1 Tryz.results101 (res_tmp rfl) (fun w' c' => ⟨_, _, rfl, ⟨i, _, _, hi, rfl, s.take k, rfl, by simp <;> omega, rfl⟩, c'⟩)
    · skip
      refine c_all (Hp M' w []) kr (fun _ c => Hp.drew c) ?_
      refine h_take 0 rfl kr kr kr (by exact y_move rfl) rfl (fun w c => by exact c.drop) ?_
      refine h_take 1 rfl kr kr kr (by exact y_move rfl) rfl (fun w c => by exact c.drop) ?_
      refine h_take 2 rfl kr kr kr (by exact y_slsh (j := k) Tryz.underlying9 rfl rfl rfl om) rfl (fun w c => by exact c.drop) ?_
      refine h_take 3 rfl kr kr kr (by exact y_move rfl) rfl (fun w c => by exact c.drop) ?_
      refine h_take 4 rfl kr kr kr (by exact y_move rfl) rfl (fun w c => by exact c.drop) ?_
      refine h_take 5 rfl kr kr kr (by exact y_indexs Tryz.underlying9 rfl rfl om om) rfl (fun w c => by exact c.drop) ?_
      refine h_take 6 rfl kr kr kr (by exact y_convk (t := 5) (t' := 3) (k := .u8) (k' := .i64) kr kr kr rfl (byte_i64 _)) rfl (fun w c => by exact c.drop) ?_
      refine h_take 7 rfl kr kr kr (by exact y_move rfl) rfl (fun w c => by exact c.drop) ?_
      refine h_take 15 rfl kr kr kr (by exact y_move rfl) rfl (fun w c => by exact c.drop) ?_
      refine h_take 16 rfl kr kr kr (by exact y_move rfl) rfl (fun w c => by exact c.drop) ?_
      refine h_take 17 rfl kr kr kr (by exact y_add (q := (1 : Int)) rfl rfl om) rfl (fun w c => by exact c.drop) ?_
      refine h_take 18 rfl kr kr kr (by exact y_slsl (i := k + 1) Tryz.underlying9 rfl rfl rfl om) rfl (fun w c => by exact c.drop) ?_
      refine h_only 8 rfl kr ?_
      first | (refine m_build1 tabs (us := [bV (u8 (xorI ((s.getD ((k : Int)).toNat 0).toNat : Int) (1 + (x : Int))))]) rfl rfl rfl rfl (by decide) rfl (fun g5 hg5 => ?_)) | (refine m_callL 0 (ent_of Tryz.func100 kr rfl) rfl rfl rfl (fun w M' hl => l1BelowN_ok 255 (by decide) hl hc2 hi) ?_; rintro v H' ⟨i, ch, _, hi, rfl, x, rfl, hx3, rfl⟩) | (refine st_y (y_convbs (t := 38) (t' := 9) (e := 5) (l := [u8 (xorI ((s.getD ((k : Int)).toNat 0).toNat : Int) (1 + (x : Int)))]) kr kr kr rfl (fun w c => fun j u hj => by rw [Addr.add_lit]; exact hc_blk 0 rfl (by rw [Nat.zero_add, List.getElem?_toArray]; exact hj) w c)) rfl ?_)
      refine c_nil (x_one (h_keep (fun w c => by exact c.drop) ?_))
      refine h_take 9 rfl kr kr kr (by exact y_add rfl rfl om) rfl (fun w c => by exact c.drop) ?_
      refine h_take 10 rfl kr kr kr (by exact y_xor rfl rfl) rfl (fun w c => by exact c.drop) ?_
      refine h_take 11 rfl kr kr kr (by exact y_convk (t := 3) (t' := 5) (k := .i64) (k' := .u8) kr kr kr rfl (u8_wrap _)) rfl (fun w c => by exact c.drop) ?_
      refine h_only 12 rfl kr ?_
      first | (refine m_build1 tabs (us := [bV (u8 (xorI ((s.getD ((k : Int)).toNat 0).toNat : Int) (1 + (x : Int))))]) rfl rfl rfl rfl (by decide) rfl (fun g5 hg5 => ?_)) | (refine m_callL 0 (ent_of Tryz.func100 kr rfl) rfl rfl rfl (fun w M' hl => l1BelowN_ok 255 (by decide) hl hc2 hi) ?_; rintro v H' ⟨i, ch, _, hi, rfl, x, rfl, hx3, rfl⟩) | (refine st_y (y_convbs (t := 38) (t' := 9) (e := 5) (l := [u8 (xorI ((s.getD ((k : Int)).toNat 0).toNat : Int) (1 + (x : Int)))]) kr kr kr rfl (fun w c => fun j u hj => by rw [Addr.add_lit]; exact hc_blk 0 rfl (by rw [Nat.zero_add, List.getElem?_toArray]; exact hj) w c)) rfl ?_)
      refine c_nil (x_one (h_keep (fun w c => by exact c.drop.drop) ?_))
      refine h_only 13 rfl kr ?_
      first | (refine m_build1 tabs (us := [bV (u8 (xorI ((s.getD ((k : Int)).toNat 0).toNat : Int) (1 + (x : Int))))]) rfl rfl rfl rfl (by decide) rfl (fun g5 hg5 => ?_)) | (refine m_callL 0 (ent_of Tryz.func100 kr rfl) rfl rfl rfl (fun w M' hl => l1BelowN_ok 255 (by decide) hl hc2 hi) ?_; rintro v H' ⟨i, ch, _, hi, rfl, x, rfl, hx3, rfl⟩) | (refine st_y (y_convbs (t := 38) (t' := 9) (e := 5) (l := [u8 (xorI ((s.getD ((k : Int)).toNat 0).toNat : Int) (1 + (x : Int)))]) kr kr kr rfl (fun w c => fun j u hj => by rw [Addr.add_lit]; exact hc_blk 0 rfl (by rw [Nat.zero_add, List.getElem?_toArray]; exact hj) w c)) rfl ?_)
      refine c_nil (x_one (h_keep (fun w c => by exact c.drop.drop) ?_))
      refine h_take 14 rfl kr kr kr (by exact y_cat rfl rfl (by simp <;> omega) (by simp <;> omega)) rfl (fun w c => by exact c.drop.drop) ?_
      refine h_take 19 rfl kr kr kr (by exact y_cat rfl rfl (by simp <;> omega) (by simp <;> omega)) rfl (fun w c => by exact c.drop.drop) ?_
      refine h_take 20 rfl kr kr kr (by exact y_assign rfl) rfl (fun w c => by exact c.drop.drop) ?_
      refine h_end kr ?_
      repeat' (first | (show oC; refine c_ret ?_) | (show AT _ _ _ _; refine x_then ?_))
      exact x_ret1 Tryz.results101 (res_tmp rfl) (fun w' c' => ⟨_, _, rfl, ⟨i, _, _, hi, rfl, s.take k ++ [u8 (xorI ((s.getD ((k : Int)).toNat 0).toNat : Int) (1 + (x : Int)))] ++ s.drop (k + 1), rfl, by simp <;> omega, rfl⟩, c'.sub (.cons _ (List.Sublist.refl _))⟩)
end Go.Proofs.YtdnhmnnccfoliaaGreatDoor

namespace Go.Proofs.YtdnhmnnccfoliaaGreatDoor
open Go.Lg Go.Proofs Go.RowKit
attribute [local irreducible] Code.wp wpList bodyPost Exit.then Exit.inBlock Hp Again Calls Y AT ResV QT Qn QI wpAny wpAnyQ
set_option maxRecDepth 20000
set_option maxHeartbeats 4000000

theorem copy_next {ms : List Mat} {m : Mat} {i : Nat} (h : ms[i]? = some m) : (ms.take i).flatMap matT ++ (List.map Go.Lg.T.c [iV m.1, iV m.2.1] ++ [iT m.2.2]) = (ms.take (i + 1)).flatMap matT := by
  rw [List.take_add_one, h, List.flatMap_append]; rfl
theorem l8Copy_b {w : World} {r : Rp} {e : Nat} {u0 u1 u2 u3 : Value} (h0 : Rd w (iT r.q.2.1) u0) (h1 : Rd w (iT r.q.2.2) u1) (h2 : Rd w (iT r.d) u2) (h3 : Rd w (matsT e r.m) u3) (q1 : r.q.2.1.length ≤ 1000) (q2 : r.q.2.2.length ≤ 1000) (hb : r.d.length ≤ 1000) (hml : r.m.length ≤ 1000) (hbm : ∀ (i : Nat) (m : Mat), r.m[i]? = some m → m.2.2.length ≤ 1048576) :
    Does Tryz.prog 148 [.agg #[iV r.p, iV r.q.1, u0, u1, u2, u3]] w (GivesR r) := by
  obtain ⟨p, ⟨n, F, T⟩, d, ms⟩ := r
  simp only at h0 h1 h2 h3 hb hml q1 q2 hbm ⊢
  obtain ⟨a0, c0, rfl, hs0, _, _, _⟩ := h0.ints
  obtain ⟨a1, c1, rfl, hs1, _, _, _⟩ := h1.ints
  obtain ⟨a2, c2, rfl, hs2, _, _, _⟩ := h2.ints
  obtain ⟨a3, c3, rfl, hs3, _, _, hg3⟩ := rd_mats h3
  refine fn_enter Tryz.func148 rfl Tryz.ntmps148 rfl ?_
  repeat' (first | (show oL; first | (show oA (.box _ _); refine m_box rfl rfl (fun b1 hb1 => ?_)) | (show oA (.alloc _); refine m_alloc tabs rfl rfl (fun b2 hb2 => ?_))) | refine xNt ?_ | (show oC; first | refine c_seq ?_ | refine c_region ?_))
  refine c_all (Hp [] w [.blk b1 #[iV p, iV n, .slice a0 F.length c0, .slice a1 T.length c1, .slice a2 d.length c2, .slice a3 ms.length c3] 29]) kr (fun _ c => Hp.drew c) ?_
  refine fl_begin 11 rfl tabs rfl rfl ?_
  refine fl_take 0 rfl kr kr kr kr kr kr (by exact y_field tabs rfl rfl rfl) rfl (fun w c => by exact c.drop) ?_
  refine fl_take 1 rfl kr kr kr kr kr kr (by exact y_load tabs rfl rfl (hc_blk 0 rfl rfl)) rfl (fun w c => by exact c.drop) ?_
  refine fl_take 2 rfl kr kr kr kr kr kr (by exact y_field tabs rfl rfl rfl) rfl (fun w c => by exact c.drop) ?_
  refine fl_take 3 rfl kr kr kr kr kr kr (by exact y_load3 tabs rfl rfl (hc_blk 0 rfl rfl) (hc_blk 0 rfl rfl) (hc_blk 0 rfl rfl)) rfl (fun w c => by exact c.drop) ?_
  refine fl_take 6 rfl kr kr kr kr kr kr (by exact y_field tabs rfl rfl rfl) rfl (fun w c => by exact c.drop) ?_
  refine fl_take 7 rfl kr kr kr kr kr kr (by exact y_load tabs rfl rfl (hc_blk 0 rfl rfl)) rfl (fun w c => by exact c.drop) ?_
  refine fl_copy 4 5 8 9 rfl tabs rfl rfl rfl rfl rfl rfl rfl rfl rfl rfl rfl om (fun w c => c.rd h2) rfl rfl rfl (stf_call (ent_of Tryz.func78 kr rfl) rfl rfl (fun w c => l6Copy_ok (q := (n, F, T)) (c.rd h0) (c.rd h1) (by simp only [szQ]; omega))) kr kr (fun w c => c.sub sL) ?_
  rintro v H0 ⟨aF, cF, aT, cT, rfl, hsF, hsT, rfl⟩ gd gm ad cd hgd hgm hsd
  refine fl_take 10 rfl kr kr kr kr kr kr (by exact y_bld4 (bld_rp4 _ _ _ _ _ _ _ _ _ _ _ _ _ _) rfl rfl rfl rfl) rfl sS ?_
  refine fl_end rfl tabs rfl rfl rfl kr sS (fun bf hbf => ?_)
  refine h_only 12 rfl kr ?_
  (refine m_storeb 0 tabs rfl rfl rfl rfl rfl rfl rfl ?_)
  refine c_nil (x_one (h_keep sS ?_))
  refine h_end kr ?_
  repeat' (first | (show oL; first | refine sAs rfl rfl ?_) | refine xNt ?_ | (show oC; first | refine c_seq ?_ | refine c_region ?_ | refine c_block ?_) | (show AT _ _ _ _; refine x_then ?_))
  refine c_loopH (α := Nat × Option Addr × Nat) [1, 2, 3] (fun s => [(4, .int .i64 s.1)]) (fun s => s.1 ≤ ms.length) (fun s => [.own (matsT 41 (ms.take s.1)) (.slice s.2.1 s.1 s.2.2), .blk bf #[iV p, iV n, .slice aF F.length cF, .slice aT T.length cT, .slice ad d.length cd, .slice s.2.1 s.1 s.2.2] 29, .own (iT d) (.slice ad d.length cd), .own (iT T) (.slice aT T.length cT), .own (iT F) (.slice aF F.length cF), .blk b2 #[iV 0, iV 0, .slice none 0 0, .slice none 0 0, .slice none 0 0, .slice none 0 0] 29, .blk b1 #[iV p, iV n, .slice a0 F.length c0, .slice a1 T.length c1, .slice a2 d.length c2, .slice a3 ms.length c3] 29]) (fun s => ms.length - s.1) (0, some ⟨gm, 0, none⟩, 0) rfl sB ?_ ?_ ?_
  · exact Nat.zero_le _
  · exact fun w' c' => c'.front (i := 2) rfl
  · rintro ⟨i, am, cm⟩ hi
    simp only at hi ⊢
    have hln : (ms.take i).length = i := by rw [List.length_take]; omega
    by_cases hin : i < ms.length
    · obtain ⟨m, hm⟩ : ∃ m, ms[i]? = some m := ⟨_, List.getElem?_eq_getElem hin⟩
      obtain ⟨a4, c4, g1, g2, g3, g4⟩ := hg3 i m hm
      repeat' (first | (show oL; first | refine sMv rfl rfl ?_ | refine sFd tabs rfl rfl rfl rfl ?_ | refine sLd 6 tabs rfl rfl rfl rfl rfl ?_ | refine sLs rfl rfl rfl ?_ | refine sLn tabs rfl rfl rfl ?_) | refine xNt ?_ | (show oC; first | refine c_seq ?_ | refine c_region ?_ | refine c_skip (x_then ?_) | refine c_block ?_ | refine c_ift rfl aO ?_))
      refine c_mixR (Hp [] w [.blk bf #[iV p, iV n, .slice aF F.length cF, .slice aT T.length cT, .slice ad d.length cd, .slice am i cm] 29, .blk b1 #[iV p, iV n, .slice a0 F.length c0, .slice a1 T.length c1, .slice a2 d.length c2, .slice a3 ms.length c3] 29]) 10 kr kr kr kr kr (fun _ c => Hp.drew c) ?_
      refine h_take 0 rfl kr kr kr (by exact y_field tabs rfl rfl rfl) rfl sS ?_
      refine h_take 1 rfl kr kr kr (by exact y_load tabs rfl rfl (hc_blk 0 rfl rfl)) rfl sS ?_
      refine h_take 2 rfl kr kr kr (by exact y_field tabs rfl rfl rfl) rfl sS ?_
      refine h_take 3 rfl kr kr kr (by exact y_load tabs rfl rfl (hc_blk 1 rfl rfl)) rfl sS ?_
      refine h_take 4 rfl kr kr kr (by exact y_move rfl) rfl sS ?_
      refine h_take 5 rfl kr kr kr (by exact y_ixa tabs rfl rfl rfl hs3 om om) rfl sS ?_
      refine h_take 6 rfl kr kr kr (by exact y_load3 tabs rfl rfl (hc_w0 g1) (hc_w0 g2) (hc_w0 g3)) rfl sS ?_
      refine h_only 7 rfl kr ?_
      first | (refine m_build1 tabs (us := [iV m.1, iV m.2.1, .slice a6 m.2.2.length c6]) rfl rfl rfl rfl (by decide) rfl (fun g7 hg7 => ?_)) | (refine m_call (ent_of Tryz.func128 kr rfl) rfl rfl (fun w c => l3Copy_ok (m := m) (c.rd g4) (hbm i m hm)) ?_; rintro v H' ⟨a6, c6, rfl, hs6, rfl⟩) | (refine m_push1 [iV m.1, iV m.2.1] 0 0 tabs (m' := i) rfl rfl rfl rfl rfl rfl rfl (by rw [flatMap_length matT_length, hln]) (by rw [flatMap_length matT_length, hln]; omega) (by decide) rfl rfl (fun a9 c9 => ?_))
      refine c_nil (x_one (h_keep sS ?_))
      refine h_only 8 rfl kr ?_
      first | (refine m_build1 tabs (us := [iV m.1, iV m.2.1, .slice a6 m.2.2.length c6]) rfl rfl rfl rfl (by decide) rfl (fun g7 hg7 => ?_)) | (refine m_call (ent_of Tryz.func128 kr rfl) rfl rfl (fun w c => l3Copy_ok (m := m) (c.rd g4) (hbm i m hm)) ?_; rintro v H' ⟨a6, c6, rfl, hs6, rfl⟩) | (refine m_push1 [iV m.1, iV m.2.1] 0 0 tabs (m' := i) rfl rfl rfl rfl rfl rfl rfl (by rw [flatMap_length matT_length, hln]) (by rw [flatMap_length matT_length, hln]; omega) (by decide) rfl rfl (fun a9 c9 => ?_))
      refine c_nil (x_one (h_keep sS ?_))
      refine h_only 9 rfl kr ?_
      first | (refine m_build1 tabs (us := [iV m.1, iV m.2.1, .slice a6 m.2.2.length c6]) rfl rfl rfl rfl (by decide) rfl (fun g7 hg7 => ?_)) | (refine m_call (ent_of Tryz.func128 kr rfl) rfl rfl (fun w c => l3Copy_ok (m := m) (c.rd g4) (hbm i m hm)) ?_; rintro v H' ⟨a6, c6, rfl, hs6, rfl⟩) | (refine m_push1 [iV m.1, iV m.2.1] 0 0 tabs (m' := i) rfl rfl rfl rfl rfl rfl rfl (by rw [flatMap_length matT_length, hln]) (by rw [flatMap_length matT_length, hln]; omega) (by decide) rfl rfl (fun a9 c9 => ?_))
      refine c_nil (x_one (h_keep sS ?_))
      refine h_end kr ?_
      repeat' (first | (show oL; first | refine sMv rfl rfl ?_ | refine sAs rfl rfl ?_ | refine sFd tabs rfl rfl rfl rfl ?_ | refine sAd rfl rfl om rfl ?_ | (show oA (.store _ _ _); refine m_storef 1 tabs rfl rfl rfl rfl rfl rfl ?_)) | (show oN; first | refine c_nil (x_then ?_) | refine c_nil ?_) | (show oC; refine c_region ?_) | (show AT _ _ _ _; first | refine x_then ?_ | refine x_blk ?_))
      refine x_nx (i + 1, a9, c9) sB (by simp only; omega) (fun w' c' => ?_) (by simp only; omega)
      rw [copy_next hm] at c'
      exact c'
    · have : i = ms.length := by omega
      subst this
      rw [List.take_length]
      refine AT.fact (mats_sl 0 rfl) (fun hsl => ?_)
      repeat' (first | (show oL; first | refine sMv rfl rfl ?_ | refine sFd tabs rfl rfl rfl rfl ?_ | (show oA (.load _ _); first | refine sLd 6 tabs rfl rfl rfl rfl rfl ?_ | refine sLb 1 tabs rfl rfl rfl rfl rfl ?_) | refine sLs rfl rfl rfl ?_ | refine sLn tabs rfl rfl rfl ?_ | (show oA (.store _ _ _); refine m_storeb 5 tabs rfl rfl rfl rfl rfl rfl rfl ?_)) | refine xNt ?_ | (show oC; first | refine c_seq ?_ | refine c_region ?_ | refine c_ret ?_ | refine c_exit ?_ | refine c_iff rfl nN ?_) | (show AT _ _ _ _; first | refine x_then ?_ | refine x_then_exit ?_ | refine x_blk_exit rfl ?_))
      exact x_ret1 Tryz.results148 (res_cellb 5 tabs rfl rfl rfl rfl) (fun w' c' => ⟨_, _, rfl, ⟨aF, cF, aT, cT, ad, cd, am, cm, rfl, hsF, hsT, hsd, hsl, rfl⟩, (c'.sub (H' := [.own (matsT 41 ms) (.slice am ms.length cm), .own (iT d) (.slice ad d.length cd), .own (iT T) (.slice aT T.length cT), .own (iT F) (.slice aF F.length cF)]) sL)⟩)
end Go.Proofs.YtdnhmnnccfoliaaGreatDoor

namespace Go.Proofs.YtdnhmnnccfoliaaGreatDoor
open Go.Lg Go.Proofs Go.RowKit
attribute [local irreducible] Code.wp wpList bodyPost Exit.then Exit.inBlock Hp Again Calls Y AT ResV QT Qn QI wpAny wpAnyQ
set_option maxRecDepth 20000
set_option maxHeartbeats 4000000

structure RdR (w : World) (r : Rp) (x0 : Option Addr) (x0' : Nat) (x1 : Option Addr) (x1' : Nat) (x2 : Option Addr) (x2' : Nat) (x3 : Option Addr) (x3' : Nat) : Prop where
  r0 : Rd w (iT r.q.2.1) (.slice x0 r.q.2.1.length x0')
  r1 : Rd w (iT r.q.2.2) (.slice x1 r.q.2.2.length x1')
  r2 : Rd w (iT r.d) (.slice x2 r.d.length x2')
  r3 : Rd w (matsT 41 r.m) (.slice x3 r.m.length x3')
theorem hp_rr {w0 w : World} {H : List HE} (c : Hp [] w0 H w) {r : Rp} {x0 x1 x2 x3 : Option Addr} {x0' x1' x2' x3' : Nat} (h : RdR w0 r x0 x0' x1 x1' x2 x2' x3 x3') : RdR w r x0 x0' x1 x1' x2 x2' x3 x3' := ⟨c.rd h.r0, c.rd h.r1, c.rd h.r2, c.rd h.r3⟩
theorem rr_own (i : Nat) {w0 w : World} {H : List HE} (c : Hp [] w0 H w) {r : Rp} {x0 x1 x2 x3 : Option Addr} {x0' x1' x2' x3' : Nat} (h3 : H[i]? = some (.own (matsT 41 r.m) (.slice x3 r.m.length x3'))) (h2 : H[i + 1]? = some (.own (iT r.d) (.slice x2 r.d.length x2'))) (h1 : H[i + 2]? = some (.own (iT r.q.2.2) (.slice x1 r.q.2.2.length x1'))) (h0 : H[i + 3]? = some (.own (iT r.q.2.1) (.slice x0 r.q.2.1.length x0'))) : RdR w r x0 x0' x1 x1' x2 x2' x3 x3' := ⟨c.own_rd h0, c.own_rd h1, c.own_rd h2, c.own_rd h3⟩
theorem fmtR_len (r : Rp) : (fmtR r).length ≤ 900 := by
  unfold fmtR
  split
  · rename_i h
    have h1 := fmtP_len r.p r.m
    have h2 := h.ml
    have h3 := h.2.1.2.1
    have h4 := h.2.1.1.1
    rw [List.length_append, digL, List.length_map]
    have := Nat.mul_le_mul_left 133 h2
    omega
  · simp
theorem hp_rot {M : List Nat} {w0 w : World} {x : HE} {HX L : List HE} (c : Hp M w0 ((x :: HX) ++ L) w) : Hp M w0 (x :: (L ++ HX)) w := c.perm (by
  rw [List.cons_append]
  exact List.Perm.cons _ List.perm_append_comm)
theorem DrawFormatRep_ok {w : World} {u : Value} (hc : CodeF w [] u) : Does Tryz.prog 48 [u] w (GivesRp BndR) := by
  refine fn_enter Tryz.func48 rfl Tryz.ntmps48 rfl ?_
  repeat' (first | (show oL; first | refine sMv rfl rfl ?_ | (show oA (.call _); first | (refine m_call (ent_of Tryz.func97 kr rfl) rfl rfl (fun w c => l1New_ok (hp_code c hc)) ?_; rintro v H' ⟨b, ch, rfl, rfl⟩) | (refine m_callL 0 (ent_of Tryz.func130 kr rfl) rfl rfl rfl (fun w M' hl => l8Any_ok hl hc (Nat.zero_le _)) ?_; rintro v H' ⟨i, ch, _, hi, rfl, ra, hra, x0, x0', x1, x1', x2, x2', x3, x3', rfl, sx0, sx1, sx2, sx3, rfl⟩)) | (show oA (.store _ _ _); refine m_storeb 5 tabs rfl rfl rfl rfl rfl rfl rfl ?_) | (show oA (.alloc _); refine m_alloc tabs rfl rfl (fun b2 hb2 => ?_))) | refine xNt ?_ | (show oC; first | refine c_seq ?_ | refine c_region ?_ | refine c_ret ?_))
  exact x_ret1 Tryz.results48 (res_cellb 5 tabs rfl rfl rfl rfl) (fun wz cz => ⟨_, _, rfl, ⟨ra, hra, x0, x0', x1, x1', x2, x2', x3, x3', rfl, sx0, sx1, sx2, sx3, rfl⟩, cz.sel [1, 2, 3, 4] rfl⟩)
def rwL : List (List UInt8) := [[], [49], [49, 49], [49, 49, 32, 49, 120, 49, 58, 49], [49, 49, 32, 49, 120, 49, 58, 50], [48, 48, 32, 48, 120, 48, 58], [49, 50, 32, 50, 120, 49, 58, 48, 47, 49], [49, 50, 32, 49, 120, 50, 58, 48, 49]]
theorem rw_len : ∀ x ∈ rwL, x.length ≤ 20 := by decide
theorem DrawParseRep_ok {w : World} {u : Value} (hc : CodeF w [] u) : Does Tryz.prog 50 [u] w (fun v H => ∃ (p : Int) (q : Qv) (a : Option Addr) (c : Nat) (a' : Option Addr) (c' : Nat) (s : List UInt8), v = .tuple #[iV p, .agg #[iV q.1, .slice a q.2.1.length c, .slice a' q.2.2.length c'], sV s] ∧ (s.length ≤ 1000 ∧ q.2.1.length ≤ 7 ∧ q.2.2.length ≤ 7) ∧ H = [.own (iT q.2.2) (.slice a' q.2.2.length c'), .own (iT q.2.1) (.slice a q.2.1.length c)]) := by
  have tok0 : True := trivial
  refine fn_enter Tryz.func50 rfl Tryz.ntmps50 rfl ?_
  repeat' (first | (show oL; first | refine sMv rfl rfl ?_ | refine sAs rfl rfl ?_ | refine sLb 0 tabs rfl rfl rfl rfl rfl ?_ | (show oA (.binOp _ _ _ _ _); refine st_y (y_eql rfl rfl) rfl ?_) | (show oA (.call _); first | (refine m_call (ent_of Tryz.func97 kr rfl) rfl rfl (fun w c => l1New_ok (hp_code c hc)) ?_; rintro v H' ⟨b, ch, rfl, rfl⟩) | (refine m_callL 0 (ent_of Tryz.func130 kr rfl) rfl rfl rfl (fun w M' hl => l8Any_ok hl hc (Nat.zero_le _)) ?_; rintro v H' ⟨i, ch, _, hi, rfl, ra, hra, x0, x0', x1, x1', x2, x2', x3, x3', rfl, sx0, sx1, sx2, sx3, rfl⟩) | (refine m_call (ent_of Tryz.func51 kr rfl) rfl rfl (fun w c => spec_FormatRep_ok (r := ra) (c.own_rd (i := 5) rfl) (c.own_rd (i := 4) rfl) (c.own_rd (i := 3) rfl) (c.own_rd (i := 2) rfl)) ?_; rintro v H' ⟨rfl, rfl⟩; have hfl := fmtR_len ra) | (refine m_callL 1 (ent_of Tryz.func100 kr rfl) rfl rfl rfl (fun w M' hl => l1BelowN_ok 4 (by decide) hl hc hi) ?_; rintro v H' ⟨i, ch, _, hi, rfl, z, rfl, hz, rfl⟩)) | (show oA (.store _ _ _); refine m_storeb 0 tabs rfl rfl rfl rfl rfl rfl rfl ?_) | (show oA (.alloc _); first | (have _t := tok0; refine m_alloc tabs rfl rfl (fun b3 hb3 => ?_); clear _t tok0) | refine m_alloc tabs rfl rfl (fun b6 hb6 => ?_))) | refine xNt ?_ | (show oC; first | refine c_seq ?_ | refine c_region ?_ | refine c_skip (x_blk ?_) | refine c_block ?_ | refine c_if rfl (fun h => ?_) (fun h => ?_)) | (show AT _ _ _ _; refine x_then ?_))
  · skip
    refine c_all (Hp [] w [.blk b6 #[iV ra.p, iV ra.q.1, .slice x0 ra.q.2.1.length x0', .slice x1 ra.q.2.2.length x1', .slice x2 ra.d.length x2', .slice x3 ra.m.length x3'] 29]) kr (fun _ c => Hp.drew c) ?_
    refine h_take 0 rfl kr kr kr (by exact y_field tabs rfl rfl rfl) rfl sS ?_
    refine h_take 1 rfl kr kr kr (by exact y_load tabs rfl rfl (hc_blk 0 rfl rfl)) rfl sS ?_
    refine h_take 2 rfl kr kr kr (by exact y_field tabs rfl rfl rfl) rfl sS ?_
    refine h_take 3 rfl kr kr kr (by exact y_load3 tabs rfl rfl (hc_blk 0 rfl rfl) (hc_blk 0 rfl rfl) (hc_blk 0 rfl rfl)) rfl sS ?_
    refine h_take 4 rfl kr kr kr (by exact y_move rfl) rfl sS ?_
    refine h_take 5 rfl kr kr kr (by exact y_move rfl) rfl sS ?_
    refine h_only 6 rfl kr ?_
    first | (refine m_callL 0 (ent_of Tryz.func101 kr rfl) rfl rfl rfl (fun w M' hl => l1Spoil_ok (s := fmtR ra) om hl hc hi) ?_; rintro v H' ⟨i, ch, _, hi, rfl, t, rfl, ht, rfl⟩) | (refine m_storeb 6 tabs rfl rfl rfl rfl rfl rfl rfl ?_)
    refine c_nil (x_one (h_keep sS ?_))
    refine h_take 7 rfl kr kr kr (by exact y_assign rfl) rfl sS ?_
    refine h_only 8 rfl kr ?_
    first | (refine m_callL 0 (ent_of Tryz.func101 kr rfl) rfl rfl rfl (fun w M' hl => l1Spoil_ok (s := fmtR ra) om hl hc hi) ?_; rintro v H' ⟨i, ch, _, hi, rfl, t, rfl, ht, rfl⟩) | (refine m_storeb 6 tabs rfl rfl rfl rfl rfl rfl rfl ?_)
    refine c_nil (x_one (h_keep sS ?_))
    refine h_take 9 rfl kr kr kr (by exact y_assign rfl) rfl sS ?_
    refine h_end kr ?_
    repeat' (first | (show oC; refine c_ret ?_) | (show AT _ _ _ _; first | refine x_then ?_ | refine x_then_ret ?_ | refine x_blk_ret ?_))
    exact x_ret3 Tryz.results50 (res_tmp rfl) (res_cellb 6 tabs rfl rfl rfl rfl) (res_tmp rfl) (fun w' c' => ⟨_, _, rfl, ⟨ra.p, ra.q, x0, x0', x1, x1', t, rfl, ⟨by omega, hra.f, hra.t⟩, rfl⟩, c'.sel [4, 5] rfl⟩)
  · skip
    refine c_all (Hp [] w [.blk b6 #[iV ra.p, iV ra.q.1, .slice x0 ra.q.2.1.length x0', .slice x1 ra.q.2.2.length x1', .slice x2 ra.d.length x2', .slice x3 ra.m.length x3'] 29]) kr (fun _ c => Hp.drew c) ?_
    refine h_take 0 rfl kr kr kr (by exact y_field tabs rfl rfl rfl) rfl sS ?_
    refine h_take 1 rfl kr kr kr (by exact y_load tabs rfl rfl (hc_blk 0 rfl rfl)) rfl sS ?_
    refine h_take 2 rfl kr kr kr (by exact y_field tabs rfl rfl rfl) rfl sS ?_
    refine h_take 3 rfl kr kr kr (by exact y_load3 tabs rfl rfl (hc_blk 0 rfl rfl) (hc_blk 0 rfl rfl) (hc_blk 0 rfl rfl)) rfl sS ?_
    refine h_take 4 rfl kr kr kr (by exact y_move rfl) rfl sS ?_
    refine h_only 5 rfl kr ?_
    first | (refine m_buildc tabs (rwL.map sV) rfl rfl rfl rfl rfl rfl rfl (fun u hu => by obtain ⟨q, _, rfl⟩ := List.mem_map.1 hu; rfl) (fun g hg => ?_)) | (refine m_callL 1 (ent_of Tryz.func102 kr rfl) rfl rfl rfl (fun w M' hl => l1Pick_ok (l := rwL) hl hc hi (hl.own 0 rfl) (by decide)) ?_; rintro v H' ⟨i, ch, _, hi, rfl, t, rfl, ht, rfl⟩; have htl := rw_len t ht) | (refine m_storeb 7 tabs rfl rfl rfl rfl rfl rfl rfl ?_)
    refine c_nil (x_one (h_keep sS ?_))
    refine h_only 6 rfl kr ?_
    first | (refine m_buildc tabs (rwL.map sV) rfl rfl rfl rfl rfl rfl rfl (fun u hu => by obtain ⟨q, _, rfl⟩ := List.mem_map.1 hu; rfl) (fun g hg => ?_)) | (refine m_callL 1 (ent_of Tryz.func102 kr rfl) rfl rfl rfl (fun w M' hl => l1Pick_ok (l := rwL) hl hc hi (hl.own 0 rfl) (by decide)) ?_; rintro v H' ⟨i, ch, _, hi, rfl, t, rfl, ht, rfl⟩; have htl := rw_len t ht) | (refine m_storeb 7 tabs rfl rfl rfl rfl rfl rfl rfl ?_)
    refine c_nil (x_one (h_keep sS ?_))
    refine h_take 7 rfl kr kr kr (by exact y_assign rfl) rfl sS ?_
    refine h_only 8 rfl kr ?_
    first | (refine m_buildc tabs (rwL.map sV) rfl rfl rfl rfl rfl rfl rfl (fun u hu => by obtain ⟨q, _, rfl⟩ := List.mem_map.1 hu; rfl) (fun g hg => ?_)) | (refine m_callL 1 (ent_of Tryz.func102 kr rfl) rfl rfl rfl (fun w M' hl => l1Pick_ok (l := rwL) hl hc hi (hl.own 0 rfl) (by decide)) ?_; rintro v H' ⟨i, ch, _, hi, rfl, t, rfl, ht, rfl⟩; have htl := rw_len t ht) | (refine m_storeb 7 tabs rfl rfl rfl rfl rfl rfl rfl ?_)
    refine c_nil (x_one (h_keep sS ?_))
    refine h_take 9 rfl kr kr kr (by exact y_assign rfl) rfl sS ?_
    refine h_end kr ?_
    repeat' (first | (show oC; refine c_ret ?_) | (show AT _ _ _ _; first | refine x_then ?_ | refine x_then_ret ?_ | refine x_blk_ret ?_))
    exact x_ret3 Tryz.results50 (res_tmp rfl) (res_cellb 7 tabs rfl rfl rfl rfl) (res_tmp rfl) (fun w' c' => ⟨_, _, rfl, ⟨ra.p, ra.q, x0, x0', x1, x1', t, rfl, ⟨by omega, hra.f, hra.t⟩, rfl⟩, c'.sel [5, 6] rfl⟩)
  · skip
    refine c_all (Hp [] w [.blk b6 #[iV ra.p, iV ra.q.1, .slice x0 ra.q.2.1.length x0', .slice x1 ra.q.2.2.length x1', .slice x2 ra.d.length x2', .slice x3 ra.m.length x3'] 29]) kr (fun _ c => Hp.drew c) ?_
    refine h_take 0 rfl kr kr kr (by exact y_field tabs rfl rfl rfl) rfl sS ?_
    refine h_take 1 rfl kr kr kr (by exact y_load tabs rfl rfl (hc_blk 0 rfl rfl)) rfl sS ?_
    refine h_take 2 rfl kr kr kr (by exact y_field tabs rfl rfl rfl) rfl sS ?_
    refine h_take 3 rfl kr kr kr (by exact y_load3 tabs rfl rfl (hc_blk 0 rfl rfl) (hc_blk 0 rfl rfl) (hc_blk 0 rfl rfl)) rfl sS ?_
    refine h_take 4 rfl kr kr kr (by exact y_move rfl) rfl sS ?_
    refine h_take 5 rfl kr kr kr (by exact y_assign rfl) rfl sS ?_
    refine h_only 6 rfl kr ?_
    (refine m_storeb 6 tabs rfl rfl rfl rfl rfl rfl rfl ?_)
    refine c_nil (x_one (h_keep sS ?_))
    refine h_take 7 rfl kr kr kr (by exact y_assign rfl) rfl sS ?_
    refine h_end kr ?_
    repeat' (first | (show oC; refine c_ret ?_) | (show AT _ _ _ _; refine x_then ?_))
    exact x_ret3 Tryz.results50 (res_tmp rfl) (res_cellb 6 tabs rfl rfl rfl rfl) (res_tmp rfl) (fun w' c' => ⟨_, _, rfl, ⟨ra.p, ra.q, x0, x0', x1, x1', fmtR ra, rfl, ⟨by omega, hra.f, hra.t⟩, rfl⟩, c'.sel [4, 5] rfl⟩)
def GivesMA (v : Value) (H : List HE) : Prop := ∃ (ra : Rp) (x : Pa) (x0 : Option Addr) (x0' : Nat) (x1 : Option Addr) (x1' : Nat) (x2 : Option Addr) (x2' : Nat) (x3 : Option Addr) (x3' : Nat) (ax : Option Addr) (cx : Nat), v = .tuple #[.agg #[iV ra.p, iV ra.q.1, .slice x0 ra.q.2.1.length x0', .slice x1 ra.q.2.2.length x1', .slice x2 ra.d.length x2', .slice x3 ra.m.length x3'], .agg #[iV x.1, .slice ax x.2.length cx]] ∧ x.2.length ≤ 21 ∧ ∀ w w', Hp [] w H w' → RdR w' ra x0 x0' x1 x1' x2 x2' x3 x3' ∧ Rd w' (iT x.2) (.slice ax x.2.length cx)
theorem DrawMapAlong_ok {w : World} {u : Value} (hc : CodeF w [] u) : Does Tryz.prog 61 [u] w GivesMA := by
  have tok0 : True := trivial
  have tok1 : True := trivial
  refine fn_enter Tryz.func61 rfl Tryz.ntmps61 rfl ?_
  repeat' (first | (show oL; first | refine sMv rfl rfl ?_ | refine sAs rfl rfl ?_ | (show oA (.call _); first | (refine m_call (ent_of Tryz.func97 kr rfl) rfl rfl (fun w c => l1New_ok (hp_code c hc)) ?_; rintro v H' ⟨b, ch, rfl, rfl⟩) | (refine m_callL 0 (ent_of Tryz.func130 kr rfl) rfl rfl rfl (fun w M' hl => l8Any_ok hl hc (Nat.zero_le _)) ?_; rintro v H' ⟨i, ch, _, hi, rfl, ra, hra, x0, x0', x1, x1', x2, x2', x3, x3', rfl, sx0, sx1, sx2, sx3, rfl⟩)) | (show oA (.store _ _ _); refine m_storeb 0 tabs rfl rfl rfl rfl rfl rfl rfl ?_) | (show oA (.alloc _); first | (have _t := tok0; refine m_alloc tabs rfl rfl (fun b2 hb2 => ?_); clear _t tok0) | (have _t := tok1; refine m_alloc tabs rfl rfl (fun b3 hb3 => ?_); clear _t tok1) | refine m_alloc tabs rfl rfl (fun b5 hb5 => ?_))) | refine xNt ?_ | (show oC; first | refine c_seq ?_ | refine c_region ?_))
  refine c_all (Hp [] w [.blk b5 #[iV ra.p, iV ra.q.1, .slice x0 ra.q.2.1.length x0', .slice x1 ra.q.2.2.length x1', .slice x2 ra.d.length x2', .slice x3 ra.m.length x3'] 29]) kr (fun _ c => Hp.drew c) ?_
  refine h_take 0 rfl kr kr kr (by exact y_loadb 0 tabs rfl rfl rfl rfl) rfl sS ?_
  refine h_take 1 rfl kr kr kr (by exact y_move rfl) rfl sS ?_
  refine h_take 2 rfl kr kr kr (by exact y_field tabs rfl rfl rfl) rfl sS ?_
  refine h_take 3 rfl kr kr kr (by exact y_load3 tabs rfl rfl (hc_blk 0 rfl rfl) (hc_blk 0 rfl rfl) (hc_blk 0 rfl rfl)) rfl sS ?_
  refine h_only 4 rfl kr ?_
  first | (refine m_callL 1 (ent_of Tryz.func141 kr rfl) rfl rfl rfl (fun w M' hl => l7Path_ok (q := ra.q) hl hc hi (hl.own 4 rfl) (hl.own 3 rfl)) ?_; rintro v H' ⟨i, ch, HX, hi, rfl, x, ax, cx, rfl, hxl, hxr⟩; refine AT.cls (fun w c => hp_rot c) ?_) | (refine m_storeb 7 tabs rfl rfl rfl rfl rfl rfl rfl ?_) | (refine m_storeb 6 tabs rfl rfl rfl rfl rfl rfl rfl ?_)
  refine c_nil (x_one (h_keep sS ?_))
  refine h_only 5 rfl kr ?_
  first | (refine m_callL 1 (ent_of Tryz.func141 kr rfl) rfl rfl rfl (fun w M' hl => l7Path_ok (q := ra.q) hl hc hi (hl.own 4 rfl) (hl.own 3 rfl)) ?_; rintro v H' ⟨i, ch, HX, hi, rfl, x, ax, cx, rfl, hxl, hxr⟩; refine AT.cls (fun w c => hp_rot c) ?_) | (refine m_storeb 7 tabs rfl rfl rfl rfl rfl rfl rfl ?_) | (refine m_storeb 6 tabs rfl rfl rfl rfl rfl rfl rfl ?_)
  refine c_nil (x_one (h_keep sS ?_))
  refine h_only 6 rfl kr ?_
  first | (refine m_callL 1 (ent_of Tryz.func141 kr rfl) rfl rfl rfl (fun w M' hl => l7Path_ok (q := ra.q) hl hc hi (hl.own 4 rfl) (hl.own 3 rfl)) ?_; rintro v H' ⟨i, ch, HX, hi, rfl, x, ax, cx, rfl, hxl, hxr⟩; refine AT.cls (fun w c => hp_rot c) ?_) | (refine m_storeb 7 tabs rfl rfl rfl rfl rfl rfl rfl ?_) | (refine m_storeb 6 tabs rfl rfl rfl rfl rfl rfl rfl ?_)
  refine c_nil (x_one (h_keep sS ?_))
  refine h_end kr ?_
  repeat' (first | (show oC; refine c_ret ?_) | (show AT _ _ _ _; refine x_then ?_))
  exact x_ret2 Tryz.results61 (res_cellb 7 tabs rfl rfl rfl rfl) (res_cellb 6 tabs rfl rfl rfl rfl) (fun w' c' => ⟨_, [.own (matsT 41 ra.m) (.slice x3 ra.m.length x3'), .own (iT ra.d) (.slice x2 ra.d.length x2'), .own (iT ra.q.2.2) (.slice x1 ra.q.2.2.length x1'), .own (iT ra.q.2.1) (.slice x0 ra.q.2.1.length x0')] ++ HX, rfl, ⟨ra, x, x0, x0', x1, x1', x2, x2', x3, x3', ax, cx, rfl, hxl, fun w w' c => ⟨rr_own 0 c rfl rfl rfl rfl, hxr _ _ _ (c.sub (List.sublist_append_right _ _))⟩⟩, c'.sub (by repeat' first | exact List.Sublist.refl _ | apply List.Sublist.cons_cons | apply List.Sublist.cons)⟩)
abbrev GivesQDs (v : Value) (H : List HE) : Prop := ∃ (q : Qv) (a : Option Addr) (c : Nat) (a' : Option Addr) (c' : Nat) (ds : List Int) (ad : Option Addr) (cd : Nat), v = .tuple #[.agg #[iV q.1, .slice a q.2.1.length c, .slice a' q.2.2.length c'], .slice ad ds.length cd] ∧ H = [.own (iT ds) (.slice ad ds.length cd), .own (iT q.2.2) (.slice a' q.2.2.length c'), .own (iT q.2.1) (.slice a q.2.1.length c)]
theorem l8QDims_ok {w : World} {u : Value} (hc : CodeF w [] u) : Does Tryz.prog 145 [u] w GivesQDs := by
  have tok0 : True := trivial
  refine fn_enter Tryz.func145 rfl Tryz.ntmps145 rfl ?_
  repeat' (first | (show oL; first | refine sMv rfl rfl ?_ | refine sAs rfl rfl ?_ | (show oA (.load _ _); first | refine sLb 2 tabs rfl rfl rfl rfl rfl ?_ | refine sLb 3 tabs rfl rfl rfl rfl rfl ?_ | refine sLb 0 tabs rfl rfl rfl rfl rfl ?_) | (show oA (.indexAddr _ _ _); refine st_y (y_ix1 tabs (j := 0) rfl rfl rfl hs rfl om) rfl ?_) | (show oA (.binOp _ _ _ _ _); refine st_y (y_gtr rfl rfl) rfl ?_) | (show oA (.call _); first | (refine m_call (ent_of Tryz.func97 kr rfl) rfl rfl (fun w c => l1New_ok (hp_code c hc)) ?_; rintro v H' ⟨b, ch, rfl, rfl⟩) | (refine m_callL 0 (ent_of Tryz.func169 kr rfl) rfl rfl rfl (fun w M' hl => l6Any_ok hl hc (Nat.zero_le _)) ?_; rintro v H' ⟨i, ch, _, hi, rfl, q, aF, cF, aT, cT, rfl, hq, rfl⟩) | (refine m_callL 1 (ent_of Tryz.func175 kr rfl) rfl rfl rfl (fun w M' hl => l8Dims_ok (q := q) 3 (by decide) hl hc hi) ?_; rintro v H' ⟨i, ch, _, hi, rfl, ds, ad, cd, rfl, hds1, hds2, hds3, rfl⟩; refine AT.fact (own_sl 1 rfl) (fun hsl => ?_); obtain ⟨_, _, e, hs⟩ := hsl; cases e) | (refine m_callL 0 (ent_of Tryz.func108 kr rfl) rfl rfl rfl (fun w M' hl => l1Once_ok 8 hl hc hi) ?_; rintro v H' ⟨i, ch, _, hi, rfl, (_ | _), rfl, rfl⟩) | (refine m_callL 1 (ent_of Tryz.func161 kr rfl) rfl rfl rfl (fun w M' hl => l1PickInt_ok hl hc hi (hl.own 0 rfl) (by decide)) ?_; rintro v H' ⟨i, ch, _, hi, rfl, y, rfl, hy, rfl⟩) | refine sLn tabs rfl rfl rfl ?_) | (show oA (.pick _ _ _); refine st_y (y_pick rfl rfl rfl) rfl ?_) | (show oA (.store _ _ _); first | refine m_storeb 0 tabs rfl rfl rfl rfl rfl rfl rfl ?_ | refine m_storeo 2 (j := 0) tabs rfl rfl rfl rfl om ?_ | refine m_storeb 5 tabs rfl rfl rfl rfl rfl rfl rfl ?_ | refine m_storeb 6 tabs rfl rfl rfl rfl rfl rfl rfl ?_) | (show oA (.alloc _); first | (have _t := tok0; refine m_alloc tabs rfl rfl (fun b2 hb2 => ?_); clear _t tok0) | refine m_alloc tabs rfl rfl (fun b5 hb5 => ?_)) | (show oA (.buildSlice _ _ _); refine m_buildi tabs [-1, 5, 4] rfl rfl rfl rfl rfl rfl rfl (fun g hg => ?_)) | refine st_gy rfl rfl ?_ | refine st_gn rfl rfl rfl ?_) | refine xNt ?_ | (show oC; first | refine c_seq ?_ | refine c_region ?_ | refine c_skip (x_then ?_) | refine c_ret ?_ | refine c_false rfl ?_ | refine c_if rfl (fun h => ?_) (fun h => ?_)))
  · exact x_ret2 Tryz.results145 (res_cellb 5 tabs rfl rfl rfl rfl) (res_tmp rfl) (fun w' c' => ⟨_, [.own (iT (ds)) (.slice ad ds.length cd), .own (iT q.2.2) (.slice aT q.2.2.length cT), .own (iT q.2.1) (.slice aF q.2.1.length cF)], rfl, ⟨q, aF, cF, aT, cT, ds, ad, cd, rfl, rfl⟩, c'.sel [1, 3, 4] rfl⟩)
  · exact x_ret2 Tryz.results145 (res_cellb 6 tabs rfl rfl rfl rfl) (res_tmp rfl) (fun w' c' => ⟨_, [.own (iT (ds.set 0 y)) (.slice ad ds.length cd), .own (iT q.2.2) (.slice aT q.2.2.length cT), .own (iT q.2.1) (.slice aF q.2.1.length cF)], rfl, ⟨q, aF, cF, aT, cT, ds.set 0 y, ad, cd, by simp only [List.length_set], by simp only [List.length_set]⟩, c'.sel [2, 4, 5] rfl⟩)
  · exact x_ret2 Tryz.results145 (res_cellb 5 tabs rfl rfl rfl rfl) (res_tmp rfl) (fun w' c' => ⟨_, [.own (iT (ds)) (.slice ad ds.length cd), .own (iT q.2.2) (.slice aT q.2.2.length cT), .own (iT q.2.1) (.slice aF q.2.1.length cF)], rfl, ⟨q, aF, cF, aT, cT, ds, ad, cd, rfl, rfl⟩, c'.sel [1, 3, 4] rfl⟩)
theorem DrawAreDims_ok {w : World} {u : Value} (hc : CodeF w [] u) : Does Tryz.prog 66 [u] w GivesQDs := by
  have tok0 : True := trivial
  refine fn_enter Tryz.func66 rfl Tryz.ntmps66 rfl ?_
  repeat' (first | (show oL; first | refine sMv rfl rfl ?_ | refine sAs rfl rfl ?_ | refine sLb 0 tabs rfl rfl rfl rfl rfl ?_ | (show oA (.call _); (refine m_call (ent_of Tryz.func145 kr rfl) rfl rfl (fun w c => l8QDims_ok (hp_code c hc)) ?_; rintro v H' ⟨q, aF, cF, aT, cT, ds, ad, cd, rfl, rfl⟩)) | (show oA (.extract _ _); refine st_y (y_ext rfl rfl) rfl ?_) | (show oA (.store _ _ _); first | refine m_storeb 0 tabs rfl rfl rfl rfl rfl rfl rfl ?_ | refine m_storeb 4 tabs rfl rfl rfl rfl rfl rfl rfl ?_) | (show oA (.alloc _); first | (have _t := tok0; refine m_alloc tabs rfl rfl (fun b2 hb2 => ?_); clear _t tok0) | refine m_alloc tabs rfl rfl (fun b5 hb5 => ?_))) | refine xNt ?_ | (show oC; first | refine c_seq ?_ | refine c_region ?_ | refine c_ret ?_))
  exact x_ret2 Tryz.results66 (res_cellb 4 tabs rfl rfl rfl rfl) (res_tmp rfl) (fun w' c' => ⟨_, _, rfl, ⟨q, aF, cF, aT, cT, ds, ad, cd, rfl, rfl⟩, c'.sel [1, 2, 3] rfl⟩)
theorem DrawZeroRep_ok {w : World} {u : Value} (hc : CodeF w [] u) : Does Tryz.prog 67 [u] w (fun v H => ∃ p : Int, ∃ (q : Qv) (a : Option Addr) (c : Nat) (a' : Option Addr) (c' : Nat) (ds : List Int) (ad : Option Addr) (cd : Nat), v = .tuple #[iV p, .agg #[iV q.1, .slice a q.2.1.length c, .slice a' q.2.2.length c'], .slice ad ds.length cd] ∧ H = [.own (iT ds) (.slice ad ds.length cd), .own (iT q.2.2) (.slice a' q.2.2.length c'), .own (iT q.2.1) (.slice a q.2.1.length c)]) := by
  obtain ⟨n, ac, cc, bs, rfl, hcs, _, hn, _, _⟩ := hc.open
  have hlt : n % 5 < 5 := Nat.mod_lt _ (by decide)
  have hmod : (n : Int).tmod 5 = ((n % 5 : Nat) : Int) := rfl
  have tok0 : True := trivial
  refine fn_enter Tryz.func67 rfl Tryz.ntmps67 rfl ?_
  repeat' (first | (show oL; first | refine sMv rfl rfl ?_ | refine sAs rfl rfl ?_ | (show oA (.call _); (refine m_call (ent_of Tryz.func145 kr rfl) rfl rfl (fun w c => l8QDims_ok (hp_code c hc)) ?_; rintro v H' ⟨q, aF, cF, aT, cT, ds, ad, cd, rfl, rfl⟩)) | (show oA (.extract _ _); refine st_y (y_ext rfl rfl) rfl ?_) | (show oA (.store _ _ _); refine m_storeb 0 tabs rfl rfl rfl rfl rfl rfl rfl ?_) | (show oA (.alloc _); first | (have _t := tok0; refine m_alloc tabs rfl rfl (fun b3 hb3 => ?_); clear _t tok0) | refine m_alloc tabs rfl rfl (fun b5 hb5 => ?_))) | refine xNt ?_ | (show oC; first | refine c_seq ?_ | refine c_region ?_))
  refine c_all (Hp [] w [.blk b5 #[iV q.1, .slice aF q.2.1.length cF, .slice aT q.2.2.length cT] 26]) kr (fun _ c => Hp.drew c) ?_
  refine h_take 1 rfl kr kr kr (by exact y_move rfl) rfl sS ?_
  refine h_take 2 rfl kr kr kr (by exact y_len tabs rfl rfl) rfl sS ?_
  refine h_take 3 rfl kr kr kr (by exact y_rem rfl rfl (by decide)) rfl sS ?_
  refine h_take 6 rfl kr kr kr (by exact y_loadb 0 tabs rfl rfl rfl rfl) rfl sS ?_
  refine h_take 7 rfl kr kr kr (by exact y_move rfl) rfl sS ?_
  refine h_only 0 rfl kr ?_
  first | (refine m_buildi tabs [2, 3, 5, 4, 2] rfl rfl rfl rfl rfl rfl rfl (fun g hg => ?_)) | (refine m_storeb 5 tabs rfl rfl rfl rfl rfl rfl rfl ?_) | (refine st_y (y_load tabs rfl rfl (hc_own 0 rfl (j := n % 5) (by simp only [List.length_cons, List.length_nil]; omega))) rfl ?_)
  refine c_nil (x_one (h_keep sS ?_))
  refine h_take 4 rfl kr kr kr (by exact y_ix1 tabs (j := n % 5) rfl rfl rfl .mk hmod hlt) rfl sS ?_
  refine h_only 5 rfl kr ?_
  first | (refine m_buildi tabs [2, 3, 5, 4, 2] rfl rfl rfl rfl rfl rfl rfl (fun g hg => ?_)) | (refine m_storeb 5 tabs rfl rfl rfl rfl rfl rfl rfl ?_) | (refine st_y (y_load tabs rfl rfl (hc_own 0 rfl (j := n % 5) (by simp only [List.length_cons, List.length_nil]; omega))) rfl ?_)
  refine c_nil (x_one (h_keep sS ?_))
  refine h_take 8 rfl kr kr kr (by exact y_assign rfl) rfl sS ?_
  refine h_only 9 rfl kr ?_
  first | (refine m_buildi tabs [2, 3, 5, 4, 2] rfl rfl rfl rfl rfl rfl rfl (fun g hg => ?_)) | (refine m_storeb 5 tabs rfl rfl rfl rfl rfl rfl rfl ?_) | (refine st_y (y_load tabs rfl rfl (hc_own 0 rfl (j := n % 5) (by simp only [List.length_cons, List.length_nil]; omega))) rfl ?_)
  refine c_nil (x_one (h_keep sS ?_))
  refine h_take 10 rfl kr kr kr (by exact y_assign rfl) rfl sS ?_
  refine h_end kr ?_
  repeat' (first | (show oC; refine c_ret ?_) | (show AT _ _ _ _; refine x_then ?_))
  exact x_ret3 Tryz.results67 (res_tmp rfl) (res_cellb 5 tabs rfl rfl rfl rfl) (res_tmp rfl) (fun w' c' => ⟨_, _, rfl, ⟨_, q, aF, cF, aT, cT, ds, ad, cd, rfl, rfl⟩, c'.sel [2, 3, 4] rfl⟩)
def GivesEq (v : Value) (H : List HE) : Prop := ∃ (ra rb : Rp) (x0 : Option Addr) (x0' : Nat) (x1 : Option Addr) (x1' : Nat) (x2 : Option Addr) (x2' : Nat) (x3 : Option Addr) (x3' : Nat) (y0 : Option Addr) (y0' : Nat) (y1 : Option Addr) (y1' : Nat) (y2 : Option Addr) (y2' : Nat) (y3 : Option Addr) (y3' : Nat), v = .tuple #[.agg #[iV ra.p, iV ra.q.1, .slice x0 ra.q.2.1.length x0', .slice x1 ra.q.2.2.length x1', .slice x2 ra.d.length x2', .slice x3 ra.m.length x3'], .agg #[iV rb.p, iV rb.q.1, .slice y0 rb.q.2.1.length y0', .slice y1 rb.q.2.2.length y1', .slice y2 rb.d.length y2', .slice y3 rb.m.length y3']] ∧ H = [.own (matsT 41 rb.m) (.slice y3 rb.m.length y3'), .own (iT rb.d) (.slice y2 rb.d.length y2'), .own (iT rb.q.2.2) (.slice y1 rb.q.2.2.length y1'), .own (iT rb.q.2.1) (.slice y0 rb.q.2.1.length y0'), .own (matsT 41 ra.m) (.slice x3 ra.m.length x3'), .own (iT ra.d) (.slice x2 ra.d.length x2'), .own (iT ra.q.2.2) (.slice x1 ra.q.2.2.length x1'), .own (iT ra.q.2.1) (.slice x0 ra.q.2.1.length x0')]
theorem DrawEqualReps_ok {w : World} {u : Value} (hc : CodeF w [] u) : Does Tryz.prog 70 [u] w GivesEq := by
  have tok0 : True := trivial
  have tok1 : True := trivial
  refine fn_enter Tryz.func70 rfl Tryz.ntmps70 rfl ?_
  repeat' (first | (show oL; first | refine sMv rfl rfl ?_ | refine sAs rfl rfl ?_ | (show oA (.call _); first | (refine m_call (ent_of Tryz.func97 kr rfl) rfl rfl (fun w c => l1New_ok (hp_code c hc)) ?_; rintro v H' ⟨b, ch, rfl, rfl⟩) | (refine m_callL 0 (ent_of Tryz.func130 kr rfl) rfl rfl rfl (fun w M' hl => l8Any_ok hl hc (Nat.zero_le _)) ?_; rintro v H' ⟨i, ch, _, hi, rfl, ra, hra, x0, x0', x1, x1', x2, x2', x3, x3', rfl, sx0, sx1, sx2, sx3, rfl⟩) | (refine m_callL 1 (ent_of Tryz.func108 kr rfl) rfl rfl rfl (fun w M' hl => l1Once_ok 2 hl hc hi) ?_; rintro v H' ⟨i, ch, _, hi, rfl, (_ | _), rfl, rfl⟩)) | (show oA (.store _ _ _); refine m_storeb 0 tabs rfl rfl rfl rfl rfl rfl rfl ?_) | (show oA (.alloc _); first | (have _t := tok0; refine m_alloc tabs rfl rfl (fun b2 hb2 => ?_); clear _t tok0) | (have _t := tok1; refine m_alloc tabs rfl rfl (fun b3 hb3 => ?_); clear _t tok1) | refine m_alloc tabs rfl rfl (fun b5 hb5 => ?_))) | refine xNt ?_ | (show oC; first | refine c_seq ?_ | refine c_region ?_ | refine c_skip (x_then ?_) | refine c_true rfl ?_ | refine c_false rfl ?_))
  · skip
    refine c_all (Hp [] w [.blk b5 #[iV ra.p, iV ra.q.1, .slice x0 ra.q.2.1.length x0', .slice x1 ra.q.2.2.length x1', .slice x2 ra.d.length x2', .slice x3 ra.m.length x3'] 29]) kr (fun _ c => Hp.drew c) ?_
    refine h_take 0 rfl kr kr kr (by first | exact y_loadb 0 tabs rfl rfl rfl rfl | exact y_loadb 0 tabs rfl rfl rfl rfl) rfl sS ?_
    refine h_take 1 rfl kr kr kr (by exact y_move rfl) rfl sS ?_
    refine h_only 2 rfl kr ?_
    first | (refine m_callL 0 (ent_of Tryz.func130 kr rfl) rfl rfl rfl (fun w M' hl => l8Any_ok hl hc hi) ?_; rintro v H' ⟨i, ch, _, hi, rfl, rb, hrb, y0, y0', y1, y1', y2, y2', y3, y3', rfl, sy0, sy1, sy2, sy3, rfl⟩) | (refine m_storeb 11 tabs rfl rfl rfl rfl rfl rfl rfl ?_) | (refine m_storeb 10 tabs rfl rfl rfl rfl rfl rfl rfl ?_)
    refine c_nil (x_one (h_keep sS ?_))
    refine h_only 3 rfl kr ?_
    first | (refine m_callL 0 (ent_of Tryz.func130 kr rfl) rfl rfl rfl (fun w M' hl => l8Any_ok hl hc hi) ?_; rintro v H' ⟨i, ch, _, hi, rfl, rb, hrb, y0, y0', y1, y1', y2, y2', y3, y3', rfl, sy0, sy1, sy2, sy3, rfl⟩) | (refine m_storeb 11 tabs rfl rfl rfl rfl rfl rfl rfl ?_) | (refine m_storeb 10 tabs rfl rfl rfl rfl rfl rfl rfl ?_)
    refine c_nil (x_one (h_keep sS ?_))
    refine h_only 4 rfl kr ?_
    first | (refine m_callL 0 (ent_of Tryz.func130 kr rfl) rfl rfl rfl (fun w M' hl => l8Any_ok hl hc hi) ?_; rintro v H' ⟨i, ch, _, hi, rfl, rb, hrb, y0, y0', y1, y1', y2, y2', y3, y3', rfl, sy0, sy1, sy2, sy3, rfl⟩) | (refine m_storeb 11 tabs rfl rfl rfl rfl rfl rfl rfl ?_) | (refine m_storeb 10 tabs rfl rfl rfl rfl rfl rfl rfl ?_)
    refine c_nil (x_one (h_keep sS ?_))
    refine h_end kr ?_
    repeat' (first | (show oC; refine c_ret ?_) | (show AT _ _ _ _; refine x_then ?_))
    exact x_ret2 Tryz.results70 (res_cellb 11 tabs rfl rfl rfl rfl) (res_cellb 10 tabs rfl rfl rfl rfl) (fun w' c' => ⟨_, _, rfl, ⟨ra, rb, x0, x0', x1, x1', x2, x2', x3, x3', y0, y0', y1, y1', y2, y2', y3, y3', rfl, rfl⟩, c'.sel [1, 2, 3, 4, 6, 7, 8, 9] rfl⟩)
  · skip
    refine c_all (Hp [] w [.blk b5 #[iV ra.p, iV ra.q.1, .slice x0 ra.q.2.1.length x0', .slice x1 ra.q.2.2.length x1', .slice x2 ra.d.length x2', .slice x3 ra.m.length x3'] 29]) kr (fun _ c => Hp.drew c) ?_
    refine h_take 0 rfl kr kr kr (by first | exact y_loadb 0 tabs rfl rfl rfl rfl | exact y_loadb 0 tabs rfl rfl rfl rfl) rfl sS ?_
    refine h_take 1 rfl kr kr kr (by first | exact y_loadb 0 tabs rfl rfl rfl rfl | exact y_loadb 0 tabs rfl rfl rfl rfl) rfl sS ?_
    refine h_only 2 rfl kr ?_
    first | (refine m_call (ent_of Tryz.func148 kr rfl) rfl rfl (fun w c => l8Copy_b (r := ra) (c.own_rd (i := 5) rfl) (c.own_rd (i := 4) rfl) (c.own_rd (i := 3) rfl) (c.own_rd (i := 2) rfl) (by have := hra.f; omega) (by have := hra.t; omega) (by have := hra.d; omega) (by have := hra.m; omega) (fun i m hm => hra.c m (List.mem_of_getElem? hm))) ?_; rintro v H' ⟨y0, y0', y1, y1', y2, y2', y3, y3', rfl, sy0, sy1, sy2, sy3, rfl⟩) | (refine m_storeb 11 tabs rfl rfl rfl rfl rfl rfl rfl ?_) | (refine m_storeb 10 tabs rfl rfl rfl rfl rfl rfl rfl ?_)
    refine c_nil (x_one (h_keep sS ?_))
    refine h_only 3 rfl kr ?_
    first | (refine m_call (ent_of Tryz.func148 kr rfl) rfl rfl (fun w c => l8Copy_b (r := ra) (c.own_rd (i := 5) rfl) (c.own_rd (i := 4) rfl) (c.own_rd (i := 3) rfl) (c.own_rd (i := 2) rfl) (by have := hra.f; omega) (by have := hra.t; omega) (by have := hra.d; omega) (by have := hra.m; omega) (fun i m hm => hra.c m (List.mem_of_getElem? hm))) ?_; rintro v H' ⟨y0, y0', y1, y1', y2, y2', y3, y3', rfl, sy0, sy1, sy2, sy3, rfl⟩) | (refine m_storeb 11 tabs rfl rfl rfl rfl rfl rfl rfl ?_) | (refine m_storeb 10 tabs rfl rfl rfl rfl rfl rfl rfl ?_)
    refine c_nil (x_one (h_keep sS ?_))
    refine h_only 4 rfl kr ?_
    first | (refine m_call (ent_of Tryz.func148 kr rfl) rfl rfl (fun w c => l8Copy_b (r := ra) (c.own_rd (i := 5) rfl) (c.own_rd (i := 4) rfl) (c.own_rd (i := 3) rfl) (c.own_rd (i := 2) rfl) (by have := hra.f; omega) (by have := hra.t; omega) (by have := hra.d; omega) (by have := hra.m; omega) (fun i m hm => hra.c m (List.mem_of_getElem? hm))) ?_; rintro v H' ⟨y0, y0', y1, y1', y2, y2', y3, y3', rfl, sy0, sy1, sy2, sy3, rfl⟩) | (refine m_storeb 11 tabs rfl rfl rfl rfl rfl rfl rfl ?_) | (refine m_storeb 10 tabs rfl rfl rfl rfl rfl rfl rfl ?_)
    refine c_nil (x_one (h_keep sS ?_))
    refine h_end kr ?_
    repeat' (first | (show oC; refine c_ret ?_) | (show AT _ _ _ _; first | refine x_then ?_ | refine x_then_ret ?_))
    exact x_ret2 Tryz.results70 (res_cellb 11 tabs rfl rfl rfl rfl) (res_cellb 10 tabs rfl rfl rfl rfl) (fun w' c' => ⟨_, _, rfl, ⟨ra, ra, x0, x0', x1, x1', x2, x2', x3, x3', y0, y0', y1, y1', y2, y2', y3, y3', rfl, rfl⟩, c'.sel [0, 1, 2, 3, 6, 7, 8, 9] rfl⟩)
end Go.Proofs.YtdnhmnnccfoliaaGreatDoor
