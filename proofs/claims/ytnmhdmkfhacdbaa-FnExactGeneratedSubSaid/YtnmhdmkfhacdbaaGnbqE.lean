import Derived.Test.YtnmhdmkfhacdbaaGnaqE
import Derived.Test.YtnmhdmkfhacdbaaInvqE
import Derived.Test.YtnmhdmkfhacdbaaLEqE
import Derived.Test.YtnmhdmkfhacdbaaSupqE
namespace Go.Proofs.Ytnmhdmkfhacdbaa
open Go.Lg Go.Proofs Go.RowKit
attribute [local irreducible] Code.wp wpList bodyPost Exit.then Exit.inBlock Hp Again Calls Y AT ResV QT Qn QI wpAny wpAnyQ
set_option maxRecDepth 20000
set_option maxHeartbeats 4000000

/-! ### the dimensions of spaces; a list of spaces of ours -/
def dmL (o : List Sp) : List Int := o.map (fun s => (s.2.length : Int))
@[simp] theorem dmL_length {o : List Sp} : (dmL o).length = o.length := by simp [dmL]
theorem dmL_sum : ∀ o : List Sp, (dmL o).sum = (totG o : Int)
  | [] => rfl
  | s :: o => by
    have := dmL_sum o
    simp only [dmL, totG, List.map_cons, List.sum_cons, Int.natCast_add] at this ⊢
    omega
theorem dmL_in {r : Rp} {o : List Sp} (hR : RepP r) (h : OkG r o) : InP 0 4 (dmL o) := fun x hx => by
  obtain ⟨s, hs, rfl⟩ := List.mem_map.1 hx
  obtain ⟨v, hv, rfl⟩ := List.getElem_of_mem hs
  obtain ⟨k1, k2⟩ := h.2 v hv
  have e : o.getD v sp0 = o[v] := by simp [List.getD, hv]
  rw [e] at k1 k2
  obtain ⟨C, hc, _, _, _, _, hk, _⟩ := k1.rows
  have := rkL_le (p := r.p) (C := C) (M := o[v].2)
  have := hR.dg v
  omega
theorem dmL_next {o : List Sp} {i : Nat} {s : Sp} (h : o[i]? = some s) : dmL (o.take i) ++ [(s.2.length : Int)] = dmL (o.take (i + 1)) := by
  rw [List.take_add_one, h]
  simp [dmL]
theorem subDims_ok {w : World} {o : List Sp} {e : Nat} {v : Value} (hr : Rd w (spsT e o) v) (hb : o.length ≤ 1000) : Does Try.prog 164 [v] w (GivesIL (dmL o)) := by
  obtain ⟨a3, c3, rfl, hs3, hc3, hd3, hg3⟩ := rd_sps hr
  refine fn_enter Try.func164 rfl Try.ntmps164 rfl ?_
  repeat' (first
    | (show AT _ _ _ (wpList _ _ _ (_ :: _)); first
       | (show AT _ _ _ (wpList _ _ _ (⟨_, Op.move _, _, _, _, _⟩ :: _)); refine st_y (y_move rfl) rfl ?_)
       | (show AT _ _ _ (wpList _ _ _ (⟨_, Op.assign _, _, _, _, _⟩ :: _)); refine st_y (y_assign rfl) rfl ?_)
       | (show AT _ _ _ (wpList _ _ _ (⟨_, Op.call _, _, _, _, _⟩ :: _)); refine st_y (y_len tabs rfl rfl) rfl ?_))
    | (show AT _ _ _ (wpList _ _ _ []); refine c_nil (x_then ?_))
    | (show AT _ _ _ (Code.wp _ _ _); first | refine c_seq ?_ | refine c_region ?_ | refine c_block ?_))
  refine c_loopH (α := Nat × Option Addr × Nat) [6, 7] (fun s => [(3, .slice s.2.1 s.1 s.2.2), (8, .int .i64 s.1)]) (fun s => s.1 ≤ o.length) (fun s => [.own (iT (dmL (o.take s.1))) (.slice s.2.1 s.1 s.2.2)]) (fun s => o.length - s.1) (0, none, 0) rfl (by repeat' (first | exact Sub.nil | refine Sub.cons rfl ?_ | refine Sub.consi rfl (by omega) ?_)) ?_ ?_ ?_
  · exact Nat.zero_le _
  · exact fun w' c' => Hp.nilp _ _ c'
  · rintro ⟨i, al, cl⟩ hi
    simp only at hi ⊢
    have hln : (dmL (o.take i)).length = i := by simp; omega
    by_cases hin : i < o.length
    · obtain ⟨s, hs⟩ : ∃ s, o[i]? = some s := ⟨_, List.getElem?_eq_getElem hin⟩
      obtain ⟨a4, c4, g1, g2, g3⟩ := hg3 i s hs
      repeat' (first
        | (show AT _ _ _ (wpList _ _ _ (_ :: _)); first
           | (show AT _ _ _ (wpList _ _ _ (⟨_, Op.move _, _, _, _, _⟩ :: _)); refine st_y (y_move rfl) rfl ?_)
           | (show AT _ _ _ (wpList _ _ _ (⟨_, Op.assign _, _, _, _, _⟩ :: _)); refine st_y (y_assign rfl) rfl ?_)
           | (show AT _ _ _ (wpList _ _ _ (⟨_, Op.fieldAddr _ _ _, _, _, _, _⟩ :: _)); refine st_y (y_field tabs rfl rfl rfl) rfl ?_)
           | (show AT _ _ _ (wpList _ _ _ (⟨_, Op.load _ _, _, _, _, _⟩ :: _)); first | refine st_y (y_load2 tabs rfl rfl (hc_w0 g1) (hc_w0 g2)) rfl ?_ | refine st_y (y_load tabs rfl rfl (hc_blk 0 rfl rfl)) rfl ?_)
           | (show AT _ _ _ (wpList _ _ _ (⟨_, Op.indexAddr _ _ _, _, _, _, _⟩ :: _)); refine st_y (y_ixa tabs rfl rfl rfl hs3 (by omega) (by omega)) rfl ?_)
           | (show AT _ _ _ (wpList _ _ _ (⟨_, Op.binOp _ _ _ _ _, _, _, _, _⟩ :: _)); first | refine st_y (y_add rfl rfl (by omega)) rfl ?_ | refine st_y (y_lss rfl rfl) rfl ?_)
           | (show AT _ _ _ (wpList _ _ _ (⟨_, Op.call _, _, _, _, _⟩ :: _)); first | refine m_pushn 1 tabs (k := (s.2.length : Int)) (m := i) rfl rfl rfl rfl rfl hln (by omega) (fun a6 c6 => ?_) | refine st_y (y_len tabs rfl rfl) rfl ?_)
           | (show AT _ _ _ (wpList _ _ _ (⟨_, Op.store _ _ _, _, _, _, _⟩ :: _)); refine m_storeb 0 tabs rfl rfl rfl rfl rfl rfl rfl ?_)
           | (show AT _ _ _ (wpList _ _ _ (⟨_, Op.alloc _, _, _, _, _⟩ :: _)); refine m_alloc tabs rfl rfl (fun b5 hb5 => ?_))
           | (show AT _ _ _ (wpList _ _ _ (⟨_, Op.buildSlice _ _ _, _, _, _, _⟩ :: _)); refine m_build1 tabs (us := [iV s.2.length]) rfl rfl rfl rfl (by decide) rfl (fun g5 hg5 => ?_)))
        | (show AT _ _ _ (wpList _ _ _ []); first | refine c_nil (x_then ?_) | refine c_nil ?_)
        | (show AT _ _ _ (Code.wp _ _ _); first | refine c_seq ?_ | refine c_region ?_ | refine c_skip (x_then ?_) | refine c_block ?_ | refine c_ift rfl (by first | assumption | omega) ?_)
        | (show AT _ _ _ _; first | refine x_then ?_ | refine x_blk ?_))
      refine x_nx (i + 1, a6, c6) (by repeat' (first | exact Sub.nil | refine Sub.cons rfl ?_ | refine Sub.consi rfl (by omega) ?_)) (by simp only; omega) (fun w' c' => ?_) (by simp only; omega)
      rw [dmL_next hs] at c'
      exact c'.sub (.cons_cons _ (List.nil_sublist _))
    · have : i = o.length := by omega
      subst this
      rw [List.take_length]
      refine AT.fact (own_sl 0 rfl) (fun hsl => ?_)
      obtain ⟨a4, c4, e4, hs4⟩ := hsl
      rw [dmL_length] at e4 hs4
      cases e4
      repeat' (first
        | (show AT _ _ _ (wpList _ _ _ (_ :: _)); first
           | (show AT _ _ _ (wpList _ _ _ (⟨_, Op.move _, _, _, _, _⟩ :: _)); refine st_y (y_move rfl) rfl ?_)
           | (show AT _ _ _ (wpList _ _ _ (⟨_, Op.assign _, _, _, _, _⟩ :: _)); refine st_y (y_assign rfl) rfl ?_)
           | (show AT _ _ _ (wpList _ _ _ (⟨_, Op.binOp _ _ _ _ _, _, _, _, _⟩ :: _)); refine st_y (y_lss rfl rfl) rfl ?_))
        | (show AT _ _ _ (wpList _ _ _ []); refine c_nil (x_then ?_))
        | (show AT _ _ _ (Code.wp _ _ _); first | refine c_seq ?_ | refine c_region ?_ | refine c_ret ?_ | refine c_exit ?_ | refine c_iff rfl (by first | assumption | exact not_not_intro (by assumption) | omega) ?_)
        | (show AT _ _ _ _; first | refine x_then ?_ | refine x_then_exit ?_ | refine x_blk_exit rfl ?_))
      exact x_ret1 Try.results164 (res_tmp rfl) (fun w' c' => ⟨_, [.own (iT (dmL o)) (.slice al o.length cl)], rfl, ⟨al, cl, by rw [dmL_length], by rw [dmL_length]; exact hs4, by rw [dmL_length]⟩, c'.sub (.cons_cons _ (List.nil_sublist _))⟩)
theorem sps_open {M : List Nat} {w0 : World} {H : List HE} (j : Nat) {o : List Sp} {us : List Value} {q : Nat} {A : Sp} (hi : H[j]? = some (.ownL (o.flatMap spT) us)) (hl : us.length = o.length * 2) (hA : o[q]? = some A) : ∀ w, Hp M w0 H w → ∃ a c, us[q * 2]? = some (iV A.1) ∧ us[q * 2 + 1]? = some (.slice a A.2.length c) := fun w cw => by
  have hq : q < o.length := (List.getElem?_eq_some_iff.1 hA).1
  obtain ⟨x, hx⟩ : ∃ x, us[q * 2]? = some x := ⟨_, List.getElem?_eq_getElem (by omega)⟩
  obtain ⟨y, hy⟩ : ∃ y, us[q * 2 + 1]? = some y := ⟨_, List.getElem?_eq_getElem (by omega)⟩
  have h1 := Hp.ownL_rd j hi (flatMap_get (q := 0) spT_length hA (by omega)) hx cw
  have h2 := Hp.ownL_rd j hi (flatMap_get (q := 1) spT_length hA (by omega)) hy cw
  simp only [Rd] at h1
  obtain ⟨a, c, e, _⟩ := rd_rows h2
  rw [h1] at hx
  rw [e] at hy
  exact ⟨a, c, hx, hy⟩
theorem sps_rd {M : List Nat} {w0 w : World} {H : List HE} (j : Nat) {o : List Sp} {us : List Value} {q : Nat} {A : Sp} {u : Value} (hi : H[j]? = some (.ownL (o.flatMap spT) us)) (hA : o[q]? = some A) (hu : us[q * 2 + 1]? = some u) (c : Hp M w0 H w) : Rd w (rowsT 22 A.2) u :=
  Hp.ownL_rd j hi (flatMap_get (q := 1) spT_length hA (by omega)) hu c
theorem stpG_at {r : Rp} {o : List Sp} {i : Nat} (hR : RepP r) (h : OkG r o) (hi : i < r.m.length) :
    ∃ (s t R C : Nat) (m : Mat) (A B : Sp), r.q.2.1.getD i 0 = s ∧ r.q.2.2.getD i 0 = t ∧ s < o.length ∧ t < o.length ∧ i < r.q.2.1.length ∧ i < r.q.2.2.length ∧
      r.m[i]? = some m ∧ o[s]? = some A ∧ o[t]? = some B ∧ R ≤ 4 ∧ C ≤ 4 ∧ MatP r.p m ∧ CellsP r.p m R C ∧ A.1 = C ∧ B.1 = R ∧ RowsP r.p C A.2 ∧ A.2.length ≤ 8 ∧ RowsP r.p R B.2 ∧ B.2.length ≤ 8 ∧
      stpG r o i = o.set t (sumS r.p B (imsS r.p m A)) ∧ imsS r.p m A = ((R : Int), basL r.p R (imsL r.p R C (matF m) A.2)) ∧
      sumS r.p B (imsS r.p m A) = ((R : Int), basL r.p R (B.2 ++ basL r.p R (imsL r.p R C (matF m) A.2))) := by
  obtain ⟨hl, hV⟩ := h
  obtain ⟨s, t, R, C, m, A, B, es, et, hsl, htl, hi1, hi2, fs, ft, hm, hA, hB, hR4, hC4, hM, hCe, hSA, hAC, hSB, hBR, hAr, hAn, hBr, hBn, hI, eI, _⟩ := sub_at hR hl hV hi
  have hF := hR.1
  have gm : r.m.getD i mat0 = m := by rw [List.getD, hm]; rfl
  have gA : o.getD s sp0 = A := by rw [List.getD, hA]; rfl
  have gB : o.getD t sp0 = B := by rw [List.getD, hB]; rfl
  have hIs : SpcP r.p ((R : Int), basL r.p R (imsL r.p R C (matF m) A.2)) := spcP_span hF (by omega) (imsL_rows hF)
  have hS : SumP r.p B ((R : Int), basL r.p R (imsL r.p R C (matF m) A.2)) := ⟨hSB, hIs, hBR⟩
  refine ⟨s, t, R, C, m, A, B, es, et, hsl, htl, hi1, hi2, hm, hA, hB, hR4, hC4, hM, hCe, hAC, hBR, hAr, hAn, hBr, hBn, ?_, eI, ?_⟩
  · unfold stpG
    rw [ft, fs, gm, gA, gB]
  · rw [eI, sumS, if_pos hS, hBR]
    rfl
theorem generated_ok {w : World} {r : Rp} {v : Nat} {xs : List Int} {e : Nat} {u0 u1 u2 u3 ux : Value} (h0 : Rd w (iT r.q.2.1) u0) (h1 : Rd w (iT r.q.2.2) u1) (h2 : Rd w (iT r.d) u2) (h3 : Rd w (matsT e r.m) u3) (hx : Rd w (iT xs) ux) (hR : RepP r) (hv : v < r.d.length) (hX : VecP r.p xs) (hl : (xs.length : Int) = r.d.getD v 0) :
    Does Try.prog 120 [.agg #[iV r.p, iV r.q.1, u0, u1, u2, u3], iV v, ux] w (GivesSps (seqG r (begG r v xs) 9)) := by
  have hF := hR.1
  have h5 := (RepP.dd hR).2
  have h6 : r.m.length ≤ 6 := by have := hR.2.2.1; have := hR.2.1.1.2.1; omega
  have hB0 := begG_ok hR hv hX hl
  have hdv := hR.dg v
  obtain ⟨C0, hC0⟩ : ∃ C : Nat, r.d.getD v 0 = C := ⟨(r.d.getD v 0).toNat, by omega⟩
  have hxl : xs.length = C0 := by omega
  have hrow : RowsP r.p C0 [xs] := fun y hy => by simp at hy; subst hy; exact ⟨hxl, hX.2.2⟩
  have eB : begG r v xs = (zsN r.d r.d.length).set v ((C0 : Int), basL r.p C0 [xs]) := by unfold begG; rw [hC0]; rfl
  have h20 := h2
  obtain ⟨a0, c0, rfl, hs0, _, _, hg0⟩ := h0.ints
  obtain ⟨a1, c1, rfl, hs1, _, _, hg1⟩ := h1.ints
  obtain ⟨a2, c2, rfl, hs2, _, _, hg2⟩ := h2.ints
  obtain ⟨a3, c3, rfl, hs3, _, _, hg3⟩ := rd_mats h3
  obtain ⟨ax, cx, rfl, _⟩ := hx.ints
  have gD := hg2 v hv
  rw [hC0] at gD
  refine fn_enter Try.func120 rfl Try.ntmps120 rfl ?_
  repeat' (first
    | (show AT _ _ _ (wpList _ _ _ (_ :: _)); first
       | (show AT _ _ _ (wpList _ _ _ (⟨_, Op.assign _, _, _, _, _⟩ :: _)); refine st_y (y_assign rfl) rfl ?_)
       | (show AT _ _ _ (wpList _ _ _ (⟨_, Op.load _ _, _, _, _, _⟩ :: _)); refine st_y (y_loadb 0 tabs rfl rfl rfl rfl) rfl ?_)
       | (show AT _ _ _ (wpList _ _ _ (⟨_, Op.call _, _, _, _, _⟩ :: _)); (refine m_call (ent_of Try.func162 (by kernel_rfl) rfl) rfl rfl (fun w c => zeroSub_ok (c.rd h20) (by omega)) ?_; rintro v H' ⟨az, cz, rfl, hsz, rfl⟩))
       | (show AT _ _ _ (wpList _ _ _ (⟨_, Op.box _ _, _, _, _, _⟩ :: _)); refine m_box rfl rfl (fun b3 hb3 => ?_)))
    | (show AT _ _ _ (wpList _ _ _ []); refine c_nil (x_then ?_))
    | (show AT _ _ _ (Code.wp _ _ _); first | refine c_seq ?_ | refine c_region ?_))
  rw [zsN_len] at hsz ⊢
  refine c_all (Hp [] w [.blk b3 #[iV r.p, iV r.q.1, .slice a0 r.q.2.1.length c0, .slice a1 r.q.2.2.length c1, .slice a2 r.d.length c2, .slice a3 r.m.length c3] 32]) (by kernel_rfl) (fun _ c => Hp.drew c) ?_
  refine h_take 0 rfl (by kernel_rfl) (by kernel_rfl) (by kernel_rfl) (by exact y_move rfl) rfl (fun w c => by exact c.drop) ?_
  refine h_take 1 rfl (by kernel_rfl) (by kernel_rfl) (by kernel_rfl) (by exact y_move rfl) rfl (fun w c => by exact c.drop) ?_
  refine h_take 2 rfl (by kernel_rfl) (by kernel_rfl) (by kernel_rfl) (by exact y_field tabs rfl rfl rfl) rfl (fun w c => by exact c.drop) ?_
  refine h_take 3 rfl (by kernel_rfl) (by kernel_rfl) (by kernel_rfl) (by exact y_load tabs rfl rfl (hc_blk 0 rfl rfl)) rfl (fun w c => by exact c.drop) ?_
  refine h_take 4 rfl (by kernel_rfl) (by kernel_rfl) (by kernel_rfl) (by exact y_field tabs rfl rfl rfl) rfl (fun w c => by exact c.drop) ?_
  refine h_take 5 rfl (by kernel_rfl) (by kernel_rfl) (by kernel_rfl) (by exact y_load tabs rfl rfl (hc_blk 0 rfl rfl)) rfl (fun w c => by exact c.drop) ?_
  refine h_take 6 rfl (by kernel_rfl) (by kernel_rfl) (by kernel_rfl) (by exact y_move rfl) rfl (fun w c => by exact c.drop) ?_
  refine h_take 7 rfl (by kernel_rfl) (by kernel_rfl) (by kernel_rfl) (by exact y_ix1 tabs (j := v) rfl rfl rfl hs2 rfl hv) rfl (fun w c => by exact c.drop) ?_
  refine h_take 8 rfl (by kernel_rfl) (by kernel_rfl) (by kernel_rfl) (by exact y_load tabs rfl rfl (hc_w0 gD)) rfl (fun w c => by exact c.drop) ?_
  refine h_take 9 rfl (by kernel_rfl) (by kernel_rfl) (by kernel_rfl) (by exact y_move rfl) rfl (fun w c => by exact c.drop) ?_
  refine h_only 10 rfl (by kernel_rfl) ?_
  first | (refine m_build1 tabs (us := [.slice ax xs.length cx]) rfl rfl rfl rfl (by decide) rfl (fun g2 hg2 => ?_)) | (refine m_call (ent_of Try.func151 (by kernel_rfl) rfl) rfl rfl (fun w c => span_ok (C := C0) (rs := [xs]) (rd_blk1 (e' := 22) 0 rfl c (c.rd hx)) hF hrow (by simp) (by omega)) ?_; rintro v H' ⟨a7, c7, rfl, hs7, rfl⟩) | (refine m_storeT tabs (m := r.d.length) (tn := spT ((C0 : Int), basL r.p C0 [xs])) (j := v) rfl rfl rfl rfl rfl rfl (by decide) (by rw [flatMap_length spT_length, zsN_len]) hv (fun w c => (Hp.spc (u0 := iV C0) c).front (i := 2) rfl) ?_)
  refine c_nil (x_one (h_keep (fun w c => by exact c.drop.drop) ?_))
  refine h_only 11 rfl (by kernel_rfl) ?_
  first | (refine m_build1 tabs (us := [.slice ax xs.length cx]) rfl rfl rfl rfl (by decide) rfl (fun g2 hg2 => ?_)) | (refine m_call (ent_of Try.func151 (by kernel_rfl) rfl) rfl rfl (fun w c => span_ok (C := C0) (rs := [xs]) (rd_blk1 (e' := 22) 0 rfl c (c.rd hx)) hF hrow (by simp) (by omega)) ?_; rintro v H' ⟨a7, c7, rfl, hs7, rfl⟩) | (refine m_storeT tabs (m := r.d.length) (tn := spT ((C0 : Int), basL r.p C0 [xs])) (j := v) rfl rfl rfl rfl rfl rfl (by decide) (by rw [flatMap_length spT_length, zsN_len]) hv (fun w c => (Hp.spc (u0 := iV C0) c).front (i := 2) rfl) ?_)
  refine c_nil (x_one (h_keep (fun w c => by exact c.sub (by repeat' first | exact List.Sublist.refl _ | exact List.nil_sublist _ | apply List.Sublist.cons_cons | apply List.Sublist.cons)) ?_))
  refine h_take 12 rfl (by kernel_rfl) (by kernel_rfl) (by kernel_rfl) (by exact y_ixa tabs rfl rfl rfl hsz (by omega) (by omega)) rfl (fun w c => by exact c.sub (by repeat' first | exact List.Sublist.refl _ | exact List.nil_sublist _ | apply List.Sublist.cons_cons | apply List.Sublist.cons)) ?_
  refine h_only 13 rfl (by kernel_rfl) ?_
  first | (refine m_build1 tabs (us := [.slice ax xs.length cx]) rfl rfl rfl rfl (by decide) rfl (fun g2 hg2 => ?_)) | (refine m_call (ent_of Try.func151 (by kernel_rfl) rfl) rfl rfl (fun w c => span_ok (C := C0) (rs := [xs]) (rd_blk1 (e' := 22) 0 rfl c (c.rd hx)) hF hrow (by simp) (by omega)) ?_; rintro v H' ⟨a7, c7, rfl, hs7, rfl⟩) | (refine m_storeT tabs (m := r.d.length) (tn := spT ((C0 : Int), basL r.p C0 [xs])) (j := v) rfl rfl rfl rfl rfl rfl (by decide) (by rw [flatMap_length spT_length, zsN_len]) hv (fun w c => (Hp.spc (u0 := iV C0) c).front (i := 2) rfl) ?_)
  refine c_nil (x_one (h_keep (fun w c => by exact c.drop.drop) ?_))
  refine h_end (by kernel_rfl) ?_
  rw [flatMap_set spT_length _ _ _ (by rw [zsN_len]; exact hv), ← eB]
  generalize begG r v xs = O0 at *
  repeat' (first
    | (show AT _ _ _ (Code.wp _ _ _); refine c_block ?_)
    | (show AT _ _ _ _; refine x_then ?_))
  refine c_loopH (α := Nat) [3, 7] (fun k => []) (fun k => k ≤ totG (seqG r O0 k)) (fun k => [.own (spsT 61 (seqG r O0 k)) (.slice az r.d.length cz), .blk b3 #[iV r.p, iV r.q.1, .slice a0 r.q.2.1.length c0, .slice a1 r.q.2.2.length c1, .slice a2 r.d.length c2, .slice a3 r.m.length c3] 32]) (fun k => 9 - totG (seqG r O0 k)) 0 rfl (by repeat' (first | exact Sub.nil | refine Sub.cons rfl ?_ | refine Sub.consi rfl (by omega) ?_)) ?_ ?_ ?_
  · exact Nat.zero_le _
  · exact fun w' c' => c'.sub (by repeat' first | exact List.Sublist.refl _ | exact List.nil_sublist _ | apply List.Sublist.cons_cons | apply List.Sublist.cons)
  · intro k hk
    have hok := seqG_ok hR hB0 k
    have hok1 := seqG_ok hR hB0 (k + 1)
    have h8 := totG_8 hR hok1
    have hgrow := (rndG_ok hR hok r.m.length (Nat.le_refl _)).2.1
    have e1 : seqG r O0 (k + 1) = rndG r (seqG r O0 k) r.m.length := rfl
    have hend := seqG_end (k := k) hR hB0 hk
    rw [← e1] at hgrow
    generalize hO : seqG r O0 k = O at *
    repeat' (first
      | (show AT _ _ _ (wpList _ _ _ (_ :: _)); first
         | (show AT _ _ _ (wpList _ _ _ (⟨_, Op.move _, _, _, _, _⟩ :: _)); refine st_y (y_move rfl) rfl ?_)
         | (show AT _ _ _ (wpList _ _ _ (⟨_, Op.assign _, _, _, _, _⟩ :: _)); refine st_y (y_assign rfl) rfl ?_)
         | (show AT _ _ _ (wpList _ _ _ (⟨_, Op.fieldAddr _ _ _, _, _, _, _⟩ :: _)); refine st_y (y_field tabs rfl rfl rfl) rfl ?_)
         | (show AT _ _ _ (wpList _ _ _ (⟨_, Op.load _ _, _, _, _, _⟩ :: _)); refine st_y (y_load tabs rfl rfl (hc_blk 2 rfl rfl)) rfl ?_)
         | (show AT _ _ _ (wpList _ _ _ (⟨_, Op.call _, _, _, _, _⟩ :: _)); first | (refine m_call (ent_of Try.func164 (by kernel_rfl) rfl) rfl rfl (fun w c => subDims_ok (o := O) (c.own_rd (i := 0) rfl) (by have := hok.1; omega)) ?_; rintro v H' ⟨a8, c8, rfl, hs8, rfl⟩) | (refine m_call (ent_of Try.func163 (by kernel_rfl) rfl) rfl rfl (fun w c => sumOf_ok (c.own_rd (i := 0) rfl) (dmL_in hR hok) (by have := hok.1; simp; omega)) ?_; rintro v H' ⟨rfl, rfl⟩) | refine st_y (y_len tabs rfl rfl) rfl ?_))
      | (show AT _ _ _ (wpList _ _ _ []); refine c_nil (x_then ?_))
      | (show AT _ _ _ (Code.wp _ _ _); first | refine c_seq ?_ | refine c_region ?_ | refine c_block ?_))
    rw [dmL_sum]
    refine c_loopH (α := Nat) [3, 7, 8, 31, 32] (fun i => [(33, .int .i64 i)]) (fun i => i ≤ r.m.length) (fun i => [.own (spsT 61 (rndG r O i)) (.slice az r.d.length cz), .blk b3 #[iV r.p, iV r.q.1, .slice a0 r.q.2.1.length c0, .slice a1 r.q.2.2.length c1, .slice a2 r.d.length c2, .slice a3 r.m.length c3] 32]) (fun i => r.m.length - i) 0 rfl (by repeat' (first | exact Sub.nil | refine Sub.cons rfl ?_ | refine Sub.consi rfl (by omega) ?_)) ?_ ?_ ?_
    · exact Nat.zero_le _
    · exact fun w' c' => c'.sub (by repeat' first | exact List.Sublist.refl _ | exact List.nil_sublist _ | apply List.Sublist.cons_cons | apply List.Sublist.cons)
    · intro i hi
      by_cases hin : i < r.m.length
      · have hoi := (rndG_ok hR hok i hi).1
        obtain ⟨s, t, R, C, m, A, B, es, et, hsl, htl, hi1, hi2, hm, hA, hB, hR4, hC4, hM, ⟨m1, m2, m3, m4⟩, hAC, hBR, hAr, hAn, hBr, hBn, eS, eI, eU⟩ := stpG_at hR hoi hin
        have hol := hoi.1
        obtain ⟨a6, c6, k1, k2, k3, k4⟩ := hg3 i m hm
        rw [m1] at k1; rw [m2] at k2; rw [m3] at k3 k4; rw [mk_length] at k3 k4
        have gF := hg0 i hi1
        rw [es] at gF
        have gT := hg1 i hi2
        rw [et] at gT
        have e2 : rndG r O (i + 1) = (rndG r O i).set t (sumS r.p B (imsS r.p m A)) := eS
        rw [eU] at e2
        generalize rndG r O i = Q at *
        repeat' (first
          | (show AT _ _ _ (wpList _ _ _ (_ :: _)); first
             | (show AT _ _ _ (wpList _ _ _ (⟨_, Op.move _, _, _, _, _⟩ :: _)); refine st_y (y_move rfl) rfl ?_)
             | (show AT _ _ _ (wpList _ _ _ (⟨_, Op.assign _, _, _, _, _⟩ :: _)); refine st_y (y_assign rfl) rfl ?_)
             | (show AT _ _ _ (wpList _ _ _ (⟨_, Op.fieldAddr _ _ _, _, _, _, _⟩ :: _)); refine st_y (y_field tabs rfl rfl rfl) rfl ?_)
             | (show AT _ _ _ (wpList _ _ _ (⟨_, Op.load _ _, _, _, _, _⟩ :: _)); first | refine st_y (y_load tabs rfl rfl (hc_blk 2 rfl rfl)) rfl ?_ | refine st_y (y_load3 tabs rfl rfl (hc_w0 k1) (hc_w0 k2) (hc_w0 k3)) rfl ?_ | refine st_y (y_load tabs rfl rfl (hc_w0 gT)) rfl ?_)
             | (show AT _ _ _ (wpList _ _ _ (⟨_, Op.indexAddr _ _ _, _, _, _, _⟩ :: _)); first | refine st_y (y_ixa tabs rfl rfl rfl hs3 (by omega) (by omega)) rfl ?_ | refine st_y (y_ix1 tabs (j := i) rfl rfl rfl hs1 rfl hi2) rfl ?_)
             | (show AT _ _ _ (wpList _ _ _ (⟨_, Op.binOp _ _ _ _ _, _, _, _, _⟩ :: _)); refine st_y (y_lss rfl rfl) rfl ?_)
             | (show AT _ _ _ (wpList _ _ _ (⟨_, Op.store _ _ _, _, _, _, _⟩ :: _)); refine m_storeb 0 tabs rfl rfl rfl rfl rfl rfl rfl ?_)
             | (show AT _ _ _ (wpList _ _ _ (⟨_, Op.alloc _, _, _, _, _⟩ :: _)); refine m_alloc tabs rfl rfl (fun b10 hb10 => ?_)))
          | (show AT _ _ _ (wpList _ _ _ []); refine c_nil (x_then ?_))
          | (show AT _ _ _ (Code.wp _ _ _); first | refine c_seq ?_ | refine c_region ?_ | refine c_skip (x_then ?_) | refine c_block ?_ | refine c_ift rfl (by first | assumption | omega) ?_))
        refine AT.opn 1 rfl (fun us hus => ?_)
        rw [flatMap_length spT_length] at hus
        refine AT.fact (sps_open 1 rfl hus hA) (fun hfA => ?_)
        obtain ⟨aA, cA, fA1, fA2⟩ := hfA
        refine AT.fact (sps_open 1 rfl hus hB) (fun hfB => ?_)
        obtain ⟨aB, cB, fB1, fB2⟩ := hfB
        rw [hAC] at fA1
        rw [hBR] at fB1
        refine c_mixR (Hp [] w [.own (.s 61 2 (us.map T.c)) (.slice az r.d.length cz), .ownL (Q.flatMap spT) us, .blk b10 #[iV R, iV C, .slice a6 (R * C) c6] 64, .blk b3 #[iV r.p, iV r.q.1, .slice a0 r.q.2.1.length c0, .slice a1 r.q.2.2.length c1, .slice a2 r.d.length c2, .slice a3 r.m.length c3] 32]) 22 (by kernel_rfl) (by kernel_rfl) (by kernel_rfl) (by kernel_rfl) (by kernel_rfl) (fun _ c => Hp.drew c) ?_
        refine h_take 0 rfl (by kernel_rfl) (by kernel_rfl) (by kernel_rfl) (by exact y_move rfl) rfl (fun _ c => c) ?_
        refine h_take 1 rfl (by kernel_rfl) (by kernel_rfl) (by kernel_rfl) (by exact y_move rfl) rfl (fun _ c => c) ?_
        refine h_take 2 rfl (by kernel_rfl) (by kernel_rfl) (by kernel_rfl) (by exact y_field tabs rfl rfl rfl) rfl (fun _ c => c) ?_
        refine h_take 3 rfl (by kernel_rfl) (by kernel_rfl) (by kernel_rfl) (by exact y_load tabs rfl rfl (hc_blk 3 rfl rfl)) rfl (fun _ c => c) ?_
        refine h_take 4 rfl (by kernel_rfl) (by kernel_rfl) (by kernel_rfl) (by exact y_move rfl) rfl (fun _ c => c) ?_
        refine h_take 5 rfl (by kernel_rfl) (by kernel_rfl) (by kernel_rfl) (by exact y_move rfl) rfl (fun _ c => c) ?_
        refine h_take 6 rfl (by kernel_rfl) (by kernel_rfl) (by kernel_rfl) (by exact y_ixa tabs rfl rfl rfl hsz (by omega) (by omega)) rfl (fun _ c => c) ?_
        refine h_take 7 rfl (by kernel_rfl) (by kernel_rfl) (by kernel_rfl) (by exact y_load2 tabs rfl rfl (hc_nmk (q := t * 2) 0 (by decide) rfl fB1) (hc_nmk (q := t * 2 + 1) 0 (by decide) rfl fB2)) rfl (fun _ c => c) ?_
        refine h_take 8 rfl (by kernel_rfl) (by kernel_rfl) (by kernel_rfl) (by exact y_field tabs rfl rfl rfl) rfl (fun _ c => c) ?_
        refine h_take 9 rfl (by kernel_rfl) (by kernel_rfl) (by kernel_rfl) (by exact y_load tabs rfl rfl (hc_blk 3 rfl rfl)) rfl (fun _ c => c) ?_
        refine h_take 10 rfl (by kernel_rfl) (by kernel_rfl) (by kernel_rfl) (by first | exact y_loadb 2 tabs rfl rfl rfl rfl | exact y_loadb 2 tabs rfl rfl rfl rfl) rfl (fun _ c => c) ?_
        refine h_take 11 rfl (by kernel_rfl) (by kernel_rfl) (by kernel_rfl) (by exact y_move rfl) rfl (fun _ c => c) ?_
        refine h_take 12 rfl (by kernel_rfl) (by kernel_rfl) (by kernel_rfl) (by exact y_field tabs rfl rfl rfl) rfl (fun _ c => c) ?_
        refine h_take 13 rfl (by kernel_rfl) (by kernel_rfl) (by kernel_rfl) (by exact y_field tabs rfl rfl rfl) rfl (fun _ c => c) ?_
        refine h_take 14 rfl (by kernel_rfl) (by kernel_rfl) (by kernel_rfl) (by exact y_load tabs rfl rfl (hc_blk 3 rfl rfl)) rfl (fun _ c => c) ?_
        refine h_take 15 rfl (by kernel_rfl) (by kernel_rfl) (by kernel_rfl) (by exact y_move rfl) rfl (fun _ c => c) ?_
        refine h_take 16 rfl (by kernel_rfl) (by kernel_rfl) (by kernel_rfl) (by exact y_ix1 tabs (j := i) rfl rfl rfl hs0 rfl hi1) rfl (fun _ c => c) ?_
        refine h_take 17 rfl (by kernel_rfl) (by kernel_rfl) (by kernel_rfl) (by exact y_load tabs rfl rfl (hc_w0 gF)) rfl (fun _ c => c) ?_
        refine h_take 18 rfl (by kernel_rfl) (by kernel_rfl) (by kernel_rfl) (by exact y_ixa tabs rfl rfl rfl hsz (by omega) (by omega)) rfl (fun _ c => c) ?_
        refine h_take 19 rfl (by kernel_rfl) (by kernel_rfl) (by kernel_rfl) (by exact y_load2 tabs rfl rfl (hc_nmk (q := s * 2) 0 (by decide) rfl fA1) (hc_nmk (q := s * 2 + 1) 0 (by decide) rfl fA2)) rfl (fun _ c => c) ?_
        refine h_only 20 rfl (by kernel_rfl) ?_
        first | (refine m_call (ent_of Try.func103 (by kernel_rfl) rfl) rfl rfl (fun w c => imageOf_ok (A := A.2) (c.rd k4) (sps_rd 1 rfl hA fA2 c) hF (by omega) (by omega) m4 hAr (by omega)) ?_; rintro v H' ⟨a9, c9, rfl, hs9, rfl⟩) | (refine m_call (ent_of Try.func165 (by kernel_rfl) rfl) rfl rfl (fun w c => sumSpace_ok (B := basL r.p R (imsL r.p R C (matF m) A.2)) (sps_rd 2 rfl hB fB2 c) (c.own_rd (i := 0) rfl) hF hBr (basL_rows hF (imsL_rows hF)) (by have := rkL_le (p := r.p) (C := R) (M := imsL r.p R C (matF m) A.2); rw [← basL_len] at this; omega) (by omega)) ?_; rintro v H' ⟨a11, c11, rfl, hs11, rfl⟩)
        refine c_nil (x_one (h_keep (fun w c => by exact c.drop) ?_))
        refine h_only 21 rfl (by kernel_rfl) ?_
        first | (refine m_call (ent_of Try.func103 (by kernel_rfl) rfl) rfl rfl (fun w c => imageOf_ok (A := A.2) (c.rd k4) (sps_rd 1 rfl hA fA2 c) hF (by omega) (by omega) m4 hAr (by omega)) ?_; rintro v H' ⟨a9, c9, rfl, hs9, rfl⟩) | (refine m_call (ent_of Try.func165 (by kernel_rfl) rfl) rfl rfl (fun w c => sumSpace_ok (B := basL r.p R (imsL r.p R C (matF m) A.2)) (sps_rd 2 rfl hB fB2 c) (c.own_rd (i := 0) rfl) hF hBr (basL_rows hF (imsL_rows hF)) (by have := rkL_le (p := r.p) (C := R) (M := imsL r.p R C (matF m) A.2); rw [← basL_len] at this; omega) (by omega)) ?_; rintro v H' ⟨a11, c11, rfl, hs11, rfl⟩)
        refine c_nil (x_one (h_keep (fun w c => by exact c.drop.drop) ?_))
        refine h_end (by kernel_rfl) ?_
        repeat' (first
          | (show AT _ _ _ (wpList _ _ _ (_ :: _)); first
             | (show AT _ _ _ (wpList _ _ _ (⟨_, Op.move _, _, _, _, _⟩ :: _)); refine st_y (y_move rfl) rfl ?_)
             | (show AT _ _ _ (wpList _ _ _ (⟨_, Op.indexAddr _ _ _, _, _, _, _⟩ :: _)); refine st_y (y_ixa tabs rfl rfl rfl hsz (by omega) (by omega)) rfl ?_)
             | (show AT _ _ _ (wpList _ _ _ (⟨_, Op.binOp _ _ _ _ _, _, _, _, _⟩ :: _)); refine st_y (y_add rfl rfl (by omega)) rfl ?_)
             | (show AT _ _ _ (wpList _ _ _ (⟨_, Op.store _ _ _, _, _, _, _⟩ :: _)); refine m_storeT tabs (m := r.d.length) (ts := Q.flatMap spT) (tn := spT ((R : Int), basL r.p R (B.2 ++ basL r.p R (imsL r.p R C (matF m) A.2)))) (j := t) rfl rfl rfl rfl rfl rfl (by decide) (by rw [flatMap_length spT_length, hol]) (by omega) (fun w c => (Hp.spc (u0 := iV R) (((c.front (i := 2) rfl).front (i := 3) rfl).swap.cls.front (i := 1) rfl)).swap) ?_))
          | (show AT _ _ _ (wpList _ _ _ []); first | refine c_nil (x_then ?_) | refine c_nil ?_)
          | (show AT _ _ _ (Code.wp _ _ _); refine c_region ?_)
          | (show AT _ _ _ _; first | refine x_then ?_ | refine x_blk ?_))
        refine x_nx (i + 1) (by repeat' (first | exact Sub.nil | refine Sub.cons rfl ?_ | refine Sub.consi rfl (by omega) ?_)) (by omega) (fun w' c' => ?_) (by omega)
        rw [flatMap_set spT_length _ _ _ (by omega), ← e2] at c'
        exact c'.sub (by repeat' first | exact List.Sublist.refl _ | exact List.nil_sublist _ | apply List.Sublist.cons_cons | apply List.Sublist.cons)
      · have : i = r.m.length := by omega
        subst this
        rw [← e1]
        repeat' (first
          | (show AT _ _ _ (wpList _ _ _ (_ :: _)); first
             | (show AT _ _ _ (wpList _ _ _ (⟨_, Op.move _, _, _, _, _⟩ :: _)); refine st_y (y_move rfl) rfl ?_)
             | (show AT _ _ _ (wpList _ _ _ (⟨_, Op.assign _, _, _, _, _⟩ :: _)); refine st_y (y_assign rfl) rfl ?_)
             | (show AT _ _ _ (wpList _ _ _ (⟨_, Op.binOp _ _ _ _ _, _, _, _, _⟩ :: _)); first | refine st_y (y_lss rfl rfl) rfl ?_ | refine st_y (y_eql rfl rfl) rfl ?_)
             | (show AT _ _ _ (wpList _ _ _ (⟨_, Op.call _, _, _, _, _⟩ :: _)); first | (refine m_call (ent_of Try.func164 (by kernel_rfl) rfl) rfl rfl (fun w c => subDims_ok (o := seqG r O0 (k + 1)) (c.own_rd (i := 0) rfl) (by have := hok1.1; omega)) ?_; rintro v H' ⟨a8, c8, rfl, hs8, rfl⟩) | (refine m_call (ent_of Try.func163 (by kernel_rfl) rfl) rfl rfl (fun w c => sumOf_ok (c.own_rd (i := 0) rfl) (dmL_in hR hok1) (by have := hok1.1; simp; omega)) ?_; rintro v H' ⟨rfl, rfl⟩)))
          | (show AT _ _ _ (wpList _ _ _ []); refine c_nil (x_then ?_))
          | (show AT _ _ _ (Code.wp _ _ _); first | refine c_seq ?_ | refine c_region ?_ | refine c_skip (x_blk ?_) | refine c_ret ?_ | refine c_exit ?_ | refine c_iff rfl (by first | assumption | exact not_not_intro (by assumption) | omega) ?_ | refine c_if rfl (fun h => ?_) (fun h => ?_))
          | (show AT _ _ _ _; first | refine x_then ?_ | refine x_then_ret ?_ | refine x_blk_ret ?_ | refine x_then_exit ?_ | refine x_blk_exit rfl ?_))
        all_goals rw [dmL_sum] at h
        · have he := hend (by omega)
          rw [he]
          have hl9 := (seqG_ok hR hB0 9).1
          exact x_ret1 Try.results120 (res_tmp rfl) (fun w' c' => ⟨_, [.own (spsT 61 (seqG r O0 9)) (.slice az r.d.length cz)], rfl, ⟨az, cz, by rw [hl9], by rw [hl9]; exact hsz, by rw [hl9]⟩, c'.sub (by repeat' first | exact List.Sublist.refl _ | exact List.nil_sublist _ | apply List.Sublist.cons_cons | apply List.Sublist.cons)⟩)
        · refine x_nx (k + 1) (by repeat' (first | exact Sub.nil | refine Sub.cons rfl ?_ | refine Sub.consi rfl (by omega) ?_)) (by omega) (fun w' c' => c'.sub (by repeat' first | exact List.Sublist.refl _ | exact List.nil_sublist _ | apply List.Sublist.cons_cons | apply List.Sublist.cons)) (by show 9 - totG (seqG r O0 (k + 1)) < 9 - totG (seqG r O0 k); rw [hO]; omega)
end Go.Proofs.Ytnmhdmkfhacdbaa
