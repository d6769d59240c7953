import Derived.Test.YtijjkfbkihgfgaaGreatCobqsu
namespace Go.Proofs.YtijjkfbkihgfgaaGreat
open Go.Lg Go.Proofs Go.RowKit
attribute [local irreducible] Code.wp wpList bodyPost Exit.then Exit.inBlock Hp Again Calls Y AT ResV QT Qn QI wpAny wpAnyQ
set_option maxRecDepth 20000
set_option maxHeartbeats 4000000

def cobM (a b : Rp) (ms : List Mat) (i : Nat) : Mat := ((dN b.d (a.q.2.2.getD i 0) : Nat), (dN a.d (a.q.2.1.getD i 0) : Nat), mk (dN b.d (a.q.2.2.getD i 0)) (dN a.d (a.q.2.1.getD i 0)) (plusF a.p (a.p - 1) (firF a b ms i) (secF a ms i)))
def cobN (a b : Rp) (ms : List Mat) : Nat → List Mat
  | 0 => []
  | n + 1 => cobN a b ms n ++ [cobM a b ms n]
theorem cobN_len (a b : Rp) (ms : List Mat) : ∀ n, (cobN a b ms n).length = n
  | 0 => rfl
  | n + 1 => by rw [cobN, List.length_append, cobN_len a b ms n]; rfl
theorem cobN_mem {a b : Rp} {ms : List Mat} {m : Mat} : ∀ {n}, m ∈ cobN a b ms n ↔ ∃ i, i < n ∧ m = cobM a b ms i
  | 0 => by simp [cobN]
  | n + 1 => by
    rw [cobN, List.mem_append, cobN_mem (n := n)]
    simp only [List.mem_singleton]
    constructor
    · rintro (⟨i, hi, e⟩ | e)
      · exact ⟨i, by omega, e⟩
      · exact ⟨n, by omega, e⟩
    · rintro ⟨i, hi, e⟩
      by_cases h : i = n
      · subst h; exact .inr e
      · exact .inl ⟨i, by omega, e⟩
theorem coboundary_ok {w : World} {a b : Rp} {ms : List Mat} {e e' e2 : Nat} {u0 u1 u2 u3 v0 v1 v2 v3 um : Value} (h0 : Rd w (iT a.q.2.1) u0) (h1 : Rd w (iT a.q.2.2) u1) (h3 : Rd w (matsT e a.m) u3) (k3 : Rd w (matsT e' b.m) v3) (hm : Rd w (matsT e2 ms) um) (hA : AreP a b ms) :
    Does Tryz.prog 154 [.agg #[iV a.p, iV a.q.1, u0, u1, u2, u3], .agg #[iV b.p, iV b.q.1, v0, v1, v2, v3], um] w (GivesMs (cobN a b ms a.q.2.1.length)) := by
  have hRa := hA.1.1
  have hF := hRa.1
  have hp := fieldP_pos hF
  have hql := hRa.2.1.1.2.1
  obtain ⟨a0, c0, rfl, hs0, _, _, hg0⟩ := h0.ints
  obtain ⟨a1, c1, rfl, hs1, _, _, hg1⟩ := h1.ints
  obtain ⟨a3, c3, rfl, hs3, _, _, hg3⟩ := rd_mats h3
  obtain ⟨d3, f3, rfl, hk3, _, _, hh3⟩ := rd_mats k3
  obtain ⟨am, cm, rfl, hsm, _, _, hgm⟩ := rd_mats hm
  refine fn_enter Tryz.func154 rfl Tryz.ntmps154 rfl ?_
  repeat' (first | (show oL; first | refine sMv rfl rfl ?_ | refine sAs rfl rfl ?_ | refine sFd tabs rfl rfl rfl rfl ?_ | refine sLd 1 tabs rfl rfl rfl rfl rfl ?_ | refine sLn tabs rfl rfl rfl ?_ | (show oA (.box _ _); refine m_box rfl rfl (fun b4 hb4 => ?_))) | refine xNt ?_ | (show oC; first | refine c_seq ?_ | refine c_region ?_ | refine c_block ?_))
  rename_i b3 hb3
  refine c_loopH (α := Nat × Option Addr × Nat) [2, 3, 4, 13, 14] (fun s => [(7, .slice s.2.1 s.1 s.2.2), (15, .int .i64 s.1)]) (fun s => s.1 ≤ a.q.2.1.length) (fun s => [.own (matsT 47 (cobN a b ms s.1)) (.slice s.2.1 s.1 s.2.2), .blk b4 #[iV b.p, iV b.q.1, v0, v1, v2, .slice d3 b.m.length f3] 60, .blk b3 #[iV a.p, iV a.q.1, .slice a0 a.q.2.1.length c0, .slice a1 a.q.2.2.length c1, u2, .slice a3 a.m.length c3] 60]) (fun s => a.q.2.1.length - s.1) (0, none, 0) rfl sB ?_ ?_ ?_
  · exact Nat.zero_le _
  · exact fun w' c' => Hp.nilp _ _ c'
  · rintro ⟨i, al, cl⟩ hi
    simp only at hi ⊢
    by_cases hin : i < a.q.2.1.length
    · obtain ⟨s, t, x, y, z, v, A, B, P, Q, es, et, hsl, htl, hil, hil', hiT, hA1, hB1, hP1, hQ1, ⟨hx, hy, hz, hv⟩, ⟨B1, B2, B3, B4⟩, ⟨P1, P2, P3, P4⟩, ⟨Q1, Q2, Q3, Q4⟩, ⟨A1, A2, A3, A4⟩, ex, ez, ef, eg⟩ := mor_at hA hin
      obtain ⟨aA, cA, A5, A6, A7, A8⟩ := hg3 i A hA1
      obtain ⟨aB, cB, B5, B6, B7, B8⟩ := hh3 i B hB1
      obtain ⟨aP, cP, P5, P6, P7, P8⟩ := hgm s P hP1
      obtain ⟨aQ, cQ, Q5, Q6, Q7, Q8⟩ := hgm t Q hQ1
      rw [A1] at A5; rw [A2] at A6; rw [A3] at A7 A8; rw [mk_length] at A7 A8
      rw [B1] at B5; rw [B2] at B6; rw [B3] at B7 B8; rw [mk_length] at B7 B8
      rw [P1] at P5; rw [P2] at P6; rw [P3] at P7 P8; rw [mk_length] at P7 P8
      rw [Q1] at Q5; rw [Q2] at Q6; rw [Q3] at Q7 Q8; rw [mk_length] at Q7 Q8
      have gF := hg0 i hin
      rw [es] at gF
      have gT := hg1 i hiT
      rw [et] at gT
      have hfi : inF a.p x z (mulF a.p y (matF B) (matF P)) := inF_mul om
      have hse : inF a.p x z (mulF a.p v (matF Q) (matF A)) := inF_mul om
      repeat' (first | (show oL; first | refine sMv rfl rfl ?_ | refine sAs rfl rfl ?_ | (show oA (.load _ _); refine st_y (y_load tabs rfl rfl (hc_w0 gF)) rfl ?_) | (show oA (.indexAddr _ _ _); refine st_y (y_ix1 tabs (j := i) rfl rfl rfl hs0 rfl hin) rfl ?_) | refine sLs rfl rfl rfl ?_) | refine xNt ?_ | (show oC; first | refine c_seq ?_ | refine c_region ?_ | refine c_skip (x_then ?_) | refine c_block ?_ | refine c_ift rfl aO ?_))
      refine c_all (Hp [] w [.blk b4 #[iV b.p, iV b.q.1, v0, v1, v2, .slice d3 b.m.length f3] 60, .blk b3 #[iV a.p, iV a.q.1, .slice a0 a.q.2.1.length c0, .slice a1 a.q.2.2.length c1, u2, .slice a3 a.m.length c3] 60]) kr (fun _ c => Hp.drew c) ?_
      refine fl_begin 12 rfl tabs rfl rfl ?_
      refine fl_take 0 rfl kr kr kr kr kr kr (by exact y_field tabs rfl rfl rfl) rfl (fun w c => by exact c.drop) ?_
      refine fl_take 1 rfl kr kr kr kr kr kr (by exact y_load tabs rfl rfl (hc_blk 1 rfl rfl)) rfl (fun w c => by exact c.drop) ?_
      refine fl_take 2 rfl kr kr kr kr kr kr (by exact y_field tabs rfl rfl rfl) rfl (fun w c => by exact c.drop) ?_
      refine fl_take 3 rfl kr kr kr kr kr kr (by exact y_load tabs rfl rfl (hc_blk 0 rfl rfl)) rfl (fun w c => by exact c.drop) ?_
      refine fl_take 4 rfl kr kr kr kr kr kr (by exact y_move rfl) rfl (fun w c => by exact c.drop) ?_
      refine fl_take 5 rfl kr kr kr kr kr kr (by exact y_ixa tabs rfl rfl rfl hk3 om om) rfl (fun w c => by exact c.drop) ?_
      refine fl_take 6 rfl kr kr kr kr kr kr (by exact y_load3 tabs rfl rfl (hc_w0 B5) (hc_w0 B6) (hc_w0 B7)) rfl (fun w c => by exact c.drop) ?_
      refine fl_take 7 rfl kr kr kr kr kr kr (by exact y_move rfl) rfl (fun w c => by exact c.drop) ?_
      refine fl_take 8 rfl kr kr kr kr kr kr (by exact y_move rfl) rfl (fun w c => by exact c.drop) ?_
      refine fl_take 9 rfl kr kr kr kr kr kr (by exact y_ixa tabs rfl rfl rfl hsm om om) rfl (fun w c => by exact c.drop) ?_
      refine fl_take 10 rfl kr kr kr kr kr kr (by exact y_load3 tabs rfl rfl (hc_w0 P5) (hc_w0 P6) (hc_w0 P7)) rfl (fun w c => by exact c.drop) ?_
      (refine fl_call 11 rfl rfl kr tabs rfl rfl rfl kr kr kr (ent_of Tryz.func183 kr rfl) rfl rfl (fun w c => times_ok (c.rd B8) (c.rd P8) hF om om om B4 P4) sC ?_; rintro v H' ⟨a7, c7, rfl, hs7, rfl⟩)
      refine fl_end rfl tabs rfl rfl rfl kr (fun w c => by exact c.drop.drop) (fun bf hbf => ?_)
      refine h_only 13 rfl kr ?_
      (refine m_storeb 0 tabs rfl rfl rfl rfl rfl rfl rfl ?_)
      refine c_nil (x_one (h_keep sS ?_))
      refine h_end kr ?_
      repeat' (first | (show AT _ _ _ _; refine x_then ?_))
      refine c_all (Hp [] w [.blk bf #[iV x, iV z, .slice a7 (x * z) c7] 47, .blk b4 #[iV b.p, iV b.q.1, v0, v1, v2, .slice d3 b.m.length f3] 60, .blk b3 #[iV a.p, iV a.q.1, .slice a0 a.q.2.1.length c0, .slice a1 a.q.2.2.length c1, u2, .slice a3 a.m.length c3] 60]) kr (fun _ c => Hp.drew c) ?_
      refine h_take 0 rfl kr kr kr (by exact y_move rfl) rfl sS ?_
      refine h_take 1 rfl kr kr kr (by exact y_field tabs rfl rfl rfl) rfl sS ?_
      refine h_take 2 rfl kr kr kr (by exact y_load tabs rfl rfl (hc_blk 2 rfl rfl)) rfl sS ?_
      refine h_take 3 rfl kr kr kr (by first | exact y_loadb 0 tabs rfl rfl rfl rfl | exact y_loadb 0 tabs rfl rfl rfl rfl) rfl sS ?_
      refine h_take 4 rfl kr kr kr (by exact y_field tabs rfl rfl rfl) rfl sS ?_
      refine h_take 5 rfl kr kr kr (by exact y_load tabs rfl rfl (hc_blk 2 rfl rfl)) rfl sS ?_
      refine h_take 6 rfl kr kr kr (by exact y_sub rfl rfl om) rfl sS ?_
      refine h_take 7 rfl kr kr kr (by exact y_field tabs rfl rfl rfl) rfl sS ?_
      refine h_take 8 rfl kr kr kr (by exact y_load tabs rfl rfl (hc_blk 2 rfl rfl)) rfl sS ?_
      refine h_take 9 rfl kr kr kr (by exact y_move rfl) rfl sS ?_
      refine h_take 10 rfl kr kr kr (by exact y_field tabs rfl rfl rfl) rfl sS ?_
      refine h_take 11 rfl kr kr kr (by exact y_field tabs rfl rfl rfl) rfl sS ?_
      refine h_take 12 rfl kr kr kr (by exact y_load tabs rfl rfl (hc_blk 2 rfl rfl)) rfl sS ?_
      refine h_take 13 rfl kr kr kr (by exact y_move rfl) rfl sS ?_
      refine h_take 14 rfl kr kr kr (by exact y_ix1 tabs (j := i) rfl rfl rfl hs1 rfl hiT) rfl sS ?_
      refine h_take 15 rfl kr kr kr (by exact y_load tabs rfl rfl (hc_w0 gT)) rfl sS ?_
      refine h_take 16 rfl kr kr kr (by exact y_ixa tabs rfl rfl rfl hsm om om) rfl sS ?_
      refine h_take 17 rfl kr kr kr (by exact y_load3 tabs rfl rfl (hc_w0 Q5) (hc_w0 Q6) (hc_w0 Q7)) rfl sS ?_
      refine h_take 18 rfl kr kr kr (by exact y_field tabs rfl rfl rfl) rfl sS ?_
      refine h_take 19 rfl kr kr kr (by exact y_load tabs rfl rfl (hc_blk 2 rfl rfl)) rfl sS ?_
      refine h_take 20 rfl kr kr kr (by exact y_move rfl) rfl sS ?_
      refine h_take 21 rfl kr kr kr (by exact y_ixa tabs rfl rfl rfl hs3 om om) rfl sS ?_
      refine h_take 22 rfl kr kr kr (by exact y_load3 tabs rfl rfl (hc_w0 A5) (hc_w0 A6) (hc_w0 A7)) rfl sS ?_
      refine h_only 23 rfl kr ?_
      first | (refine m_build1 tabs (us := [iV x, iV z, .slice a9 (x * z) c9]) rfl rfl rfl rfl (by decide) rfl (fun g5 hg5 => ?_)) | (refine m_call (ent_of Tryz.func183 kr rfl) rfl rfl (fun w c => times_ok (c.rd Q8) (c.rd A8) hF om om om Q4 A4) ?_; rintro v H' ⟨a8, c8, rfl, hs8, rfl⟩) | (refine m_call (ent_of Tryz.func246 kr rfl) rfl rfl (fun w c => plus_ok (c.own_rd (i := 2) rfl) (c.own_rd (i := 0) rfl) hF om om om hfi hse) ?_; rintro v H' ⟨a9, c9, rfl, hs9, rfl⟩) | (refine m_push1 [iV x, iV z] 3 0 tabs (m' := i) rfl rfl rfl rfl rfl rfl rfl (by rw [flatMap_length matT_length, cobN_len]) (by rw [flatMap_length matT_length, cobN_len]; omega) (by decide) rfl rfl (fun a10 c10 => ?_))
      refine c_nil (x_one (h_keep sS ?_))
      refine h_only 24 rfl kr ?_
      first | (refine m_build1 tabs (us := [iV x, iV z, .slice a9 (x * z) c9]) rfl rfl rfl rfl (by decide) rfl (fun g5 hg5 => ?_)) | (refine m_call (ent_of Tryz.func183 kr rfl) rfl rfl (fun w c => times_ok (c.rd Q8) (c.rd A8) hF om om om Q4 A4) ?_; rintro v H' ⟨a8, c8, rfl, hs8, rfl⟩) | (refine m_call (ent_of Tryz.func246 kr rfl) rfl rfl (fun w c => plus_ok (c.own_rd (i := 2) rfl) (c.own_rd (i := 0) rfl) hF om om om hfi hse) ?_; rintro v H' ⟨a9, c9, rfl, hs9, rfl⟩) | (refine m_push1 [iV x, iV z] 3 0 tabs (m' := i) rfl rfl rfl rfl rfl rfl rfl (by rw [flatMap_length matT_length, cobN_len]) (by rw [flatMap_length matT_length, cobN_len]; omega) (by decide) rfl rfl (fun a10 c10 => ?_))
      refine c_nil (x_one (h_keep sS ?_))
      refine h_only 25 rfl kr ?_
      first | (refine m_build1 tabs (us := [iV x, iV z, .slice a9 (x * z) c9]) rfl rfl rfl rfl (by decide) rfl (fun g5 hg5 => ?_)) | (refine m_call (ent_of Tryz.func183 kr rfl) rfl rfl (fun w c => times_ok (c.rd Q8) (c.rd A8) hF om om om Q4 A4) ?_; rintro v H' ⟨a8, c8, rfl, hs8, rfl⟩) | (refine m_call (ent_of Tryz.func246 kr rfl) rfl rfl (fun w c => plus_ok (c.own_rd (i := 2) rfl) (c.own_rd (i := 0) rfl) hF om om om hfi hse) ?_; rintro v H' ⟨a9, c9, rfl, hs9, rfl⟩) | (refine m_push1 [iV x, iV z] 3 0 tabs (m' := i) rfl rfl rfl rfl rfl rfl rfl (by rw [flatMap_length matT_length, cobN_len]) (by rw [flatMap_length matT_length, cobN_len]; omega) (by decide) rfl rfl (fun a10 c10 => ?_))
      refine c_nil (x_one (h_keep sS ?_))
      refine h_only 26 rfl kr ?_
      first | (refine m_build1 tabs (us := [iV x, iV z, .slice a9 (x * z) c9]) rfl rfl rfl rfl (by decide) rfl (fun g5 hg5 => ?_)) | (refine m_call (ent_of Tryz.func183 kr rfl) rfl rfl (fun w c => times_ok (c.rd Q8) (c.rd A8) hF om om om Q4 A4) ?_; rintro v H' ⟨a8, c8, rfl, hs8, rfl⟩) | (refine m_call (ent_of Tryz.func246 kr rfl) rfl rfl (fun w c => plus_ok (c.own_rd (i := 2) rfl) (c.own_rd (i := 0) rfl) hF om om om hfi hse) ?_; rintro v H' ⟨a9, c9, rfl, hs9, rfl⟩) | (refine m_push1 [iV x, iV z] 3 0 tabs (m' := i) rfl rfl rfl rfl rfl rfl rfl (by rw [flatMap_length matT_length, cobN_len]) (by rw [flatMap_length matT_length, cobN_len]; omega) (by decide) rfl rfl (fun a10 c10 => ?_))
      refine c_nil (x_one (h_keep sS ?_))
      refine h_take 27 rfl kr kr kr (by exact y_assign rfl) rfl sS ?_
      refine h_end kr ?_
      repeat' (first | (show oL; first | refine sMv rfl rfl ?_ | refine sAd rfl rfl om rfl ?_) | refine xNt ?_ | (show oC; refine c_region ?_) | (show AT _ _ _ _; first | refine x_then ?_ | refine x_blk ?_))
      refine x_nx (i + 1, a10, c10) sB (by simp only; omega) (fun w' c' => ?_) (by simp only; omega)
      have e0 : (cobN a b ms i).flatMap matT ++ (List.map T.c [iV x, iV z] ++ [iT (mk x z (plusF a.p (a.p - 1) (mulF a.p y (matF B) (matF P)) (mulF a.p v (matF Q) (matF A))))]) = (cobN a b ms (i + 1)).flatMap matT := by
        rw [cobN, List.flatMap_append]
        have : cobM a b ms i = (((x : Nat) : Int), ((z : Nat) : Int), mk x z (plusF a.p (a.p - 1) (mulF a.p y (matF B) (matF P)) (mulF a.p v (matF Q) (matF A)))) := by rw [cobM, ex, ez, ef, eg]
        rw [this]; rfl
      rw [e0] at c'
      exact c'.sub sL
    · have : i = a.q.2.1.length := by omega
      subst this
      refine AT.fact (mats_sl 0 rfl) (fun hsl => ?_)
      rw [cobN_len] at hsl
      repeat' (first | (show oL; first | refine sMv rfl rfl ?_ | refine sAs rfl rfl ?_ | refine sLs rfl rfl rfl ?_) | refine xNt ?_ | (show oC; first | refine c_seq ?_ | refine c_region ?_ | refine c_ret ?_ | refine c_exit ?_ | refine c_iff rfl nN ?_) | (show AT _ _ _ _; first | refine x_then ?_ | refine x_then_exit ?_ | refine x_blk_exit rfl ?_))
      exact x_ret1 Tryz.results154 (res_tmp rfl) (fun w' c' => ⟨_, _, rfl, ⟨al, cl, by rw [cobN_len], by rw [cobN_len]; exact hsl, by rw [cobN_len]⟩, c'.sub (.cons_cons _ (List.nil_sublist _))⟩)
theorem morP_iff {a b : Rp} {ms : List Mat} (h : AreP a b ms) : MorP a b ms ↔ ¬ ∃ m ∈ cobN a b ms a.q.2.1.length, ¬ ∀ x ∈ m.2.2, x = 0 := by
  have hp := fieldP_pos h.1.1.1
  have key : ∀ i, i < a.q.2.1.length → ((∀ x ∈ (cobM a b ms i).2.2, x = 0) ↔ mk (dN b.d (a.q.2.2.getD i 0)) (dN a.d (a.q.2.1.getD i 0)) (firF a b ms i) = mk (dN b.d (a.q.2.2.getD i 0)) (dN a.d (a.q.2.1.getD i 0)) (secF a ms i)) := fun i hi =>
    zero_iff (inF_mul om) (inF_mul om)
  constructor
  · rintro ⟨_, hm⟩ ⟨m, hmem, hne⟩
    obtain ⟨i, hi, rfl⟩ := cobN_mem.1 hmem
    exact hne ((key i hi).2 (hm i hi))
  · intro hn
    refine ⟨h, fun i hi => (key i hi).1 (Decidable.byContradiction (fun hc => hn ⟨_, cobN_mem.2 ⟨i, hi, rfl⟩, hc⟩))⟩
theorem impl_IsMorphism_ok {w : World} {a b : Rp} {ms : List Mat} {e e' e2 : Nat} {u0 u1 u2 u3 v0 v1 v2 v3 um : Value} (h0 : Rd w (iT a.q.2.1) u0) (h1 : Rd w (iT a.q.2.2) u1) (h2 : Rd w (iT a.d) u2) (h3 : Rd w (matsT e a.m) u3) (k0 : Rd w (iT b.q.2.1) v0) (k1 : Rd w (iT b.q.2.2) v1) (k2 : Rd w (iT b.d) v2) (k3 : Rd w (matsT e' b.m) v3) (hm : Rd w (matsT e2 ms) um) :
    Does Tryz.prog 41 [.agg #[iV a.p, iV a.q.1, u0, u1, u2, u3], .agg #[iV b.p, iV b.q.1, v0, v1, v2, v3], um] w (fun r H => r = .bool (decide (MorP a b ms)) ∧ H = []) := by
  by_cases hA : AreP a b ms
  · refine fn_enter Tryz.func41 rfl Tryz.ntmps41 rfl ?_
    repeat' (first | (show oL; first | refine sMv rfl rfl ?_ | refine sAs rfl rfl ?_ | (show oA (.load _ _); first | refine sLb 0 tabs rfl rfl rfl rfl rfl ?_ | refine sLb 1 tabs rfl rfl rfl rfl rfl ?_) | (show oA (.unOp _ _ _); refine st_y (y_notd rfl) rfl ?_) | (show oA (.call _); first | (refine m_call (ent_of Tryz.func54 kr rfl) rfl rfl (fun w c => impl_AreMatrices_ok (a := a) (b := b) (ms := ms) (c.rd h0) (c.rd h1) (c.rd h2) (c.rd h3) (c.rd k0) (c.rd k1) (c.rd k2) (c.rd k3) (c.rd hm)) ?_; rintro v H' ⟨rfl, rfl⟩) | (refine m_call (ent_of Tryz.func154 kr rfl) rfl rfl (fun w c => coboundary_ok (a := a) (b := b) (ms := ms) (c.rd h0) (c.rd h1) (c.rd h3) (c.rd k3) (c.rd hm) hA) ?_; rintro v H' ⟨a5, c5, rfl, hs5, rfl⟩) | (refine m_call (ent_of Tryz.func153 kr rfl) rfl rfl (fun w c => ContainsFuncM_ok (p := fun m => ¬ ∀ x ∈ m.2.2, x = 0) (c.own_rd (i := 0) rfl) (ent_of Tryz.func155 kr rfl) (fun w' m u hu => IsMorphism1_ok hu)) ?_; rintro v H' ⟨rfl, rfl⟩)) | (show oA (.pick _ _ _); refine st_y (y_pickt rfl aS rfl) rfl ?_) | (show oA (.box _ _); refine m_box rfl rfl (fun b4 hb4 => ?_)) | refine st_gdy rfl rfl aS ?_) | refine xNt ?_ | (show oC; first | refine c_seq ?_ | refine c_region ?_ | refine c_ret ?_))
    all_goals first | exact absurd hA aS | skip
    refine x_ret1 Tryz.results41 (res_tmp rfl) (fun w' c' => ⟨_, _, rfl, ⟨congrArg Value.bool ?_, rfl⟩, c'.sub (List.nil_sublist _)⟩)
    refine decide_eq_decide.2 ?_
    exact (morP_iff hA).symm
  · have hno : ¬ MorP a b ms := fun h => hA h.1
    rw [decide_eq_false hno]
    refine fn_enter Tryz.func41 rfl Tryz.ntmps41 rfl ?_
    repeat' (first | (show oL; first | refine sMv rfl rfl ?_ | refine sAs rfl rfl ?_ | (show oA (.load _ _); first | refine sLb 0 tabs rfl rfl rfl rfl rfl ?_ | refine sLb 1 tabs rfl rfl rfl rfl rfl ?_) | (show oA (.call _); (refine m_call (ent_of Tryz.func54 kr rfl) rfl rfl (fun w c => impl_AreMatrices_ok (a := a) (b := b) (ms := ms) (c.rd h0) (c.rd h1) (c.rd h2) (c.rd h3) (c.rd k0) (c.rd k1) (c.rd k2) (c.rd k3) (c.rd hm)) ?_; rintro v H' ⟨rfl, rfl⟩)) | (show oA (.pick _ _ _); refine st_y (y_pickf rfl aS rfl) rfl ?_) | (show oA (.box _ _); refine m_box rfl rfl (fun b4 hb4 => ?_)) | refine st_gdn rfl rfl aS rfl ?_) | refine xNt ?_ | (show oC; first | refine c_seq ?_ | refine c_region ?_ | refine c_ret ?_))
    all_goals first | exact absurd aS hA | skip
    exact x_ret1 Tryz.results41 (res_tmp rfl) (fun w' c' => ⟨_, _, rfl, ⟨rfl, rfl⟩, c'.sub (List.nil_sublist _)⟩)
end Go.Proofs.YtijjkfbkihgfgaaGreat

namespace Go.Proofs.YtijjkfbkihgfgaaGreat
open Go.Lg Go.Proofs Go.RowKit
attribute [local irreducible] Code.wp wpList bodyPost Exit.then Exit.inBlock Hp Again Calls Y AT ResV QT Qn QI wpAny wpAnyQ
set_option maxRecDepth 20000
set_option maxHeartbeats 4000000

def tabM (F : Nat → Mat) (n : Nat) : List Mat := (List.range n).map F
@[simp] theorem tabM_length {F : Nat → Mat} {n : Nat} : (tabM F n).length = n := by simp [tabM]
theorem tabM_next {F : Nat → Mat} {i x y : Nat} {f : Nat → Nat → Int} (hz : F i = ((x : Int), (y : Int), mk x y f)) : (tabM F i).flatMap matT ++ (List.map T.c [iV x, iV y] ++ [iT (mk x y f)]) = (tabM F (i + 1)).flatMap matT := by
  have e1 : tabM F (i + 1) = tabM F i ++ [F i] := by simp [tabM, List.range_succ]
  rw [e1, List.flatMap_append, hz]; rfl
theorem AreP.ml {a b : Rp} {ms : List Mat} (h : AreP a b ms) : ms.length ≤ 5 := by
  have h1 := (RepP.dd h.1.1).2
  have h2 := h.2.1
  omega
end Go.Proofs.YtijjkfbkihgfgaaGreat
