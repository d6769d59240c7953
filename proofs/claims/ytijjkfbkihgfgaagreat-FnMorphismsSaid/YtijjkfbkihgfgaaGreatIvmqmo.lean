import Derived.Test.YtijjkfbkihgfgaaGreatCmpqmo
import Derived.Test.YtijjkfbkihgfgaaGreatIvsqmo
import Derived.Test.YtijjkfbkihgfgaaGreatRvcqmo
namespace Go.Proofs.YtijjkfbkihgfgaaGreat
open Go.Lg Go.Proofs Go.RowKit
attribute [local irreducible] Code.wp wpList bodyPost Exit.then Exit.inBlock Hp Again Calls Y AT ResV QT Qn QI wpAny wpAnyQ
set_option maxRecDepth 20000
set_option maxHeartbeats 4000000

/-! ### the inverse of an isomorphism -/
def ivmM (p : Int) (ms : List Mat) (v : Nat) : Mat := (((ms.getD v mat0).1.toNat : Nat), ((ms.getD v mat0).1.toNat : Nat), mk (ms.getD v mat0).1.toNat (ms.getD v mat0).1.toNat (invF p (ms.getD v mat0).1.toNat (matF (ms.getD v mat0))))
def ivmL (a b : Rp) (ms : List Mat) : List Mat := if IsoP a b ms then tabM (ivmM a.p ms) ms.length else []
theorem rkN_get {p : Int} {ms : List Mat} {i : Nat} : ∀ {n}, i < n → (rkN p ms n).getD i 0 = ((redL p (ms.getD i mat0)).length : Int)
  | 0, h => absurd h om
  | n + 1, h => by
    rw [rkN, List.getD, List.getElem?_append]
    have hl := rkN_len p ms n
    by_cases e : i = n
    · subst e
      rw [if_neg om, hl]
      simp
    · rw [if_pos om]
      exact rkN_get om
theorem iso_at {a b : Rp} {ms : List Mat} {i : Nat} (h : IsoP a b ms) (hi : i < ms.length) : ∃ (n : Nat) (m : Mat), ms[i]? = some m ∧ ms.getD i mat0 = m ∧ n ≤ 4 ∧ CellsP a.p m n n ∧ (redTo a.p n (matF m) n).2.length = n ∧ ivmM a.p ms i = ((n : Int), (n : Int), mk n n (invF a.p n (matF m))) := by
  obtain ⟨⟨hM, e1⟩, _, e2⟩ := h
  obtain ⟨m, hm, hmd, hM1⟩ := hM.1.mat hi
  obtain ⟨_, m2, m3⟩ := hM.1.2.2 i hi
  rw [hmd] at m2 m3
  have ha := hM.1.1.1.dg i
  have r1 := rkN_get (p := a.p) (ms := ms) hi
  have hed : a.d.getD i 0 = b.d.getD i 0 := by rw [← e1, ← e2]
  rw [e1, hmd] at r1
  have hc := cellsP_of (R := (a.d.getD i 0).toNat) (C := (a.d.getD i 0).toNat) hM1 om om
  refine ⟨(a.d.getD i 0).toNat, m, hm, hmd, by omega, hc, ?_, ?_⟩
  · have e3 : m = ((((a.d.getD i 0).toNat : Nat) : Int), (((a.d.getD i 0).toNat : Nat) : Int), mk (a.d.getD i 0).toNat (a.d.getD i 0).toNat (matF m)) := Prod.ext hc.1 (Prod.ext hc.2.1 hc.2.2.1)
    rw [e3, redL_mk] at r1
    omega
  · rw [ivmM, hmd, m3, ← hed]
theorem impl_InverseMorphism_ok {w : World} {a b : Rp} {ms : List Mat} {e e' e2 : Nat} {u0 u1 u2 u3 v0 v1 v2 v3 um : Value} (h0 : Rd w (iT a.q.2.1) u0) (h1 : Rd w (iT a.q.2.2) u1) (h2 : Rd w (iT a.d) u2) (h3 : Rd w (matsT e a.m) u3) (k0 : Rd w (iT b.q.2.1) v0) (k1 : Rd w (iT b.q.2.2) v1) (k2 : Rd w (iT b.d) v2) (k3 : Rd w (matsT e' b.m) v3) (hm : Rd w (matsT e2 ms) um) :
    Does Tryz.prog 43 [.agg #[iV a.p, iV a.q.1, u0, u1, u2, u3], .agg #[iV b.p, iV b.q.1, v0, v1, v2, v3], um] w (GivesMsB (ivmL a b ms) (decide (IsoP a b ms))) := by
  have hm0 := hm
  obtain ⟨am, cm, rfl, hsm, hcm, hdm, hgm⟩ := rd_mats hm
  by_cases hC : IsoP a b ms
  · rw [ivmL, if_pos hC, decide_eq_true hC]
    have hF := hC.1.1.1.1.1.1
    have hml := hC.1.1.1.ml5
    refine fn_enter Tryz.func43 rfl Tryz.ntmps43 rfl ?_
    repeat' (first | (show oL; first | (show oA (.move _); refine st_y (y_move rfl) rfl ?_) | (show oA (.assign _); refine st_y (y_assign rfl) rfl ?_) | (show oA (.load _ _); first | refine st_y (y_loadb 0 tabs rfl rfl rfl rfl) rfl ?_ | refine st_y (y_loadb 1 tabs rfl rfl rfl rfl) rfl ?_) | (show oA (.unOp _ _ _); refine st_y (y_notd rfl) rfl ?_) | (show oA (.call _); first | (refine m_call (ent_of Tryz.func45 kr rfl) rfl rfl (fun w c => impl_IsIsomorphism_ok (a := a) (b := b) (ms := ms) (c.rd h0) (c.rd h1) (c.rd h2) (c.rd h3) (c.rd k0) (c.rd k1) (c.rd k2) (c.rd k3) (c.rd hm0)) ?_; rintro v H' ⟨rfl, rfl⟩) | refine st_y (y_len tabs rfl rfl) rfl ?_) | (show oA (.box _ _); refine m_box rfl rfl (fun b4 hb4 => ?_))) | (show oN; refine c_nil (x_then ?_)) | (show oC; first | refine c_seq ?_ | refine c_region ?_ | refine c_skip (x_then ?_) | refine c_block ?_ | refine c_iff rfl nN ?_))
    all_goals first | exact absurd hC aS | skip
    rename_i b3 hb3
    refine c_loopH (α := Nat × Option Addr × Nat) [3, 16, 17] (fun s => [(8, .slice s.2.1 s.1 s.2.2), (18, .int .i64 s.1)]) (fun s => s.1 ≤ ms.length) (fun s => [.own (matsT 47 (tabM (ivmM a.p ms) s.1)) (.slice s.2.1 s.1 s.2.2), .blk b3 #[iV a.p, iV a.q.1, u0, u1, u2, u3] 60]) (fun s => ms.length - s.1) (0, none, 0) rfl sB ?_ ?_ ?_
    · exact Nat.zero_le _
    · exact fun w' c' => Hp.nilp _ _ (c'.sub (.cons _ (List.Sublist.refl _)))
    · rintro ⟨i, al, cl⟩ hi
      simp only at hi ⊢
      by_cases hin : i < ms.length
      · obtain ⟨n, m, hmi, hmd, hn, ⟨m1, m2, m3, m4⟩, hrk, hz⟩ := iso_at hC hin
        obtain ⟨a1, c1, f5, f6, f7, f8⟩ := hgm i m hmi
        rw [m1] at f5; rw [m2] at f6; rw [m3] at f7 f8; rw [mk_length] at f7 f8
        repeat' (first | (show oL; first | (show oA (.move _); refine st_y (y_move rfl) rfl ?_) | (show oA (.assign _); refine st_y (y_assign rfl) rfl ?_) | (show oA (.fieldAddr _ _ _); refine st_y (y_field tabs rfl rfl rfl) rfl ?_) | (show oA (.load _ _); first | refine st_y (y_load3 tabs rfl rfl (hc_w0 f5) (hc_w0 f6) (hc_w0 f7)) rfl ?_ | refine st_y (y_load tabs rfl rfl (hc_blk 2 rfl rfl)) rfl ?_ | refine st_y (y_loadb 0 tabs rfl rfl rfl rfl) rfl ?_) | (show oA (.indexAddr _ _ _); refine st_y (y_ixa tabs rfl rfl rfl (by first | assumption | exact .mk) om om) rfl ?_) | (show oA (.binOp _ _ _ _ _); first | refine st_y (y_add rfl rfl om) rfl ?_ | refine st_y (y_lss rfl rfl) rfl ?_) | (show oA (.call _); first | (refine m_call (ent_of Tryz.func158 kr rfl) rfl rfl (fun w c => inverse_ok (c.rd f8) hF om m4) ?_; rintro v H' ⟨a7, c7, rfl, hs7, rfl⟩) | refine m_push1 [iV n, iV n] 1 0 tabs (m' := i) rfl rfl rfl rfl rfl rfl rfl (by rw [flatMap_length matT_length, tabM_length]) (by rw [flatMap_length matT_length, tabM_length]; omega) (by decide) rfl rfl (fun a10 c10 => ?_)) | (show oA (.store _ _ _); refine m_storeb 0 tabs rfl rfl rfl rfl rfl rfl rfl ?_) | (show oA (.alloc _); refine m_alloc tabs rfl rfl (fun b9 hb9 => ?_)) | (show oA (.buildSlice _ _ _); refine m_build1 tabs (us := [iV n, iV n, .slice a7 (n * n) c7]) rfl rfl rfl rfl (by decide) rfl (fun g5 hg5 => ?_))) | (show oN; first | refine c_nil (x_then ?_) | refine c_nil ?_) | (show oC; first | refine c_seq ?_ | refine c_region ?_ | refine c_skip (x_then ?_) | refine c_block ?_ | refine c_ift rfl aO ?_) | (show AT _ _ _ _; first | refine x_then ?_ | refine x_blk ?_))
        refine x_nx (i + 1, a10, c10) sB (by simp only; omega) (fun w' c' => ?_) (by simp only; omega)
        rw [tabM_next hz] at c'
        exact c'.sub sL
      · have : i = ms.length := by omega
        subst this
        refine AT.fact (mats_sl 0 rfl) (fun hsl => ?_)
        rw [tabM_length] at hsl
        repeat' (first | (show oL; first | (show oA (.move _); refine st_y (y_move rfl) rfl ?_) | (show oA (.assign _); refine st_y (y_assign rfl) rfl ?_) | (show oA (.binOp _ _ _ _ _); refine st_y (y_lss rfl rfl) rfl ?_)) | (show oN; refine c_nil (x_then ?_)) | (show oC; first | refine c_seq ?_ | refine c_region ?_ | refine c_ret ?_ | refine c_exit ?_ | refine c_iff rfl nN ?_) | (show AT _ _ _ _; first | refine x_then ?_ | refine x_then_exit ?_ | refine x_blk_exit rfl ?_))
        exact x_ret2 Tryz.results43 (res_tmp rfl) (res_tmp rfl) (fun w' c' => ⟨_, _, rfl, ⟨al, cl, by rw [tabM_length], by rw [tabM_length]; exact hsl, by rw [tabM_length]⟩, c'.sub (.cons_cons _ (List.nil_sublist _))⟩)
  · rw [ivmL, if_neg hC, decide_eq_false hC]
    refine fn_enter Tryz.func43 rfl Tryz.ntmps43 rfl ?_
    repeat' (first | (show oL; first | (show oA (.move _); refine st_y (y_move rfl) rfl ?_) | (show oA (.assign _); refine st_y (y_assign rfl) rfl ?_) | (show oA (.load _ _); first | refine st_y (y_loadb 0 tabs rfl rfl rfl rfl) rfl ?_ | refine st_y (y_loadb 1 tabs rfl rfl rfl rfl) rfl ?_) | (show oA (.unOp _ _ _); refine st_y (y_notd rfl) rfl ?_) | (show oA (.call _); (refine m_call (ent_of Tryz.func45 kr rfl) rfl rfl (fun w c => impl_IsIsomorphism_ok (a := a) (b := b) (ms := ms) (c.rd h0) (c.rd h1) (c.rd h2) (c.rd h3) (c.rd k0) (c.rd k1) (c.rd k2) (c.rd k3) (c.rd hm0)) ?_; rintro v H' ⟨rfl, rfl⟩)) | (show oA (.box _ _); refine m_box rfl rfl (fun b4 hb4 => ?_))) | (show oN; refine c_nil (x_then ?_)) | (show oC; first | refine c_seq ?_ | refine c_region ?_ | refine c_ret ?_ | refine c_ift rfl aO ?_) | (show AT _ _ _ _; refine x_then_ret ?_))
    all_goals first | exact absurd aS hC | skip
    exact x_ret2 Tryz.results43 (res_tmp rfl) (res_tmp rfl) (fun w' c' => ⟨_, _, rfl, ⟨none, 0, rfl, .inl rfl, rfl⟩, Hp.nilp _ _ (c'.sub (List.nil_sublist _))⟩)
theorem spec_InverseMorphism_ok {w : World} {a b : Rp} {ms : List Mat} {e e' e2 : Nat} {u0 u1 u2 u3 v0 v1 v2 v3 um : Value} (h0 : Rd w (iT a.q.2.1) u0) (h1 : Rd w (iT a.q.2.2) u1) (h2 : Rd w (iT a.d) u2) (h3 : Rd w (matsT e a.m) u3) (k0 : Rd w (iT b.q.2.1) v0) (k1 : Rd w (iT b.q.2.2) v1) (k2 : Rd w (iT b.d) v2) (k3 : Rd w (matsT e' b.m) v3) (hm : Rd w (matsT e2 ms) um) :
    Does Tryz.prog 44 [.agg #[iV a.p, iV a.q.1, u0, u1, u2, u3], .agg #[iV b.p, iV b.q.1, v0, v1, v2, v3], um] w (GivesMsB (ivmL a b ms) (decide (IsoP a b ms))) := by
  have hm0 := hm
  obtain ⟨am, cm, rfl, hsm, hcm, hdm, hgm⟩ := rd_mats hm
  by_cases hC : IsoP a b ms
  · rw [ivmL, if_pos hC, decide_eq_true hC]
    have hF := hC.1.1.1.1.1.1
    have hml := hC.1.1.1.ml5
    refine fn_enter Tryz.func44 rfl Tryz.ntmps44 rfl ?_
    repeat' (first | (show oL; first | (show oA (.move _); refine st_y (y_move rfl) rfl ?_) | (show oA (.assign _); refine st_y (y_assign rfl) rfl ?_) | (show oA (.load _ _); first | refine st_y (y_loadb 1 tabs rfl rfl rfl rfl) rfl ?_ | refine st_y (y_loadb 2 tabs rfl rfl rfl rfl) rfl ?_) | (show oA (.unOp _ _ _); refine st_y (y_notd rfl) rfl ?_) | (show oA (.call _); (refine m_call (ent_of Tryz.func159 kr rfl) rfl rfl (fun w c => spec_IsIsomorphism_ok (a := a) (b := b) (ms := ms) (c.rd h0) (c.rd h1) (c.rd h2) (c.rd h3) (c.rd k0) (c.rd k1) (c.rd k2) (c.rd k3) (c.rd hm0)) ?_; rintro v H' ⟨rfl, rfl⟩)) | (show oA (.box _ _); refine m_box rfl rfl (fun b4 hb4 => ?_)) | (show oA (.buildSlice _ _ _); refine m_build0 tabs rfl rfl (fun g hg => ?_))) | (show oN; refine c_nil (x_then ?_)) | (show oC; first | refine c_seq ?_ | refine c_region ?_ | refine c_skip (x_then ?_) | refine c_block ?_ | refine c_iff rfl nN ?_))
    all_goals first | exact absurd hC aS | skip
    rename_i b3 hb3
    refine c_loopH (α := Nat × Option Addr × Nat) [2, 3] (fun s => [(8, .slice s.2.1 s.1 s.2.2), (9, .int .i64 s.1)]) (fun s => s.1 ≤ ms.length) (fun s => [.own (matsT 47 (tabM (ivmM a.p ms) s.1)) (.slice s.2.1 s.1 s.2.2), .blk b3 #[iV a.p, iV a.q.1, u0, u1, u2, u3] 60]) (fun s => ms.length - s.1) (0, some ⟨g, 0, none⟩, 0) rfl sB ?_ ?_ ?_
    · exact Nat.zero_le _
    · exact fun w' c' => c'.sub sL
    · rintro ⟨i, al, cl⟩ hi
      simp only at hi ⊢
      by_cases hin : i < ms.length
      · obtain ⟨n, m, hmi, hmd, hn, ⟨m1, m2, m3, m4⟩, hrk, hz⟩ := iso_at hC hin
        obtain ⟨a1, c1, f5, f6, f7, f8⟩ := hgm i m hmi
        rw [m1] at f5; rw [m2] at f6; rw [m3] at f7 f8; rw [mk_length] at f7 f8
        have eM : ivM a.p n n (matF m) = ((n : Int), (n : Int), mk n n (invF a.p n (matF m))) := by rw [ivM, if_pos ⟨rfl, hrk⟩]
        repeat' (first | (show oL; first | (show oA (.move _); refine st_y (y_move rfl) rfl ?_) | (show oA (.binOp _ _ _ _ _); refine st_y (y_lss rfl rfl) rfl ?_) | (show oA (.call _); refine st_y (y_len tabs rfl rfl) rfl ?_)) | (show oN; refine c_nil (x_then ?_)) | (show oC; first | refine c_seq ?_ | refine c_region ?_ | refine c_skip (x_then ?_) | refine c_block ?_ | refine c_ift rfl aO ?_))
        refine c_all (Hp [] w [.blk b3 #[iV a.p, iV a.q.1, u0, u1, u2, u3] 60]) kr (fun _ c => Hp.drew c) ?_
        refine fl_begin 10 rfl tabs rfl rfl ?_
        refine fl_take 0 rfl kr kr kr kr kr kr (by exact y_field tabs rfl rfl rfl) rfl (fun w c => by exact c.drop) ?_
        refine fl_take 1 rfl kr kr kr kr kr kr (by exact y_load tabs rfl rfl (hc_blk 0 rfl rfl)) rfl (fun w c => by exact c.drop) ?_
        refine fl_take 2 rfl kr kr kr kr kr kr (by exact y_move rfl) rfl (fun w c => by exact c.drop) ?_
        refine fl_take 3 rfl kr kr kr kr kr kr (by exact y_move rfl) rfl (fun w c => by exact c.drop) ?_
        refine fl_take 4 rfl kr kr kr kr kr kr (by exact y_ixa tabs rfl rfl rfl hsm om om) rfl (fun w c => by exact c.drop) ?_
        refine fl_take 5 rfl kr kr kr kr kr kr (by exact y_load3 tabs rfl rfl (hc_w0 f5) (hc_w0 f6) (hc_w0 f7)) rfl (fun w c => by exact c.drop) ?_
        (refine fl_call 6 rfl rfl kr tabs rfl rfl rfl kr kr kr (ent_of Tryz.func160 kr rfl) rfl rfl (fun w c => by have h := l4Inverse_ok (c.rd f8) hF om om m4; rw [eM] at h; exact h) (fun w c => by first | exact c | exact c.drop | exact c.drop.drop | exact Hp.sub (List.sublist_append_right _ _) c | exact c.sub sL) ?_; rintro v H' ⟨a7, c7, rfl, hs7, rfl⟩)
        refine fl_take 7 rfl kr kr kr kr kr kr (by exact y_move rfl) rfl (fun w c => by exact c.drop.drop) ?_
        refine fl_take 8 rfl kr kr kr kr kr kr (by exact y_ext rfl rfl) rfl (fun w c => by exact c.drop.drop) ?_
        refine fl_take 9 rfl kr kr kr kr kr kr (by exact y_ext rfl rfl) rfl (fun w c => by exact c.drop.drop) ?_
        refine fl_end rfl tabs rfl rfl rfl kr (fun w c => by exact c.drop.drop) (fun bf hbf => ?_)
        refine h_only 11 rfl kr ?_
        (refine m_storeb 0 tabs rfl rfl rfl rfl rfl rfl rfl ?_)
        refine c_nil (x_one (h_keep (fun w c => by exact c.sub sL) ?_))
        refine h_take 12 rfl kr kr kr (by exact y_assign rfl) rfl (fun w c => by exact c.sub sL) ?_
        refine h_end kr ?_
        repeat' (first | (show oL; first | (show oA (.move _); refine st_y (y_move rfl) rfl ?_) | (show oA (.assign _); refine st_y (y_assign rfl) rfl ?_) | (show oA (.load _ _); refine st_y (y_loadb 0 tabs rfl rfl rfl rfl) rfl ?_) | (show oA (.binOp _ _ _ _ _); refine st_y (y_add rfl rfl om) rfl ?_) | (show oA (.call _); refine m_push1 [iV n, iV n] 1 1 tabs (m' := i) rfl rfl rfl rfl rfl rfl rfl (by rw [flatMap_length matT_length, tabM_length]) (by rw [flatMap_length matT_length, tabM_length]; omega) (by decide) rfl rfl (fun a10 c10 => ?_)) | (show oA (.buildSlice _ _ _); refine m_build1 tabs (us := [iV n, iV n, .slice a7 (mk n n (invF a.p n (matF m))).length c7]) rfl rfl rfl rfl (by decide) rfl (fun g5 hg5 => ?_))) | (show oN; first | refine c_nil (x_then ?_) | refine c_nil ?_) | (show oC; refine c_region ?_) | (show AT _ _ _ _; first | refine x_then ?_ | refine x_blk ?_))
        refine x_nx (i + 1, a10, c10) sB (by simp only; omega) (fun w' c' => ?_) (by simp only; omega)
        rw [tabM_next hz] at c'
        exact c'.sub sL
      · have : i = ms.length := by omega
        subst this
        refine AT.fact (mats_sl 0 rfl) (fun hsl => ?_)
        rw [tabM_length] at hsl
        repeat' (first | (show oL; first | (show oA (.move _); refine st_y (y_move rfl) rfl ?_) | (show oA (.assign _); refine st_y (y_assign rfl) rfl ?_) | (show oA (.binOp _ _ _ _ _); refine st_y (y_lss rfl rfl) rfl ?_) | (show oA (.call _); refine st_y (y_len tabs rfl rfl) rfl ?_)) | (show oN; refine c_nil (x_then ?_)) | (show oC; first | refine c_seq ?_ | refine c_region ?_ | refine c_ret ?_ | refine c_exit ?_ | refine c_iff rfl nN ?_) | (show AT _ _ _ _; first | refine x_then ?_ | refine x_then_exit ?_ | refine x_blk_exit rfl ?_))
        exact x_ret2 Tryz.results44 (res_tmp rfl) (res_tmp rfl) (fun w' c' => ⟨_, _, rfl, ⟨al, cl, by rw [tabM_length], by rw [tabM_length]; exact hsl, by rw [tabM_length]⟩, c'.sub (.cons_cons _ (List.nil_sublist _))⟩)
  · rw [ivmL, if_neg hC, decide_eq_false hC]
    refine fn_enter Tryz.func44 rfl Tryz.ntmps44 rfl ?_
    repeat' (first | (show oL; first | (show oA (.move _); refine st_y (y_move rfl) rfl ?_) | (show oA (.assign _); refine st_y (y_assign rfl) rfl ?_) | (show oA (.load _ _); first | refine st_y (y_loadb 1 tabs rfl rfl rfl rfl) rfl ?_ | refine st_y (y_loadb 2 tabs rfl rfl rfl rfl) rfl ?_) | (show oA (.unOp _ _ _); refine st_y (y_notd rfl) rfl ?_) | (show oA (.call _); (refine m_call (ent_of Tryz.func159 kr rfl) rfl rfl (fun w c => spec_IsIsomorphism_ok (a := a) (b := b) (ms := ms) (c.rd h0) (c.rd h1) (c.rd h2) (c.rd h3) (c.rd k0) (c.rd k1) (c.rd k2) (c.rd k3) (c.rd hm0)) ?_; rintro v H' ⟨rfl, rfl⟩)) | (show oA (.box _ _); refine m_box rfl rfl (fun b4 hb4 => ?_)) | (show oA (.buildSlice _ _ _); refine m_build0 tabs rfl rfl (fun g hg => ?_))) | (show oN; refine c_nil (x_then ?_)) | (show oC; first | refine c_seq ?_ | refine c_region ?_ | refine c_ret ?_ | refine c_ift rfl aO ?_) | (show AT _ _ _ _; refine x_then_ret ?_))
    all_goals first | exact absurd aS hC | skip
    exact x_ret2 Tryz.results44 (res_tmp rfl) (res_tmp rfl) (fun w' c' => ⟨_, _, rfl, ⟨_, 0, rfl, .inl rfl, rfl⟩, c'.sub (.cons_cons _ (List.nil_sublist _))⟩)
end Go.Proofs.YtijjkfbkihgfgaaGreat
