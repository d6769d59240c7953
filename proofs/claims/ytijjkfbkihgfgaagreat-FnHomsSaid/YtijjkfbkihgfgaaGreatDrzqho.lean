import Derived.Test.YtijjkfbkihgfgaaGreatCgsqho
import Derived.Test.YtijjkfbkihgfgaaGreatDruqho
import Derived.Test.YtijjkfbkihgfgaaGreatDsaqho
import Derived.Test.YtijjkfbkihgfgaaGreatHfaqho
import Derived.Test.YtijjkfbkihgfgaaGreatLEqho
namespace Go.Proofs.YtijjkfbkihgfgaaGreat
open Go.Lg Go.Proofs Go.RowKit
attribute [local irreducible] Code.wp wpList bodyPost Exit.then Exit.inBlock Hp Again Calls Y AT ResV QT Qn QI wpAny wpAnyQ
set_option maxRecDepth 20000
set_option maxHeartbeats 4000000

theorem mkv_next {n : Nat} {g : Nat → Int} : mkv (n + 1) g = mkv n g ++ [g n] := by simp [mkv, List.range_succ]
def dsM (a b : Rp) (i : Nat) : Mat := (((a.m.getD i mat0).1.toNat + (b.m.getD i mat0).1.toNat : Nat), ((a.m.getD i mat0).2.1.toNat + (b.m.getD i mat0).2.1.toNat : Nat), mk ((a.m.getD i mat0).1.toNat + (b.m.getD i mat0).1.toNat) ((a.m.getD i mat0).2.1.toNat + (b.m.getD i mat0).2.1.toNat) (blkF (a.m.getD i mat0).1.toNat (a.m.getD i mat0).2.1.toNat (matF (a.m.getD i mat0)) (fun _ _ => 0) (matF (b.m.getD i mat0))))
def dsD (a b : Rp) (k : Nat) : Int := a.d.getD k 0 + b.d.getD k 0
def dsR (a b : Rp) : Rp := ⟨a.p, a.q, mkv a.d.length (dsD a b), tabM (dsM a b) a.m.length⟩
theorem dsM_at {a b : Rp} (h : FitP a b) {i : Nat} (hi : i < a.m.length) : ∃ (R C S D : Nat) (A B : Mat), a.m[i]? = some A ∧ b.m[i]? = some B ∧ R ≤ 8 ∧ C ≤ 8 ∧ S ≤ 8 ∧ D ≤ 8 ∧ A.1 = R ∧ A.2.1 = C ∧ A.2.2 = mk R C (matF A) ∧ B.1 = S ∧ B.2.1 = D ∧ B.2.2 = mk S D (matF B) ∧
    dsM a b i = (((R + S : Nat) : Int), ((C + D : Nat) : Int), mk (R + S) (C + D) (blkF R C (matF A) (fun _ _ => 0) (matF B))) := by
  obtain ⟨hA, hB, hp, hq⟩ := h
  have hi' : i < b.m.length := by rw [hB.2.2.1, ← hq, ← hA.2.2.1]; exact hi
  obtain ⟨A, hAi⟩ : ∃ m, a.m[i]? = some m := ⟨_, List.getElem?_eq_getElem hi⟩
  obtain ⟨B, hBi⟩ : ∃ m, b.m[i]? = some m := ⟨_, List.getElem?_eq_getElem hi'⟩
  have gA : a.m.getD i mat0 = A := by rw [List.getD, hAi]; rfl
  have gB : b.m.getD i mat0 = B := by rw [List.getD, hBi]; rfl
  have a1 := (hA.2.2.2 i hi).1
  have b1 := (hB.2.2.2 i hi').1
  rw [gA] at a1
  rw [gB] at b1
  obtain ⟨R, C, e1, e2, hR, hC, e3, _⟩ := matP_cells a1
  obtain ⟨S, D, f1, f2, hS, hD, f3, _⟩ := matP_cells b1
  refine ⟨R, C, S, D, A, B, hAi, hBi, hR, hC, hS, hD, e1, e2, e3, f1, f2, f3, ?_⟩
  simp only [dsM, gA, gB, e1, e2, f1, f2, Int.toNat_natCast]
def DsP (a b : Rp) : Prop := FitP a b ∧ RepP (dsR a b)
instance (a b : Rp) : Decidable (DsP a b) := by unfold DsP; infer_instance
def dsL (a b : Rp) : Rp := if DsP a b then dsR a b else repZ
end Go.Proofs.YtijjkfbkihgfgaaGreat

namespace Go.Proofs.YtijjkfbkihgfgaaGreat
open Go.Lg Go.Proofs Go.RowKit
attribute [local irreducible] Code.wp wpList bodyPost Exit.then Exit.inBlock Hp Again Calls Y AT ResV QT Qn QI wpAny wpAnyQ
set_option maxRecDepth 20000
set_option maxHeartbeats 4000000

theorem spec_DirectSum_ok {w : World} {a b : Rp} {e e' : Nat} {u0 u1 u2 u3 v0 v1 v2 v3 : Value} (h0 : Rd w (iT a.q.2.1) u0) (h1 : Rd w (iT a.q.2.2) u1) (h2 : Rd w (iT a.d) u2) (h3 : Rd w (matsT e a.m) u3) (k0 : Rd w (iT b.q.2.1) v0) (k1 : Rd w (iT b.q.2.2) v1) (k2 : Rd w (iT b.d) v2) (k3 : Rd w (matsT e' b.m) v3) :
    Does Tryz.prog 66 [.agg #[iV a.p, iV a.q.1, u0, u1, u2, u3], .agg #[iV b.p, iV b.q.1, v0, v1, v2, v3]] w (GivesRB (dsL a b) (decide (DsP a b))) := by
  by_cases hF : FitP a b
  · have hRa := hF.1
    have hRb := hF.2.1
    have hdl := hF.dl
    have h5 := (RepP.dd hRa).2
    have hml : b.m.length = a.m.length := by rw [hRb.2.2.1, ← hF.2.2.2, ← hRa.2.2.1]
    have hQ := hRa.2.1.1
    have q1 := hQ.2.1
    have q2 := hQ.2.2.1
    have hm6 : a.m.length ≤ 6 := by have := hRa.2.2.1; omega
    have h00 := h0
    have h10 := h1
    have h20 := h2
    have h30 := h3
    have k20 := k2
    have k30 := k3
    obtain ⟨a0, c0, rfl, _⟩ := h0.ints
    obtain ⟨a1, c1, rfl, _⟩ := h1.ints
    obtain ⟨a2, c2, rfl, hs2, _, _, hg2⟩ := h2.ints
    obtain ⟨a3, c3, rfl, hs3, _, _, hg3⟩ := rd_mats h3
    obtain ⟨d2, f2, rfl, hk2, _, _, hh2⟩ := k2.ints
    obtain ⟨d3, f3, rfl, hk3, _, _, hh3⟩ := rd_mats k3
    refine fn_enter Tryz.func66 rfl Tryz.ntmps66 rfl ?_
    repeat' (first | (show oL; first | refine sAs rfl rfl ?_ | (show oA (.load _ _); first | refine sLb 1 tabs rfl rfl rfl rfl rfl ?_ | refine sLb 2 tabs rfl rfl rfl rfl rfl ?_) | (show oA (.unOp _ _ _); refine st_y (y_notd rfl) rfl ?_) | (show oA (.call _); (refine m_call (ent_of Tryz.func165 kr rfl) rfl rfl (fun w c => l9Fit_ok (a := a) (b := b) (c.rd h00) (c.rd h10) (c.rd h20) (c.rd h30) (c.rd k0) (c.rd k1) (c.rd k20) (c.rd k30)) ?_; rintro v H' ⟨rfl, rfl⟩)) | (show oA (.box _ _); refine m_box rfl rfl (fun b3 hb3 => ?_)) | (show oA (.alloc _); refine m_alloc tabs rfl rfl (fun b4 hb4 => ?_))) | refine xNt ?_ | (show oC; first | refine c_seq ?_ | refine c_region ?_ | refine c_skip (x_then ?_) | refine c_iff rfl nN ?_))
    all_goals first | exact absurd hF aS | skip
    rename_i b2 hb2
    refine c_all (Hp [] w [.blk b3 #[iV b.p, iV b.q.1, v0, v1, .slice d2 b.d.length f2, .slice d3 b.m.length f3] 60, .blk b2 #[iV a.p, iV a.q.1, .slice a0 a.q.2.1.length c0, .slice a1 a.q.2.2.length c1, .slice a2 a.d.length c2, .slice a3 a.m.length c3] 60]) kr (fun _ c => Hp.drew c) ?_
    refine fl_begin 8 rfl tabs rfl rfl ?_
    refine fl_take 0 rfl kr kr kr kr kr kr (by exact y_field tabs rfl rfl rfl) rfl (fun w c => by exact c.drop) ?_
    refine fl_take 1 rfl kr kr kr kr kr kr (by exact y_load tabs rfl rfl (hc_blk 1 rfl rfl)) rfl (fun w c => by exact c.drop) ?_
    refine fl_take 2 rfl kr kr kr kr kr kr (by exact y_field tabs rfl rfl rfl) rfl (fun w c => by exact c.drop) ?_
    refine fl_take 3 rfl kr kr kr kr kr kr (by exact y_load3 tabs rfl rfl (hc_blk 1 rfl rfl) (hc_blk 1 rfl rfl) (hc_blk 1 rfl rfl)) rfl (fun w c => by exact c.drop) ?_
    refine fl_many 3 [⟨4, _, _, _⟩, ⟨5, _, _, _⟩, ⟨6, _, _, _⟩] [4, 5, 6] [18, 19, 20] rfl tabs rfl rfl rfl rfl rfl rfl (by decide) rfl kr ⟨⟨⟨rfl, rfl, stf_call (ent_of Tryz.func177 kr rfl) rfl rfl (fun w c => l6Copy_ok (q := a.q) (c.rd h00) (c.rd h10) (by simp only [szQ]; omega))⟩, rfl, rfl⟩, ⟨⟨rfl, rfl, stf_b0 tabs rfl rfl⟩, rfl, rfl⟩, ⟨⟨rfl, rfl, stf_b0 tabs rfl rfl⟩, rfl, rfl⟩, trivial⟩ (fun w c => c.sub sL) ?_
    rintro _ _ ⟨aF, cF, aT, cT, rfl, hsF, hsT, rfl⟩ _ _ ⟨gd, hgd, rfl, rfl⟩ _ _ ⟨gm, hgm, rfl, rfl⟩
    refine seqF_nil ?_
    refine fl_take 7 rfl kr kr kr kr kr kr (by exact y_bld4 (bld_rp4 _ _ _ _ _ _ _ _ _ _ _ _ _ _) rfl rfl rfl rfl) rfl sS ?_
    refine fl_end rfl tabs rfl rfl rfl kr sS (fun bf hbf => ?_)
    refine h_only 9 rfl kr ?_
    (refine m_storeb 0 tabs rfl rfl rfl rfl rfl rfl rfl ?_)
    refine c_nil (x_one (h_keep sS ?_))
    refine h_end kr ?_
    repeat' (first | (show oL; first | refine sAs rfl rfl ?_) | refine xNt ?_ | (show oC; first | refine c_seq ?_ | refine c_region ?_ | refine c_block ?_) | (show AT _ _ _ _; refine x_then ?_))
    refine c_loopH (α := Nat × Option Addr × Nat) [2, 3, 4, 6] (fun s => [(7, .int .i64 s.1)]) (fun s => s.1 ≤ a.d.length) (fun s => [.own (iT (mkv s.1 (dsD a b))) (.slice s.2.1 s.1 s.2.2), .blk bf #[iV a.p, iV a.q.1, .slice aF a.q.2.1.length cF, .slice aT a.q.2.2.length cT, .slice s.2.1 s.1 s.2.2, .slice (some ⟨gm, 0, none⟩) 0 0] 60, .own (matsT 47 []) (.slice (some ⟨gm, 0, none⟩) 0 0), .own (iT a.q.2.2) (.slice aT a.q.2.2.length cT), .own (iT a.q.2.1) (.slice aF a.q.2.1.length cF), .blk b4 #[iV 0, iV 0, .slice none 0 0, .slice none 0 0, .slice none 0 0, .slice none 0 0] 60, .blk b3 #[iV b.p, iV b.q.1, v0, v1, .slice d2 b.d.length f2, .slice d3 b.m.length f3] 60, .blk b2 #[iV a.p, iV a.q.1, .slice a0 a.q.2.1.length c0, .slice a1 a.q.2.2.length c1, .slice a2 a.d.length c2, .slice a3 a.m.length c3] 60]) (fun s => a.d.length - s.1) (0, some ⟨gd, 0, none⟩, 0) rfl sB ?_ ?_ ?_
    · exact Nat.zero_le _
    · exact fun w' c' => c'.front (i := 2) rfl
    · rintro ⟨i, al, cl⟩ hi
      simp only at hi ⊢
      by_cases hin : i < a.d.length
      · have hib : i < b.d.length := by omega
        have d1 := hRa.dg i
        have d2' := hRb.dg i
        repeat' (first | (show oL; first | refine sMv rfl rfl ?_ | refine sFd tabs rfl rfl rfl rfl ?_ | refine sLd 7 tabs rfl rfl rfl rfl rfl ?_ | refine sLs rfl rfl rfl ?_ | refine sLn tabs rfl rfl rfl ?_) | refine xNt ?_ | (show oC; first | refine c_seq ?_ | refine c_region ?_ | refine c_skip (x_then ?_) | refine c_block ?_ | refine c_ift rfl aO ?_))
        refine c_mixR (Hp [] w [.blk bf #[iV a.p, iV a.q.1, .slice aF a.q.2.1.length cF, .slice aT a.q.2.2.length cT, .slice al i cl, .slice (some ⟨gm, 0, none⟩) 0 0] 60, .blk b3 #[iV b.p, iV b.q.1, v0, v1, .slice d2 b.d.length f2, .slice d3 b.m.length f3] 60, .blk b2 #[iV a.p, iV a.q.1, .slice a0 a.q.2.1.length c0, .slice a1 a.q.2.2.length c1, .slice a2 a.d.length c2, .slice a3 a.m.length c3] 60]) 15 kr kr kr kr kr (fun _ c => Hp.drew c) ?_
        refine h_take 0 rfl kr kr kr (by exact y_field tabs rfl rfl rfl) rfl sS ?_
        refine h_take 1 rfl kr kr kr (by exact y_load tabs rfl rfl (hc_blk 0 rfl rfl)) rfl sS ?_
        refine h_take 2 rfl kr kr kr (by exact y_field tabs rfl rfl rfl) rfl sS ?_
        refine h_take 3 rfl kr kr kr (by exact y_load tabs rfl rfl (hc_blk 2 rfl rfl)) rfl sS ?_
        refine h_take 4 rfl kr kr kr (by exact y_move rfl) rfl sS ?_
        refine h_take 5 rfl kr kr kr (by exact y_ix1 tabs (j := i) rfl rfl rfl hs2 rfl hin) rfl sS ?_
        refine h_take 6 rfl kr kr kr (by exact y_load tabs rfl rfl (hc_w0 (hg2 i hin))) rfl sS ?_
        refine h_take 7 rfl kr kr kr (by exact y_field tabs rfl rfl rfl) rfl sS ?_
        refine h_take 8 rfl kr kr kr (by exact y_load tabs rfl rfl (hc_blk 1 rfl rfl)) rfl sS ?_
        refine h_take 9 rfl kr kr kr (by exact y_move rfl) rfl sS ?_
        refine h_take 10 rfl kr kr kr (by exact y_ix1 tabs (j := i) rfl rfl rfl hk2 rfl hib) rfl sS ?_
        refine h_take 11 rfl kr kr kr (by exact y_load tabs rfl rfl (hc_w0 (hh2 i hib))) rfl sS ?_
        refine h_take 12 rfl kr kr kr (by exact y_add rfl rfl om) rfl sS ?_
        refine h_only 13 rfl kr ?_
        first | (refine m_build1 tabs (us := [iV (a.d.getD i 0 + b.d.getD i 0)]) rfl rfl rfl rfl (by decide) rfl (fun g5 hg5 => ?_)) | (refine m_pushn 0 tabs (k := a.d.getD i 0 + b.d.getD i 0) (m := i) rfl rfl rfl rfl rfl (by rw [mkv_length]) om (fun a6 c6 => ?_))
        refine c_nil (x_one (h_keep sS ?_))
        refine h_only 14 rfl kr ?_
        first | (refine m_build1 tabs (us := [iV (a.d.getD i 0 + b.d.getD i 0)]) rfl rfl rfl rfl (by decide) rfl (fun g5 hg5 => ?_)) | (refine m_pushn 0 tabs (k := a.d.getD i 0 + b.d.getD i 0) (m := i) rfl rfl rfl rfl rfl (by rw [mkv_length]) om (fun a6 c6 => ?_))
        refine c_nil (x_one (h_keep sS ?_))
        refine h_end kr ?_
        repeat' (first | (show oL; first | refine sMv rfl rfl ?_ | refine sAs rfl rfl ?_ | refine sFd tabs rfl rfl rfl rfl ?_ | refine sAd rfl rfl om rfl ?_ | (show oA (.store _ _ _); refine m_storef 1 tabs rfl rfl rfl rfl rfl rfl ?_)) | (show oN; first | refine c_nil (x_then ?_) | refine c_nil ?_) | (show oC; refine c_region ?_) | (show AT _ _ _ _; first | refine x_then ?_ | refine x_blk ?_))
        refine x_nx (i + 1, a6, c6) sB (by simp only; omega) (fun w' c' => ?_) (by simp only; omega)
        simp only [mkv_next]
        exact c'
      · have hie : i = a.d.length := by omega
        subst hie
        refine AT.fact (own_sl 0 rfl) (fun hsl => ?_)
        obtain ⟨a6, c6, e6, hsd⟩ := hsl
        rw [mkv_length] at e6 hsd
        cases e6
        repeat' (first | (show oL; first | refine sMv rfl rfl ?_ | refine sAs rfl rfl ?_ | refine sFd tabs rfl rfl rfl rfl ?_ | refine sLd 7 tabs rfl rfl rfl rfl rfl ?_ | refine sLs rfl rfl rfl ?_ | refine sLn tabs rfl rfl rfl ?_) | refine xNt ?_ | (show oC; first | refine c_seq ?_ | refine c_region ?_ | refine c_block ?_ | refine c_exit ?_ | refine c_iff rfl nN ?_) | (show AT _ _ _ _; first | refine x_then ?_ | refine x_then_exit ?_ | refine x_blk_exit rfl ?_))
        refine c_loopH (α := Nat × Option Addr × Nat) [2, 3, 4, 6] (fun s => [(8, .int .i64 s.1)]) (fun s => s.1 ≤ a.m.length) (fun s => [.own (matsT 47 (tabM (dsM a b) s.1)) (.slice s.2.1 s.1 s.2.2), .own (iT (mkv a.d.length (dsD a b))) (.slice al a.d.length cl), .blk bf #[iV a.p, iV a.q.1, .slice aF a.q.2.1.length cF, .slice aT a.q.2.2.length cT, .slice al a.d.length cl, .slice s.2.1 s.1 s.2.2] 60, .own (iT a.q.2.2) (.slice aT a.q.2.2.length cT), .own (iT a.q.2.1) (.slice aF a.q.2.1.length cF), .blk b4 #[iV 0, iV 0, .slice none 0 0, .slice none 0 0, .slice none 0 0, .slice none 0 0] 60, .blk b3 #[iV b.p, iV b.q.1, v0, v1, .slice d2 b.d.length f2, .slice d3 b.m.length f3] 60, .blk b2 #[iV a.p, iV a.q.1, .slice a0 a.q.2.1.length c0, .slice a1 a.q.2.2.length c1, .slice a2 a.d.length c2, .slice a3 a.m.length c3] 60]) (fun s => a.m.length - s.1) (0, some ⟨gm, 0, none⟩, 0) rfl sB ?_ ?_ ?_
        · exact Nat.zero_le _
        · exact fun w' c' => c'.front (i := 2) rfl
        · rintro ⟨i, am, cm⟩ hi
          simp only at hi ⊢
          by_cases hin : i < a.m.length
          · obtain ⟨R, C, S, D, A, B, hA1, hB1, hR, hC, hS, hD, A1, A2, A3, B1, B2, B3, hz⟩ := dsM_at hF hin
            obtain ⟨aA, cA, A5, A6, A7, A8⟩ := hg3 i A hA1
            obtain ⟨aB, cB, B5, B6, B7, B8⟩ := hh3 i B hB1
            rw [A1] at A5; rw [A2] at A6; rw [A3] at A7 A8; rw [mk_length] at A7 A8
            rw [B1] at B5; rw [B2] at B6; rw [B3] at B7 B8; rw [mk_length] at B7 B8
            have hbm : i < b.m.length := by omega
            repeat' (first | (show oL; first | refine sMv rfl rfl ?_ | refine sFd tabs rfl rfl rfl rfl ?_ | refine sLd 7 tabs rfl rfl rfl rfl rfl ?_ | refine sLs rfl rfl rfl ?_ | refine sLn tabs rfl rfl rfl ?_) | refine xNt ?_ | (show oC; first | refine c_seq ?_ | refine c_region ?_ | refine c_skip (x_then ?_) | refine c_block ?_ | refine c_ift rfl aO ?_))
            refine c_mixR (Hp [] w [.blk bf #[iV a.p, iV a.q.1, .slice aF a.q.2.1.length cF, .slice aT a.q.2.2.length cT, .slice al a.d.length cl, .slice am i cm] 60, .blk b3 #[iV b.p, iV b.q.1, v0, v1, .slice d2 b.d.length f2, .slice d3 b.m.length f3] 60, .blk b2 #[iV a.p, iV a.q.1, .slice a0 a.q.2.1.length c0, .slice a1 a.q.2.2.length c1, .slice a2 a.d.length c2, .slice a3 a.m.length c3] 60]) 15 kr kr kr kr kr (fun _ c => Hp.drew c) ?_
            refine h_take 0 rfl kr kr kr (by exact y_field tabs rfl rfl rfl) rfl sS ?_
            refine h_take 1 rfl kr kr kr (by exact y_load tabs rfl rfl (hc_blk 0 rfl rfl)) rfl sS ?_
            refine h_take 2 rfl kr kr kr (by exact y_field tabs rfl rfl rfl) rfl sS ?_
            refine h_take 3 rfl kr kr kr (by exact y_load tabs rfl rfl (hc_blk 2 rfl rfl)) rfl sS ?_
            refine h_take 4 rfl kr kr kr (by exact y_move rfl) rfl sS ?_
            refine h_take 5 rfl kr kr kr (by exact y_ixa tabs rfl rfl rfl hs3 om om) rfl sS ?_
            refine h_take 6 rfl kr kr kr (by exact y_load3 tabs rfl rfl (hc_w0 A5) (hc_w0 A6) (hc_w0 A7)) rfl sS ?_
            refine h_take 7 rfl kr kr kr (by exact y_field tabs rfl rfl rfl) rfl sS ?_
            refine h_take 8 rfl kr kr kr (by exact y_load tabs rfl rfl (hc_blk 1 rfl rfl)) rfl sS ?_
            refine h_take 9 rfl kr kr kr (by exact y_move rfl) rfl sS ?_
            refine h_take 10 rfl kr kr kr (by exact y_ixa tabs rfl rfl rfl hk3 om om) rfl sS ?_
            refine h_take 11 rfl kr kr kr (by exact y_load3 tabs rfl rfl (hc_w0 B5) (hc_w0 B6) (hc_w0 B7)) rfl sS ?_
            refine h_only 12 rfl kr ?_
            first | (refine m_build1 tabs (us := [iV ((R + S : Nat) : Int), iV ((C + D : Nat) : Int), .slice ab1 ((R + S) * (C + D)) cb1]) rfl rfl rfl rfl (by decide) rfl (fun g5 hg5 => ?_)) | (refine m_call (ent_of Tryz.func178 kr rfl) rfl rfl (fun w c => l3Block_ok (c.rd A8) (c.rd B8) hR hS hC hD) ?_; rintro v H' ⟨ab1, cb1, rfl, hsb1, rfl⟩) | (refine m_push1 [iV ((R + S : Nat) : Int), iV ((C + D : Nat) : Int)] 0 0 tabs (m' := i) rfl rfl rfl rfl rfl rfl rfl (by rw [flatMap_length matT_length, tabM_length]) (by rw [flatMap_length matT_length, tabM_length]; omega) (by decide) rfl rfl (fun a10 c10 => ?_))
            refine c_nil (x_one (h_keep sS ?_))
            refine h_only 13 rfl kr ?_
            first | (refine m_build1 tabs (us := [iV ((R + S : Nat) : Int), iV ((C + D : Nat) : Int), .slice ab1 ((R + S) * (C + D)) cb1]) rfl rfl rfl rfl (by decide) rfl (fun g5 hg5 => ?_)) | (refine m_call (ent_of Tryz.func178 kr rfl) rfl rfl (fun w c => l3Block_ok (c.rd A8) (c.rd B8) hR hS hC hD) ?_; rintro v H' ⟨ab1, cb1, rfl, hsb1, rfl⟩) | (refine m_push1 [iV ((R + S : Nat) : Int), iV ((C + D : Nat) : Int)] 0 0 tabs (m' := i) rfl rfl rfl rfl rfl rfl rfl (by rw [flatMap_length matT_length, tabM_length]) (by rw [flatMap_length matT_length, tabM_length]; omega) (by decide) rfl rfl (fun a10 c10 => ?_))
            refine c_nil (x_one (h_keep sS ?_))
            refine h_only 14 rfl kr ?_
            first | (refine m_build1 tabs (us := [iV ((R + S : Nat) : Int), iV ((C + D : Nat) : Int), .slice ab1 ((R + S) * (C + D)) cb1]) rfl rfl rfl rfl (by decide) rfl (fun g5 hg5 => ?_)) | (refine m_call (ent_of Tryz.func178 kr rfl) rfl rfl (fun w c => l3Block_ok (c.rd A8) (c.rd B8) hR hS hC hD) ?_; rintro v H' ⟨ab1, cb1, rfl, hsb1, rfl⟩) | (refine m_push1 [iV ((R + S : Nat) : Int), iV ((C + D : Nat) : Int)] 0 0 tabs (m' := i) rfl rfl rfl rfl rfl rfl rfl (by rw [flatMap_length matT_length, tabM_length]) (by rw [flatMap_length matT_length, tabM_length]; omega) (by decide) rfl rfl (fun a10 c10 => ?_))
            refine c_nil (x_one (h_keep sS ?_))
            refine h_end kr ?_
            repeat' (first | (show oL; first | refine sMv rfl rfl ?_ | refine sAs rfl rfl ?_ | refine sFd tabs rfl rfl rfl rfl ?_ | refine sAd rfl rfl om rfl ?_ | (show oA (.store _ _ _); refine m_storef 2 tabs rfl rfl rfl rfl rfl rfl ?_)) | (show oN; first | refine c_nil (x_then ?_) | refine c_nil ?_) | (show oC; refine c_region ?_) | (show AT _ _ _ _; first | refine x_then ?_ | refine x_blk ?_))
            refine x_nx (i + 1, a10, c10) sB (by simp only; omega) (fun w' c' => ?_) (by simp only; omega)
            rw [tabM_next hz] at c'
            exact c'
          · have hie : i = a.m.length := by omega
            subst hie
            refine AT.fact (mats_sl 0 rfl) (fun hsl => ?_)
            rw [tabM_length] at hsl
            repeat' (first | (show oL; first | refine sMv rfl rfl ?_ | refine sAs rfl rfl ?_ | refine sFd tabs rfl rfl rfl rfl ?_ | (show oA (.load _ _); first | refine sLd 7 tabs rfl rfl rfl rfl rfl ?_ | refine sLb 2 tabs rfl rfl rfl rfl rfl ?_) | refine sLs rfl rfl rfl ?_ | (show oA (.unOp _ _ _); refine st_y (y_notd rfl) rfl ?_) | (show oA (.call _); first | (refine m_call (ent_of Tryz.func148 kr rfl) rfl rfl (fun w c => spec_IsRep_ok (r := dsR a b) (c.own_rd (i := 4) rfl) (c.own_rd (i := 3) rfl) (c.own_rd (i := 1) rfl) (c.own_rd (i := 0) rfl)) ?_; rintro v H' ⟨rfl, rfl⟩) | refine sLn tabs rfl rfl rfl ?_) | (show oA (.store _ _ _); refine m_storeb 5 tabs rfl rfl rfl rfl rfl rfl rfl ?_) | (show oA (.build _ _); refine st_y (y_bld0 bld_rp0) rfl ?_)) | refine xNt ?_ | (show oC; first | refine c_seq ?_ | refine c_region ?_ | refine c_skip (x_then ?_) | refine c_ret ?_ | refine c_exit ?_ | refine c_iff rfl nN ?_ | refine c_ifnd rfl (fun h => ?_) (fun h => ?_)) | (show AT _ _ _ _; first | refine x_then ?_ | refine x_then_ret ?_ | refine x_then_exit ?_ | refine x_blk_exit rfl ?_))
            · have hno : ¬ DsP a b := fun h => absurd h.2 aS
              rw [dsL, if_neg hno, decide_eq_false hno]
              exact x_ret2 Tryz.results66 (res_cellb 5 tabs rfl rfl rfl rfl) (res_tmp rfl) (fun w' c' => ⟨_, _, rfl, ⟨none, 0, none, 0, none, 0, none, 0, rfl, .inl rfl, .inl rfl, .inl rfl, .inl rfl, rfl⟩, Hp.nilp _ _ (Hp.nilp _ _ (Hp.nilp _ _ (Hp.nilp _ _ (c'.sub (List.nil_sublist _)))))⟩)
            · have hyes : DsP a b := ⟨hF, by first | assumption | exact Decidable.not_not.1 aS⟩
              rw [dsL, if_pos hyes, decide_eq_true hyes]
              exact x_ret2 Tryz.results66 (res_cellb 5 tabs rfl rfl rfl rfl) (res_tmp rfl) (fun w' c' => ⟨_, [.own (matsT 47 (tabM (dsM a b) a.m.length)) (.slice am a.m.length cm), .own (iT (mkv a.d.length (dsD a b))) (.slice al a.d.length cl), .own (iT a.q.2.2) (.slice aT a.q.2.2.length cT), .own (iT a.q.2.1) (.slice aF a.q.2.1.length cF)], rfl, ⟨aF, cF, aT, cT, al, cl, am, cm, by simp only [dsR, mkv_length, tabM_length], hsF, hsT, by simpa only [dsR, mkv_length] using hsd, by simpa only [dsR, tabM_length] using hsl, by simp only [dsR, mkv_length, tabM_length]⟩, c'.sub sL⟩)
  · have hno : ¬ DsP a b := fun h => hF h.1
    rw [dsL, if_neg hno, decide_eq_false hno]
    refine fn_enter Tryz.func66 rfl Tryz.ntmps66 rfl ?_
    repeat' (first | (show oL; first | refine sAs rfl rfl ?_ | (show oA (.load _ _); first | refine sLb 1 tabs rfl rfl rfl rfl rfl ?_ | refine sLb 2 tabs rfl rfl rfl rfl rfl ?_) | (show oA (.unOp _ _ _); refine st_y (y_notd rfl) rfl ?_) | (show oA (.call _); (refine m_call (ent_of Tryz.func165 kr rfl) rfl rfl (fun w c => l9Fit_ok (a := a) (b := b) (c.rd h0) (c.rd h1) (c.rd h2) (c.rd h3) (c.rd k0) (c.rd k1) (c.rd k2) (c.rd k3)) ?_; rintro v H' ⟨rfl, rfl⟩)) | (show oA (.store _ _ _); refine m_storeb 0 tabs rfl rfl rfl rfl rfl rfl rfl ?_) | (show oA (.box _ _); refine m_box rfl rfl (fun b1 hb1 => ?_)) | (show oA (.alloc _); refine m_alloc tabs rfl rfl (fun b6 hb6 => ?_)) | (show oA (.build _ _); refine st_y (y_bld0 bld_rp0) rfl ?_)) | refine xNt ?_ | (show oC; first | refine c_seq ?_ | refine c_region ?_ | refine c_ret ?_ | refine c_ift rfl aO ?_) | (show AT _ _ _ _; refine x_then_ret ?_))
    all_goals first | exact absurd (by first | assumption | exact Decidable.not_not.1 aS) hF | skip
    exact x_ret2 Tryz.results66 (res_cellb 0 tabs rfl rfl rfl rfl) (res_tmp rfl) (fun w' c' => ⟨_, _, rfl, ⟨none, 0, none, 0, none, 0, none, 0, rfl, .inl rfl, .inl rfl, .inl rfl, .inl rfl, rfl⟩, Hp.nilp _ _ (Hp.nilp _ _ (Hp.nilp _ _ (Hp.nilp _ _ (c'.sub (List.nil_sublist _)))))⟩)
end Go.Proofs.YtijjkfbkihgfgaaGreat

namespace Go.Proofs.YtijjkfbkihgfgaaGreat
open Go.Lg Go.Proofs Go.RowKit
attribute [local irreducible] Code.wp wpList bodyPost Exit.then Exit.inBlock Hp Again Calls Y AT ResV QT Qn QI wpAny wpAnyQ
set_option maxRecDepth 20000
set_option maxHeartbeats 4000000

theorem cgRb_bnd {r : Rp} {g : List Mat} (h : BndR r) : BndR (cgRb r g) := by
  unfold cgRb
  split
  · exact ⟨h.f, h.t, h.d, by simp only [cgR, tabM_length]; exact h.m⟩
  · exact ⟨by simp [repZ], by simp [repZ], by simp [repZ], by simp [repZ]⟩
theorem dsL_bnd {a b : Rp} (h : BndR a) : BndR (dsL a b) := by
  unfold dsL
  split
  · exact ⟨h.f, h.t, by simp only [dsR, mkv_length]; exact h.d, by simp only [dsR, tabM_length]; exact h.m⟩
  · exact ⟨by simp [repZ], by simp [repZ], by simp [repZ], by simp [repZ]⟩
theorem mlk_next {ms : List Mat} {R C : Nat} {xs : List Int} : ms.flatMap matT ++ (List.map T.c [iV R, iV C] ++ [iT xs]) = (ms ++ [((R : Int), (C : Int), xs)]).flatMap matT := by
  rw [List.flatMap_append]; rfl
theorem hc_ownA (i : Nat) {M : List Nat} {w0 : World} {H : List HE} {e : Nat} {xs : List Int} {a : Option Addr} {m c j : Nat} {x : Int} (hi : H[i]? = some (.own (ints e xs) (.slice a m c))) (hj : j < xs.length) (hx : xs.getD j 0 = x) : ∀ w, Hp M w0 H w → w.cell? ⟨ab a, ao a + j, none⟩ = some (.int .i64 x) := by
  subst hx; exact hc_own i hi hj
def GivesTr (v : Value) (H : List HE) : Prop := ∃ (a b : Rp) (ms : List Mat) (va vb : Value) (am : Option Addr) (cm : Nat) (Ha Hb : List HE), v = .tuple #[va, vb, .slice am ms.length cm] ∧ (BndR a ∧ BndR b) ∧ GivesR a va Ha ∧ GivesR b vb Hb ∧ SA am ms.length ∧ (ms.length ≤ 7 ∧ SmC ms) ∧ H = .own (matsT 47 ms) (.slice am ms.length cm) :: (Hb ++ Ha)
theorem l10Three_ok {w1 : World} {M1 : List Nat} {H1 : List HE} {w : World} {M' : List Nat} {u : Value} {b i : Nat} {h : Int} (hl : Lent M1 w1 (cu u b i h) H1 M' w) (hc : CodeF w1 M1 u) (hi : i ≤ vlen u) :
    DoesB Tryz.prog 147 [cuV b] w M' (Gcu u b GivesTr) := by
  have hc2 := lent_code hl hc
  have tok0 : True := trivial
  have tok1 : True := trivial
  have tok2 : True := trivial
  refine fnb_lent Tryz.func147 rfl Tryz.ntmps147 rfl hl ?_
  repeat' (first | (show oL; first | refine sMv rfl rfl ?_ | refine sAs rfl rfl ?_ | (show oA (.call _); first | (refine m_callL 2 (ent_of Tryz.func170 kr rfl) rfl rfl rfl (fun w M' hl => l9Pair_ok hl hc2 hi) ?_; rintro v H' ⟨i, ch, _, hi, rfl, ra, rb, _, _, _, _, rfl, ⟨⟨qa, pa, hra⟩, hrb⟩, ⟨x0, x0', x1, x1', x2, x2', x3, x3', rfl, sx0, sx1, sx2, sx3, rfl⟩, ⟨y0, y0', y1, y1', y2, y2', y3, y3', rfl, sy0, sy1, sy2, sy3, rfl⟩, rfl⟩) | (refine m_callL 2 (ent_of Tryz.func120 kr rfl) rfl rfl rfl (fun w M' hl => l1BelowN_ok 5 (by decide) hl hc2 hi) ?_; rintro v H' ⟨i, ch, _, hi, rfl, k, rfl, hk, rfl⟩)) | (show oA (.extract _ _); refine st_y (y_ext rfl rfl) rfl ?_) | (show oA (.store _ _ _); first | refine m_storeb 0 tabs rfl rfl rfl rfl rfl rfl rfl ?_ | refine m_storeb 1 tabs rfl rfl rfl rfl rfl rfl rfl ?_) | (show oA (.alloc _); first | (have _t := tok0; refine m_alloc tabs rfl rfl (fun b2 hb2 => ?_); clear _t tok0) | (have _t := tok1; refine m_alloc tabs rfl rfl (fun b3 hb3 => ?_); clear _t tok1) | (have _t := tok2; refine m_alloc tabs rfl rfl (fun b5 hb5 => ?_); clear _t tok2) | refine m_alloc tabs rfl rfl (fun b6 hb6 => ?_))) | refine xNt ?_ | (show oC; first | refine c_cutq [(0, cuV b), (2, .pointer (some ⟨b2, 0, none⟩)), (3, .pointer (some ⟨b3, 0, none⟩)), (5, .pointer (some ⟨b5, 0, none⟩)), (6, .pointer (some ⟨b6, 0, none⟩))] (fun w' => ∃ i ch, i ≤ vlen u ∧ Hp M' w [cu u b i ch, .blk b6 #[iV rb.p, iV rb.q.1, .slice y0 rb.q.2.1.length y0', .slice y1 rb.q.2.2.length y1', .slice y2 rb.d.length y2', .slice y3 rb.m.length y3'] 60, .blk b5 #[iV ra.p, iV ra.q.1, .slice x0 ra.q.2.1.length x0', .slice x1 ra.q.2.2.length x1', .slice x2 ra.d.length x2', .slice x3 ra.m.length x3'] 60, .own (matsT 47 rb.m) (.slice y3 rb.m.length y3'), .own (iT rb.d) (.slice y2 rb.d.length y2'), .own (iT rb.q.2.2) (.slice y1 rb.q.2.2.length y1'), .own (iT rb.q.2.1) (.slice y0 rb.q.2.1.length y0'), .own (matsT 47 ra.m) (.slice x3 ra.m.length x3'), .own (iT ra.d) (.slice x2 ra.d.length x2'), .own (iT ra.q.2.2) (.slice x1 ra.q.2.2.length x1'), .own (iT ra.q.2.1) (.slice x0 ra.q.2.1.length x0'), .blk b3 #[iV 0, iV 0, .slice none 0 0, .slice none 0 0, .slice none 0 0, .slice none 0 0] 60, .blk b2 #[iV 0, iV 0, .slice none 0 0, .slice none 0 0, .slice none 0 0, .slice none 0 0] 60] w') ?_ ?_ | refine c_seq ?_ | refine c_region ?_))
  · refine stay ?_
    refine AT.cls (C' := Hp _ _ [cu u b i ch, .blk b6 #[iV rb.p, iV rb.q.1, .slice y0 rb.q.2.1.length y0', .slice y1 rb.q.2.2.length y1', .slice y2 rb.d.length y2', .slice y3 rb.m.length y3'] 60, .blk b5 #[iV ra.p, iV ra.q.1, .slice x0 ra.q.2.1.length x0', .slice x1 ra.q.2.2.length x1', .slice x2 ra.d.length x2', .slice x3 ra.m.length x3'] 60, .own (matsT 47 rb.m) (.slice y3 rb.m.length y3'), .own (iT rb.d) (.slice y2 rb.d.length y2'), .own (iT rb.q.2.2) (.slice y1 rb.q.2.2.length y1'), .own (iT rb.q.2.1) (.slice y0 rb.q.2.1.length y0'), .own (matsT 47 ra.m) (.slice x3 ra.m.length x3'), .own (iT ra.d) (.slice x2 ra.d.length x2'), .own (iT ra.q.2.2) (.slice x1 ra.q.2.2.length x1'), .own (iT ra.q.2.1) (.slice x0 ra.q.2.1.length x0'), .blk b3 #[iV 0, iV 0, .slice none 0 0, .slice none 0 0, .slice none 0 0, .slice none 0 0] 60, .blk b2 #[iV 0, iV 0, .slice none 0 0, .slice none 0 0, .slice none 0 0, .slice none 0 0] 60]) (fun w' c' => c'.sub sL) ?_
    repeat' (first | (show oL; first | refine sMv rfl rfl ?_ | refine sAs rfl rfl ?_ | (show oA (.load _ _); first | refine sLb 1 tabs rfl rfl rfl rfl rfl ?_ | refine sLb 2 tabs rfl rfl rfl rfl rfl ?_ | refine sLb 3 tabs rfl rfl rfl rfl rfl ?_) | (show oA (.binOp _ _ _ _ _); refine st_y (y_eql rfl rfl) rfl ?_) | (show oA (.call _); first | (refine m_callL 0 (ent_of Tryz.func149 kr rfl) rfl rfl rfl (fun w M' hl => l9Changes_ok (r := ra) hl hc2 hi hra.bnd.d (hl.own 7 rfl)) ?_; rintro v H' ⟨i, ch, _, hi, rfl, gs, ag, cg, rfl, hgl, hsg, hgc, rfl⟩) | (refine m_call (ent_of Tryz.func71 kr rfl) rfl rfl (fun w c => spec_ChangeBasis_ok (r := ra) (gs := gs) (c.own_rd (i := 11) rfl) (c.own_rd (i := 10) rfl) (c.own_rd (i := 9) rfl) (c.own_rd (i := 8) rfl) (c.own_rd (i := 1) rfl)) ?_; rintro v H' ⟨z0, z0', z1, z1', z2, z2', z3, z3', rfl, sz0, sz1, sz2, sz3, rfl⟩) | (refine m_call (ent_of Tryz.func66 kr rfl) rfl rfl (fun w c => spec_DirectSum_ok (a := ra) (b := rb) (c.own_rd (i := 10) rfl) (c.own_rd (i := 9) rfl) (c.own_rd (i := 8) rfl) (c.own_rd (i := 7) rfl) (c.own_rd (i := 6) rfl) (c.own_rd (i := 5) rfl) (c.own_rd (i := 4) rfl) (c.own_rd (i := 3) rfl)) ?_; rintro v H' ⟨z0, z0', z1, z1', z2, z2', z3, z3', rfl, sz0, sz1, sz2, sz3, rfl⟩)) | (show oA (.extract _ _); refine st_y (y_ext rfl rfl) rfl ?_) | (show oA (.store _ _ _); refine m_storeb 0 tabs rfl rfl rfl rfl rfl rfl rfl ?_) | (show oA (.alloc _); refine m_alloc tabs rfl rfl (fun b8 hb8 => ?_)) | (show oA (.buildSlice _ _ _); refine m_build0 tabs rfl rfl (fun g hg => ?_))) | refine xNt ?_ | (show oC; first | refine c_seq ?_ | refine c_region ?_ | refine c_skip (x_blk ?_) | refine c_block ?_ | refine c_if rfl (fun h => ?_) (fun h => ?_)))
    · skip
      refine c_all (Hp M' w [.blk b8 #[iV (cgRb ra gs).p, iV (cgRb ra gs).q.1, .slice z0 (cgRb ra gs).q.2.1.length z0', .slice z1 (cgRb ra gs).q.2.2.length z1', .slice z2 (cgRb ra gs).d.length z2', .slice z3 (cgRb ra gs).m.length z3'] 60, .blk b5 #[iV ra.p, iV ra.q.1, .slice x0 ra.q.2.1.length x0', .slice x1 ra.q.2.2.length x1', .slice x2 ra.d.length x2', .slice x3 ra.m.length x3'] 60]) kr (fun _ c => Hp.drew c) ?_
      refine h_take 0 rfl kr kr kr (by first | exact y_loadb 1 tabs rfl rfl rfl rfl | exact y_loadb 1 tabs rfl rfl rfl rfl) rfl sS ?_
      refine h_take 2 rfl kr kr kr (by exact y_move rfl) rfl sS ?_
      refine h_two 1 3 rfl rfl kr ?_ ?_
      · (refine sLb 0 tabs rfl rfl rfl rfl rfl ?_)
        refine c_nil (x_one (h_keep sS ?_))
        refine h_only 3 rfl kr ?_
        first | (refine m_storeb 18 tabs rfl rfl rfl rfl rfl rfl rfl ?_) | (refine m_storeb 17 tabs rfl rfl rfl rfl rfl rfl rfl ?_)
        refine c_nil (x_one (h_keep sS ?_))
        refine h_only 4 rfl kr ?_
        first | (refine m_storeb 18 tabs rfl rfl rfl rfl rfl rfl rfl ?_) | (refine m_storeb 17 tabs rfl rfl rfl rfl rfl rfl rfl ?_)
        refine c_nil (x_one (h_keep sS ?_))
        refine h_take 5 rfl kr kr kr (by exact y_assign rfl) rfl sS ?_
        refine h_end kr ?_
        repeat' (first | (show oC; refine c_ret ?_) | (show AT _ _ _ _; first | refine x_then ?_ | refine x_blk_ret ?_))
        refine x_midr ?_
        exact x_ret3 Tryz.results147 (res_cellb 18 tabs rfl rfl rfl rfl) (res_cellb 17 tabs rfl rfl rfl rfl) (res_tmp rfl) (fun wz cz => ⟨_, _, rfl, ⟨i, ch, _, hi, rfl, ra, cgRb ra gs, gs, _, _, ag, cg, [.own (matsT 47 ra.m) (.slice x3 ra.m.length x3'), .own (iT ra.d) (.slice x2 ra.d.length x2'), .own (iT ra.q.2.2) (.slice x1 ra.q.2.2.length x1'), .own (iT ra.q.2.1) (.slice x0 ra.q.2.1.length x0')], [.own (matsT 47 (cgRb ra gs).m) (.slice z3 (cgRb ra gs).m.length z3'), .own (iT (cgRb ra gs).d) (.slice z2 (cgRb ra gs).d.length z2'), .own (iT (cgRb ra gs).q.2.2) (.slice z1 (cgRb ra gs).q.2.2.length z1'), .own (iT (cgRb ra gs).q.2.1) (.slice z0 (cgRb ra gs).q.2.1.length z0')], rfl, ⟨hra.bnd, cgRb_bnd hra.bnd⟩, ⟨x0, x0', x1, x1', x2, x2', x3, x3', rfl, sx0, sx1, sx2, sx3, rfl⟩, ⟨z0, z0', z1, z1', z2, z2', z3, z3', rfl, sz0, sz1, sz2, sz3, rfl⟩, hsg, ⟨by have := hra.bnd.d; omega, hgc⟩, rfl⟩, cz.sel [5, 6, 1, 2, 3, 4, 13, 14, 15, 16] rfl⟩)
      · (refine m_storeb 18 tabs rfl rfl rfl rfl rfl rfl rfl ?_)
        refine c_nil (x_one (h_keep sS ?_))
        refine h_take 1 rfl kr kr kr (by first | exact y_loadb 0 tabs rfl rfl rfl rfl | exact y_loadb 0 tabs rfl rfl rfl rfl | exact y_loadb 0 tabs rfl rfl rfl rfl) rfl sS ?_
        refine h_only 4 rfl kr ?_
        (refine m_storeb 17 tabs rfl rfl rfl rfl rfl rfl rfl ?_)
        refine c_nil (x_one (h_keep sS ?_))
        refine h_take 5 rfl kr kr kr (by exact y_assign rfl) rfl sS ?_
        refine h_end kr ?_
        repeat' (first | (show oC; refine c_ret ?_) | (show AT _ _ _ _; first | refine x_then ?_ | refine x_blk_ret ?_))
        refine x_midr ?_
        exact x_ret3 Tryz.results147 (res_cellb 18 tabs rfl rfl rfl rfl) (res_cellb 17 tabs rfl rfl rfl rfl) (res_tmp rfl) (fun wz cz => ⟨_, _, rfl, ⟨i, ch, _, hi, rfl, ra, cgRb ra gs, gs, _, _, ag, cg, [.own (matsT 47 ra.m) (.slice x3 ra.m.length x3'), .own (iT ra.d) (.slice x2 ra.d.length x2'), .own (iT ra.q.2.2) (.slice x1 ra.q.2.2.length x1'), .own (iT ra.q.2.1) (.slice x0 ra.q.2.1.length x0')], [.own (matsT 47 (cgRb ra gs).m) (.slice z3 (cgRb ra gs).m.length z3'), .own (iT (cgRb ra gs).d) (.slice z2 (cgRb ra gs).d.length z2'), .own (iT (cgRb ra gs).q.2.2) (.slice z1 (cgRb ra gs).q.2.2.length z1'), .own (iT (cgRb ra gs).q.2.1) (.slice z0 (cgRb ra gs).q.2.1.length z0')], rfl, ⟨hra.bnd, cgRb_bnd hra.bnd⟩, ⟨x0, x0', x1, x1', x2, x2', x3, x3', rfl, sx0, sx1, sx2, sx3, rfl⟩, ⟨z0, z0', z1, z1', z2, z2', z3, z3', rfl, sz0, sz1, sz2, sz3, rfl⟩, hsg, ⟨by have := hra.bnd.d; omega, hgc⟩, rfl⟩, cz.sel [5, 6, 1, 2, 3, 4, 13, 14, 15, 16] rfl⟩)
    · refine x_midq sB (fun wz cz => ⟨i, ch, hi, cz.sel [5, 7, 8, 9, 10, 11, 12, 13, 14, 15, 16, 17, 18] rfl⟩)
    · skip
      have hP : DsP ra rb := h
      have hda := fun n => hP.1.1.dg n
      have hdb := fun n => hP.1.2.1.dg n
      have hdl := hP.1.dl
      have hd7 := hra.bnd.d
      refine c_loopH (α := List Mat × Option Addr × Nat) [2, 3, 5, 6, 10] (fun s => [(12, .slice s.2.1 s.1.length s.2.2), (13, iV s.1.length)]) (fun s => s.1.length ≤ ra.d.length ∧ SmC s.1) (fun s => [.own (matsT 47 s.1) (.slice s.2.1 s.1.length s.2.2), .blk b8 #[iV (dsL ra rb).p, iV (dsL ra rb).q.1, .slice z0 (dsL ra rb).q.2.1.length z0', .slice z1 (dsL ra rb).q.2.2.length z1', .slice z2 (dsL ra rb).d.length z2', .slice z3 (dsL ra rb).m.length z3'] 60, .own (matsT 47 (dsL ra rb).m) (.slice z3 (dsL ra rb).m.length z3'), .own (iT (dsL ra rb).d) (.slice z2 (dsL ra rb).d.length z2'), .own (iT (dsL ra rb).q.2.2) (.slice z1 (dsL ra rb).q.2.2.length z1'), .own (iT (dsL ra rb).q.2.1) (.slice z0 (dsL ra rb).q.2.1.length z0'), cu u b i ch, .blk b6 #[iV rb.p, iV rb.q.1, .slice y0 rb.q.2.1.length y0', .slice y1 rb.q.2.2.length y1', .slice y2 rb.d.length y2', .slice y3 rb.m.length y3'] 60, .blk b5 #[iV ra.p, iV ra.q.1, .slice x0 ra.q.2.1.length x0', .slice x1 ra.q.2.2.length x1', .slice x2 ra.d.length x2', .slice x3 ra.m.length x3'] 60, .own (matsT 47 rb.m) (.slice y3 rb.m.length y3'), .own (iT rb.d) (.slice y2 rb.d.length y2'), .own (iT rb.q.2.2) (.slice y1 rb.q.2.2.length y1'), .own (iT rb.q.2.1) (.slice y0 rb.q.2.1.length y0'), .own (matsT 47 ra.m) (.slice x3 ra.m.length x3'), .own (iT ra.d) (.slice x2 ra.d.length x2'), .own (iT ra.q.2.2) (.slice x1 ra.q.2.2.length x1'), .own (iT ra.q.2.1) (.slice x0 ra.q.2.1.length x0'), .blk b3 #[iV 0, iV 0, .slice none 0 0, .slice none 0 0, .slice none 0 0, .slice none 0 0] 60, .blk b2 #[iV 0, iV 0, .slice none 0 0, .slice none 0 0, .slice none 0 0, .slice none 0 0] 60]) (fun s => ra.d.length - s.1.length) ([], some ⟨g, 0, none⟩, 0) rfl sB ?_ ?_ ?_
      · exact ⟨Nat.zero_le _, by intro m hm; simp at hm⟩
      · exact fun w' c' => c'
      · rintro ⟨fs, af, cf⟩ ⟨hfl, hfc⟩
        simp only at hfl hfc ⊢
        by_cases hin : fs.length < ra.d.length
        · obtain ⟨A, hA⟩ : ∃ A : Nat, ra.d.getD fs.length 0 = A := ⟨(ra.d.getD fs.length 0).toNat, by have := hda fs.length; omega⟩
          obtain ⟨B, hB⟩ : ∃ B : Nat, rb.d.getD fs.length 0 = B := ⟨(rb.d.getD fs.length 0).toNat, by have := hdb fs.length; omega⟩
          have hA4 := hda fs.length
          have hB4 := hdb fs.length
          repeat' (first | (show oL; first | refine sMv rfl rfl ?_ | refine sFd tabs rfl rfl rfl rfl ?_ | refine sLd 8 tabs rfl rfl rfl rfl rfl ?_ | refine sLs rfl rfl rfl ?_ | refine sLn tabs rfl rfl rfl ?_) | refine xNt ?_ | (show oC; first | refine c_seq ?_ | refine c_region ?_ | refine c_skip (x_then ?_) | refine c_block ?_ | refine c_ift rfl aO ?_))
          refine c_all (Hp M' w [.blk b6 #[iV rb.p, iV rb.q.1, .slice y0 rb.q.2.1.length y0', .slice y1 rb.q.2.2.length y1', .slice y2 rb.d.length y2', .slice y3 rb.m.length y3'] 60, .blk b5 #[iV ra.p, iV ra.q.1, .slice x0 ra.q.2.1.length x0', .slice x1 ra.q.2.2.length x1', .slice x2 ra.d.length x2', .slice x3 ra.m.length x3'] 60, .own (iT rb.d) (.slice y2 rb.d.length y2'), .own (iT ra.d) (.slice x2 ra.d.length x2')]) kr (fun _ c => Hp.drew c) ?_
          refine h_take 0 rfl kr kr kr (by exact y_move rfl) rfl sS ?_
          refine h_take 1 rfl kr kr kr (by exact y_field tabs rfl rfl rfl) rfl sS ?_
          refine h_take 2 rfl kr kr kr (by exact y_load tabs rfl rfl (hc_blk 1 rfl rfl)) rfl sS ?_
          refine h_take 3 rfl kr kr kr (by exact y_move rfl) rfl sS ?_
          refine h_take 4 rfl kr kr kr (by exact y_ix1 tabs (j := fs.length) rfl rfl rfl sx2 rfl hin) rfl sS ?_
          refine h_take 5 rfl kr kr kr (by exact y_load tabs rfl rfl (hc_ownA 3 rfl hin hA)) rfl sS ?_
          refine h_take 7 rfl kr kr kr (by exact y_field tabs rfl rfl rfl) rfl sS ?_
          refine h_take 8 rfl kr kr kr (by exact y_load tabs rfl rfl (hc_blk 0 rfl rfl)) rfl sS ?_
          refine h_take 9 rfl kr kr kr (by exact y_move rfl) rfl sS ?_
          refine h_take 10 rfl kr kr kr (by exact y_ix1 tabs (j := fs.length) rfl rfl rfl sy2 rfl om) rfl sS ?_
          refine h_take 11 rfl kr kr kr (by exact y_load tabs rfl rfl (hc_ownA 2 rfl om hB)) rfl sS ?_
          refine h_only 6 rfl kr ?_
          first | (refine m_build1 tabs (us := [iV ((A + B : Nat) : Int), iV ((A + 0 : Nat) : Int), .slice a7 ((A + B) * (A + 0)) c7]) rfl rfl rfl rfl (by decide) rfl (fun g2 hg2 => ?_)) | (refine m_call (ent_of Tryz.func169 kr rfl) rfl rfl (fun w c => l3Identity_ok (n := A) om) ?_; rintro v H' ⟨a4, c4, rfl, hs4, rfl⟩) | (refine m_call (ent_of Tryz.func172 kr rfl) rfl rfl (fun w c => l3Zero_ok (R := B) (C := 0) om om) ?_; rintro v H' ⟨a5, c5, rfl, hs5, rfl⟩) | (refine m_call (ent_of Tryz.func178 kr rfl) rfl rfl (fun w c => l3Block_ok (R := A) (C := A) (S := B) (D := 0) (f := idF) (g := fun _ _ => 0) (c.own_rd (i := 1) rfl) (c.own_rd (i := 0) rfl) om om om om) ?_; rintro v H' ⟨a7, c7, rfl, hs7, rfl⟩) | (refine m_push1 [iV ((A + B : Nat) : Int), iV ((A + 0 : Nat) : Int)] 2 0 tabs (m' := fs.length) rfl rfl rfl rfl rfl rfl rfl (by rw [flatMap_length matT_length]) (by rw [flatMap_length matT_length]; omega) (by decide) rfl rfl (fun a9 c9 => ?_))
          refine c_nil (x_one (h_keep sS ?_))
          refine h_only 12 rfl kr ?_
          first | (refine m_build1 tabs (us := [iV ((A + B : Nat) : Int), iV ((A + 0 : Nat) : Int), .slice a7 ((A + B) * (A + 0)) c7]) rfl rfl rfl rfl (by decide) rfl (fun g2 hg2 => ?_)) | (refine m_call (ent_of Tryz.func169 kr rfl) rfl rfl (fun w c => l3Identity_ok (n := A) om) ?_; rintro v H' ⟨a4, c4, rfl, hs4, rfl⟩) | (refine m_call (ent_of Tryz.func172 kr rfl) rfl rfl (fun w c => l3Zero_ok (R := B) (C := 0) om om) ?_; rintro v H' ⟨a5, c5, rfl, hs5, rfl⟩) | (refine m_call (ent_of Tryz.func178 kr rfl) rfl rfl (fun w c => l3Block_ok (R := A) (C := A) (S := B) (D := 0) (f := idF) (g := fun _ _ => 0) (c.own_rd (i := 1) rfl) (c.own_rd (i := 0) rfl) om om om om) ?_; rintro v H' ⟨a7, c7, rfl, hs7, rfl⟩) | (refine m_push1 [iV ((A + B : Nat) : Int), iV ((A + 0 : Nat) : Int)] 2 0 tabs (m' := fs.length) rfl rfl rfl rfl rfl rfl rfl (by rw [flatMap_length matT_length]) (by rw [flatMap_length matT_length]; omega) (by decide) rfl rfl (fun a9 c9 => ?_))
          refine c_nil (x_one (h_keep sS ?_))
          refine h_only 13 rfl kr ?_
          first | (refine m_build1 tabs (us := [iV ((A + B : Nat) : Int), iV ((A + 0 : Nat) : Int), .slice a7 ((A + B) * (A + 0)) c7]) rfl rfl rfl rfl (by decide) rfl (fun g2 hg2 => ?_)) | (refine m_call (ent_of Tryz.func169 kr rfl) rfl rfl (fun w c => l3Identity_ok (n := A) om) ?_; rintro v H' ⟨a4, c4, rfl, hs4, rfl⟩) | (refine m_call (ent_of Tryz.func172 kr rfl) rfl rfl (fun w c => l3Zero_ok (R := B) (C := 0) om om) ?_; rintro v H' ⟨a5, c5, rfl, hs5, rfl⟩) | (refine m_call (ent_of Tryz.func178 kr rfl) rfl rfl (fun w c => l3Block_ok (R := A) (C := A) (S := B) (D := 0) (f := idF) (g := fun _ _ => 0) (c.own_rd (i := 1) rfl) (c.own_rd (i := 0) rfl) om om om om) ?_; rintro v H' ⟨a7, c7, rfl, hs7, rfl⟩) | (refine m_push1 [iV ((A + B : Nat) : Int), iV ((A + 0 : Nat) : Int)] 2 0 tabs (m' := fs.length) rfl rfl rfl rfl rfl rfl rfl (by rw [flatMap_length matT_length]) (by rw [flatMap_length matT_length]; omega) (by decide) rfl rfl (fun a9 c9 => ?_))
          refine c_nil (x_one (h_keep sS ?_))
          refine h_only 14 rfl kr ?_
          first | (refine m_build1 tabs (us := [iV ((A + B : Nat) : Int), iV ((A + 0 : Nat) : Int), .slice a7 ((A + B) * (A + 0)) c7]) rfl rfl rfl rfl (by decide) rfl (fun g2 hg2 => ?_)) | (refine m_call (ent_of Tryz.func169 kr rfl) rfl rfl (fun w c => l3Identity_ok (n := A) om) ?_; rintro v H' ⟨a4, c4, rfl, hs4, rfl⟩) | (refine m_call (ent_of Tryz.func172 kr rfl) rfl rfl (fun w c => l3Zero_ok (R := B) (C := 0) om om) ?_; rintro v H' ⟨a5, c5, rfl, hs5, rfl⟩) | (refine m_call (ent_of Tryz.func178 kr rfl) rfl rfl (fun w c => l3Block_ok (R := A) (C := A) (S := B) (D := 0) (f := idF) (g := fun _ _ => 0) (c.own_rd (i := 1) rfl) (c.own_rd (i := 0) rfl) om om om om) ?_; rintro v H' ⟨a7, c7, rfl, hs7, rfl⟩) | (refine m_push1 [iV ((A + B : Nat) : Int), iV ((A + 0 : Nat) : Int)] 2 0 tabs (m' := fs.length) rfl rfl rfl rfl rfl rfl rfl (by rw [flatMap_length matT_length]) (by rw [flatMap_length matT_length]; omega) (by decide) rfl rfl (fun a9 c9 => ?_))
          refine c_nil (x_one (h_keep sS ?_))
          refine h_only 15 rfl kr ?_
          first | (refine m_build1 tabs (us := [iV ((A + B : Nat) : Int), iV ((A + 0 : Nat) : Int), .slice a7 ((A + B) * (A + 0)) c7]) rfl rfl rfl rfl (by decide) rfl (fun g2 hg2 => ?_)) | (refine m_call (ent_of Tryz.func169 kr rfl) rfl rfl (fun w c => l3Identity_ok (n := A) om) ?_; rintro v H' ⟨a4, c4, rfl, hs4, rfl⟩) | (refine m_call (ent_of Tryz.func172 kr rfl) rfl rfl (fun w c => l3Zero_ok (R := B) (C := 0) om om) ?_; rintro v H' ⟨a5, c5, rfl, hs5, rfl⟩) | (refine m_call (ent_of Tryz.func178 kr rfl) rfl rfl (fun w c => l3Block_ok (R := A) (C := A) (S := B) (D := 0) (f := idF) (g := fun _ _ => 0) (c.own_rd (i := 1) rfl) (c.own_rd (i := 0) rfl) om om om om) ?_; rintro v H' ⟨a7, c7, rfl, hs7, rfl⟩) | (refine m_push1 [iV ((A + B : Nat) : Int), iV ((A + 0 : Nat) : Int)] 2 0 tabs (m' := fs.length) rfl rfl rfl rfl rfl rfl rfl (by rw [flatMap_length matT_length]) (by rw [flatMap_length matT_length]; omega) (by decide) rfl rfl (fun a9 c9 => ?_))
          refine c_nil (x_one (h_keep sS ?_))
          refine h_take 16 rfl kr kr kr (by exact y_assign rfl) rfl sS ?_
          refine h_end kr ?_
          repeat' (first | (show oL; first | refine sMv rfl rfl ?_ | refine sAs rfl rfl ?_ | refine sAd rfl rfl om rfl ?_) | refine xNt ?_ | (show oC; refine c_region ?_) | (show AT _ _ _ _; first | refine x_then ?_ | refine x_blk ?_))
          refine x_nx (fs ++ [(((A + B : Nat) : Int), ((A + 0 : Nat) : Int), mk (A + B) (A + 0) (blkF A A idF (fun _ _ => 0) (fun _ _ => 0)))], a9, c9) (by simp only [List.length_append, List.length_singleton]; repeat' (first | exact Sub.nil | refine Sub.cons rfl ?_ | refine Sub.consi rfl om ?_)) ⟨by simp only [List.length_append, List.length_singleton]; omega, smC_snoc hfc (by rw [mk_length]; have := Nat.mul_le_mul (show A + B ≤ 8 by omega) (show A + 0 ≤ 8 by omega); omega)⟩ (fun w' c' => ?_) (by simp only [List.length_append, List.length_singleton]; omega)
          rw [mlk_next] at c'
          simp only [List.length_append, List.length_singleton]
          exact c'.sel [0, 3, 4, 5, 6, 7, 8, 9, 10, 11, 12, 13, 14, 15, 16, 17, 18, 19, 20] rfl
        · skip
          refine AT.fact (mats_sl 0 rfl) (fun hsg => ?_)
          repeat' (first | (show oL; first | refine sMv rfl rfl ?_ | refine sFd tabs rfl rfl rfl rfl ?_ | refine sLd 8 tabs rfl rfl rfl rfl rfl ?_ | refine sLs rfl rfl rfl ?_ | refine sLn tabs rfl rfl rfl ?_) | refine xNt ?_ | (show oC; first | refine c_seq ?_ | refine c_region ?_ | refine c_exit ?_ | refine c_iff rfl nN ?_) | (show AT _ _ _ _; first | refine x_then ?_ | refine x_then_exit ?_ | refine x_blk_exit rfl ?_))
          refine c_all (Hp M' w [.blk b8 #[iV (dsL ra rb).p, iV (dsL ra rb).q.1, .slice z0 (dsL ra rb).q.2.1.length z0', .slice z1 (dsL ra rb).q.2.2.length z1', .slice z2 (dsL ra rb).d.length z2', .slice z3 (dsL ra rb).m.length z3'] 60, .blk b5 #[iV ra.p, iV ra.q.1, .slice x0 ra.q.2.1.length x0', .slice x1 ra.q.2.2.length x1', .slice x2 ra.d.length x2', .slice x3 ra.m.length x3'] 60]) kr (fun _ c => Hp.drew c) ?_
          refine h_take 0 rfl kr kr kr (by first | exact y_loadb 1 tabs rfl rfl rfl rfl | exact y_loadb 1 tabs rfl rfl rfl rfl) rfl sS ?_
          refine h_take 2 rfl kr kr kr (by exact y_move rfl) rfl sS ?_
          refine h_two 1 3 rfl rfl kr ?_ ?_
          · (refine sLb 1 tabs rfl rfl rfl rfl rfl ?_)
            refine c_nil (x_one (h_keep sS ?_))
            refine h_only 3 rfl kr ?_
            first | (refine m_storeb 18 tabs rfl rfl rfl rfl rfl rfl rfl ?_) | (refine m_storeb 17 tabs rfl rfl rfl rfl rfl rfl rfl ?_)
            refine c_nil (x_one (h_keep sS ?_))
            refine h_only 4 rfl kr ?_
            first | (refine m_storeb 18 tabs rfl rfl rfl rfl rfl rfl rfl ?_) | (refine m_storeb 17 tabs rfl rfl rfl rfl rfl rfl rfl ?_)
            refine c_nil (x_one (h_keep sS ?_))
            refine h_take 5 rfl kr kr kr (by exact y_assign rfl) rfl sS ?_
            refine h_end kr ?_
            repeat' (first | (show oC; refine c_ret ?_) | (show AT _ _ _ _; first | refine x_then ?_ | refine x_blk_ret ?_))
            refine x_midr ?_
            exact x_ret3 Tryz.results147 (res_cellb 18 tabs rfl rfl rfl rfl) (res_cellb 17 tabs rfl rfl rfl rfl) (res_tmp rfl) (fun wz cz => ⟨_, _, rfl, ⟨i, ch, _, hi, rfl, ra, (dsL ra rb), fs, _, _, af, cf, [.own (matsT 47 ra.m) (.slice x3 ra.m.length x3'), .own (iT ra.d) (.slice x2 ra.d.length x2'), .own (iT ra.q.2.2) (.slice x1 ra.q.2.2.length x1'), .own (iT ra.q.2.1) (.slice x0 ra.q.2.1.length x0')], [.own (matsT 47 (dsL ra rb).m) (.slice z3 (dsL ra rb).m.length z3'), .own (iT (dsL ra rb).d) (.slice z2 (dsL ra rb).d.length z2'), .own (iT (dsL ra rb).q.2.2) (.slice z1 (dsL ra rb).q.2.2.length z1'), .own (iT (dsL ra rb).q.2.1) (.slice z0 (dsL ra rb).q.2.1.length z0')], rfl, ⟨hra.bnd, dsL_bnd hra.bnd⟩, ⟨x0, x0', x1, x1', x2, x2', x3, x3', rfl, sx0, sx1, sx2, sx3, rfl⟩, ⟨z0, z0', z1, z1', z2, z2', z3, z3', rfl, sz0, sz1, sz2, sz3, rfl⟩, hsg, ⟨by have := hra.bnd.d; omega, hfc⟩, rfl⟩, cz.sel [6, 0, 2, 3, 4, 5, 13, 14, 15, 16] rfl⟩)
          · (refine m_storeb 18 tabs rfl rfl rfl rfl rfl rfl rfl ?_)
            refine c_nil (x_one (h_keep sS ?_))
            refine h_take 1 rfl kr kr kr (by first | exact y_loadb 0 tabs rfl rfl rfl rfl | exact y_loadb 0 tabs rfl rfl rfl rfl) rfl sS ?_
            refine h_only 4 rfl kr ?_
            (refine m_storeb 17 tabs rfl rfl rfl rfl rfl rfl rfl ?_)
            refine c_nil (x_one (h_keep sS ?_))
            refine h_take 5 rfl kr kr kr (by exact y_assign rfl) rfl sS ?_
            refine h_end kr ?_
            repeat' (first | (show oC; refine c_ret ?_) | (show AT _ _ _ _; first | refine x_then ?_ | refine x_blk_ret ?_))
            refine x_midr ?_
            exact x_ret3 Tryz.results147 (res_cellb 18 tabs rfl rfl rfl rfl) (res_cellb 17 tabs rfl rfl rfl rfl) (res_tmp rfl) (fun wz cz => ⟨_, _, rfl, ⟨i, ch, _, hi, rfl, ra, (dsL ra rb), fs, _, _, af, cf, [.own (matsT 47 ra.m) (.slice x3 ra.m.length x3'), .own (iT ra.d) (.slice x2 ra.d.length x2'), .own (iT ra.q.2.2) (.slice x1 ra.q.2.2.length x1'), .own (iT ra.q.2.1) (.slice x0 ra.q.2.1.length x0')], [.own (matsT 47 (dsL ra rb).m) (.slice z3 (dsL ra rb).m.length z3'), .own (iT (dsL ra rb).d) (.slice z2 (dsL ra rb).d.length z2'), .own (iT (dsL ra rb).q.2.2) (.slice z1 (dsL ra rb).q.2.2.length z1'), .own (iT (dsL ra rb).q.2.1) (.slice z0 (dsL ra rb).q.2.1.length z0')], rfl, ⟨hra.bnd, dsL_bnd hra.bnd⟩, ⟨x0, x0', x1, x1', x2, x2', x3, x3', rfl, sx0, sx1, sx2, sx3, rfl⟩, ⟨z0, z0', z1, z1', z2, z2', z3, z3', rfl, sz0, sz1, sz2, sz3, rfl⟩, hsg, ⟨by have := hra.bnd.d; omega, hfc⟩, rfl⟩, cz.sel [6, 0, 2, 3, 4, 5, 13, 14, 15, 16] rfl⟩)
    · refine x_midq sB (fun wz cz => ⟨i, ch, hi, cz.sel [5, 6, 7, 8, 9, 10, 11, 12, 13, 14, 15, 16, 17] rfl⟩)
    · skip
      have hP : DsP ra rb := h
      have hda := fun n => hP.1.1.dg n
      have hdb := fun n => hP.1.2.1.dg n
      have hdl := hP.1.dl
      have hd7 := hra.bnd.d
      refine c_loopH (α := List Mat × Option Addr × Nat) [2, 3, 5, 6, 14] (fun s => [(16, .slice s.2.1 s.1.length s.2.2), (17, iV s.1.length)]) (fun s => s.1.length ≤ ra.d.length ∧ SmC s.1) (fun s => [.own (matsT 47 s.1) (.slice s.2.1 s.1.length s.2.2), .blk b8 #[iV (dsL ra rb).p, iV (dsL ra rb).q.1, .slice z0 (dsL ra rb).q.2.1.length z0', .slice z1 (dsL ra rb).q.2.2.length z1', .slice z2 (dsL ra rb).d.length z2', .slice z3 (dsL ra rb).m.length z3'] 60, .own (matsT 47 (dsL ra rb).m) (.slice z3 (dsL ra rb).m.length z3'), .own (iT (dsL ra rb).d) (.slice z2 (dsL ra rb).d.length z2'), .own (iT (dsL ra rb).q.2.2) (.slice z1 (dsL ra rb).q.2.2.length z1'), .own (iT (dsL ra rb).q.2.1) (.slice z0 (dsL ra rb).q.2.1.length z0'), cu u b i ch, .blk b6 #[iV rb.p, iV rb.q.1, .slice y0 rb.q.2.1.length y0', .slice y1 rb.q.2.2.length y1', .slice y2 rb.d.length y2', .slice y3 rb.m.length y3'] 60, .blk b5 #[iV ra.p, iV ra.q.1, .slice x0 ra.q.2.1.length x0', .slice x1 ra.q.2.2.length x1', .slice x2 ra.d.length x2', .slice x3 ra.m.length x3'] 60, .own (matsT 47 rb.m) (.slice y3 rb.m.length y3'), .own (iT rb.d) (.slice y2 rb.d.length y2'), .own (iT rb.q.2.2) (.slice y1 rb.q.2.2.length y1'), .own (iT rb.q.2.1) (.slice y0 rb.q.2.1.length y0'), .own (matsT 47 ra.m) (.slice x3 ra.m.length x3'), .own (iT ra.d) (.slice x2 ra.d.length x2'), .own (iT ra.q.2.2) (.slice x1 ra.q.2.2.length x1'), .own (iT ra.q.2.1) (.slice x0 ra.q.2.1.length x0'), .blk b3 #[iV 0, iV 0, .slice none 0 0, .slice none 0 0, .slice none 0 0, .slice none 0 0] 60, .blk b2 #[iV 0, iV 0, .slice none 0 0, .slice none 0 0, .slice none 0 0, .slice none 0 0] 60]) (fun s => ra.d.length - s.1.length) ([], some ⟨g, 0, none⟩, 0) rfl sB ?_ ?_ ?_
      · exact ⟨Nat.zero_le _, by intro m hm; simp at hm⟩
      · exact fun w' c' => c'
      · rintro ⟨fs, af, cf⟩ ⟨hfl, hfc⟩
        simp only at hfl hfc ⊢
        by_cases hin : fs.length < ra.d.length
        · obtain ⟨A, hA⟩ : ∃ A : Nat, ra.d.getD fs.length 0 = A := ⟨(ra.d.getD fs.length 0).toNat, by have := hda fs.length; omega⟩
          obtain ⟨B, hB⟩ : ∃ B : Nat, rb.d.getD fs.length 0 = B := ⟨(rb.d.getD fs.length 0).toNat, by have := hdb fs.length; omega⟩
          have hA4 := hda fs.length
          have hB4 := hdb fs.length
          repeat' (first | (show oL; first | refine sMv rfl rfl ?_ | refine sFd tabs rfl rfl rfl rfl ?_ | refine sLd 8 tabs rfl rfl rfl rfl rfl ?_ | refine sLs rfl rfl rfl ?_ | refine sLn tabs rfl rfl rfl ?_) | refine xNt ?_ | (show oC; first | refine c_seq ?_ | refine c_region ?_ | refine c_skip (x_then ?_) | refine c_block ?_ | refine c_ift rfl aO ?_))
          refine c_all (Hp M' w [.blk b6 #[iV rb.p, iV rb.q.1, .slice y0 rb.q.2.1.length y0', .slice y1 rb.q.2.2.length y1', .slice y2 rb.d.length y2', .slice y3 rb.m.length y3'] 60, .blk b5 #[iV ra.p, iV ra.q.1, .slice x0 ra.q.2.1.length x0', .slice x1 ra.q.2.2.length x1', .slice x2 ra.d.length x2', .slice x3 ra.m.length x3'] 60, .own (iT rb.d) (.slice y2 rb.d.length y2'), .own (iT ra.d) (.slice x2 ra.d.length x2')]) kr (fun _ c => Hp.drew c) ?_
          refine h_take 0 rfl kr kr kr (by exact y_move rfl) rfl sS ?_
          refine h_take 1 rfl kr kr kr (by exact y_field tabs rfl rfl rfl) rfl sS ?_
          refine h_take 2 rfl kr kr kr (by exact y_load tabs rfl rfl (hc_blk 1 rfl rfl)) rfl sS ?_
          refine h_take 3 rfl kr kr kr (by exact y_move rfl) rfl sS ?_
          refine h_take 4 rfl kr kr kr (by exact y_ix1 tabs (j := fs.length) rfl rfl rfl sx2 rfl hin) rfl sS ?_
          refine h_take 5 rfl kr kr kr (by exact y_load tabs rfl rfl (hc_ownA 3 rfl hin hA)) rfl sS ?_
          refine h_take 7 rfl kr kr kr (by exact y_field tabs rfl rfl rfl) rfl sS ?_
          refine h_take 8 rfl kr kr kr (by exact y_load tabs rfl rfl (hc_blk 0 rfl rfl)) rfl sS ?_
          refine h_take 9 rfl kr kr kr (by exact y_move rfl) rfl sS ?_
          refine h_take 10 rfl kr kr kr (by exact y_ix1 tabs (j := fs.length) rfl rfl rfl sy2 rfl om) rfl sS ?_
          refine h_take 11 rfl kr kr kr (by exact y_load tabs rfl rfl (hc_ownA 2 rfl om hB)) rfl sS ?_
          refine h_only 6 rfl kr ?_
          first | (refine m_build1 tabs (us := [iV ((A + 0 : Nat) : Int), iV ((A + B : Nat) : Int), .slice a7 ((A + 0) * (A + B)) c7]) rfl rfl rfl rfl (by decide) rfl (fun g2 hg2 => ?_)) | (refine m_call (ent_of Tryz.func169 kr rfl) rfl rfl (fun w c => l3Identity_ok (n := A) om) ?_; rintro v H' ⟨a4, c4, rfl, hs4, rfl⟩) | (refine m_call (ent_of Tryz.func172 kr rfl) rfl rfl (fun w c => l3Zero_ok (R := 0) (C := B) om om) ?_; rintro v H' ⟨a5, c5, rfl, hs5, rfl⟩) | (refine m_call (ent_of Tryz.func178 kr rfl) rfl rfl (fun w c => l3Block_ok (R := A) (C := A) (S := 0) (D := B) (f := idF) (g := fun _ _ => 0) (c.own_rd (i := 1) rfl) (c.own_rd (i := 0) rfl) om om om om) ?_; rintro v H' ⟨a7, c7, rfl, hs7, rfl⟩) | (refine m_push1 [iV ((A + 0 : Nat) : Int), iV ((A + B : Nat) : Int)] 2 0 tabs (m' := fs.length) rfl rfl rfl rfl rfl rfl rfl (by rw [flatMap_length matT_length]) (by rw [flatMap_length matT_length]; omega) (by decide) rfl rfl (fun a9 c9 => ?_))
          refine c_nil (x_one (h_keep sS ?_))
          refine h_only 12 rfl kr ?_
          first | (refine m_build1 tabs (us := [iV ((A + 0 : Nat) : Int), iV ((A + B : Nat) : Int), .slice a7 ((A + 0) * (A + B)) c7]) rfl rfl rfl rfl (by decide) rfl (fun g2 hg2 => ?_)) | (refine m_call (ent_of Tryz.func169 kr rfl) rfl rfl (fun w c => l3Identity_ok (n := A) om) ?_; rintro v H' ⟨a4, c4, rfl, hs4, rfl⟩) | (refine m_call (ent_of Tryz.func172 kr rfl) rfl rfl (fun w c => l3Zero_ok (R := 0) (C := B) om om) ?_; rintro v H' ⟨a5, c5, rfl, hs5, rfl⟩) | (refine m_call (ent_of Tryz.func178 kr rfl) rfl rfl (fun w c => l3Block_ok (R := A) (C := A) (S := 0) (D := B) (f := idF) (g := fun _ _ => 0) (c.own_rd (i := 1) rfl) (c.own_rd (i := 0) rfl) om om om om) ?_; rintro v H' ⟨a7, c7, rfl, hs7, rfl⟩) | (refine m_push1 [iV ((A + 0 : Nat) : Int), iV ((A + B : Nat) : Int)] 2 0 tabs (m' := fs.length) rfl rfl rfl rfl rfl rfl rfl (by rw [flatMap_length matT_length]) (by rw [flatMap_length matT_length]; omega) (by decide) rfl rfl (fun a9 c9 => ?_))
          refine c_nil (x_one (h_keep sS ?_))
          refine h_only 13 rfl kr ?_
          first | (refine m_build1 tabs (us := [iV ((A + 0 : Nat) : Int), iV ((A + B : Nat) : Int), .slice a7 ((A + 0) * (A + B)) c7]) rfl rfl rfl rfl (by decide) rfl (fun g2 hg2 => ?_)) | (refine m_call (ent_of Tryz.func169 kr rfl) rfl rfl (fun w c => l3Identity_ok (n := A) om) ?_; rintro v H' ⟨a4, c4, rfl, hs4, rfl⟩) | (refine m_call (ent_of Tryz.func172 kr rfl) rfl rfl (fun w c => l3Zero_ok (R := 0) (C := B) om om) ?_; rintro v H' ⟨a5, c5, rfl, hs5, rfl⟩) | (refine m_call (ent_of Tryz.func178 kr rfl) rfl rfl (fun w c => l3Block_ok (R := A) (C := A) (S := 0) (D := B) (f := idF) (g := fun _ _ => 0) (c.own_rd (i := 1) rfl) (c.own_rd (i := 0) rfl) om om om om) ?_; rintro v H' ⟨a7, c7, rfl, hs7, rfl⟩) | (refine m_push1 [iV ((A + 0 : Nat) : Int), iV ((A + B : Nat) : Int)] 2 0 tabs (m' := fs.length) rfl rfl rfl rfl rfl rfl rfl (by rw [flatMap_length matT_length]) (by rw [flatMap_length matT_length]; omega) (by decide) rfl rfl (fun a9 c9 => ?_))
          refine c_nil (x_one (h_keep sS ?_))
          refine h_only 14 rfl kr ?_
          first | (refine m_build1 tabs (us := [iV ((A + 0 : Nat) : Int), iV ((A + B : Nat) : Int), .slice a7 ((A + 0) * (A + B)) c7]) rfl rfl rfl rfl (by decide) rfl (fun g2 hg2 => ?_)) | (refine m_call (ent_of Tryz.func169 kr rfl) rfl rfl (fun w c => l3Identity_ok (n := A) om) ?_; rintro v H' ⟨a4, c4, rfl, hs4, rfl⟩) | (refine m_call (ent_of Tryz.func172 kr rfl) rfl rfl (fun w c => l3Zero_ok (R := 0) (C := B) om om) ?_; rintro v H' ⟨a5, c5, rfl, hs5, rfl⟩) | (refine m_call (ent_of Tryz.func178 kr rfl) rfl rfl (fun w c => l3Block_ok (R := A) (C := A) (S := 0) (D := B) (f := idF) (g := fun _ _ => 0) (c.own_rd (i := 1) rfl) (c.own_rd (i := 0) rfl) om om om om) ?_; rintro v H' ⟨a7, c7, rfl, hs7, rfl⟩) | (refine m_push1 [iV ((A + 0 : Nat) : Int), iV ((A + B : Nat) : Int)] 2 0 tabs (m' := fs.length) rfl rfl rfl rfl rfl rfl rfl (by rw [flatMap_length matT_length]) (by rw [flatMap_length matT_length]; omega) (by decide) rfl rfl (fun a9 c9 => ?_))
          refine c_nil (x_one (h_keep sS ?_))
          refine h_only 15 rfl kr ?_
          first | (refine m_build1 tabs (us := [iV ((A + 0 : Nat) : Int), iV ((A + B : Nat) : Int), .slice a7 ((A + 0) * (A + B)) c7]) rfl rfl rfl rfl (by decide) rfl (fun g2 hg2 => ?_)) | (refine m_call (ent_of Tryz.func169 kr rfl) rfl rfl (fun w c => l3Identity_ok (n := A) om) ?_; rintro v H' ⟨a4, c4, rfl, hs4, rfl⟩) | (refine m_call (ent_of Tryz.func172 kr rfl) rfl rfl (fun w c => l3Zero_ok (R := 0) (C := B) om om) ?_; rintro v H' ⟨a5, c5, rfl, hs5, rfl⟩) | (refine m_call (ent_of Tryz.func178 kr rfl) rfl rfl (fun w c => l3Block_ok (R := A) (C := A) (S := 0) (D := B) (f := idF) (g := fun _ _ => 0) (c.own_rd (i := 1) rfl) (c.own_rd (i := 0) rfl) om om om om) ?_; rintro v H' ⟨a7, c7, rfl, hs7, rfl⟩) | (refine m_push1 [iV ((A + 0 : Nat) : Int), iV ((A + B : Nat) : Int)] 2 0 tabs (m' := fs.length) rfl rfl rfl rfl rfl rfl rfl (by rw [flatMap_length matT_length]) (by rw [flatMap_length matT_length]; omega) (by decide) rfl rfl (fun a9 c9 => ?_))
          refine c_nil (x_one (h_keep sS ?_))
          refine h_take 16 rfl kr kr kr (by exact y_assign rfl) rfl sS ?_
          refine h_end kr ?_
          repeat' (first | (show oL; first | refine sMv rfl rfl ?_ | refine sAs rfl rfl ?_ | refine sAd rfl rfl om rfl ?_) | refine xNt ?_ | (show oC; refine c_region ?_) | (show AT _ _ _ _; first | refine x_then ?_ | refine x_blk ?_))
          refine x_nx (fs ++ [(((A + 0 : Nat) : Int), ((A + B : Nat) : Int), mk (A + 0) (A + B) (blkF A A idF (fun _ _ => 0) (fun _ _ => 0)))], a9, c9) (by simp only [List.length_append, List.length_singleton]; repeat' (first | exact Sub.nil | refine Sub.cons rfl ?_ | refine Sub.consi rfl om ?_)) ⟨by simp only [List.length_append, List.length_singleton]; omega, smC_snoc hfc (by rw [mk_length]; have := Nat.mul_le_mul (show A + 0 ≤ 8 by omega) (show A + B ≤ 8 by omega); omega)⟩ (fun w' c' => ?_) (by simp only [List.length_append, List.length_singleton]; omega)
          rw [mlk_next] at c'
          simp only [List.length_append, List.length_singleton]
          exact c'.sel [0, 3, 4, 5, 6, 7, 8, 9, 10, 11, 12, 13, 14, 15, 16, 17, 18, 19, 20] rfl
        · skip
          refine AT.fact (mats_sl 0 rfl) (fun hsg => ?_)
          repeat' (first | (show oL; first | refine sMv rfl rfl ?_ | refine sFd tabs rfl rfl rfl rfl ?_ | refine sLd 8 tabs rfl rfl rfl rfl rfl ?_ | refine sLs rfl rfl rfl ?_ | refine sLn tabs rfl rfl rfl ?_) | refine xNt ?_ | (show oC; first | refine c_seq ?_ | refine c_region ?_ | refine c_exit ?_ | refine c_iff rfl nN ?_) | (show AT _ _ _ _; first | refine x_then ?_ | refine x_then_exit ?_ | refine x_blk_exit rfl ?_))
          refine c_all (Hp M' w [.blk b8 #[iV (dsL ra rb).p, iV (dsL ra rb).q.1, .slice z0 (dsL ra rb).q.2.1.length z0', .slice z1 (dsL ra rb).q.2.2.length z1', .slice z2 (dsL ra rb).d.length z2', .slice z3 (dsL ra rb).m.length z3'] 60, .blk b5 #[iV ra.p, iV ra.q.1, .slice x0 ra.q.2.1.length x0', .slice x1 ra.q.2.2.length x1', .slice x2 ra.d.length x2', .slice x3 ra.m.length x3'] 60]) kr (fun _ c => Hp.drew c) ?_
          refine h_take 0 rfl kr kr kr (by first | exact y_loadb 0 tabs rfl rfl rfl rfl | exact y_loadb 0 tabs rfl rfl rfl rfl) rfl sS ?_
          refine h_take 2 rfl kr kr kr (by exact y_move rfl) rfl sS ?_
          refine h_two 1 3 rfl rfl kr ?_ ?_
          · (refine sLb 8 tabs rfl rfl rfl rfl rfl ?_)
            refine c_nil (x_one (h_keep sS ?_))
            refine h_only 3 rfl kr ?_
            first | (refine m_storeb 18 tabs rfl rfl rfl rfl rfl rfl rfl ?_) | (refine m_storeb 17 tabs rfl rfl rfl rfl rfl rfl rfl ?_)
            refine c_nil (x_one (h_keep sS ?_))
            refine h_only 4 rfl kr ?_
            first | (refine m_storeb 18 tabs rfl rfl rfl rfl rfl rfl rfl ?_) | (refine m_storeb 17 tabs rfl rfl rfl rfl rfl rfl rfl ?_)
            refine c_nil (x_one (h_keep sS ?_))
            refine h_take 5 rfl kr kr kr (by exact y_assign rfl) rfl sS ?_
            refine h_end kr ?_
            repeat' (first | (show oC; refine c_ret ?_) | (show AT _ _ _ _; first | refine x_then ?_ | refine x_blk_ret ?_))
            refine x_midr ?_
            exact x_ret3 Tryz.results147 (res_cellb 18 tabs rfl rfl rfl rfl) (res_cellb 17 tabs rfl rfl rfl rfl) (res_tmp rfl) (fun wz cz => ⟨_, _, rfl, ⟨i, ch, _, hi, rfl, (dsL ra rb), ra, fs, _, _, af, cf, [.own (matsT 47 (dsL ra rb).m) (.slice z3 (dsL ra rb).m.length z3'), .own (iT (dsL ra rb).d) (.slice z2 (dsL ra rb).d.length z2'), .own (iT (dsL ra rb).q.2.2) (.slice z1 (dsL ra rb).q.2.2.length z1'), .own (iT (dsL ra rb).q.2.1) (.slice z0 (dsL ra rb).q.2.1.length z0')], [.own (matsT 47 ra.m) (.slice x3 ra.m.length x3'), .own (iT ra.d) (.slice x2 ra.d.length x2'), .own (iT ra.q.2.2) (.slice x1 ra.q.2.2.length x1'), .own (iT ra.q.2.1) (.slice x0 ra.q.2.1.length x0')], rfl, ⟨dsL_bnd hra.bnd, hra.bnd⟩, ⟨z0, z0', z1, z1', z2, z2', z3, z3', rfl, sz0, sz1, sz2, sz3, rfl⟩, ⟨x0, x0', x1, x1', x2, x2', x3, x3', rfl, sx0, sx1, sx2, sx3, rfl⟩, hsg, ⟨by have := hra.bnd.d; omega, hfc⟩, rfl⟩, cz.sel [6, 0, 13, 14, 15, 16, 2, 3, 4, 5] rfl⟩)
          · (refine m_storeb 18 tabs rfl rfl rfl rfl rfl rfl rfl ?_)
            refine c_nil (x_one (h_keep sS ?_))
            refine h_take 1 rfl kr kr kr (by first | exact y_loadb 1 tabs rfl rfl rfl rfl | exact y_loadb 1 tabs rfl rfl rfl rfl | exact y_loadb 1 tabs rfl rfl rfl rfl) rfl sS ?_
            refine h_only 4 rfl kr ?_
            (refine m_storeb 17 tabs rfl rfl rfl rfl rfl rfl rfl ?_)
            refine c_nil (x_one (h_keep sS ?_))
            refine h_take 5 rfl kr kr kr (by exact y_assign rfl) rfl sS ?_
            refine h_end kr ?_
            repeat' (first | (show oC; refine c_ret ?_) | (show AT _ _ _ _; first | refine x_then ?_ | refine x_blk_ret ?_))
            refine x_midr ?_
            exact x_ret3 Tryz.results147 (res_cellb 18 tabs rfl rfl rfl rfl) (res_cellb 17 tabs rfl rfl rfl rfl) (res_tmp rfl) (fun wz cz => ⟨_, _, rfl, ⟨i, ch, _, hi, rfl, (dsL ra rb), ra, fs, _, _, af, cf, [.own (matsT 47 (dsL ra rb).m) (.slice z3 (dsL ra rb).m.length z3'), .own (iT (dsL ra rb).d) (.slice z2 (dsL ra rb).d.length z2'), .own (iT (dsL ra rb).q.2.2) (.slice z1 (dsL ra rb).q.2.2.length z1'), .own (iT (dsL ra rb).q.2.1) (.slice z0 (dsL ra rb).q.2.1.length z0')], [.own (matsT 47 ra.m) (.slice x3 ra.m.length x3'), .own (iT ra.d) (.slice x2 ra.d.length x2'), .own (iT ra.q.2.2) (.slice x1 ra.q.2.2.length x1'), .own (iT ra.q.2.1) (.slice x0 ra.q.2.1.length x0')], rfl, ⟨dsL_bnd hra.bnd, hra.bnd⟩, ⟨z0, z0', z1, z1', z2, z2', z3, z3', rfl, sz0, sz1, sz2, sz3, rfl⟩, ⟨x0, x0', x1, x1', x2, x2', x3, x3', rfl, sx0, sx1, sx2, sx3, rfl⟩, hsg, ⟨by have := hra.bnd.d; omega, hfc⟩, rfl⟩, cz.sel [6, 0, 13, 14, 15, 16, 2, 3, 4, 5] rfl⟩)
    · refine x_midq sB (fun wz cz => ⟨i, ch, hi, cz.sel [5, 6, 7, 8, 9, 10, 11, 12, 13, 14, 15, 16, 17] rfl⟩)
    · refine x_midq sB (fun wz cz => ⟨i, ch, hi, cz⟩)
  · refine stay (AT.ex (fun i => AT.ex (fun ch => AT.pr (fun hi => ?_))))
    have hdm := hra.ed
    have hdi : ∀ n, 0 ≤ ra.d.getD n 0 ∧ ra.d.getD n 0 ≤ 4 := fun n => by
      rcases Nat.lt_or_ge n ra.d.length with h1 | h1
      · exact hdm.2.2.1 _ (List.mem_of_getElem? (getD_some (z := 0) h1))
      · rw [List.getD_eq_getElem?_getD, List.getElem?_eq_none h1]; exact ⟨by simp, by simp⟩
    have hd7 := hra.bnd.d
    repeat' (first | (show oL; first | refine sAs rfl rfl ?_ | (show oA (.buildSlice _ _ _); refine m_build0 tabs rfl rfl (fun g hg => ?_))) | refine xNt ?_ | (show oC; first | refine c_seq ?_ | refine c_region ?_ | refine c_block ?_))
    refine c_loopH (α := (List Mat × Option Addr × Nat) × Nat × Int) [0, 2, 3, 5, 6] (fun s => [(18, .slice s.1.2.1 s.1.1.length s.1.2.2), (19, iV s.1.1.length)]) (fun s => (s.1.1.length ≤ ra.d.length ∧ SmC s.1.1) ∧ s.2.1 ≤ vlen u) (fun s => [.own (matsT 47 s.1.1) (.slice s.1.2.1 s.1.1.length s.1.2.2), cu u b s.2.1 s.2.2, .blk b6 #[iV rb.p, iV rb.q.1, .slice y0 rb.q.2.1.length y0', .slice y1 rb.q.2.2.length y1', .slice y2 rb.d.length y2', .slice y3 rb.m.length y3'] 60, .blk b5 #[iV ra.p, iV ra.q.1, .slice x0 ra.q.2.1.length x0', .slice x1 ra.q.2.2.length x1', .slice x2 ra.d.length x2', .slice x3 ra.m.length x3'] 60, .own (matsT 47 rb.m) (.slice y3 rb.m.length y3'), .own (iT rb.d) (.slice y2 rb.d.length y2'), .own (iT rb.q.2.2) (.slice y1 rb.q.2.2.length y1'), .own (iT rb.q.2.1) (.slice y0 rb.q.2.1.length y0'), .own (matsT 47 ra.m) (.slice x3 ra.m.length x3'), .own (iT ra.d) (.slice x2 ra.d.length x2'), .own (iT ra.q.2.2) (.slice x1 ra.q.2.2.length x1'), .own (iT ra.q.2.1) (.slice x0 ra.q.2.1.length x0'), .blk b3 #[iV 0, iV 0, .slice none 0 0, .slice none 0 0, .slice none 0 0, .slice none 0 0] 60, .blk b2 #[iV 0, iV 0, .slice none 0 0, .slice none 0 0, .slice none 0 0, .slice none 0 0] 60]) (fun s => ra.d.length - s.1.1.length) (([], some ⟨g, 0, none⟩, 0), i, ch) rfl sB ?_ ?_ ?_
    · exact ⟨⟨Nat.zero_le _, by intro m hm; simp at hm⟩, hi⟩
    · exact fun w' c' => c'
    · rintro ⟨⟨fs, af, cf⟩, i, ch⟩ ⟨⟨hfl, hfc⟩, hi⟩
      simp only at hfl hfc hi ⊢
      by_cases hin : fs.length < ra.d.length
      by_cases hin2 : fs.length < rb.d.length
      · obtain ⟨A, hA⟩ : ∃ A : Nat, ra.d.getD fs.length 0 = A := ⟨(ra.d.getD fs.length 0).toNat, by have := hdi fs.length; omega⟩
        obtain ⟨N, hN⟩ : ∃ N : Nat, max 0 (min 4 (rb.d.getD fs.length 0)) = N := ⟨(max 0 (min 4 (rb.d.getD fs.length 0))).toNat, by omega⟩
        have hA4 := hdi fs.length
        repeat' (first | (show oL; first | refine sMv rfl rfl ?_ | refine sFd tabs rfl rfl rfl rfl ?_ | (show oA (.load _ _); first | refine sLd 2 tabs rfl rfl rfl rfl rfl ?_ | refine sLd 3 tabs rfl rfl rfl rfl rfl ?_) | refine sLs rfl rfl rfl ?_ | refine sLn tabs rfl rfl rfl ?_ | (show oA (.pick _ _ _); refine st_y (y_pickt rfl aO rfl) rfl ?_) | refine st_gdy rfl rfl aO ?_) | refine xNt ?_ | (show oC; first | refine c_seq ?_ | refine c_region ?_ | refine c_skip (x_then ?_) | refine c_block ?_ | refine c_ift rfl aO ?_))
        refine c_all (Hp M' w [.blk b6 #[iV rb.p, iV rb.q.1, .slice y0 rb.q.2.1.length y0', .slice y1 rb.q.2.2.length y1', .slice y2 rb.d.length y2', .slice y3 rb.m.length y3'] 60, .blk b5 #[iV ra.p, iV ra.q.1, .slice x0 ra.q.2.1.length x0', .slice x1 ra.q.2.2.length x1', .slice x2 ra.d.length x2', .slice x3 ra.m.length x3'] 60, .own (iT rb.d) (.slice y2 rb.d.length y2'), .own (iT ra.d) (.slice x2 ra.d.length x2')]) kr (fun _ c => Hp.drew c) ?_
        refine h_take 0 rfl kr kr kr (by exact y_move rfl) rfl sS ?_
        refine h_take 1 rfl kr kr kr (by exact y_move rfl) rfl sS ?_
        refine h_take 2 rfl kr kr kr (by exact y_field tabs rfl rfl rfl) rfl sS ?_
        refine h_take 3 rfl kr kr kr (by exact y_load tabs rfl rfl (hc_blk 1 rfl rfl)) rfl sS ?_
        refine h_take 4 rfl kr kr kr (by exact y_field tabs rfl rfl rfl) rfl sS ?_
        refine h_take 5 rfl kr kr kr (by exact y_load tabs rfl rfl (hc_blk 0 rfl rfl)) rfl sS ?_
        refine h_take 6 rfl kr kr kr (by exact y_move rfl) rfl sS ?_
        refine h_take 7 rfl kr kr kr (by exact y_ix1 tabs (j := fs.length) rfl rfl rfl sy2 rfl hin2) rfl sS ?_
        refine h_take 8 rfl kr kr kr (by exact y_load tabs rfl rfl (hc_own 2 rfl hin2)) rfl sS ?_
        refine h_take 9 rfl kr kr kr (by exact y_min rfl rfl) rfl sS ?_
        refine h_take 10 rfl kr kr kr (by exact y_maxn rfl rfl hN) rfl sS ?_
        refine h_take 11 rfl kr kr kr (by exact y_field tabs rfl rfl rfl) rfl sS ?_
        refine h_take 12 rfl kr kr kr (by exact y_load tabs rfl rfl (hc_blk 1 rfl rfl)) rfl sS ?_
        refine h_take 13 rfl kr kr kr (by exact y_move rfl) rfl sS ?_
        refine h_take 14 rfl kr kr kr (by exact y_ix1 tabs (j := fs.length) rfl rfl rfl sx2 rfl hin) rfl sS ?_
        refine h_take 15 rfl kr kr kr (by exact y_load tabs rfl rfl (hc_ownA 3 rfl hin hA)) rfl sS ?_
        refine h_only 16 rfl kr ?_
        first | (refine m_build1 tabs (us := [iV N, iV A, .slice ax xs.length cx]) rfl rfl rfl rfl (by decide) rfl (fun g2 hg2 => ?_)) | (refine m_callL 1 (ent_of Tryz.func239 kr rfl) rfl rfl rfl (fun w M' hl => l3Random_ok ra.p (R := N) (C := A) hl hc2 hi om om) ?_; rintro v H' ⟨i, ch, _, hi, rfl, xs, ax, cx, rfl, hx, rfl⟩) | (refine m_push1 [iV N, iV A] 1 1 tabs (m' := fs.length) rfl rfl rfl rfl rfl rfl rfl (by rw [flatMap_length matT_length]) (by rw [flatMap_length matT_length]; omega) (by decide) rfl rfl (fun a9 c9 => ?_))
        refine c_nil (x_one (h_keep sS ?_))
        refine h_only 17 rfl kr ?_
        first | (refine m_build1 tabs (us := [iV N, iV A, .slice ax xs.length cx]) rfl rfl rfl rfl (by decide) rfl (fun g2 hg2 => ?_)) | (refine m_callL 1 (ent_of Tryz.func239 kr rfl) rfl rfl rfl (fun w M' hl => l3Random_ok ra.p (R := N) (C := A) hl hc2 hi om om) ?_; rintro v H' ⟨i, ch, _, hi, rfl, xs, ax, cx, rfl, hx, rfl⟩) | (refine m_push1 [iV N, iV A] 1 1 tabs (m' := fs.length) rfl rfl rfl rfl rfl rfl rfl (by rw [flatMap_length matT_length]) (by rw [flatMap_length matT_length]; omega) (by decide) rfl rfl (fun a9 c9 => ?_))
        refine c_nil (x_one (h_keep sS ?_))
        refine h_only 18 rfl kr ?_
        first | (refine m_build1 tabs (us := [iV N, iV A, .slice ax xs.length cx]) rfl rfl rfl rfl (by decide) rfl (fun g2 hg2 => ?_)) | (refine m_callL 1 (ent_of Tryz.func239 kr rfl) rfl rfl rfl (fun w M' hl => l3Random_ok ra.p (R := N) (C := A) hl hc2 hi om om) ?_; rintro v H' ⟨i, ch, _, hi, rfl, xs, ax, cx, rfl, hx, rfl⟩) | (refine m_push1 [iV N, iV A] 1 1 tabs (m' := fs.length) rfl rfl rfl rfl rfl rfl rfl (by rw [flatMap_length matT_length]) (by rw [flatMap_length matT_length]; omega) (by decide) rfl rfl (fun a9 c9 => ?_))
        refine c_nil (x_one (h_keep sS ?_))
        refine h_take 19 rfl kr kr kr (by exact y_assign rfl) rfl sS ?_
        refine h_end kr ?_
        repeat' (first | (show oL; first | refine sMv rfl rfl ?_ | refine sAs rfl rfl ?_ | refine sAd rfl rfl om rfl ?_) | refine xNt ?_ | (show oC; refine c_region ?_) | (show AT _ _ _ _; first | refine x_then ?_ | refine x_blk ?_))
        refine x_nx ((fs ++ [((N : Int), (A : Int), xs)], a9, c9), i, ch) (by simp only [List.length_append, List.length_singleton]; repeat' (first | exact Sub.nil | refine Sub.cons rfl ?_ | refine Sub.consi rfl om ?_)) ⟨⟨by simp only [List.length_append, List.length_singleton]; omega, smC_snoc hfc (by rw [hx]; have := Nat.mul_le_mul (show N ≤ 4 by omega) (show A ≤ 4 by omega); omega)⟩, hi⟩ (fun w' c' => ?_) (by simp only [List.length_append, List.length_singleton]; omega)
        rw [mlk_next] at c'
        simp only [List.length_append, List.length_singleton]
        exact c'
      · skip
        refine AT.fact (mats_sl 0 rfl) (fun hsg => ?_)
        repeat' (first | (show oL; first | refine sMv rfl rfl ?_ | refine sFd tabs rfl rfl rfl rfl ?_ | (show oA (.load _ _); first | refine sLd 2 tabs rfl rfl rfl rfl rfl ?_ | refine sLd 3 tabs rfl rfl rfl rfl rfl ?_) | refine sLs rfl rfl rfl ?_ | refine sLn tabs rfl rfl rfl ?_ | (show oA (.pick _ _ _); refine st_y (y_pickt rfl aO rfl) rfl ?_) | refine st_gdy rfl rfl aO ?_) | refine xNt ?_ | (show oC; first | refine c_seq ?_ | refine c_region ?_ | refine c_exit ?_ | refine c_iff rfl nN ?_) | (show AT _ _ _ _; first | refine x_then ?_ | refine x_then_exit ?_ | refine x_blk_exit rfl ?_))
        refine c_all (Hp M' w [.blk b6 #[iV rb.p, iV rb.q.1, .slice y0 rb.q.2.1.length y0', .slice y1 rb.q.2.2.length y1', .slice y2 rb.d.length y2', .slice y3 rb.m.length y3'] 60, .blk b5 #[iV ra.p, iV ra.q.1, .slice x0 ra.q.2.1.length x0', .slice x1 ra.q.2.2.length x1', .slice x2 ra.d.length x2', .slice x3 ra.m.length x3'] 60]) kr (fun _ c => Hp.drew c) ?_
        refine h_take 0 rfl kr kr kr (by first | exact y_loadb 1 tabs rfl rfl rfl rfl | exact y_loadb 1 tabs rfl rfl rfl rfl) rfl sS ?_
        refine h_take 2 rfl kr kr kr (by exact y_move rfl) rfl sS ?_
        refine h_two 1 3 rfl rfl kr ?_ ?_
        · (refine sLb 2 tabs rfl rfl rfl rfl rfl ?_)
          refine c_nil (x_one (h_keep sS ?_))
          refine h_only 3 rfl kr ?_
          first | (refine m_storeb 13 tabs rfl rfl rfl rfl rfl rfl rfl ?_) | (refine m_storeb 12 tabs rfl rfl rfl rfl rfl rfl rfl ?_)
          refine c_nil (x_one (h_keep sS ?_))
          refine h_only 4 rfl kr ?_
          first | (refine m_storeb 13 tabs rfl rfl rfl rfl rfl rfl rfl ?_) | (refine m_storeb 12 tabs rfl rfl rfl rfl rfl rfl rfl ?_)
          refine c_nil (x_one (h_keep sS ?_))
          refine h_take 5 rfl kr kr kr (by exact y_assign rfl) rfl sS ?_
          refine h_end kr ?_
          repeat' (first | (show oC; refine c_ret ?_) | (show AT _ _ _ _; refine x_then ?_))
          exact x_ret3 Tryz.results147 (res_cellb 13 tabs rfl rfl rfl rfl) (res_cellb 12 tabs rfl rfl rfl rfl) (res_tmp rfl) (fun wz cz => ⟨_, _, rfl, ⟨i, ch, _, hi, rfl, ra, rb, fs, _, _, af, cf, [.own (matsT 47 ra.m) (.slice x3 ra.m.length x3'), .own (iT ra.d) (.slice x2 ra.d.length x2'), .own (iT ra.q.2.2) (.slice x1 ra.q.2.2.length x1'), .own (iT ra.q.2.1) (.slice x0 ra.q.2.1.length x0')], [.own (matsT 47 rb.m) (.slice y3 rb.m.length y3'), .own (iT rb.d) (.slice y2 rb.d.length y2'), .own (iT rb.q.2.2) (.slice y1 rb.q.2.2.length y1'), .own (iT rb.q.2.1) (.slice y0 rb.q.2.1.length y0')], rfl, ⟨hra.bnd, hrb⟩, ⟨x0, x0', x1, x1', x2, x2', x3, x3', rfl, sx0, sx1, sx2, sx3, rfl⟩, ⟨y0, y0', y1, y1', y2, y2', y3, y3', rfl, sy0, sy1, sy2, sy3, rfl⟩, hsg, ⟨by have := hra.bnd.d; omega, hfc⟩, rfl⟩, cz.sel [1, 0, 4, 5, 6, 7, 8, 9, 10, 11] rfl⟩)
        · (refine m_storeb 13 tabs rfl rfl rfl rfl rfl rfl rfl ?_)
          refine c_nil (x_one (h_keep sS ?_))
          refine h_take 1 rfl kr kr kr (by first | exact y_loadb 0 tabs rfl rfl rfl rfl | exact y_loadb 0 tabs rfl rfl rfl rfl) rfl sS ?_
          refine h_only 4 rfl kr ?_
          (refine m_storeb 12 tabs rfl rfl rfl rfl rfl rfl rfl ?_)
          refine c_nil (x_one (h_keep sS ?_))
          refine h_take 5 rfl kr kr kr (by exact y_assign rfl) rfl sS ?_
          refine h_end kr ?_
          repeat' (first | (show oC; refine c_ret ?_) | (show AT _ _ _ _; refine x_then ?_))
          exact x_ret3 Tryz.results147 (res_cellb 13 tabs rfl rfl rfl rfl) (res_cellb 12 tabs rfl rfl rfl rfl) (res_tmp rfl) (fun wz cz => ⟨_, _, rfl, ⟨i, ch, _, hi, rfl, ra, rb, fs, _, _, af, cf, [.own (matsT 47 ra.m) (.slice x3 ra.m.length x3'), .own (iT ra.d) (.slice x2 ra.d.length x2'), .own (iT ra.q.2.2) (.slice x1 ra.q.2.2.length x1'), .own (iT ra.q.2.1) (.slice x0 ra.q.2.1.length x0')], [.own (matsT 47 rb.m) (.slice y3 rb.m.length y3'), .own (iT rb.d) (.slice y2 rb.d.length y2'), .own (iT rb.q.2.2) (.slice y1 rb.q.2.2.length y1'), .own (iT rb.q.2.1) (.slice y0 rb.q.2.1.length y0')], rfl, ⟨hra.bnd, hrb⟩, ⟨x0, x0', x1, x1', x2, x2', x3, x3', rfl, sx0, sx1, sx2, sx3, rfl⟩, ⟨y0, y0', y1, y1', y2, y2', y3, y3', rfl, sy0, sy1, sy2, sy3, rfl⟩, hsg, ⟨by have := hra.bnd.d; omega, hfc⟩, rfl⟩, cz.sel [1, 0, 4, 5, 6, 7, 8, 9, 10, 11] rfl⟩)
      · skip
        refine AT.fact (mats_sl 0 rfl) (fun hsg => ?_)
        repeat' (first | (show oL; first | refine sMv rfl rfl ?_ | refine sFd tabs rfl rfl rfl rfl ?_ | refine sLd 3 tabs rfl rfl rfl rfl rfl ?_ | refine sLs rfl rfl rfl ?_ | refine sLn tabs rfl rfl rfl ?_ | (show oA (.pick _ _ _); refine st_y (y_pickf rfl aO rfl) rfl ?_) | refine st_gdn rfl rfl aO rfl ?_) | refine xNt ?_ | (show oC; first | refine c_seq ?_ | refine c_region ?_ | refine c_exit ?_ | refine c_false rfl ?_) | (show AT _ _ _ _; first | refine x_then ?_ | refine x_then_exit ?_ | refine x_blk_exit rfl ?_))
        refine c_all (Hp M' w [.blk b6 #[iV rb.p, iV rb.q.1, .slice y0 rb.q.2.1.length y0', .slice y1 rb.q.2.2.length y1', .slice y2 rb.d.length y2', .slice y3 rb.m.length y3'] 60, .blk b5 #[iV ra.p, iV ra.q.1, .slice x0 ra.q.2.1.length x0', .slice x1 ra.q.2.2.length x1', .slice x2 ra.d.length x2', .slice x3 ra.m.length x3'] 60]) kr (fun _ c => Hp.drew c) ?_
        refine h_take 0 rfl kr kr kr (by first | exact y_loadb 1 tabs rfl rfl rfl rfl | exact y_loadb 1 tabs rfl rfl rfl rfl) rfl sS ?_
        refine h_take 2 rfl kr kr kr (by exact y_move rfl) rfl sS ?_
        refine h_two 1 3 rfl rfl kr ?_ ?_
        · (refine sLb 2 tabs rfl rfl rfl rfl rfl ?_)
          refine c_nil (x_one (h_keep sS ?_))
          refine h_only 3 rfl kr ?_
          first | (refine m_storeb 13 tabs rfl rfl rfl rfl rfl rfl rfl ?_) | (refine m_storeb 12 tabs rfl rfl rfl rfl rfl rfl rfl ?_)
          refine c_nil (x_one (h_keep sS ?_))
          refine h_only 4 rfl kr ?_
          first | (refine m_storeb 13 tabs rfl rfl rfl rfl rfl rfl rfl ?_) | (refine m_storeb 12 tabs rfl rfl rfl rfl rfl rfl rfl ?_)
          refine c_nil (x_one (h_keep sS ?_))
          refine h_take 5 rfl kr kr kr (by exact y_assign rfl) rfl sS ?_
          refine h_end kr ?_
          repeat' (first | (show oC; refine c_ret ?_) | (show AT _ _ _ _; refine x_then ?_))
          exact x_ret3 Tryz.results147 (res_cellb 13 tabs rfl rfl rfl rfl) (res_cellb 12 tabs rfl rfl rfl rfl) (res_tmp rfl) (fun wz cz => ⟨_, _, rfl, ⟨i, ch, _, hi, rfl, ra, rb, fs, _, _, af, cf, [.own (matsT 47 ra.m) (.slice x3 ra.m.length x3'), .own (iT ra.d) (.slice x2 ra.d.length x2'), .own (iT ra.q.2.2) (.slice x1 ra.q.2.2.length x1'), .own (iT ra.q.2.1) (.slice x0 ra.q.2.1.length x0')], [.own (matsT 47 rb.m) (.slice y3 rb.m.length y3'), .own (iT rb.d) (.slice y2 rb.d.length y2'), .own (iT rb.q.2.2) (.slice y1 rb.q.2.2.length y1'), .own (iT rb.q.2.1) (.slice y0 rb.q.2.1.length y0')], rfl, ⟨hra.bnd, hrb⟩, ⟨x0, x0', x1, x1', x2, x2', x3, x3', rfl, sx0, sx1, sx2, sx3, rfl⟩, ⟨y0, y0', y1, y1', y2, y2', y3, y3', rfl, sy0, sy1, sy2, sy3, rfl⟩, hsg, ⟨by have := hra.bnd.d; omega, hfc⟩, rfl⟩, cz.sel [1, 0, 4, 5, 6, 7, 8, 9, 10, 11] rfl⟩)
        · (refine m_storeb 13 tabs rfl rfl rfl rfl rfl rfl rfl ?_)
          refine c_nil (x_one (h_keep sS ?_))
          refine h_take 1 rfl kr kr kr (by first | exact y_loadb 0 tabs rfl rfl rfl rfl | exact y_loadb 0 tabs rfl rfl rfl rfl) rfl sS ?_
          refine h_only 4 rfl kr ?_
          (refine m_storeb 12 tabs rfl rfl rfl rfl rfl rfl rfl ?_)
          refine c_nil (x_one (h_keep sS ?_))
          refine h_take 5 rfl kr kr kr (by exact y_assign rfl) rfl sS ?_
          refine h_end kr ?_
          repeat' (first | (show oC; refine c_ret ?_) | (show AT _ _ _ _; refine x_then ?_))
          exact x_ret3 Tryz.results147 (res_cellb 13 tabs rfl rfl rfl rfl) (res_cellb 12 tabs rfl rfl rfl rfl) (res_tmp rfl) (fun wz cz => ⟨_, _, rfl, ⟨i, ch, _, hi, rfl, ra, rb, fs, _, _, af, cf, [.own (matsT 47 ra.m) (.slice x3 ra.m.length x3'), .own (iT ra.d) (.slice x2 ra.d.length x2'), .own (iT ra.q.2.2) (.slice x1 ra.q.2.2.length x1'), .own (iT ra.q.2.1) (.slice x0 ra.q.2.1.length x0')], [.own (matsT 47 rb.m) (.slice y3 rb.m.length y3'), .own (iT rb.d) (.slice y2 rb.d.length y2'), .own (iT rb.q.2.2) (.slice y1 rb.q.2.2.length y1'), .own (iT rb.q.2.1) (.slice y0 rb.q.2.1.length y0')], rfl, ⟨hra.bnd, hrb⟩, ⟨x0, x0', x1, x1', x2, x2', x3, x3', rfl, sx0, sx1, sx2, sx3, rfl⟩, ⟨y0, y0', y1, y1', y2, y2', y3, y3', rfl, sy0, sy1, sy2, sy3, rfl⟩, hsg, ⟨by have := hra.bnd.d; omega, hfc⟩, rfl⟩, cz.sel [1, 0, 4, 5, 6, 7, 8, 9, 10, 11] rfl⟩)
end Go.Proofs.YtijjkfbkihgfgaaGreat

namespace Go.Proofs.YtijjkfbkihgfgaaGreat
open Go.Lg Go.Proofs Go.RowKit
attribute [local irreducible] Code.wp wpList bodyPost Exit.then Exit.inBlock Hp Again Calls Y AT ResV QT Qn QI wpAny wpAnyQ
set_option maxRecDepth 20000
set_option maxHeartbeats 4000000

structure RdR (w : World) (r : Rp) (x0 : Option Addr) (x0' : Nat) (x1 : Option Addr) (x1' : Nat) (x2 : Option Addr) (x2' : Nat) (x3 : Option Addr) (x3' : Nat) : Prop where
  r0 : Rd w (iT r.q.2.1) (.slice x0 r.q.2.1.length x0')
  r1 : Rd w (iT r.q.2.2) (.slice x1 r.q.2.2.length x1')
  r2 : Rd w (iT r.d) (.slice x2 r.d.length x2')
  r3 : Rd w (matsT 47 r.m) (.slice x3 r.m.length x3')
theorem hp_rr {w0 w : World} {H : List HE} (c : Hp [] w0 H w) {r : Rp} {x0 x1 x2 x3 : Option Addr} {x0' x1' x2' x3' : Nat} (h : RdR w0 r x0 x0' x1 x1' x2 x2' x3 x3') : RdR w r x0 x0' x1 x1' x2 x2' x3 x3' := ⟨c.rd h.r0, c.rd h.r1, c.rd h.r2, c.rd h.r3⟩
theorem rr_own (i : Nat) {w0 w : World} {H : List HE} (c : Hp [] w0 H w) {r : Rp} {x0 x1 x2 x3 : Option Addr} {x0' x1' x2' x3' : Nat} (h3 : H[i]? = some (.own (matsT 47 r.m) (.slice x3 r.m.length x3'))) (h2 : H[i + 1]? = some (.own (iT r.d) (.slice x2 r.d.length x2'))) (h1 : H[i + 2]? = some (.own (iT r.q.2.2) (.slice x1 r.q.2.2.length x1'))) (h0 : H[i + 3]? = some (.own (iT r.q.2.1) (.slice x0 r.q.2.1.length x0'))) : RdR w r x0 x0' x1 x1' x2 x2' x3 x3' := ⟨c.own_rd h0, c.own_rd h1, c.own_rd h2, c.own_rd h3⟩
theorem l10Draw_ok {w : World} {u : Value} (hc : CodeF w [] u) : Does Tryz.prog 157 [u] w GivesTr := by
  have tok0 : True := trivial
  have tok1 : True := trivial
  have tok2 : True := trivial
  refine fn_enter Tryz.func157 rfl Tryz.ntmps157 rfl ?_
  repeat' (first | (show oL; first | refine sMv rfl rfl ?_ | refine sAs rfl rfl ?_ | (show oA (.call _); first | (refine m_call (ent_of Tryz.func118 kr rfl) rfl rfl (fun w c => l1New_ok (hp_code c hc)) ?_; rintro v H' ⟨b, ch, rfl, rfl⟩) | (refine m_callL 0 (ent_of Tryz.func147 kr rfl) rfl rfl rfl (fun w M' hl => l10Three_ok hl hc (Nat.zero_le _)) ?_; rintro v H' ⟨i, ch, _, hi, rfl, ra, rb, fs, _, _, af, cf, _, _, rfl, ⟨hA, hB⟩, ⟨x0, x0', x1, x1', x2, x2', x3, x3', rfl, sx0, sx1, sx2, sx3, rfl⟩, ⟨y0, y0', y1, y1', y2, y2', y3, y3', rfl, sy0, sy1, sy2, sy3, rfl⟩, hsf, hfb, rfl⟩)) | (show oA (.extract _ _); refine st_y (y_ext rfl rfl) rfl ?_) | (show oA (.store _ _ _); first | refine m_storeb 0 tabs rfl rfl rfl rfl rfl rfl rfl ?_ | refine m_storeb 1 tabs rfl rfl rfl rfl rfl rfl rfl ?_) | (show oA (.alloc _); first | (have _t := tok0; refine m_alloc tabs rfl rfl (fun b2 hb2 => ?_); clear _t tok0) | (have _t := tok1; refine m_alloc tabs rfl rfl (fun b3 hb3 => ?_); clear _t tok1) | (have _t := tok2; refine m_alloc tabs rfl rfl (fun b5 hb5 => ?_); clear _t tok2) | refine m_alloc tabs rfl rfl (fun b6 hb6 => ?_))) | refine xNt ?_ | (show oC; first | refine c_seq ?_ | refine c_region ?_))
  refine c_all (Hp [] w [.blk b6 #[iV rb.p, iV rb.q.1, .slice y0 rb.q.2.1.length y0', .slice y1 rb.q.2.2.length y1', .slice y2 rb.d.length y2', .slice y3 rb.m.length y3'] 60, .blk b5 #[iV ra.p, iV ra.q.1, .slice x0 ra.q.2.1.length x0', .slice x1 ra.q.2.2.length x1', .slice x2 ra.d.length x2', .slice x3 ra.m.length x3'] 60]) kr (fun _ c => Hp.drew c) ?_
  refine h_take 0 rfl kr kr kr (by first | exact y_loadb 1 tabs rfl rfl rfl rfl | exact y_loadb 1 tabs rfl rfl rfl rfl) rfl sS ?_
  refine h_take 1 rfl kr kr kr (by first | exact y_loadb 0 tabs rfl rfl rfl rfl | exact y_loadb 0 tabs rfl rfl rfl rfl) rfl sS ?_
  refine h_take 2 rfl kr kr kr (by exact y_move rfl) rfl sS ?_
  refine h_only 3 rfl kr ?_
  first | (refine m_storeb 13 tabs rfl rfl rfl rfl rfl rfl rfl ?_) | (refine m_storeb 12 tabs rfl rfl rfl rfl rfl rfl rfl ?_)
  refine c_nil (x_one (h_keep sS ?_))
  refine h_only 4 rfl kr ?_
  first | (refine m_storeb 13 tabs rfl rfl rfl rfl rfl rfl rfl ?_) | (refine m_storeb 12 tabs rfl rfl rfl rfl rfl rfl rfl ?_)
  refine c_nil (x_one (h_keep sS ?_))
  refine h_take 5 rfl kr kr kr (by exact y_assign rfl) rfl sS ?_
  refine h_end kr ?_
  repeat' (first | (show oC; refine c_ret ?_) | (show AT _ _ _ _; refine x_then ?_))
  exact x_ret3 Tryz.results157 (res_cellb 13 tabs rfl rfl rfl rfl) (res_cellb 12 tabs rfl rfl rfl rfl) (res_tmp rfl) (fun wz cz => ⟨_, _, rfl, ⟨ra, rb, fs, _, _, af, cf, [.own (matsT 47 ra.m) (.slice x3 ra.m.length x3'), .own (iT ra.d) (.slice x2 ra.d.length x2'), .own (iT ra.q.2.2) (.slice x1 ra.q.2.2.length x1'), .own (iT ra.q.2.1) (.slice x0 ra.q.2.1.length x0')], [.own (matsT 47 rb.m) (.slice y3 rb.m.length y3'), .own (iT rb.d) (.slice y2 rb.d.length y2'), .own (iT rb.q.2.2) (.slice y1 rb.q.2.2.length y1'), .own (iT rb.q.2.1) (.slice y0 rb.q.2.1.length y0')], rfl, ⟨hA, hB⟩, ⟨x0, x0', x1, x1', x2, x2', x3, x3', rfl, sx0, sx1, sx2, sx3, rfl⟩, ⟨y0, y0', y1, y1', y2, y2', y3, y3', rfl, sy0, sy1, sy2, sy3, rfl⟩, hsf, hfb, rfl⟩, cz.sel [3, 4, 5, 6, 7, 8, 9, 10, 11] rfl⟩)
end Go.Proofs.YtijjkfbkihgfgaaGreat

namespace Go.Proofs.YtijjkfbkihgfgaaGreat
open Go.Lg Go.Proofs Go.RowKit
attribute [local irreducible] Code.wp wpList bodyPost Exit.then Exit.inBlock Hp Again Calls Y AT ResV QT Qn QI wpAny wpAnyQ
set_option maxRecDepth 20000
set_option maxHeartbeats 4000000

theorem l11Pair_ok {w : World} {u : Value} (hc : CodeF w [] u) : Does Tryz.prog 200 [u] w (GivesPr PairR) := by
  have tok0 : True := trivial
  have tok1 : True := trivial
  have tok2 : True := trivial
  refine fn_enter Tryz.func200 rfl Tryz.ntmps200 rfl ?_
  repeat' (first | (show oL; first | refine sMv rfl rfl ?_ | (show oA (.call _); first | (refine m_call (ent_of Tryz.func118 kr rfl) rfl rfl (fun w c => l1New_ok (hp_code c hc)) ?_; rintro v H' ⟨b, ch, rfl, rfl⟩) | (refine m_callL 0 (ent_of Tryz.func170 kr rfl) rfl rfl rfl (fun w M' hl => l9Pair_ok hl hc (Nat.zero_le _)) ?_; rintro v H' ⟨i, ch, _, hi, rfl, ra, rb, _, _, _, _, rfl, hP, ⟨x0, x0', x1, x1', x2, x2', x3, x3', rfl, sx0, sx1, sx2, sx3, rfl⟩, ⟨y0, y0', y1, y1', y2, y2', y3, y3', rfl, sy0, sy1, sy2, sy3, rfl⟩, rfl⟩)) | (show oA (.extract _ _); refine st_y (y_ext rfl rfl) rfl ?_) | (show oA (.store _ _ _); first | refine m_storeb 0 tabs rfl rfl rfl rfl rfl rfl rfl ?_ | refine m_storeb 1 tabs rfl rfl rfl rfl rfl rfl rfl ?_) | (show oA (.alloc _); first | (have _t := tok0; refine m_alloc tabs rfl rfl (fun b2 hb2 => ?_); clear _t tok0) | (have _t := tok1; refine m_alloc tabs rfl rfl (fun b3 hb3 => ?_); clear _t tok1) | (have _t := tok2; refine m_alloc tabs rfl rfl (fun b5 hb5 => ?_); clear _t tok2) | refine m_alloc tabs rfl rfl (fun b6 hb6 => ?_))) | refine xNt ?_ | (show oC; first | refine c_seq ?_ | refine c_region ?_))
  refine c_all (Hp [] w [.blk b6 #[iV rb.p, iV rb.q.1, .slice y0 rb.q.2.1.length y0', .slice y1 rb.q.2.2.length y1', .slice y2 rb.d.length y2', .slice y3 rb.m.length y3'] 60, .blk b5 #[iV ra.p, iV ra.q.1, .slice x0 ra.q.2.1.length x0', .slice x1 ra.q.2.2.length x1', .slice x2 ra.d.length x2', .slice x3 ra.m.length x3'] 60]) kr (fun _ c => Hp.drew c) ?_
  refine h_take 0 rfl kr kr kr (by first | exact y_loadb 1 tabs rfl rfl rfl rfl | exact y_loadb 1 tabs rfl rfl rfl rfl) rfl sS ?_
  refine h_take 1 rfl kr kr kr (by first | exact y_loadb 0 tabs rfl rfl rfl rfl | exact y_loadb 0 tabs rfl rfl rfl rfl) rfl sS ?_
  refine h_only 2 rfl kr ?_
  first | (refine m_storeb 12 tabs rfl rfl rfl rfl rfl rfl rfl ?_) | (refine m_storeb 11 tabs rfl rfl rfl rfl rfl rfl rfl ?_)
  refine c_nil (x_one (h_keep sS ?_))
  refine h_only 3 rfl kr ?_
  first | (refine m_storeb 12 tabs rfl rfl rfl rfl rfl rfl rfl ?_) | (refine m_storeb 11 tabs rfl rfl rfl rfl rfl rfl rfl ?_)
  refine c_nil (x_one (h_keep sS ?_))
  refine h_end kr ?_
  repeat' (first | (show oC; refine c_ret ?_) | (show AT _ _ _ _; refine x_then ?_))
  exact x_ret2 Tryz.results200 (res_cellb 12 tabs rfl rfl rfl rfl) (res_cellb 11 tabs rfl rfl rfl rfl) (fun wz cz => ⟨_, _, rfl, ⟨ra, rb, _, _, [.own (matsT 47 ra.m) (.slice x3 ra.m.length x3'), .own (iT ra.d) (.slice x2 ra.d.length x2'), .own (iT ra.q.2.2) (.slice x1 ra.q.2.2.length x1'), .own (iT ra.q.2.1) (.slice x0 ra.q.2.1.length x0')], [.own (matsT 47 rb.m) (.slice y3 rb.m.length y3'), .own (iT rb.d) (.slice y2 rb.d.length y2'), .own (iT rb.q.2.2) (.slice y1 rb.q.2.2.length y1'), .own (iT rb.q.2.1) (.slice y0 rb.q.2.1.length y0')], rfl, hP, ⟨x0, x0', x1, x1', x2, x2', x3, x3', rfl, sx0, sx1, sx2, sx3, rfl⟩, ⟨y0, y0', y1, y1', y2, y2', y3, y3', rfl, sy0, sy1, sy2, sy3, rfl⟩, rfl⟩, cz.sel [3, 4, 5, 6, 7, 8, 9, 10] rfl⟩)
theorem DrawHomBasis_ok {w : World} {u : Value} (hc : CodeF w [] u) : Does Tryz.prog 85 [u] w (GivesPr PairR) := by
  have tok0 : True := trivial
  have tok1 : True := trivial
  have tok2 : True := trivial
  refine fn_enter Tryz.func85 rfl Tryz.ntmps85 rfl ?_
  repeat' (first | (show oL; first | refine sMv rfl rfl ?_ | (show oA (.call _); (refine m_call (ent_of Tryz.func200 kr rfl) rfl rfl (fun w c => l11Pair_ok (hp_code c hc)) ?_; rintro v H' ⟨ra, rb, _, _, _, _, rfl, hP, ⟨x0, x0', x1, x1', x2, x2', x3, x3', rfl, sx0, sx1, sx2, sx3, rfl⟩, ⟨y0, y0', y1, y1', y2, y2', y3, y3', rfl, sy0, sy1, sy2, sy3, rfl⟩, rfl⟩)) | (show oA (.extract _ _); refine st_y (y_ext rfl rfl) rfl ?_) | (show oA (.store _ _ _); first | refine m_storeb 0 tabs rfl rfl rfl rfl rfl rfl rfl ?_ | refine m_storeb 1 tabs rfl rfl rfl rfl rfl rfl rfl ?_) | (show oA (.alloc _); first | (have _t := tok0; refine m_alloc tabs rfl rfl (fun b2 hb2 => ?_); clear _t tok0) | (have _t := tok1; refine m_alloc tabs rfl rfl (fun b3 hb3 => ?_); clear _t tok1) | (have _t := tok2; refine m_alloc tabs rfl rfl (fun b5 hb5 => ?_); clear _t tok2) | refine m_alloc tabs rfl rfl (fun b6 hb6 => ?_))) | refine xNt ?_ | (show oC; first | refine c_seq ?_ | refine c_region ?_))
  refine c_all (Hp [] w [.blk b6 #[iV rb.p, iV rb.q.1, .slice y0 rb.q.2.1.length y0', .slice y1 rb.q.2.2.length y1', .slice y2 rb.d.length y2', .slice y3 rb.m.length y3'] 60, .blk b5 #[iV ra.p, iV ra.q.1, .slice x0 ra.q.2.1.length x0', .slice x1 ra.q.2.2.length x1', .slice x2 ra.d.length x2', .slice x3 ra.m.length x3'] 60]) kr (fun _ c => Hp.drew c) ?_
  refine h_take 0 rfl kr kr kr (by first | exact y_loadb 1 tabs rfl rfl rfl rfl | exact y_loadb 1 tabs rfl rfl rfl rfl) rfl sS ?_
  refine h_take 1 rfl kr kr kr (by first | exact y_loadb 0 tabs rfl rfl rfl rfl | exact y_loadb 0 tabs rfl rfl rfl rfl) rfl sS ?_
  refine h_only 2 rfl kr ?_
  first | (refine m_storeb 11 tabs rfl rfl rfl rfl rfl rfl rfl ?_) | (refine m_storeb 10 tabs rfl rfl rfl rfl rfl rfl rfl ?_)
  refine c_nil (x_one (h_keep sS ?_))
  refine h_only 3 rfl kr ?_
  first | (refine m_storeb 11 tabs rfl rfl rfl rfl rfl rfl rfl ?_) | (refine m_storeb 10 tabs rfl rfl rfl rfl rfl rfl rfl ?_)
  refine c_nil (x_one (h_keep sS ?_))
  refine h_end kr ?_
  repeat' (first | (show oC; refine c_ret ?_) | (show AT _ _ _ _; refine x_then ?_))
  exact x_ret2 Tryz.results85 (res_cellb 11 tabs rfl rfl rfl rfl) (res_cellb 10 tabs rfl rfl rfl rfl) (fun wz cz => ⟨_, _, rfl, ⟨ra, rb, _, _, [.own (matsT 47 ra.m) (.slice x3 ra.m.length x3'), .own (iT ra.d) (.slice x2 ra.d.length x2'), .own (iT ra.q.2.2) (.slice x1 ra.q.2.2.length x1'), .own (iT ra.q.2.1) (.slice x0 ra.q.2.1.length x0')], [.own (matsT 47 rb.m) (.slice y3 rb.m.length y3'), .own (iT rb.d) (.slice y2 rb.d.length y2'), .own (iT rb.q.2.2) (.slice y1 rb.q.2.2.length y1'), .own (iT rb.q.2.1) (.slice y0 rb.q.2.1.length y0')], rfl, hP, ⟨x0, x0', x1, x1', x2, x2', x3, x3', rfl, sx0, sx1, sx2, sx3, rfl⟩, ⟨y0, y0', y1, y1', y2, y2', y3, y3', rfl, sy0, sy1, sy2, sy3, rfl⟩, rfl⟩, cz.sel [2, 3, 4, 5, 6, 7, 8, 9] rfl⟩)
theorem DrawFindMorphism_ok {w : World} {u : Value} (hc : CodeF w [] u) : Does Tryz.prog 101 [u] w (GivesPr PairR) := by
  have tok0 : True := trivial
  have tok1 : True := trivial
  have tok2 : True := trivial
  refine fn_enter Tryz.func101 rfl Tryz.ntmps101 rfl ?_
  repeat' (first | (show oL; first | refine sMv rfl rfl ?_ | (show oA (.call _); (refine m_call (ent_of Tryz.func200 kr rfl) rfl rfl (fun w c => l11Pair_ok (hp_code c hc)) ?_; rintro v H' ⟨ra, rb, _, _, _, _, rfl, hP, ⟨x0, x0', x1, x1', x2, x2', x3, x3', rfl, sx0, sx1, sx2, sx3, rfl⟩, ⟨y0, y0', y1, y1', y2, y2', y3, y3', rfl, sy0, sy1, sy2, sy3, rfl⟩, rfl⟩)) | (show oA (.extract _ _); refine st_y (y_ext rfl rfl) rfl ?_) | (show oA (.store _ _ _); first | refine m_storeb 0 tabs rfl rfl rfl rfl rfl rfl rfl ?_ | refine m_storeb 1 tabs rfl rfl rfl rfl rfl rfl rfl ?_) | (show oA (.alloc _); first | (have _t := tok0; refine m_alloc tabs rfl rfl (fun b2 hb2 => ?_); clear _t tok0) | (have _t := tok1; refine m_alloc tabs rfl rfl (fun b3 hb3 => ?_); clear _t tok1) | (have _t := tok2; refine m_alloc tabs rfl rfl (fun b5 hb5 => ?_); clear _t tok2) | refine m_alloc tabs rfl rfl (fun b6 hb6 => ?_))) | refine xNt ?_ | (show oC; first | refine c_seq ?_ | refine c_region ?_))
  refine c_all (Hp [] w [.blk b6 #[iV rb.p, iV rb.q.1, .slice y0 rb.q.2.1.length y0', .slice y1 rb.q.2.2.length y1', .slice y2 rb.d.length y2', .slice y3 rb.m.length y3'] 60, .blk b5 #[iV ra.p, iV ra.q.1, .slice x0 ra.q.2.1.length x0', .slice x1 ra.q.2.2.length x1', .slice x2 ra.d.length x2', .slice x3 ra.m.length x3'] 60]) kr (fun _ c => Hp.drew c) ?_
  refine h_take 0 rfl kr kr kr (by first | exact y_loadb 1 tabs rfl rfl rfl rfl | exact y_loadb 1 tabs rfl rfl rfl rfl) rfl sS ?_
  refine h_take 1 rfl kr kr kr (by first | exact y_loadb 0 tabs rfl rfl rfl rfl | exact y_loadb 0 tabs rfl rfl rfl rfl) rfl sS ?_
  refine h_only 2 rfl kr ?_
  first | (refine m_storeb 11 tabs rfl rfl rfl rfl rfl rfl rfl ?_) | (refine m_storeb 10 tabs rfl rfl rfl rfl rfl rfl rfl ?_)
  refine c_nil (x_one (h_keep sS ?_))
  refine h_only 3 rfl kr ?_
  first | (refine m_storeb 11 tabs rfl rfl rfl rfl rfl rfl rfl ?_) | (refine m_storeb 10 tabs rfl rfl rfl rfl rfl rfl rfl ?_)
  refine c_nil (x_one (h_keep sS ?_))
  refine h_end kr ?_
  repeat' (first | (show oC; refine c_ret ?_) | (show AT _ _ _ _; refine x_then ?_))
  exact x_ret2 Tryz.results101 (res_cellb 11 tabs rfl rfl rfl rfl) (res_cellb 10 tabs rfl rfl rfl rfl) (fun wz cz => ⟨_, _, rfl, ⟨ra, rb, _, _, [.own (matsT 47 ra.m) (.slice x3 ra.m.length x3'), .own (iT ra.d) (.slice x2 ra.d.length x2'), .own (iT ra.q.2.2) (.slice x1 ra.q.2.2.length x1'), .own (iT ra.q.2.1) (.slice x0 ra.q.2.1.length x0')], [.own (matsT 47 rb.m) (.slice y3 rb.m.length y3'), .own (iT rb.d) (.slice y2 rb.d.length y2'), .own (iT rb.q.2.2) (.slice y1 rb.q.2.2.length y1'), .own (iT rb.q.2.1) (.slice y0 rb.q.2.1.length y0')], rfl, hP, ⟨x0, x0', x1, x1', x2, x2', x3, x3', rfl, sx0, sx1, sx2, sx3, rfl⟩, ⟨y0, y0', y1, y1', y2, y2', y3, y3', rfl, sy0, sy1, sy2, sy3, rfl⟩, rfl⟩, cz.sel [2, 3, 4, 5, 6, 7, 8, 9] rfl⟩)
theorem DrawCoordinatesOf_ok {w : World} {u : Value} (hc : CodeF w [] u) : Does Tryz.prog 91 [u] w GivesTr := by
  have tok0 : True := trivial
  have tok1 : True := trivial
  have tok2 : True := trivial
  refine fn_enter Tryz.func91 rfl Tryz.ntmps91 rfl ?_
  repeat' (first | (show oL; first | refine sMv rfl rfl ?_ | refine sAs rfl rfl ?_ | (show oA (.call _); (refine m_call (ent_of Tryz.func157 kr rfl) rfl rfl (fun w c => l10Draw_ok (hp_code c hc)) ?_; rintro v H' ⟨ra, rb, fs, _, _, af, cf, _, _, rfl, ⟨hA, hB⟩, ⟨x0, x0', x1, x1', x2, x2', x3, x3', rfl, sx0, sx1, sx2, sx3, rfl⟩, ⟨y0, y0', y1, y1', y2, y2', y3, y3', rfl, sy0, sy1, sy2, sy3, rfl⟩, hsf, hfb, rfl⟩)) | (show oA (.extract _ _); refine st_y (y_ext rfl rfl) rfl ?_) | (show oA (.store _ _ _); first | refine m_storeb 0 tabs rfl rfl rfl rfl rfl rfl rfl ?_ | refine m_storeb 1 tabs rfl rfl rfl rfl rfl rfl rfl ?_) | (show oA (.alloc _); first | (have _t := tok0; refine m_alloc tabs rfl rfl (fun b2 hb2 => ?_); clear _t tok0) | (have _t := tok1; refine m_alloc tabs rfl rfl (fun b3 hb3 => ?_); clear _t tok1) | (have _t := tok2; refine m_alloc tabs rfl rfl (fun b5 hb5 => ?_); clear _t tok2) | refine m_alloc tabs rfl rfl (fun b6 hb6 => ?_))) | refine xNt ?_ | (show oC; first | refine c_seq ?_ | refine c_region ?_))
  refine c_all (Hp [] w [.blk b6 #[iV rb.p, iV rb.q.1, .slice y0 rb.q.2.1.length y0', .slice y1 rb.q.2.2.length y1', .slice y2 rb.d.length y2', .slice y3 rb.m.length y3'] 60, .blk b5 #[iV ra.p, iV ra.q.1, .slice x0 ra.q.2.1.length x0', .slice x1 ra.q.2.2.length x1', .slice x2 ra.d.length x2', .slice x3 ra.m.length x3'] 60]) kr (fun _ c => Hp.drew c) ?_
  refine h_take 0 rfl kr kr kr (by first | exact y_loadb 1 tabs rfl rfl rfl rfl | exact y_loadb 1 tabs rfl rfl rfl rfl) rfl sS ?_
  refine h_take 1 rfl kr kr kr (by first | exact y_loadb 0 tabs rfl rfl rfl rfl | exact y_loadb 0 tabs rfl rfl rfl rfl) rfl sS ?_
  refine h_take 2 rfl kr kr kr (by exact y_move rfl) rfl sS ?_
  refine h_only 3 rfl kr ?_
  first | (refine m_storeb 12 tabs rfl rfl rfl rfl rfl rfl rfl ?_) | (refine m_storeb 11 tabs rfl rfl rfl rfl rfl rfl rfl ?_)
  refine c_nil (x_one (h_keep sS ?_))
  refine h_only 4 rfl kr ?_
  first | (refine m_storeb 12 tabs rfl rfl rfl rfl rfl rfl rfl ?_) | (refine m_storeb 11 tabs rfl rfl rfl rfl rfl rfl rfl ?_)
  refine c_nil (x_one (h_keep sS ?_))
  refine h_take 5 rfl kr kr kr (by exact y_assign rfl) rfl sS ?_
  refine h_end kr ?_
  repeat' (first | (show oC; refine c_ret ?_) | (show AT _ _ _ _; refine x_then ?_))
  exact x_ret3 Tryz.results91 (res_cellb 12 tabs rfl rfl rfl rfl) (res_cellb 11 tabs rfl rfl rfl rfl) (res_tmp rfl) (fun wz cz => ⟨_, _, rfl, ⟨ra, rb, fs, _, _, af, cf, [.own (matsT 47 ra.m) (.slice x3 ra.m.length x3'), .own (iT ra.d) (.slice x2 ra.d.length x2'), .own (iT ra.q.2.2) (.slice x1 ra.q.2.2.length x1'), .own (iT ra.q.2.1) (.slice x0 ra.q.2.1.length x0')], [.own (matsT 47 rb.m) (.slice y3 rb.m.length y3'), .own (iT rb.d) (.slice y2 rb.d.length y2'), .own (iT rb.q.2.2) (.slice y1 rb.q.2.2.length y1'), .own (iT rb.q.2.1) (.slice y0 rb.q.2.1.length y0')], rfl, ⟨hA, hB⟩, ⟨x0, x0', x1, x1', x2, x2', x3, x3', rfl, sx0, sx1, sx2, sx3, rfl⟩, ⟨y0, y0', y1, y1', y2, y2', y3, y3', rfl, sy0, sy1, sy2, sy3, rfl⟩, hsf, hfb, rfl⟩, cz.sel [2, 3, 4, 5, 6, 7, 8, 9, 10] rfl⟩)
def GivesPn (v : Value) (H : List HE) : Prop := ∃ (n : Int) (a b : Rp) (va vb : Value) (Ha Hb : List HE), v = .tuple #[va, vb, iV n] ∧ GivesR a va Ha ∧ GivesR b vb Hb ∧ H = Hb ++ Ha
theorem DrawMorphismNumber_ok {w : World} {u : Value} (hc : CodeF w [] u) : Does Tryz.prog 95 [u] w GivesPn := by
  have tok0 : True := trivial
  have tok1 : True := trivial
  have tok2 : True := trivial
  refine fn_enter Tryz.func95 rfl Tryz.ntmps95 rfl ?_
  repeat' (first | (show oL; first | refine sMv rfl rfl ?_ | refine sAs rfl rfl ?_ | (show oA (.call _); first | (refine m_call (ent_of Tryz.func118 kr rfl) rfl rfl (fun w c => l1New_ok (hp_code c hc)) ?_; rintro v H' ⟨b, ch, rfl, rfl⟩) | (refine m_callL 0 (ent_of Tryz.func170 kr rfl) rfl rfl rfl (fun w M' hl => l9Pair_ok hl hc (Nat.zero_le _)) ?_; rintro v H' ⟨i, ch, _, hi, rfl, ra, rb, _, _, _, _, rfl, hP, ⟨x0, x0', x1, x1', x2, x2', x3, x3', rfl, sx0, sx1, sx2, sx3, rfl⟩, ⟨y0, y0', y1, y1', y2, y2', y3, y3', rfl, sy0, sy1, sy2, sy3, rfl⟩, rfl⟩)) | (show oA (.extract _ _); refine st_y (y_ext rfl rfl) rfl ?_) | (show oA (.store _ _ _); first | refine m_storeb 0 tabs rfl rfl rfl rfl rfl rfl rfl ?_ | refine m_storeb 1 tabs rfl rfl rfl rfl rfl rfl rfl ?_) | (show oA (.alloc _); first | (have _t := tok0; refine m_alloc tabs rfl rfl (fun b2 hb2 => ?_); clear _t tok0) | (have _t := tok1; refine m_alloc tabs rfl rfl (fun b3 hb3 => ?_); clear _t tok1) | (have _t := tok2; refine m_alloc tabs rfl rfl (fun b5 hb5 => ?_); clear _t tok2) | refine m_alloc tabs rfl rfl (fun b6 hb6 => ?_))) | refine xNt ?_ | (show oC; first | refine c_seq ?_ | refine c_region ?_))
  refine c_all (Hp [] w [.blk b6 #[iV rb.p, iV rb.q.1, .slice y0 rb.q.2.1.length y0', .slice y1 rb.q.2.2.length y1', .slice y2 rb.d.length y2', .slice y3 rb.m.length y3'] 60, .blk b5 #[iV ra.p, iV ra.q.1, .slice x0 ra.q.2.1.length x0', .slice x1 ra.q.2.2.length x1', .slice x2 ra.d.length x2', .slice x3 ra.m.length x3'] 60]) kr (fun _ c => Hp.drew c) ?_
  refine h_take 0 rfl kr kr kr (by first | exact y_loadb 1 tabs rfl rfl rfl rfl | exact y_loadb 1 tabs rfl rfl rfl rfl) rfl sS ?_
  refine h_take 1 rfl kr kr kr (by first | exact y_loadb 0 tabs rfl rfl rfl rfl | exact y_loadb 0 tabs rfl rfl rfl rfl) rfl sS ?_
  refine h_take 2 rfl kr kr kr (by exact y_move rfl) rfl sS ?_
  refine h_only 3 rfl kr ?_
  first | (refine m_callL 2 (ent_of Tryz.func120 kr rfl) rfl rfl rfl (fun w M' hl => l1BelowN_ok 12 (by decide) hl hc hi) ?_; rintro v H' ⟨i, ch, _, hi, rfl, k, rfl, hk, rfl⟩) | (refine m_storeb 12 tabs rfl rfl rfl rfl rfl rfl rfl ?_) | (refine m_storeb 11 tabs rfl rfl rfl rfl rfl rfl rfl ?_)
  refine c_nil (x_one (h_keep sS ?_))
  refine h_take 4 rfl kr kr kr (by exact y_sub rfl rfl om) rfl sS ?_
  refine h_only 5 rfl kr ?_
  first | (refine m_callL 2 (ent_of Tryz.func120 kr rfl) rfl rfl rfl (fun w M' hl => l1BelowN_ok 12 (by decide) hl hc hi) ?_; rintro v H' ⟨i, ch, _, hi, rfl, k, rfl, hk, rfl⟩) | (refine m_storeb 12 tabs rfl rfl rfl rfl rfl rfl rfl ?_) | (refine m_storeb 11 tabs rfl rfl rfl rfl rfl rfl rfl ?_)
  refine c_nil (x_one (h_keep sS ?_))
  refine h_only 6 rfl kr ?_
  first | (refine m_callL 2 (ent_of Tryz.func120 kr rfl) rfl rfl rfl (fun w M' hl => l1BelowN_ok 12 (by decide) hl hc hi) ?_; rintro v H' ⟨i, ch, _, hi, rfl, k, rfl, hk, rfl⟩) | (refine m_storeb 12 tabs rfl rfl rfl rfl rfl rfl rfl ?_) | (refine m_storeb 11 tabs rfl rfl rfl rfl rfl rfl rfl ?_)
  refine c_nil (x_one (h_keep sS ?_))
  refine h_take 7 rfl kr kr kr (by exact y_assign rfl) rfl sS ?_
  refine h_end kr ?_
  repeat' (first | (show oC; refine c_ret ?_) | (show AT _ _ _ _; refine x_then ?_))
  exact x_ret3 Tryz.results95 (res_cellb 12 tabs rfl rfl rfl rfl) (res_cellb 11 tabs rfl rfl rfl rfl) (res_tmp rfl) (fun wz cz => ⟨_, _, rfl, ⟨(k : Int) - 1, ra, rb, _, _, [.own (matsT 47 ra.m) (.slice x3 ra.m.length x3'), .own (iT ra.d) (.slice x2 ra.d.length x2'), .own (iT ra.q.2.2) (.slice x1 ra.q.2.2.length x1'), .own (iT ra.q.2.1) (.slice x0 ra.q.2.1.length x0')], [.own (matsT 47 rb.m) (.slice y3 rb.m.length y3'), .own (iT rb.d) (.slice y2 rb.d.length y2'), .own (iT rb.q.2.2) (.slice y1 rb.q.2.2.length y1'), .own (iT rb.q.2.1) (.slice y0 rb.q.2.1.length y0')], rfl, ⟨x0, x0', x1, x1', x2, x2', x3, x3', rfl, sx0, sx1, sx2, sx3, rfl⟩, ⟨y0, y0', y1, y1', y2, y2', y3, y3', rfl, sy0, sy1, sy2, sy3, rfl⟩, rfl⟩, cz.sel [3, 4, 5, 6, 7, 8, 9, 10] rfl⟩)
def GivesCm (v : Value) (H : List HE) : Prop := ∃ (ra rb : Rp) (ks : List Int) (x0 : Option Addr) (x0' : Nat) (x1 : Option Addr) (x1' : Nat) (x2 : Option Addr) (x2' : Nat) (x3 : Option Addr) (x3' : Nat) (y0 : Option Addr) (y0' : Nat) (y1 : Option Addr) (y1' : Nat) (y2 : Option Addr) (y2' : Nat) (y3 : Option Addr) (y3' : Nat) (al : Option Addr) (cl : Nat) (ak : Option Addr) (ck : Nat), v = .tuple #[.agg #[iV ra.p, iV ra.q.1, .slice x0 ra.q.2.1.length x0', .slice x1 ra.q.2.2.length x1', .slice x2 ra.d.length x2', .slice x3 ra.m.length x3'], .agg #[iV rb.p, iV rb.q.1, .slice y0 rb.q.2.1.length y0', .slice y1 rb.q.2.2.length y1', .slice y2 rb.d.length y2', .slice y3 rb.m.length y3'], .slice al (homB ra rb).length cl, .slice ak ks.length ck] ∧ ∀ w w', Hp [] w H w' → RdR w' ra x0 x0' x1 x1' x2 x2' x3 x3' ∧ RdR w' rb y0 y0' y1 y1' y2 y2' y3 y3' ∧ Rd w' (mssT 58 47 (homB ra rb)) (.slice al (homB ra rb).length cl) ∧ Rd w' (iT ks) (.slice ak ks.length ck)
theorem hom_len32 (a b : Rp) : (homB a b).length ≤ 32 := by
  by_cases hF : FitP a b
  · rw [hom_len hF]; exact homN_le hF
  · rw [homB, if_neg hF]; simp
theorem DrawCombineMorphisms_ok {w : World} {u : Value} (hc : CodeF w [] u) : Does Tryz.prog 99 [u] w GivesCm := by
  have tok0 : True := trivial
  have tok1 : True := trivial
  have tok2 : True := trivial
  refine fn_enter Tryz.func99 rfl Tryz.ntmps99 rfl ?_
  repeat' (first | (show oL; first | refine sMv rfl rfl ?_ | refine sAs rfl rfl ?_ | (show oA (.load _ _); first | refine sLb 0 tabs rfl rfl rfl rfl rfl ?_ | refine sLb 1 tabs rfl rfl rfl rfl rfl ?_) | (show oA (.call _); first | (refine m_call (ent_of Tryz.func118 kr rfl) rfl rfl (fun w c => l1New_ok (hp_code c hc)) ?_; rintro v H' ⟨b, ch, rfl, rfl⟩) | (refine m_callL 0 (ent_of Tryz.func170 kr rfl) rfl rfl rfl (fun w M' hl => l9Pair_ok hl hc (Nat.zero_le _)) ?_; rintro v H' ⟨i, ch, _, hi, rfl, ra, rb, _, _, _, _, rfl, hP, ⟨x0, x0', x1, x1', x2, x2', x3, x3', rfl, sx0, sx1, sx2, sx3, rfl⟩, ⟨y0, y0', y1, y1', y2, y2', y3, y3', rfl, sy0, sy1, sy2, sy3, rfl⟩, rfl⟩) | (refine m_call (ent_of Tryz.func87 kr rfl) rfl rfl (fun w c => spec_HomBasis_ok (a := ra) (b := rb) (c.own_rd (i := 10) rfl) (c.own_rd (i := 9) rfl) (c.own_rd (i := 8) rfl) (c.own_rd (i := 7) rfl) (c.own_rd (i := 6) rfl) (c.own_rd (i := 5) rfl) (c.own_rd (i := 4) rfl) (c.own_rd (i := 3) rfl)) ?_; rintro v H' ⟨al, cl, rfl, hsl, rfl⟩)) | (show oA (.extract _ _); refine st_y (y_ext rfl rfl) rfl ?_) | (show oA (.store _ _ _); first | refine m_storeb 0 tabs rfl rfl rfl rfl rfl rfl rfl ?_ | refine m_storeb 1 tabs rfl rfl rfl rfl rfl rfl rfl ?_) | (show oA (.alloc _); first | (have _t := tok0; refine m_alloc tabs rfl rfl (fun b2 hb2 => ?_); clear _t tok0) | (have _t := tok1; refine m_alloc tabs rfl rfl (fun b3 hb3 => ?_); clear _t tok1) | (have _t := tok2; refine m_alloc tabs rfl rfl (fun b5 hb5 => ?_); clear _t tok2) | refine m_alloc tabs rfl rfl (fun b6 hb6 => ?_))) | refine xNt ?_ | (show oC; first | refine c_seq ?_ | refine c_region ?_))
  have hl32 := hom_len32 ra rb
  have tk0 : True := trivial
  have tk1 : True := trivial
  have tk2 : True := trivial
  refine c_all (Hp [] w [.blk b6 #[iV rb.p, iV rb.q.1, .slice y0 rb.q.2.1.length y0', .slice y1 rb.q.2.2.length y1', .slice y2 rb.d.length y2', .slice y3 rb.m.length y3'] 60, .blk b5 #[iV ra.p, iV ra.q.1, .slice x0 ra.q.2.1.length x0', .slice x1 ra.q.2.2.length x1', .slice x2 ra.d.length x2', .slice x3 ra.m.length x3'] 60]) kr (fun _ c => Hp.drew c) ?_
  refine h_take 0 rfl kr kr kr (by first | exact y_loadb 1 tabs rfl rfl rfl rfl | exact y_loadb 1 tabs rfl rfl rfl rfl) rfl sS ?_
  refine h_take 1 rfl kr kr kr (by first | exact y_loadb 0 tabs rfl rfl rfl rfl | exact y_loadb 0 tabs rfl rfl rfl rfl) rfl sS ?_
  refine h_take 2 rfl kr kr kr (by exact y_move rfl) rfl sS ?_
  refine h_take 3 rfl kr kr kr (by exact y_move rfl) rfl sS ?_
  refine h_take 4 rfl kr kr kr (by exact y_field tabs rfl rfl rfl) rfl sS ?_
  refine h_take 5 rfl kr kr kr (by exact y_load tabs rfl rfl (hc_blk 1 rfl rfl)) rfl sS ?_
  refine h_take 6 rfl kr kr kr (by exact y_move rfl) rfl sS ?_
  refine h_take 7 rfl kr kr kr (by exact y_len tabs rfl rfl) rfl sS ?_
  refine h_take 8 rfl kr kr kr (by exact y_move rfl) rfl sS ?_
  refine h_take 10 rfl kr kr kr (by exact y_move rfl) rfl sS ?_
  refine h_take 13 rfl kr kr kr (by exact y_move rfl) rfl sS ?_
  refine h_only 9 rfl kr ?_
  first | (have _t := tk0; refine m_callL 3 (ent_of Tryz.func120 kr rfl) rfl rfl rfl (fun w M' hl => l1BelowN_ok 2 (by decide) hl hc hi) ?_; rintro v H' ⟨i, ch, _, hi, rfl, k1, rfl, hk1, rfl⟩; clear _t tk0) | (have _t := tk1; refine m_callL 0 (ent_of Tryz.func120 kr rfl) rfl rfl rfl (fun w M' hl => l1BelowN_ok 2 (by decide) hl hc hi) ?_; rintro v H' ⟨i, ch, _, hi, rfl, k2, rfl, hk2, rfl⟩; clear _t tk1) | (have _t := tk2; refine m_callL 0 (ent_of Tryz.func120 kr rfl) rfl rfl rfl (fun w M' hl => l1BelowN_ok 2 (by decide) hl hc hi) ?_; rintro v H' ⟨i, ch, _, hi, rfl, k3, rfl, hk3, rfl⟩; clear _t tk2) | (refine m_callL 0 (ent_of Tryz.func130 kr rfl) rfl rfl rfl (fun w M' hl => l2Vector_ok ra.p _ hl hc hi (by have := Nat.mul_le_mul (Nat.mul_le_mul (show k1 ≤ 1 by omega) (show k2 ≤ 1 by omega)) (show k3 ≤ 1 by omega); omega)) ?_; rintro v H' ⟨i, ch, _, hi, rfl, ks, ak, ck, rfl, hks, rfl⟩) | (refine m_storeb 14 tabs rfl rfl rfl rfl rfl rfl rfl ?_) | (refine m_storeb 13 tabs rfl rfl rfl rfl rfl rfl rfl ?_)
  refine c_nil (x_one (h_keep sS ?_))
  refine h_only 11 rfl kr ?_
  first | (have _t := tk0; refine m_callL 3 (ent_of Tryz.func120 kr rfl) rfl rfl rfl (fun w M' hl => l1BelowN_ok 2 (by decide) hl hc hi) ?_; rintro v H' ⟨i, ch, _, hi, rfl, k1, rfl, hk1, rfl⟩; clear _t tk0) | (have _t := tk1; refine m_callL 0 (ent_of Tryz.func120 kr rfl) rfl rfl rfl (fun w M' hl => l1BelowN_ok 2 (by decide) hl hc hi) ?_; rintro v H' ⟨i, ch, _, hi, rfl, k2, rfl, hk2, rfl⟩; clear _t tk1) | (have _t := tk2; refine m_callL 0 (ent_of Tryz.func120 kr rfl) rfl rfl rfl (fun w M' hl => l1BelowN_ok 2 (by decide) hl hc hi) ?_; rintro v H' ⟨i, ch, _, hi, rfl, k3, rfl, hk3, rfl⟩; clear _t tk2) | (refine m_callL 0 (ent_of Tryz.func130 kr rfl) rfl rfl rfl (fun w M' hl => l2Vector_ok ra.p _ hl hc hi (by have := Nat.mul_le_mul (Nat.mul_le_mul (show k1 ≤ 1 by omega) (show k2 ≤ 1 by omega)) (show k3 ≤ 1 by omega); omega)) ?_; rintro v H' ⟨i, ch, _, hi, rfl, ks, ak, ck, rfl, hks, rfl⟩) | (refine m_storeb 14 tabs rfl rfl rfl rfl rfl rfl rfl ?_) | (refine m_storeb 13 tabs rfl rfl rfl rfl rfl rfl rfl ?_)
  refine c_nil (x_one (h_keep sS ?_))
  refine h_take 12 rfl kr kr kr (by exact y_muln (a := k1) (b := k2) rfl rfl rfl rfl (by have := Nat.mul_le_mul (show k1 ≤ 1 by omega) (show k2 ≤ 1 by omega); omega)) rfl sS ?_
  refine h_only 14 rfl kr ?_
  first | (have _t := tk0; refine m_callL 3 (ent_of Tryz.func120 kr rfl) rfl rfl rfl (fun w M' hl => l1BelowN_ok 2 (by decide) hl hc hi) ?_; rintro v H' ⟨i, ch, _, hi, rfl, k1, rfl, hk1, rfl⟩; clear _t tk0) | (have _t := tk1; refine m_callL 0 (ent_of Tryz.func120 kr rfl) rfl rfl rfl (fun w M' hl => l1BelowN_ok 2 (by decide) hl hc hi) ?_; rintro v H' ⟨i, ch, _, hi, rfl, k2, rfl, hk2, rfl⟩; clear _t tk1) | (have _t := tk2; refine m_callL 0 (ent_of Tryz.func120 kr rfl) rfl rfl rfl (fun w M' hl => l1BelowN_ok 2 (by decide) hl hc hi) ?_; rintro v H' ⟨i, ch, _, hi, rfl, k3, rfl, hk3, rfl⟩; clear _t tk2) | (refine m_callL 0 (ent_of Tryz.func130 kr rfl) rfl rfl rfl (fun w M' hl => l2Vector_ok ra.p _ hl hc hi (by have := Nat.mul_le_mul (Nat.mul_le_mul (show k1 ≤ 1 by omega) (show k2 ≤ 1 by omega)) (show k3 ≤ 1 by omega); omega)) ?_; rintro v H' ⟨i, ch, _, hi, rfl, ks, ak, ck, rfl, hks, rfl⟩) | (refine m_storeb 14 tabs rfl rfl rfl rfl rfl rfl rfl ?_) | (refine m_storeb 13 tabs rfl rfl rfl rfl rfl rfl rfl ?_)
  refine c_nil (x_one (h_keep sS ?_))
  refine h_take 15 rfl kr kr kr (by exact y_muln (a := k1 * k2) (b := k3) rfl rfl rfl rfl (by have := Nat.mul_le_mul (Nat.mul_le_mul (show k1 ≤ 1 by omega) (show k2 ≤ 1 by omega)) (show k3 ≤ 1 by omega); omega)) rfl sS ?_
  refine h_take 16 rfl kr kr kr (by exact y_add rfl rfl (by have := Nat.mul_le_mul (Nat.mul_le_mul (show k1 ≤ 1 by omega) (show k2 ≤ 1 by omega)) (show k3 ≤ 1 by omega); omega)) rfl sS ?_
  refine h_only 17 rfl kr ?_
  first | (have _t := tk0; refine m_callL 3 (ent_of Tryz.func120 kr rfl) rfl rfl rfl (fun w M' hl => l1BelowN_ok 2 (by decide) hl hc hi) ?_; rintro v H' ⟨i, ch, _, hi, rfl, k1, rfl, hk1, rfl⟩; clear _t tk0) | (have _t := tk1; refine m_callL 0 (ent_of Tryz.func120 kr rfl) rfl rfl rfl (fun w M' hl => l1BelowN_ok 2 (by decide) hl hc hi) ?_; rintro v H' ⟨i, ch, _, hi, rfl, k2, rfl, hk2, rfl⟩; clear _t tk1) | (have _t := tk2; refine m_callL 0 (ent_of Tryz.func120 kr rfl) rfl rfl rfl (fun w M' hl => l1BelowN_ok 2 (by decide) hl hc hi) ?_; rintro v H' ⟨i, ch, _, hi, rfl, k3, rfl, hk3, rfl⟩; clear _t tk2) | (refine m_callL 0 (ent_of Tryz.func130 kr rfl) rfl rfl rfl (fun w M' hl => l2Vector_ok ra.p _ hl hc hi (by have := Nat.mul_le_mul (Nat.mul_le_mul (show k1 ≤ 1 by omega) (show k2 ≤ 1 by omega)) (show k3 ≤ 1 by omega); omega)) ?_; rintro v H' ⟨i, ch, _, hi, rfl, ks, ak, ck, rfl, hks, rfl⟩) | (refine m_storeb 14 tabs rfl rfl rfl rfl rfl rfl rfl ?_) | (refine m_storeb 13 tabs rfl rfl rfl rfl rfl rfl rfl ?_)
  refine c_nil (x_one (h_keep sS ?_))
  refine h_only 18 rfl kr ?_
  first | (have _t := tk0; refine m_callL 3 (ent_of Tryz.func120 kr rfl) rfl rfl rfl (fun w M' hl => l1BelowN_ok 2 (by decide) hl hc hi) ?_; rintro v H' ⟨i, ch, _, hi, rfl, k1, rfl, hk1, rfl⟩; clear _t tk0) | (have _t := tk1; refine m_callL 0 (ent_of Tryz.func120 kr rfl) rfl rfl rfl (fun w M' hl => l1BelowN_ok 2 (by decide) hl hc hi) ?_; rintro v H' ⟨i, ch, _, hi, rfl, k2, rfl, hk2, rfl⟩; clear _t tk1) | (have _t := tk2; refine m_callL 0 (ent_of Tryz.func120 kr rfl) rfl rfl rfl (fun w M' hl => l1BelowN_ok 2 (by decide) hl hc hi) ?_; rintro v H' ⟨i, ch, _, hi, rfl, k3, rfl, hk3, rfl⟩; clear _t tk2) | (refine m_callL 0 (ent_of Tryz.func130 kr rfl) rfl rfl rfl (fun w M' hl => l2Vector_ok ra.p _ hl hc hi (by have := Nat.mul_le_mul (Nat.mul_le_mul (show k1 ≤ 1 by omega) (show k2 ≤ 1 by omega)) (show k3 ≤ 1 by omega); omega)) ?_; rintro v H' ⟨i, ch, _, hi, rfl, ks, ak, ck, rfl, hks, rfl⟩) | (refine m_storeb 14 tabs rfl rfl rfl rfl rfl rfl rfl ?_) | (refine m_storeb 13 tabs rfl rfl rfl rfl rfl rfl rfl ?_)
  refine c_nil (x_one (h_keep sS ?_))
  refine h_only 19 rfl kr ?_
  first | (have _t := tk0; refine m_callL 3 (ent_of Tryz.func120 kr rfl) rfl rfl rfl (fun w M' hl => l1BelowN_ok 2 (by decide) hl hc hi) ?_; rintro v H' ⟨i, ch, _, hi, rfl, k1, rfl, hk1, rfl⟩; clear _t tk0) | (have _t := tk1; refine m_callL 0 (ent_of Tryz.func120 kr rfl) rfl rfl rfl (fun w M' hl => l1BelowN_ok 2 (by decide) hl hc hi) ?_; rintro v H' ⟨i, ch, _, hi, rfl, k2, rfl, hk2, rfl⟩; clear _t tk1) | (have _t := tk2; refine m_callL 0 (ent_of Tryz.func120 kr rfl) rfl rfl rfl (fun w M' hl => l1BelowN_ok 2 (by decide) hl hc hi) ?_; rintro v H' ⟨i, ch, _, hi, rfl, k3, rfl, hk3, rfl⟩; clear _t tk2) | (refine m_callL 0 (ent_of Tryz.func130 kr rfl) rfl rfl rfl (fun w M' hl => l2Vector_ok ra.p _ hl hc hi (by have := Nat.mul_le_mul (Nat.mul_le_mul (show k1 ≤ 1 by omega) (show k2 ≤ 1 by omega)) (show k3 ≤ 1 by omega); omega)) ?_; rintro v H' ⟨i, ch, _, hi, rfl, ks, ak, ck, rfl, hks, rfl⟩) | (refine m_storeb 14 tabs rfl rfl rfl rfl rfl rfl rfl ?_) | (refine m_storeb 13 tabs rfl rfl rfl rfl rfl rfl rfl ?_)
  refine c_nil (x_one (h_keep sS ?_))
  refine h_take 20 rfl kr kr kr (by exact y_assign rfl) rfl sS ?_
  refine h_take 21 rfl kr kr kr (by exact y_assign rfl) rfl sS ?_
  refine h_end kr ?_
  repeat' (first | (show oC; refine c_ret ?_) | (show AT _ _ _ _; refine x_then ?_))
  exact x_ret4 Tryz.results99 (res_cellb 14 tabs rfl rfl rfl rfl) (res_cellb 13 tabs rfl rfl rfl rfl) (res_tmp rfl) (res_tmp rfl) (fun wz cz => ⟨_, [.own (iT ks) (.slice ak ks.length ck), .own (mssT 58 47 (homB ra rb)) (.slice al (homB ra rb).length cl), .own (matsT 47 rb.m) (.slice y3 rb.m.length y3'), .own (iT rb.d) (.slice y2 rb.d.length y2'), .own (iT rb.q.2.2) (.slice y1 rb.q.2.2.length y1'), .own (iT rb.q.2.1) (.slice y0 rb.q.2.1.length y0'), .own (matsT 47 ra.m) (.slice x3 ra.m.length x3'), .own (iT ra.d) (.slice x2 ra.d.length x2'), .own (iT ra.q.2.2) (.slice x1 ra.q.2.2.length x1'), .own (iT ra.q.2.1) (.slice x0 ra.q.2.1.length x0')], rfl, ⟨ra, rb, ks, x0, x0', x1, x1', x2, x2', x3, x3', y0, y0', y1, y1', y2, y2', y3, y3', al, cl, ak, ck, rfl, fun w w' c => ⟨rr_own 6 c rfl rfl rfl rfl, rr_own 2 c rfl rfl rfl rfl, c.own_rd (i := 1) rfl, c.own_rd (i := 0) rfl⟩⟩, cz.sel [1, 2, 5, 6, 7, 8, 9, 10, 11, 12] rfl⟩)
end Go.Proofs.YtijjkfbkihgfgaaGreat
