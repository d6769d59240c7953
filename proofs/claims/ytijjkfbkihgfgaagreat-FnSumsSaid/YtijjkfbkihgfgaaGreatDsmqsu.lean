import Derived.Test.YtijjkfbkihgfgaaGreatDsaqsu
import Derived.Test.YtijjkfbkihgfgaaGreatLEqsu
namespace Go.Proofs.YtijjkfbkihgfgaaGreat
open Go.Lg Go.Proofs Go.RowKit
attribute [local irreducible] Code.wp wpList bodyPost Exit.then Exit.inBlock Hp Again Calls Y AT ResV QT Qn QI wpAny wpAnyQ
set_option maxRecDepth 20000
set_option maxHeartbeats 4000000

theorem mkv_next {n : Nat} {g : Nat → Int} : mkv (n + 1) g = mkv n g ++ [g n] := by simp [mkv, List.range_succ]
def dsM (a b : Rp) (i : Nat) : Mat := (((a.m.getD i mat0).1.toNat + (b.m.getD i mat0).1.toNat : Nat), ((a.m.getD i mat0).2.1.toNat + (b.m.getD i mat0).2.1.toNat : Nat), mk ((a.m.getD i mat0).1.toNat + (b.m.getD i mat0).1.toNat) ((a.m.getD i mat0).2.1.toNat + (b.m.getD i mat0).2.1.toNat) (blkF (a.m.getD i mat0).1.toNat (a.m.getD i mat0).2.1.toNat (matF (a.m.getD i mat0)) (fun _ _ => 0) (matF (b.m.getD i mat0))))
def dsD (a b : Rp) (k : Nat) : Int := a.d.getD k 0 + b.d.getD k 0
def dsR (a b : Rp) : Rp := ⟨a.p, a.q, mkv a.d.length (dsD a b), tabM (dsM a b) a.m.length⟩
theorem dsM_at {a b : Rp} (h : FitP a b) {i : Nat} (hi : i < a.m.length) : ∃ (R C S D : Nat) (A B : Mat), a.m[i]? = some A ∧ b.m[i]? = some B ∧ R ≤ 8 ∧ C ≤ 8 ∧ S ≤ 8 ∧ D ≤ 8 ∧ A.1 = R ∧ A.2.1 = C ∧ A.2.2 = mk R C (matF A) ∧ B.1 = S ∧ B.2.1 = D ∧ B.2.2 = mk S D (matF B) ∧
    dsM a b i = (((R + S : Nat) : Int), ((C + D : Nat) : Int), mk (R + S) (C + D) (blkF R C (matF A) (fun _ _ => 0) (matF B))) := by
  obtain ⟨hA, hB, hp, hq⟩ := h
  have hi' : i < b.m.length := by rw [hB.2.2.1, ← hq, ← hA.2.2.1]; exact hi
  obtain ⟨A, hAi⟩ : ∃ m, a.m[i]? = some m := ⟨_, List.getElem?_eq_getElem hi⟩
  obtain ⟨B, hBi⟩ : ∃ m, b.m[i]? = some m := ⟨_, List.getElem?_eq_getElem hi'⟩
  have gA : a.m.getD i mat0 = A := by rw [List.getD, hAi]; rfl
  have gB : b.m.getD i mat0 = B := by rw [List.getD, hBi]; rfl
  have a1 := (hA.2.2.2 i hi).1
  have b1 := (hB.2.2.2 i hi').1
  rw [gA] at a1
  rw [gB] at b1
  obtain ⟨R, C, e1, e2, hR, hC, e3, _⟩ := matP_cells a1
  obtain ⟨S, D, f1, f2, hS, hD, f3, _⟩ := matP_cells b1
  refine ⟨R, C, S, D, A, B, hAi, hBi, hR, hC, hS, hD, e1, e2, e3, f1, f2, f3, ?_⟩
  simp only [dsM, gA, gB, e1, e2, f1, f2, Int.toNat_natCast]
def dsN (a b : Rp) (i : Nat) : List Mat := (List.range a.m.length).map (fun k => if k < i then dsM a b k else a.m.getD k mat0)
@[simp] theorem dsN_length {a b : Rp} {i : Nat} : (dsN a b i).length = a.m.length := by simp [dsN]
theorem dsN_zero {a b : Rp} : dsN a b 0 = a.m := by
  apply List.ext_getElem?
  intro q
  by_cases hq : q < a.m.length
  · simp [dsN, hq]
  · rw [List.getElem?_eq_none (by simp; omega), List.getElem?_eq_none om]
theorem dsN_next {a b : Rp} {i : Nat} (hi : i < a.m.length) : (dsN a b i).set i (dsM a b i) = dsN a b (i + 1) := by
  apply List.ext_getElem?
  intro q
  rw [List.getElem?_set]
  by_cases hq : q < a.m.length
  · by_cases h : i = q
    · subst h; simp [dsN, hi]
    · have h' : (q < i + 1) = (q < i) := by apply propext; omega
      simp [dsN, hq, h, h']
  · have h : ¬ i = q := by omega
    rw [if_neg h, List.getElem?_eq_none (by simp; omega), List.getElem?_eq_none (by simp; omega)]
theorem dsN_end {a b : Rp} : dsN a b a.m.length = tabM (dsM a b) a.m.length := List.map_congr_left (fun k hk => by rw [if_pos (List.mem_range.1 hk)])
theorem directSum_ok {w : World} {a b : Rp} {e e' : Nat} {u0 u1 u2 u3 v0 v1 v2 v3 : Value} (h0 : Rd w (iT a.q.2.1) u0) (h1 : Rd w (iT a.q.2.2) u1) (h2 : Rd w (iT a.d) u2) (h3 : Rd w (matsT e a.m) u3) (k2 : Rd w (iT b.d) v2) (k3 : Rd w (matsT e' b.m) v3) (hF : FitP a b) :
    Does Tryz.prog 176 [.agg #[iV a.p, iV a.q.1, u0, u1, u2, u3], .agg #[iV b.p, iV b.q.1, v0, v1, v2, v3]] w (GivesR (dsR a b)) := by
  have hRa := hF.1
  have hRb := hF.2.1
  have hdl := hF.dl
  have h5 := (RepP.dd hRa).2
  have hml : b.m.length = a.m.length := by rw [hRb.2.2.1, ← hF.2.2.2, ← hRa.2.2.1]
  have hm6 : a.m.length ≤ 6 := by have := hRa.2.2.1; have := hRa.2.1.1.2.1; omega
  have h30 := h3
  obtain ⟨a3, c3, rfl, hs3, _, _, hg3⟩ := rd_mats h3
  obtain ⟨d2, f2, rfl, hk2, _, _, hh2⟩ := k2.ints
  obtain ⟨d3, f3, rfl, hk3, _, _, hh3⟩ := rd_mats k3
  refine fn_enter Tryz.func176 rfl Tryz.ntmps176 rfl ?_
  repeat' (first | (show oL; first | refine sMv rfl rfl ?_ | refine sFd tabs rfl rfl rfl rfl ?_ | (show oA (.load _ _); first | refine sLb 2 tabs rfl rfl rfl rfl rfl ?_ | refine sLd 6 tabs rfl rfl rfl rfl rfl ?_) | (show oA (.call _); first | (refine m_call (ent_of Tryz.func182 kr rfl) rfl rfl (fun w c => rclone_ok (r := a) (c.rd h0) (c.rd h1) (c.rd h2) (c.rd h30) hRa) ?_; rintro v H' ⟨aF, cF, aT, cT, ad, cd, am, cm, rfl, hsF, hsT, hsd, hsm, rfl⟩) | refine sLn tabs rfl rfl rfl ?_) | (show oA (.store _ _ _); refine m_storeb 0 tabs rfl rfl rfl rfl rfl rfl rfl ?_) | (show oA (.box _ _); refine m_box rfl rfl (fun b1 hb1 => ?_)) | (show oA (.alloc _); refine m_alloc tabs rfl rfl (fun b5 hb5 => ?_))) | refine xNt ?_ | (show oC; first | refine c_seq ?_ | refine c_region ?_ | refine c_block ?_))
  rename_i b2 hb2 b4 hb4
  refine c_loopH (α := Nat) [2, 3, 4, 5, 13, 14] (fun i => [(15, .int .i64 i)]) (fun i => i ≤ b.d.length) (fun i => [.own (iT (mkv a.d.length (fun k => if k < i then dsD a b k else a.d.getD k 0))) (.slice ad a.d.length cd), .blk b5 #[iV a.p, iV a.q.1, .slice aF a.q.2.1.length cF, .slice aT a.q.2.2.length cT, .slice ad a.d.length cd, .slice am a.m.length cm] 60, .own (matsT 47 a.m) (.slice am a.m.length cm), .own (iT a.q.2.2) (.slice aT a.q.2.2.length cT), .own (iT a.q.2.1) (.slice aF a.q.2.1.length cF), .blk b4 #[iV 0, iV 0, .slice none 0 0, .slice none 0 0, .slice none 0 0, .slice none 0 0] 60, .blk b1 #[iV b.p, iV b.q.1, v0, v1, .slice d2 b.d.length f2, .slice d3 b.m.length f3] 60, .blk b2 #[iV a.p, iV a.q.1, u0, u1, u2, .slice a3 a.m.length c3] 60]) (fun i => b.d.length - i) 0 rfl sB ?_ ?_ ?_
  · exact Nat.zero_le _
  · intro w' c'
    have e0 : mkv a.d.length (fun k => if k < 0 then dsD a b k else a.d.getD k 0) = a.d := (mkv_of rfl).symm
    rw [e0]
    exact c'.front (i := 2) rfl
  · intro i hi
    by_cases hin : i < b.d.length
    · have hia : i < a.d.length := by omega
      have d1 := hRa.dg i
      have d2 := hRb.dg i
      have hget : (mkv a.d.length (fun k => if k < i then dsD a b k else a.d.getD k 0)).getD i 0 = a.d.getD i 0 := by rw [mkv_get hia, if_neg om]
      repeat' (first | (show oL; first | refine sMv rfl rfl ?_ | refine sAs rfl rfl ?_ | refine sFd tabs rfl rfl rfl rfl ?_ | (show oA (.load _ _); first | refine st_y (y_load tabs rfl rfl (hc_w0 (hh2 i hin))) rfl ?_ | refine st_y (y_load tabs rfl rfl (hc_own 0 rfl (by rw [mkv_length]; exact hia))) rfl ?_ | refine sLd 1 tabs rfl rfl rfl rfl rfl ?_) | (show oA (.indexAddr _ _ _); first | refine st_y (y_ix1 tabs (j := i) rfl rfl rfl hk2 rfl hin) rfl ?_ | refine st_y (y_ix1 tabs (j := i) rfl rfl rfl hsd rfl hia) rfl ?_) | (show oA (.binOp _ _ _ _ _); first | refine st_y (y_add rfl rfl (by rw [hget]; omega)) rfl ?_ | refine sAd rfl rfl om rfl ?_ | refine sLs rfl rfl rfl ?_) | (show oA (.store _ _ _); refine m_storeo 0 tabs rfl rfl rfl rfl (by rw [mkv_length]; exact hia) ?_)) | (show oN; first | refine c_nil (x_then ?_) | refine c_nil ?_) | (show oC; first | refine c_seq ?_ | refine c_region ?_ | refine c_skip (x_then ?_) | refine c_block ?_ | refine c_ift rfl aO ?_) | (show AT _ _ _ _; first | refine x_then ?_ | refine x_blk ?_))
      refine x_nx (i + 1) sB om (fun w' c' => ?_) om
      simp only [List.set_cons_zero, mkv_set, hget] at c'
      have e0 : mkv a.d.length (fun q => if q = i then a.d.getD i 0 + b.d.getD i 0 else if q < i then dsD a b q else a.d.getD q 0) = mkv a.d.length (fun k => if k < i + 1 then dsD a b k else a.d.getD k 0) := mkv_ext (fun q _ => by unfold dsD; grind)
      rw [e0] at c'
      exact c'
    · have hie : i = b.d.length := by omega
      subst hie
      have e0 : mkv a.d.length (fun k => if k < b.d.length then dsD a b k else a.d.getD k 0) = mkv a.d.length (dsD a b) := mkv_ext (fun q hq => by rw [if_pos om])
      rw [e0]
      repeat' (first | (show oL; first | refine sMv rfl rfl ?_ | refine sFd tabs rfl rfl rfl rfl ?_ | refine sLd 6 tabs rfl rfl rfl rfl rfl ?_ | refine sLs rfl rfl rfl ?_ | refine sLn tabs rfl rfl rfl ?_) | refine xNt ?_ | (show oC; first | refine c_seq ?_ | refine c_region ?_ | refine c_block ?_ | refine c_exit ?_ | refine c_iff rfl nN ?_) | (show AT _ _ _ _; first | refine x_then ?_ | refine x_then_exit ?_ | refine x_blk_exit rfl ?_))
      refine c_loopH (α := Nat) [2, 4, 5, 30, 31] (fun i => [(32, .int .i64 i)]) (fun i => i ≤ a.m.length) (fun i => [.own (matsT 47 (dsN a b i)) (.slice am a.m.length cm), .own (iT (mkv a.d.length (dsD a b))) (.slice ad a.d.length cd), .blk b5 #[iV a.p, iV a.q.1, .slice aF a.q.2.1.length cF, .slice aT a.q.2.2.length cT, .slice ad a.d.length cd, .slice am a.m.length cm] 60, .own (iT a.q.2.2) (.slice aT a.q.2.2.length cT), .own (iT a.q.2.1) (.slice aF a.q.2.1.length cF), .blk b4 #[iV 0, iV 0, .slice none 0 0, .slice none 0 0, .slice none 0 0, .slice none 0 0] 60, .blk b2 #[iV a.p, iV a.q.1, u0, u1, u2, .slice a3 a.m.length c3] 60]) (fun i => a.m.length - i) 0 rfl sB ?_ ?_ ?_
      · exact Nat.zero_le _
      · intro w' c'
        rw [dsN_zero]
        exact (c'.front (i := 2) rfl).sub sL
      · intro i hi
        by_cases hin : i < a.m.length
        · obtain ⟨R, C, S, D, A, B, hA1, hB1, hR, hC, hS, hD, A1, A2, A3, B1, B2, B3, hz⟩ := dsM_at hF hin
          obtain ⟨aA, cA, A5, A6, A7, A8⟩ := hg3 i A hA1
          obtain ⟨aB, cB, B5, B6, B7, B8⟩ := hh3 i B hB1
          rw [A1] at A5; rw [A2] at A6; rw [A3] at A7 A8; rw [mk_length] at A7 A8
          rw [B1] at B5; rw [B2] at B6; rw [B3] at B7 B8; rw [mk_length] at B7 B8
          have hbm : i < b.m.length := by omega
          repeat' (first | (show oL; first | refine sMv rfl rfl ?_ | refine sAs rfl rfl ?_ | (show oA (.load _ _); refine st_y (y_load3 tabs rfl rfl (hc_w0 B5) (hc_w0 B6) (hc_w0 B7)) rfl ?_) | (show oA (.indexAddr _ _ _); refine st_y (y_ixa tabs rfl rfl rfl hk3 om om) rfl ?_) | refine sLs rfl rfl rfl ?_ | (show oA (.store _ _ _); refine m_storeb 0 tabs rfl rfl rfl rfl rfl rfl rfl ?_) | (show oA (.alloc _); refine m_alloc tabs rfl rfl (fun b9 hb9 => ?_))) | refine xNt ?_ | (show oC; first | refine c_seq ?_ | refine c_region ?_ | refine c_skip (x_then ?_) | refine c_block ?_ | refine c_ift rfl aO ?_))
          refine c_all (Hp [] w [.blk b9 #[iV S, iV D, .slice aB (S * D) cB] 47, .blk b5 #[iV a.p, iV a.q.1, .slice aF a.q.2.1.length cF, .slice aT a.q.2.2.length cT, .slice ad a.d.length cd, .slice am a.m.length cm] 60, .blk b2 #[iV a.p, iV a.q.1, u0, u1, u2, .slice a3 a.m.length c3] 60]) kr (fun _ c => Hp.drew c) ?_
          refine h_take 0 rfl kr kr kr (by exact y_field tabs rfl rfl rfl) rfl sS ?_
          refine h_take 1 rfl kr kr kr (by exact y_load tabs rfl rfl (hc_blk 1 rfl rfl)) rfl sS ?_
          refine h_take 2 rfl kr kr kr (by exact y_move rfl) rfl sS ?_
          refine h_take 3 rfl kr kr kr (by exact y_field tabs rfl rfl rfl) rfl sS ?_
          refine h_take 4 rfl kr kr kr (by exact y_load tabs rfl rfl (hc_blk 2 rfl rfl)) rfl sS ?_
          refine h_take 5 rfl kr kr kr (by exact y_move rfl) rfl sS ?_
          refine h_take 6 rfl kr kr kr (by exact y_ixa tabs rfl rfl rfl hs3 om om) rfl sS ?_
          refine h_take 7 rfl kr kr kr (by exact y_load3 tabs rfl rfl (hc_w0 A5) (hc_w0 A6) (hc_w0 A7)) rfl sS ?_
          refine h_take 8 rfl kr kr kr (by exact y_field tabs rfl rfl rfl) rfl sS ?_
          refine h_take 9 rfl kr kr kr (by exact y_load tabs rfl rfl (hc_blk 2 rfl rfl)) rfl sS ?_
          refine h_take 10 rfl kr kr kr (by exact y_move rfl) rfl sS ?_
          refine h_take 11 rfl kr kr kr (by exact y_ixa tabs rfl rfl rfl hs3 om om) rfl sS ?_
          refine h_take 12 rfl kr kr kr (by exact y_field tabs rfl rfl rfl) rfl sS ?_
          refine h_take 13 rfl kr kr kr (by exact y_load tabs rfl rfl (hc_w0 A5)) rfl sS ?_
          refine h_take 14 rfl kr kr kr (by exact y_field tabs rfl rfl rfl) rfl sS ?_
          refine h_take 15 rfl kr kr kr (by exact y_load tabs rfl rfl (hc_blk 0 rfl rfl)) rfl sS ?_
          refine h_take 17 rfl kr kr kr (by first | exact y_loadb 0 tabs rfl rfl rfl rfl | exact y_loadb 0 tabs rfl rfl rfl rfl) rfl sS ?_
          refine h_only 16 rfl kr ?_
          first | (refine m_call (ent_of Tryz.func231 kr rfl) rfl rfl (fun w c => zero_ok (R := R) (C := D) om om) ?_; rintro v H' ⟨az, cz, rfl, hsz, rfl⟩) | (refine m_call (ent_of Tryz.func257 kr rfl) rfl rfl (fun w c => blocks_ok (h := fun _ _ => 0) (c.rd A8) (c.own_rd (i := 0) rfl) (c.rd B8) hR hS hC hD) ?_; rintro v H' ⟨ab1, cb1, rfl, hsb1, rfl⟩) | (refine m_storeT tabs (m := a.m.length) (tn := matT (((R + S : Nat) : Int), ((C + D : Nat) : Int), mk (R + S) (C + D) (blkF R C (matF A) (fun _ _ => 0) (matF B)))) (j := i) rfl rfl rfl rfl rfl rfl (by decide) (by rw [flatMap_length matT_length, dsN_length]) hin (fun w c => (c.mat (u0 := iV ((R + S : Nat) : Int)) (u1 := iV ((C + D : Nat) : Int))).front (i := 3) rfl) ?_)
          refine c_nil (x_one (h_keep sS ?_))
          refine h_only 18 rfl kr ?_
          first | (refine m_call (ent_of Tryz.func231 kr rfl) rfl rfl (fun w c => zero_ok (R := R) (C := D) om om) ?_; rintro v H' ⟨az, cz, rfl, hsz, rfl⟩) | (refine m_call (ent_of Tryz.func257 kr rfl) rfl rfl (fun w c => blocks_ok (h := fun _ _ => 0) (c.rd A8) (c.own_rd (i := 0) rfl) (c.rd B8) hR hS hC hD) ?_; rintro v H' ⟨ab1, cb1, rfl, hsb1, rfl⟩) | (refine m_storeT tabs (m := a.m.length) (tn := matT (((R + S : Nat) : Int), ((C + D : Nat) : Int), mk (R + S) (C + D) (blkF R C (matF A) (fun _ _ => 0) (matF B)))) (j := i) rfl rfl rfl rfl rfl rfl (by decide) (by rw [flatMap_length matT_length, dsN_length]) hin (fun w c => (c.mat (u0 := iV ((R + S : Nat) : Int)) (u1 := iV ((C + D : Nat) : Int))).front (i := 3) rfl) ?_)
          refine c_nil (x_one (h_keep sS ?_))
          refine h_take 19 rfl kr kr kr (by exact y_ixa tabs rfl rfl rfl hsm om om) rfl sS ?_
          refine h_only 20 rfl kr ?_
          first | (refine m_call (ent_of Tryz.func231 kr rfl) rfl rfl (fun w c => zero_ok (R := R) (C := D) om om) ?_; rintro v H' ⟨az, cz, rfl, hsz, rfl⟩) | (refine m_call (ent_of Tryz.func257 kr rfl) rfl rfl (fun w c => blocks_ok (h := fun _ _ => 0) (c.rd A8) (c.own_rd (i := 0) rfl) (c.rd B8) hR hS hC hD) ?_; rintro v H' ⟨ab1, cb1, rfl, hsb1, rfl⟩) | (refine m_storeT tabs (m := a.m.length) (tn := matT (((R + S : Nat) : Int), ((C + D : Nat) : Int), mk (R + S) (C + D) (blkF R C (matF A) (fun _ _ => 0) (matF B)))) (j := i) rfl rfl rfl rfl rfl rfl (by decide) (by rw [flatMap_length matT_length, dsN_length]) hin (fun w c => (c.mat (u0 := iV ((R + S : Nat) : Int)) (u1 := iV ((C + D : Nat) : Int))).front (i := 3) rfl) ?_)
          refine c_nil (x_one (h_keep sS ?_))
          refine h_end kr ?_
          repeat' (first | (show oL; first | refine sMv rfl rfl ?_ | refine sAd rfl rfl om rfl ?_) | refine xNt ?_ | (show oC; refine c_region ?_) | (show AT _ _ _ _; first | refine x_then ?_ | refine x_blk ?_))
          refine x_nx (i + 1) sB om (fun w' c' => ?_) om
          rw [← hz, flatMap_set matT_length _ _ _ (by simp; omega), dsN_next hin] at c'
          exact c'.sub sL
        · have hie : i = a.m.length := by omega
          subst hie
          rw [dsN_end]
          repeat' (first | (show oL; first | refine sLb 2 tabs rfl rfl rfl rfl rfl ?_ | refine sLs rfl rfl rfl ?_ | (show oA (.store _ _ _); refine m_storeb 5 tabs rfl rfl rfl rfl rfl rfl rfl ?_)) | refine xNt ?_ | (show oC; first | refine c_seq ?_ | refine c_region ?_ | refine c_ret ?_ | refine c_exit ?_ | refine c_iff rfl nN ?_) | (show AT _ _ _ _; first | refine x_then ?_ | refine x_then_exit ?_ | refine x_blk_exit rfl ?_))
          exact x_ret1 Tryz.results176 (res_cellb 5 tabs rfl rfl rfl rfl) (fun w' c' => ⟨_, [.own (matsT 47 (tabM (dsM a b) a.m.length)) (.slice am a.m.length cm), .own (iT (mkv a.d.length (dsD a b))) (.slice ad a.d.length cd), .own (iT a.q.2.2) (.slice aT a.q.2.2.length cT), .own (iT a.q.2.1) (.slice aF a.q.2.1.length cF)], rfl, ⟨aF, cF, aT, cT, ad, cd, am, cm, by simp only [dsR, mkv_length, tabM_length], hsF, hsT, by simpa only [dsR, mkv_length] using hsd, by simpa only [dsR, tabM_length] using hsm, by simp only [dsR, mkv_length, tabM_length]⟩, c'.sub sL⟩)
def DsP (a b : Rp) : Prop := FitP a b ∧ RepP (dsR a b)
instance (a b : Rp) : Decidable (DsP a b) := by unfold DsP; infer_instance
def dsL (a b : Rp) : Rp := if DsP a b then dsR a b else repZ
theorem impl_DirectSum_ok {w : World} {a b : Rp} {e e' : Nat} {u0 u1 u2 u3 v0 v1 v2 v3 : Value} (h0 : Rd w (iT a.q.2.1) u0) (h1 : Rd w (iT a.q.2.2) u1) (h2 : Rd w (iT a.d) u2) (h3 : Rd w (matsT e a.m) u3) (k0 : Rd w (iT b.q.2.1) v0) (k1 : Rd w (iT b.q.2.2) v1) (k2 : Rd w (iT b.d) v2) (k3 : Rd w (matsT e' b.m) v3) :
    Does Tryz.prog 65 [.agg #[iV a.p, iV a.q.1, u0, u1, u2, u3], .agg #[iV b.p, iV b.q.1, v0, v1, v2, v3]] w (GivesRB (dsL a b) (decide (DsP a b))) := by
  by_cases hF : FitP a b
  · refine fn_enter Tryz.func65 rfl Tryz.ntmps65 rfl ?_
    repeat' (first | (show oL; first | refine sAs rfl rfl ?_ | (show oA (.load _ _); first | refine sLb 1 tabs rfl rfl rfl rfl rfl ?_ | refine sLb 2 tabs rfl rfl rfl rfl rfl ?_ | refine sLb 0 tabs rfl rfl rfl rfl rfl ?_) | (show oA (.unOp _ _ _); refine st_y (y_notd rfl) rfl ?_) | (show oA (.call _); first | (refine m_call (ent_of Tryz.func164 kr rfl) rfl rfl (fun w c => fit_ok (a := a) (b := b) (c.rd h0) (c.rd h1) (c.rd h2) (c.rd h3) (c.rd k0) (c.rd k1) (c.rd k2) (c.rd k3)) ?_; rintro v H' ⟨rfl, rfl⟩) | (refine m_call (ent_of Tryz.func176 kr rfl) rfl rfl (fun w c => directSum_ok (a := a) (b := b) (c.rd h0) (c.rd h1) (c.rd h2) (c.rd h3) (c.rd k2) (c.rd k3) hF) ?_; rintro v H' ⟨aF, cF, aT, cT, ad, cd, am, cm, rfl, hsF, hsT, hsd, hsm, rfl⟩) | (refine m_call (ent_of Tryz.func166 kr rfl) rfl rfl (fun w c => impl_IsRep_ok (r := dsR a b) (c.own_rd (i := 4) rfl) (c.own_rd (i := 3) rfl) (c.own_rd (i := 2) rfl) (c.own_rd (i := 1) rfl)) ?_; rintro v H' ⟨rfl, rfl⟩)) | (show oA (.store _ _ _); first | refine m_storeb 5 tabs rfl rfl rfl rfl rfl rfl rfl ?_ | refine m_storeb 0 tabs rfl rfl rfl rfl rfl rfl rfl ?_) | (show oA (.box _ _); refine m_box rfl rfl (fun b1 hb1 => ?_)) | (show oA (.alloc _); refine m_alloc tabs rfl rfl (fun b6 hb6 => ?_)) | (show oA (.build _ _); refine st_y (y_bld0 bld_rp0) rfl ?_)) | refine xNt ?_ | (show oC; first | refine c_seq ?_ | refine c_region ?_ | refine c_skip (x_then ?_) | refine c_ret ?_ | refine c_iff rfl nN ?_ | refine c_ifnd rfl (fun h => ?_) (fun h => ?_)) | (show AT _ _ _ _; refine x_then_ret ?_))
    all_goals first | exact absurd hF aS | skip
    · have hno : ¬ DsP a b := fun h => absurd h.2 aS
      rw [dsL, if_neg hno, decide_eq_false hno]
      exact x_ret2 Tryz.results65 (res_cellb 5 tabs rfl rfl rfl rfl) (res_tmp rfl) (fun w' c' => ⟨_, _, rfl, ⟨none, 0, none, 0, none, 0, none, 0, rfl, .inl rfl, .inl rfl, .inl rfl, .inl rfl, rfl⟩, Hp.nilp _ _ (Hp.nilp _ _ (Hp.nilp _ _ (Hp.nilp _ _ (c'.sub (List.nil_sublist _)))))⟩)
    · have hyes : DsP a b := ⟨hF, by first | assumption | exact Decidable.not_not.1 aS⟩
      rw [dsL, if_pos hyes, decide_eq_true hyes]
      exact x_ret2 Tryz.results65 (res_cellb 5 tabs rfl rfl rfl rfl) (res_tmp rfl) (fun w' c' => ⟨_, _, rfl, ⟨aF, cF, aT, cT, ad, cd, am, cm, rfl, hsF, hsT, hsd, hsm, rfl⟩, c'.sub sL⟩)
  · have hno : ¬ DsP a b := fun h => hF h.1
    rw [dsL, if_neg hno, decide_eq_false hno]
    refine fn_enter Tryz.func65 rfl Tryz.ntmps65 rfl ?_
    repeat' (first | (show oL; first | refine sAs rfl rfl ?_ | (show oA (.load _ _); first | refine sLb 1 tabs rfl rfl rfl rfl rfl ?_ | refine sLb 2 tabs rfl rfl rfl rfl rfl ?_) | (show oA (.unOp _ _ _); refine st_y (y_notd rfl) rfl ?_) | (show oA (.call _); (refine m_call (ent_of Tryz.func164 kr rfl) rfl rfl (fun w c => fit_ok (a := a) (b := b) (c.rd h0) (c.rd h1) (c.rd h2) (c.rd h3) (c.rd k0) (c.rd k1) (c.rd k2) (c.rd k3)) ?_; rintro v H' ⟨rfl, rfl⟩)) | (show oA (.store _ _ _); refine m_storeb 0 tabs rfl rfl rfl rfl rfl rfl rfl ?_) | (show oA (.box _ _); refine m_box rfl rfl (fun b1 hb1 => ?_)) | (show oA (.alloc _); refine m_alloc tabs rfl rfl (fun b6 hb6 => ?_)) | (show oA (.build _ _); refine st_y (y_bld0 bld_rp0) rfl ?_)) | refine xNt ?_ | (show oC; first | refine c_seq ?_ | refine c_region ?_ | refine c_ret ?_ | refine c_ift rfl aO ?_) | (show AT _ _ _ _; refine x_then_ret ?_))
    all_goals first | exact absurd aS hF | skip
    exact x_ret2 Tryz.results65 (res_cellb 0 tabs rfl rfl rfl rfl) (res_tmp rfl) (fun w' c' => ⟨_, _, rfl, ⟨none, 0, none, 0, none, 0, none, 0, rfl, .inl rfl, .inl rfl, .inl rfl, .inl rfl, rfl⟩, Hp.nilp _ _ (Hp.nilp _ _ (Hp.nilp _ _ (Hp.nilp _ _ (c'.sub (List.nil_sublist _)))))⟩)
end Go.Proofs.YtijjkfbkihgfgaaGreat
