import Derived.Test.YtdnhmnnccfoliaaGreatDoorFmmqrp
import Derived.Test.YtdnhmnnccfoliaaGreatDoorRksqrp
namespace Go.Proofs.YtdnhmnnccfoliaaGreatDoor
open Go.Lg Go.Proofs Go.RowKit
attribute [local irreducible] Code.wp wpList bodyPost Exit.then Exit.inBlock Hp Again Calls Y AT ResV QT Qn QI wpAny wpAnyQ
set_option maxRecDepth 20000
set_option maxHeartbeats 4000000

def fmS (p : Int) (d : List UInt8) (ms : List Mat) : Nat → List UInt8
  | 0 => d
  | i + 1 => fmS p d ms i ++ ([32] ++ fmtM p (ms.getD i mat0))
theorem fmS_eq (p : Int) (d : List UInt8) (ms : List Mat) : ∀ i, i ≤ ms.length → fmS p d ms i = d ++ (ms.take i).flatMap (fun m => 32 :: fmtM p m)
  | 0, _ => by simp [fmS]
  | i + 1, h => by
    have hl : i < ms.length := by omega
    rw [fmS, fmS_eq p d ms i om, List.take_add_one, List.getElem?_eq_getElem hl, List.flatMap_append]
    simp [List.getD, hl]
theorem fmS_len (p : Int) (d : List UInt8) (ms : List Mat) : ∀ i, (fmS p d ms i).length ≤ d.length + 133 * i
  | 0 => by simp [fmS]
  | i + 1 => by
    have h1 := fmS_len p d ms i
    have h2 := fmtM_len p (ms.getD i mat0)
    rw [fmS, List.length_append, List.length_append, List.length_singleton]
    omega
theorem fmR_eq {r : Rp} (h : RepP r) : fmtR r = fmS r.p (digL r.d) r.m r.m.length := by
  rw [fmtR, if_pos h, fmS_eq _ _ _ _ (Nat.le_refl _), List.take_length]
theorem digL_in {xs : List Int} (h : ∀ n, 0 ≤ xs.getD n 0 ∧ xs.getD n 0 ≤ 4) : ∀ i, i < xs.length → 0 ≤ xs.getD i 0 ∧ xs.getD i 0 ≤ 9 := fun i _ => by
  have := h i
  omega
theorem impl_FormatRep_ok {w : World} {r : Rp} {e : Nat} {u0 u1 u2 u3 : Value} (h0 : Rd w (iT r.q.2.1) u0) (h1 : Rd w (iT r.q.2.2) u1) (h2 : Rd w (iT r.d) u2) (h3 : Rd w (matsT e r.m) u3) :
    Does Tryz.prog 49 [.agg #[iV r.p, iV r.q.1, u0, u1, u2, u3]] w (fun v H => v = sV (fmtR r) ∧ H = []) := by
  by_cases hR : RepP r
  · have hdd := RepP.dd hR
    have hml := RepP.ml hR
    have hR1 := not_not_intro hR
    rw [fmR_eq hR]
    obtain ⟨a3, c3, rfl, hs3, hc3, hd3, hg3⟩ := rd_mats h3
    refine fn_enter Tryz.func49 rfl Tryz.ntmps49 rfl ?_
    repeat' (first | (show oL; first | refine sMv rfl rfl ?_ | refine sAs rfl rfl ?_ | refine sFd tabs rfl rfl rfl rfl ?_ | (show oA (.load _ _); first | refine sLd 0 tabs rfl rfl rfl rfl rfl ?_ | refine sLb 0 tabs rfl rfl rfl rfl rfl ?_) | (show oA (.unOp _ _ _); refine st_y (y_notd rfl) rfl ?_) | (show oA (.call _); first | (refine m_call (ent_of Tryz.func52 kr rfl) rfl rfl (fun w c => impl_IsRep_ok (r := r) (c.rd h0) (c.rd h1) (c.rd h2) (c.rd h3)) ?_; rintro v H' ⟨rfl, rfl⟩) | (refine m_call (ent_of Tryz.func92 kr rfl) rfl rfl (fun w c => digits_ok (c.rd h2) om (digL_in hdd.1)) ?_; rintro v H' ⟨rfl, rfl⟩) | refine sLn tabs rfl rfl rfl ?_) | (show oA (.box _ _); refine m_box rfl rfl (fun b hb => ?_))) | refine xNt ?_ | (show oC; first | refine c_seq ?_ | refine c_region ?_ | refine c_skip (x_then ?_) | refine c_block ?_ | refine c_iff rfl nN ?_))
    all_goals first | exact absurd hR aS | skip
    refine c_loopH (α := Nat) [1, 13, 14] (fun i => [(3, sV (fmS r.p (digL r.d) r.m i)), (15, .int .i64 i)]) (fun i => i ≤ r.m.length) (fun i => [.blk b #[iV r.p, iV r.q.1, u0, u1, u2, .slice a3 r.m.length c3] 29]) (fun i => r.m.length - i) 0 rfl sB ?_ ?_ ?_
    · exact Nat.zero_le _
    · exact fun w' c' => c'
    · intro i hi
      have hfl := fmS_len r.p (digL r.d) r.m i
      have hdl : (digL r.d).length = r.d.length := digL_len
      by_cases hin : i < r.m.length
      · obtain ⟨m, hm⟩ : ∃ m, r.m[i]? = some m := ⟨_, List.getElem?_eq_getElem hin⟩
        obtain ⟨g1, g2, g3, g4, g5, g6⟩ := hg3 i m hm
        have hfm := fmtM_len r.p m
        have en : fmS r.p (digL r.d) r.m (i + 1) = fmS r.p (digL r.d) r.m i ++ ([32] ++ fmtM r.p m) := by rw [fmS, show r.m.getD i mat0 = m by simp [List.getD, hm]]
        repeat' (first | (show oL; first | refine sMv rfl rfl ?_ | refine sAs rfl rfl ?_ | refine sFd tabs rfl rfl rfl rfl ?_ | (show oA (.load _ _); first | refine st_y (y_load3 tabs rfl rfl (hc_w0 g3) (hc_w0 g4) (hc_w0 g5)) rfl ?_ | refine sLd 1 tabs rfl rfl rfl rfl rfl ?_ | refine sLb 0 tabs rfl rfl rfl rfl rfl ?_) | (show oA (.indexAddr _ _ _); refine st_y (y_ixa tabs rfl rfl rfl hs3 om om) rfl ?_) | (show oA (.binOp _ _ _ _ _); first | refine st_y (y_cat rfl rfl (by simp) om) rfl ?_ | refine st_y (y_cat rfl rfl om (by rw [List.length_append]; simp; omega)) rfl ?_ | refine sAd rfl rfl om rfl ?_ | refine sLs rfl rfl rfl ?_) | (show oA (.call _); (refine m_call (ent_of Tryz.func17 kr rfl) rfl rfl (fun w c => impl_FormatMatrix_ok (p := r.p) (m := m) (c.rd g6)) ?_; rintro v H' ⟨rfl, rfl⟩)) | (show oA (.store _ _ _); refine m_storeb 0 tabs rfl rfl rfl rfl rfl rfl rfl ?_) | (show oA (.alloc _); refine m_alloc tabs rfl rfl (fun b5 hb5 => ?_))) | (show oN; first | refine c_nil (x_then ?_) | refine c_nil ?_) | (show oC; first | refine c_seq ?_ | refine c_region ?_ | refine c_skip (x_then ?_) | refine c_block ?_ | refine c_ift rfl aO ?_) | (show AT _ _ _ _; first | refine x_then ?_ | refine x_blk ?_))
        rw [← en]
        exact x_nx (i + 1) sB om (fun w' c' => c'.sub sL) om
      · have : i = r.m.length := by omega
        subst this
        repeat' (first | (show oL; first | refine sMv rfl rfl ?_ | refine sAs rfl rfl ?_ | refine sLs rfl rfl rfl ?_) | refine xNt ?_ | (show oC; first | refine c_seq ?_ | refine c_region ?_ | refine c_ret ?_ | refine c_exit ?_ | refine c_iff rfl nN ?_) | (show AT _ _ _ _; first | refine x_then ?_ | refine x_then_exit ?_ | refine x_blk_exit rfl ?_))
        exact x_ret1 Tryz.results49 (res_tmp rfl) (fun w' c' => ⟨_, _, rfl, ⟨rfl, rfl⟩, c'.sub (List.nil_sublist _)⟩)
  · have e0 : fmtR r = [] := by rw [fmtR, if_neg hR]
    rw [e0]
    refine fn_enter Tryz.func49 rfl Tryz.ntmps49 rfl ?_
    repeat' (first | (show oL; first | refine sAs rfl rfl ?_ | refine sLb 0 tabs rfl rfl rfl rfl rfl ?_ | (show oA (.unOp _ _ _); refine st_y (y_notd rfl) rfl ?_) | (show oA (.call _); (refine m_call (ent_of Tryz.func52 kr rfl) rfl rfl (fun w c => impl_IsRep_ok (r := r) (c.rd h0) (c.rd h1) (c.rd h2) (c.rd h3)) ?_; rintro v H' ⟨rfl, rfl⟩)) | (show oA (.box _ _); refine m_box rfl rfl (fun b hb => ?_))) | refine xNt ?_ | (show oC; first | refine c_seq ?_ | refine c_region ?_ | refine c_ret ?_ | refine c_ift rfl aO ?_) | (show AT _ _ _ _; refine x_then_ret ?_))
    all_goals first | exact absurd aS hR | skip
    exact x_ret1 Tryz.results49 (res_tmp rfl) (fun w' c' => ⟨_, _, rfl, ⟨rfl, rfl⟩, c'.sub (List.nil_sublist _)⟩)
theorem spec_FormatRep_ok {w : World} {r : Rp} {e : Nat} {u0 u1 u2 u3 : Value} (h0 : Rd w (iT r.q.2.1) u0) (h1 : Rd w (iT r.q.2.2) u1) (h2 : Rd w (iT r.d) u2) (h3 : Rd w (matsT e r.m) u3) :
    Does Tryz.prog 51 [.agg #[iV r.p, iV r.q.1, u0, u1, u2, u3]] w (fun v H => v = sV (fmtR r) ∧ H = []) := by
  by_cases hR : RepP r
  · have hdd := RepP.dd hR
    have hml := RepP.ml hR
    have hd9 := digL_in hdd.1
    rw [fmR_eq hR]
    obtain ⟨a3, c3, rfl, hs3, hc3, hd3, hg3⟩ := rd_mats h3
    obtain ⟨a2, c2, rfl, hs2, hc2, hd2, hg2⟩ := h2.ints
    refine fn_enter Tryz.func51 rfl Tryz.ntmps51 rfl ?_
    repeat' (first | (show oL; first | refine sAs rfl rfl ?_ | refine sLb 0 tabs rfl rfl rfl rfl rfl ?_ | (show oA (.unOp _ _ _); refine st_y (y_notd rfl) rfl ?_) | (show oA (.call _); (refine m_call (ent_of Tryz.func53 kr rfl) rfl rfl (fun w c => spec_IsRep_ok (r := r) (c.rd h0) (c.rd h1) (c.rd h2) (c.rd h3)) ?_; rintro v H' ⟨rfl, rfl⟩)) | (show oA (.box _ _); refine m_box rfl rfl (fun b hb => ?_))) | refine xNt ?_ | (show oC; first | refine c_seq ?_ | refine c_region ?_ | refine c_skip (x_then ?_) | refine c_block ?_ | refine c_iff rfl nN ?_))
    all_goals first | exact absurd hR aS | skip
    refine c_loopH (α := Nat) [1] (fun i => [(3, sV (digL (r.d.take i))), (4, .int .i64 i)]) (fun i => i ≤ r.d.length) (fun i => [.blk b #[iV r.p, iV r.q.1, u0, u1, .slice a2 r.d.length c2, .slice a3 r.m.length c3] 29]) (fun i => r.d.length - i) 0 rfl sB ?_ ?_ ?_
    · exact Nat.zero_le _
    · exact fun w' c' => c'
    · intro i hi
      by_cases hin : i < r.d.length
      · have gd := hg2 i hin
        have hx := hd9 i hin
        have hdl : (digL (r.d.take i)).length ≤ 5 := by rw [digL_len, List.length_take]; omega
        repeat' (first | (show oL; first | refine sMv rfl rfl ?_ | refine sAs rfl rfl ?_ | refine sFd tabs rfl rfl rfl rfl ?_ | (show oA (.load _ _); first | refine st_y (y_load tabs rfl rfl (hc_w0 gd)) rfl ?_ | refine sLd 0 tabs rfl rfl rfl rfl rfl ?_) | (show oA (.indexAddr _ _ _); refine st_y (y_ix1 tabs (j := i) rfl rfl rfl hs2 rfl hin) rfl ?_) | (show oA (.binOp _ _ _ _ _); first | refine st_y (y_cat rfl rfl om (by simp)) rfl ?_ | refine sAd rfl rfl om rfl ?_ | refine sLs rfl rfl rfl ?_) | (show oA (.call _); first | (refine m_call (ent_of Tryz.func103 kr rfl) rfl rfl (fun w c => spec_FormatInt_ok (n := r.d.getD i 0) hx.1 hx.2) ?_; rintro v H' ⟨rfl, rfl⟩) | refine sLn tabs rfl rfl rfl ?_)) | (show oN; first | refine c_nil (x_then ?_) | refine c_nil ?_) | (show oC; first | refine c_seq ?_ | refine c_region ?_ | refine c_skip (x_then ?_) | refine c_block ?_ | refine c_ift rfl aO ?_) | (show AT _ _ _ _; first | refine x_then ?_ | refine x_blk ?_))
        rw [← digL_next hin]
        exact x_nx (i + 1) sB om (fun w' c' => c') om
      · have : i = r.d.length := by omega
        subst this
        rw [List.take_length]
        repeat' (first | (show oL; first | refine sMv rfl rfl ?_ | refine sAs rfl rfl ?_ | refine sFd tabs rfl rfl rfl rfl ?_ | refine sLd 0 tabs rfl rfl rfl rfl rfl ?_ | refine sLs rfl rfl rfl ?_ | refine sLn tabs rfl rfl rfl ?_) | refine xNt ?_ | (show oC; first | refine c_seq ?_ | refine c_region ?_ | refine c_block ?_ | refine c_exit ?_ | refine c_iff rfl nN ?_) | (show AT _ _ _ _; first | refine x_then ?_ | refine x_then_exit ?_ | refine x_blk_exit rfl ?_))
        have hdl : (digL r.d).length = r.d.length := digL_len
        refine c_loopH (α := Nat) [1] (fun i => [(3, sV (fmS r.p (digL r.d) r.m i)), (5, .int .i64 i)]) (fun i => i ≤ r.m.length) (fun i => [.blk b #[iV r.p, iV r.q.1, u0, u1, .slice a2 r.d.length c2, .slice a3 r.m.length c3] 29]) (fun i => r.m.length - i) 0 rfl sB ?_ ?_ ?_
        · exact Nat.zero_le _
        · exact fun w' c' => c'
        · intro i hi
          have hfl := fmS_len r.p (digL r.d) r.m i
          by_cases hin : i < r.m.length
          · obtain ⟨m, hm⟩ : ∃ m, r.m[i]? = some m := ⟨_, List.getElem?_eq_getElem hin⟩
            obtain ⟨g1, g2, g3, g4, g5, g6⟩ := hg3 i m hm
            have hfm := fmtM_len r.p m
            have en : fmS r.p (digL r.d) r.m (i + 1) = fmS r.p (digL r.d) r.m i ++ ([32] ++ fmtM r.p m) := by rw [fmS, show r.m.getD i mat0 = m by simp [List.getD, hm]]
            repeat' (first | (show oL; first | refine sMv rfl rfl ?_ | refine sAs rfl rfl ?_ | refine sFd tabs rfl rfl rfl rfl ?_ | refine sLd 0 tabs rfl rfl rfl rfl rfl ?_ | (show oA (.binOp _ _ _ _ _); first | refine sAd rfl rfl om rfl ?_ | refine sLs rfl rfl rfl ?_) | refine sLn tabs rfl rfl rfl ?_) | refine xNt ?_ | (show oC; first | refine c_seq ?_ | refine c_region ?_ | refine c_skip (x_then ?_) | refine c_block ?_ | refine c_draw kr kr (fun _ c => Hp.drew c) ?_ | refine c_ift rfl aO ?_) | (show QT _ _ _ _ _ _ (_ :: _); first | refine qMv rfl rfl ?_ | refine qAs rfl rfl ?_ | refine qFd tabs rfl rfl rfl rfl ?_ | (show qA (.load _ _); first | refine q_y (y_load3 tabs rfl rfl (hc_w0 g3) (hc_w0 g4) (hc_w0 g5)) rfl ?_ | refine qLd 0 tabs rfl rfl rfl rfl rfl ?_) | (show qA (.indexAddr _ _ _); refine q_y (y_ixa tabs rfl rfl rfl hs3 om om) rfl ?_) | (show qA (.binOp _ _ _ _ _); first | refine q_y (y_cat rfl rfl om (by simp)) rfl ?_ | refine q_y (y_cat rfl rfl (by rw [List.length_append]; simp; omega) om) rfl ?_) | (show qA (.call _); refine q_call (ent_of Tryz.func21 kr rfl) rfl rfl (fun w c => spec_FormatMatrix_ok (p := r.p) (m := m) (c.rd g6)) (fun u H' h => h.1) ?_)) | (show QT _ _ _ _ _ _ []; refine q_nil ?_) | (show AT _ _ _ _; first | refine x_then ?_ | refine x_blk ?_))
            rw [List.append_assoc, ← en]
            exact x_nx (i + 1) sB om (fun w' c' => c') om
          · have : i = r.m.length := by omega
            subst this
            repeat' (first | (show oL; first | refine sMv rfl rfl ?_ | refine sAs rfl rfl ?_ | refine sFd tabs rfl rfl rfl rfl ?_ | refine sLd 0 tabs rfl rfl rfl rfl rfl ?_ | refine sLs rfl rfl rfl ?_ | refine sLn tabs rfl rfl rfl ?_) | refine xNt ?_ | (show oC; first | refine c_seq ?_ | refine c_region ?_ | refine c_ret ?_ | refine c_exit ?_ | refine c_iff rfl nN ?_) | (show AT _ _ _ _; first | refine x_then ?_ | refine x_then_exit ?_ | refine x_blk_exit rfl ?_))
            exact x_ret1 Tryz.results51 (res_tmp rfl) (fun w' c' => ⟨_, _, rfl, ⟨rfl, rfl⟩, c'.sub (List.nil_sublist _)⟩)
  · have e0 : fmtR r = [] := by rw [fmtR, if_neg hR]
    rw [e0]
    refine fn_enter Tryz.func51 rfl Tryz.ntmps51 rfl ?_
    repeat' (first | (show oL; first | refine sAs rfl rfl ?_ | refine sLb 0 tabs rfl rfl rfl rfl rfl ?_ | (show oA (.unOp _ _ _); refine st_y (y_notd rfl) rfl ?_) | (show oA (.call _); (refine m_call (ent_of Tryz.func53 kr rfl) rfl rfl (fun w c => spec_IsRep_ok (r := r) (c.rd h0) (c.rd h1) (c.rd h2) (c.rd h3)) ?_; rintro v H' ⟨rfl, rfl⟩)) | (show oA (.box _ _); refine m_box rfl rfl (fun b hb => ?_))) | refine xNt ?_ | (show oC; first | refine c_seq ?_ | refine c_region ?_ | refine c_ret ?_ | refine c_ift rfl aO ?_) | (show AT _ _ _ _; refine x_then_ret ?_))
    all_goals first | exact absurd aS hR | skip
    exact x_ret1 Tryz.results51 (res_tmp rfl) (fun w' c' => ⟨_, _, rfl, ⟨rfl, rfl⟩, c'.sub (List.nil_sublist _)⟩)
end Go.Proofs.YtdnhmnnccfoliaaGreatDoor
