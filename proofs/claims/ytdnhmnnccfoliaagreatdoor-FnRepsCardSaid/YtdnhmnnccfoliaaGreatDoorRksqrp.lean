import Derived.Test.YtdnhmnnccfoliaaGreatDoorSpbqrp
import Derived.Test.YtdnhmnnccfoliaaGreatDoorSupqrp
namespace Go.Proofs.YtdnhmnnccfoliaaGreatDoor
open Go.Lg Go.Proofs Go.RowKit
attribute [local irreducible] Code.wp wpList bodyPost Exit.then Exit.inBlock Hp Again Calls Y AT ResV QT Qn QI wpAny wpAnyQ
set_option maxRecDepth 20000
set_option maxHeartbeats 4000000

def rkN (p : Int) (ms : List Mat) : Nat → List Int
  | 0 => []
  | n + 1 => rkN p ms n ++ [((redL p (ms.getD n mat0)).length : Int)]
theorem rkN_len (p : Int) (ms : List Mat) : ∀ n, (rkN p ms n).length = n
  | 0 => rfl
  | n + 1 => by rw [rkN, List.length_append, rkN_len p ms n]; rfl
def ranksL (r : Rp) : List Int := if RepP r then rkN r.p r.m r.m.length else []
theorem RepP.ml {r : Rp} (h : RepP r) : r.m.length ≤ 6 := by
  have h1 := h.2.1.1.2.1
  have h2 := h.2.2.1
  omega
theorem impl_RanksOf_ok {w : World} {r : Rp} {e : Nat} {u0 u1 u2 u3 : Value} (h0 : Rd w (iT r.q.2.1) u0) (h1 : Rd w (iT r.q.2.2) u1) (h2 : Rd w (iT r.d) u2) (h3 : Rd w (matsT e r.m) u3) :
    Does Tryz.prog 57 [.agg #[iV r.p, iV r.q.1, u0, u1, u2, u3]] w (GivesIL (ranksL r)) := by
  obtain ⟨a3, c3, rfl, hs3, hc3, hd3, hg3⟩ := rd_mats h3
  by_cases hR : RepP r
  · have hml := hR.ml
    rw [ranksL, if_pos hR]
    refine fn_enter Tryz.func57 rfl Tryz.ntmps57 rfl ?_
    repeat' (first | (show oL; first | refine sMv rfl rfl ?_ | refine sAs rfl rfl ?_ | refine sFd tabs rfl rfl rfl rfl ?_ | (show oA (.load _ _); first | refine sLd 0 tabs rfl rfl rfl rfl rfl ?_ | refine sLb 0 tabs rfl rfl rfl rfl rfl ?_) | (show oA (.unOp _ _ _); refine st_y (y_notd rfl) rfl ?_) | (show oA (.call _); first | (refine m_call (ent_of Tryz.func52 kr rfl) rfl rfl (fun w c => impl_IsRep_ok (r := r) (c.rd h0) (c.rd h1) (c.rd h2) (c.rd h3)) ?_; rintro v H' ⟨rfl, rfl⟩) | refine sLn tabs rfl rfl rfl ?_) | (show oA (.box _ _); refine m_box rfl rfl (fun b hb => ?_))) | refine xNt ?_ | (show oC; first | refine c_seq ?_ | refine c_region ?_ | refine c_skip (x_then ?_) | refine c_block ?_ | refine c_iff rfl nN ?_))
    refine c_loopH (α := Nat × Option Addr × Nat) [1, 10, 11] (fun s => [(3, .slice s.2.1 (rkN r.p r.m s.1).length s.2.2), (12, .int .i64 s.1)]) (fun s => s.1 ≤ r.m.length) (fun s => [.own (iT (rkN r.p r.m s.1)) (.slice s.2.1 (rkN r.p r.m s.1).length s.2.2), .blk b #[iV r.p, iV r.q.1, u0, u1, u2, .slice a3 r.m.length c3] 29]) (fun s => r.m.length - s.1) (0, none, 0) rfl sB ?_ ?_ ?_
    · exact Nat.zero_le _
    · exact fun w' c' => Hp.nilp _ _ c'
    · rintro ⟨i, al, cl⟩ hi
      simp only at hi ⊢
      have hln := rkN_len r.p r.m i
      by_cases hin : i < r.m.length
      · obtain ⟨m, hm⟩ : ∃ m, r.m[i]? = some m := ⟨_, List.getElem?_eq_getElem hin⟩
        obtain ⟨a4, c4, g1, g2, g3, g4⟩ := hg3 i m hm
        have hmd : r.m.getD i mat0 = m := by simp [List.getD, hm]
        have hM : MatP r.p m := by have := (hR.2.2.2 i hin).1; rwa [hmd] at this
        repeat' (first | (show oL; first | refine sMv rfl rfl ?_ | refine sAs rfl rfl ?_ | refine sFd tabs rfl rfl rfl rfl ?_ | (show oA (.load _ _); first | refine st_y (y_load3 tabs rfl rfl (hc_w0 g1) (hc_w0 g2) (hc_w0 g3)) rfl ?_ | refine sLb 0 tabs rfl rfl rfl rfl rfl ?_ | refine sLd 2 tabs rfl rfl rfl rfl rfl ?_) | (show oA (.indexAddr _ _ _); refine st_y (y_ixa tabs rfl rfl rfl mK om om) rfl ?_) | (show oA (.binOp _ _ _ _ _); first | refine sAd rfl rfl om rfl ?_ | refine sLs rfl rfl rfl ?_) | (show oA (.call _); first | (refine m_call (ent_of Tryz.func135 kr rfl) rfl rfl (fun w c => rank_ok (m := m) (c.rd g4) hM.g) ?_; rintro v H' ⟨rfl, rfl⟩) | refine m_pushn 1 tabs (k := ((redL r.p m).length : Int)) (m := (rkN r.p r.m i).length) rfl rfl rfl rfl rfl rfl om (fun a6 c6 => ?_)) | (show oA (.store _ _ _); refine m_storeb 0 tabs rfl rfl rfl rfl rfl rfl rfl ?_) | (show oA (.alloc _); refine m_alloc tabs rfl rfl (fun b5 hb5 => ?_)) | (show oA (.buildSlice _ _ _); refine m_build1 tabs (us := [iV (redL r.p m).length]) rfl rfl rfl rfl (by decide) rfl (fun g5 hg5 => ?_))) | (show oN; first | refine c_nil (x_then ?_) | refine c_nil ?_) | (show oC; first | refine c_seq ?_ | refine c_region ?_ | refine c_skip (x_then ?_) | refine c_block ?_ | refine c_ift rfl aO ?_) | (show AT _ _ _ _; first | refine x_then ?_ | refine x_blk ?_))
        refine x_nx (i + 1, a6, c6) (by rw [rkN, hmd, List.length_append, List.length_singleton]; exact sB) (by simp only; omega) (fun w' c' => ?_) (by simp only; omega)
        simp only [rkN, hmd, List.length_append, List.length_singleton]
        exact c'.sub (.cons_cons _ (.cons _ (List.Sublist.refl _)))
      · have : i = r.m.length := by omega
        subst this
        refine AT.fact (own_sl 0 rfl) (fun hsl => ?_)
        obtain ⟨a4, c4, e4, hs4⟩ := hsl
        cases e4
        repeat' (first | (show oL; first | refine sMv rfl rfl ?_ | refine sAs rfl rfl ?_ | refine sLs rfl rfl rfl ?_) | refine xNt ?_ | (show oC; first | refine c_seq ?_ | refine c_region ?_ | refine c_ret ?_ | refine c_exit ?_ | refine c_iff rfl nN ?_) | (show AT _ _ _ _; first | refine x_then ?_ | refine x_then_exit ?_ | refine x_blk_exit rfl ?_))
        exact x_ret1 Tryz.results57 (res_tmp rfl) (fun w' c' => ⟨_, _, rfl, ⟨_, _, rfl, hs4, rfl⟩, c'.sub (.cons_cons _ (List.nil_sublist _))⟩)
  · rw [ranksL, if_neg hR]
    refine fn_enter Tryz.func57 rfl Tryz.ntmps57 rfl ?_
    repeat' (first | (show oL; first | refine sAs rfl rfl ?_ | refine sLb 0 tabs rfl rfl rfl rfl rfl ?_ | (show oA (.unOp _ _ _); refine st_y (y_notd rfl) rfl ?_) | (show oA (.call _); (refine m_call (ent_of Tryz.func52 kr rfl) rfl rfl (fun w c => impl_IsRep_ok (r := r) (c.rd h0) (c.rd h1) (c.rd h2) (c.rd h3)) ?_; rintro v H' ⟨rfl, rfl⟩)) | (show oA (.box _ _); refine m_box rfl rfl (fun b hb => ?_))) | refine xNt ?_ | (show oC; first | refine c_seq ?_ | refine c_region ?_ | refine c_ret ?_ | refine c_ift rfl aO ?_) | (show AT _ _ _ _; refine x_then_ret ?_))
    exact x_ret1 Tryz.results57 (res_tmp rfl) (fun w' c' => ⟨_, _, rfl, ⟨none, 0, rfl, .inl rfl, rfl⟩, Hp.nilp _ _ (c'.sub (List.nil_sublist _))⟩)
theorem spec_RanksOf_ok {w : World} {r : Rp} {e : Nat} {u0 u1 u2 u3 : Value} (h0 : Rd w (iT r.q.2.1) u0) (h1 : Rd w (iT r.q.2.2) u1) (h2 : Rd w (iT r.d) u2) (h3 : Rd w (matsT e r.m) u3) :
    Does Tryz.prog 58 [.agg #[iV r.p, iV r.q.1, u0, u1, u2, u3]] w (GivesIL (ranksL r)) := by
  obtain ⟨a3, c3, rfl, hs3, hc3, hd3, hg3⟩ := rd_mats h3
  unfold maxLen at hd3
  refine fn_enter Tryz.func58 rfl Tryz.ntmps58 rfl ?_
  repeat' (first | (show oL; first | refine sAs rfl rfl ?_ | (show oA (.box _ _); refine m_box rfl rfl (fun b hb => ?_)) | (show oA (.buildSlice _ _ _); refine m_build0 tabs rfl rfl (fun g hg => ?_))) | refine xNt ?_ | (show oC; first | refine c_seq ?_ | refine c_region ?_ | refine c_block ?_))
  refine c_loopH (α := Nat × Option Addr × Nat) [1] (fun s => [(3, .slice s.2.1 (rkN r.p r.m s.1).length s.2.2), (4, .int .i64 s.1)]) (fun s => s.1 ≤ r.m.length ∧ (s.1 = 0 ∨ RepP r)) (fun s => [.own (iT (rkN r.p r.m s.1)) (.slice s.2.1 (rkN r.p r.m s.1).length s.2.2), .blk b #[iV r.p, iV r.q.1, u0, u1, u2, .slice a3 r.m.length c3] 29]) (fun s => r.m.length - s.1) (0, some ⟨g, 0, none⟩, 0) rfl sB ?_ ?_ ?_
  · exact ⟨Nat.zero_le _, .inl rfl⟩
  · exact fun w' c' => c'
  · rintro ⟨i, al, cl⟩ ⟨hi, hz⟩
    simp only at hi hz ⊢
    have hln := rkN_len r.p r.m i
    have hend : (¬ i < r.m.length ∨ ¬ RepP r) → rkN r.p r.m i = ranksL r := fun h => by
      by_cases hR : RepP r
      · rw [ranksL, if_pos hR]
        have : i = r.m.length := by rcases h with h | h; · omega
                                    · exact absurd hR h
        rw [this]
      · rw [ranksL, if_neg hR]
        rcases hz with h' | h'
        · rw [h']; rfl
        · exact absurd h' hR
    refine AT.fact (own_sl 0 rfl) (fun hsl => ?_)
    obtain ⟨a4, c4, e4, hs4⟩ := hsl
    cases e4
    by_cases hin : i < r.m.length
    · by_cases hR : RepP r
      · have hml := hR.ml
        obtain ⟨m, hm⟩ : ∃ m, r.m[i]? = some m := ⟨_, List.getElem?_eq_getElem hin⟩
        obtain ⟨a4, c4, g1, g2, g3, g4⟩ := hg3 i m hm
        have hmd : r.m.getD i mat0 = m := by simp [List.getD, hm]
        have hM : MatP r.p m := by have := (hR.2.2.2 i hin).1; rwa [hmd] at this
        have hk : rankF r.p m = (redL r.p m).length := by rw [rankF, if_pos hM]
        repeat' (first | (show oL; first | refine sMv rfl rfl ?_ | refine sFd tabs rfl rfl rfl rfl ?_ | (show oA (.load _ _); first | refine sLb 1 tabs rfl rfl rfl rfl rfl ?_ | refine sLd 1 tabs rfl rfl rfl rfl rfl ?_) | refine sLs rfl rfl rfl ?_ | (show oA (.call _); first | (refine m_call (ent_of Tryz.func53 kr rfl) rfl rfl (fun w c => spec_IsRep_ok (r := r) (c.rd h0) (c.rd h1) (c.rd h2) (c.rd h3)) ?_; rintro v H' ⟨rfl, rfl⟩) | refine sLn tabs rfl rfl rfl ?_) | (show oA (.pick _ _ _); refine st_y (y_pickt rfl aO rfl) rfl ?_) | refine st_gdy rfl rfl aO ?_) | refine xNt ?_ | (show oC; first | refine c_seq ?_ | refine c_region ?_ | refine c_skip (x_then ?_) | refine c_block ?_ | refine c_ift rfl aO ?_))
        refine c_all (Hp [] w [.blk b #[iV r.p, iV r.q.1, u0, u1, u2, .slice a3 r.m.length c3] 29]) kr (fun _ c => Hp.drew c) ?_
        refine h_take 0 rfl kr kr kr (by exact y_move rfl) rfl (fun w c => by exact c.drop) ?_
        refine h_take 1 rfl kr kr kr (by exact y_field tabs rfl rfl rfl) rfl (fun w c => by exact c.drop) ?_
        refine h_take 2 rfl kr kr kr (by exact y_load tabs rfl rfl (hc_blk 0 rfl rfl)) rfl (fun w c => by exact c.drop) ?_
        refine h_take 3 rfl kr kr kr (by exact y_field tabs rfl rfl rfl) rfl (fun w c => by exact c.drop) ?_
        refine h_take 4 rfl kr kr kr (by exact y_load tabs rfl rfl (hc_blk 0 rfl rfl)) rfl (fun w c => by exact c.drop) ?_
        refine h_take 5 rfl kr kr kr (by exact y_move rfl) rfl (fun w c => by exact c.drop) ?_
        refine h_take 6 rfl kr kr kr (by exact y_ixa tabs rfl rfl rfl hs3 om om) rfl (fun w c => by exact c.drop) ?_
        refine h_take 7 rfl kr kr kr (by exact y_load3 tabs rfl rfl (hc_w0 g1) (hc_w0 g2) (hc_w0 g3)) rfl (fun w c => by exact c.drop) ?_
        refine h_only 8 rfl kr ?_
        first | (refine m_build1 tabs (us := [iV (redL r.p m).length]) rfl rfl rfl rfl (by decide) rfl (fun g5 hg5 => ?_)) | (refine m_call (ent_of Tryz.func136 kr rfl) rfl rfl (fun w c => (by have := spec_RankOf_ok (p := r.p) (m := m) (c.rd g4); rw [hk] at this; exact this)) ?_; rintro v H' ⟨rfl, rfl⟩) | (refine m_pushn 0 tabs (k := ((redL r.p m).length : Int)) (m := (rkN r.p r.m i).length) rfl rfl rfl rfl rfl rfl om (fun a6 c6 => ?_))
        refine c_nil (x_one (h_keep (fun w c => by exact c.drop) ?_))
        refine h_only 9 rfl kr ?_
        first | (refine m_build1 tabs (us := [iV (redL r.p m).length]) rfl rfl rfl rfl (by decide) rfl (fun g5 hg5 => ?_)) | (refine m_call (ent_of Tryz.func136 kr rfl) rfl rfl (fun w c => (by have := spec_RankOf_ok (p := r.p) (m := m) (c.rd g4); rw [hk] at this; exact this)) ?_; rintro v H' ⟨rfl, rfl⟩) | (refine m_pushn 0 tabs (k := ((redL r.p m).length : Int)) (m := (rkN r.p r.m i).length) rfl rfl rfl rfl rfl rfl om (fun a6 c6 => ?_))
        refine c_nil (x_one (h_keep (fun w c => by exact c.drop.drop) ?_))
        refine h_only 10 rfl kr ?_
        first | (refine m_build1 tabs (us := [iV (redL r.p m).length]) rfl rfl rfl rfl (by decide) rfl (fun g5 hg5 => ?_)) | (refine m_call (ent_of Tryz.func136 kr rfl) rfl rfl (fun w c => (by have := spec_RankOf_ok (p := r.p) (m := m) (c.rd g4); rw [hk] at this; exact this)) ?_; rintro v H' ⟨rfl, rfl⟩) | (refine m_pushn 0 tabs (k := ((redL r.p m).length : Int)) (m := (rkN r.p r.m i).length) rfl rfl rfl rfl rfl rfl om (fun a6 c6 => ?_))
        refine c_nil (x_one (h_keep (fun w c => by exact c.drop) ?_))
        refine h_take 11 rfl kr kr kr (by exact y_assign rfl) rfl (fun w c => by exact c.drop) ?_
        refine h_end kr ?_
        repeat' (first | (show oL; first | refine sMv rfl rfl ?_ | refine sAs rfl rfl ?_ | refine sAd rfl rfl om rfl ?_) | refine xNt ?_ | (show oC; refine c_region ?_) | (show AT _ _ _ _; first | refine x_then ?_ | refine x_blk ?_))
        refine x_nx (i + 1, a6, c6) (by rw [rkN, hmd, List.length_append, List.length_singleton]; exact sB) ⟨by simp only; omega, .inr hR⟩ (fun w' c' => ?_) (by simp only; omega)
        simp only [rkN, hmd, List.length_append, List.length_singleton]
        exact c'
      · repeat' (first | (show oL; first | refine sMv rfl rfl ?_ | refine sAs rfl rfl ?_ | refine sFd tabs rfl rfl rfl rfl ?_ | (show oA (.load _ _); first | refine sLb 1 tabs rfl rfl rfl rfl rfl ?_ | refine sLd 1 tabs rfl rfl rfl rfl rfl ?_) | refine sLs rfl rfl rfl ?_ | (show oA (.call _); first | (refine m_call (ent_of Tryz.func53 kr rfl) rfl rfl (fun w c => spec_IsRep_ok (r := r) (c.rd h0) (c.rd h1) (c.rd h2) (c.rd h3)) ?_; rintro v H' ⟨rfl, rfl⟩) | refine sLn tabs rfl rfl rfl ?_) | (show oA (.pick _ _ _); refine st_y (y_pickt rfl aO rfl) rfl ?_) | refine st_gdy rfl rfl aO ?_) | refine xNt ?_ | (show oC; first | refine c_seq ?_ | refine c_region ?_ | refine c_ret ?_ | refine c_exit ?_ | refine c_iff rfl nN ?_) | (show AT _ _ _ _; first | refine x_then ?_ | refine x_then_exit ?_ | refine x_blk_exit rfl ?_))
        rw [← hend (.inr hR)]
        exact x_ret1 Tryz.results58 (res_tmp rfl) (fun w' c' => ⟨_, _, rfl, ⟨_, _, rfl, hs4, rfl⟩, c'.sub (.cons_cons _ (List.nil_sublist _))⟩)
    · repeat' (first | (show oL; first | refine sMv rfl rfl ?_ | refine sAs rfl rfl ?_ | refine sFd tabs rfl rfl rfl rfl ?_ | refine sLd 1 tabs rfl rfl rfl rfl rfl ?_ | refine sLs rfl rfl rfl ?_ | refine sLn tabs rfl rfl rfl ?_ | (show oA (.pick _ _ _); refine st_y (y_pickf rfl aO rfl) rfl ?_) | refine st_gdn rfl rfl aO rfl ?_) | refine xNt ?_ | (show oC; first | refine c_seq ?_ | refine c_region ?_ | refine c_ret ?_ | refine c_exit ?_ | refine c_false rfl ?_) | (show AT _ _ _ _; first | refine x_then ?_ | refine x_then_exit ?_ | refine x_blk_exit rfl ?_))
      all_goals rw [← hend (.inl hin)]
      all_goals exact x_ret1 Tryz.results58 (res_tmp rfl) (fun w' c' => ⟨_, _, rfl, ⟨_, _, rfl, hs4, rfl⟩, c'.sub (.cons_cons _ (List.nil_sublist _))⟩)
end Go.Proofs.YtdnhmnnccfoliaaGreatDoor
