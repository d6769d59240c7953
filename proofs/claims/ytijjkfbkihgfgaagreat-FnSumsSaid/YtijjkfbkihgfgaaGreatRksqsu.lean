import Derived.Test.YtijjkfbkihgfgaaGreatLCqsu
import Derived.Test.YtijjkfbkihgfgaaGreatPrmqsu
import Derived.Test.YtijjkfbkihgfgaaGreatRepqsu
import Derived.Test.YtijjkfbkihgfgaaGreatSpbqsu
namespace Go.Proofs.YtijjkfbkihgfgaaGreat
open Go.Lg Go.Proofs Go.RowKit
attribute [local irreducible] Code.wp wpList bodyPost Exit.then Exit.inBlock Hp Again Calls Y AT ResV QT Qn QI wpAny wpAnyQ
set_option maxRecDepth 20000
set_option maxHeartbeats 4000000

def suppN (d : List Int) : Nat → List Int
  | 0 => []
  | n + 1 => if 0 < d.getD n 0 then suppN d n ++ [(n : Int)] else suppN d n
def supp (r : Rp) : List Int := if RepP r then suppN r.d r.d.length else []
def GivesIL (xs : List Int) (v : Value) (H : List HE) : Prop := ∃ a c, v = .slice a xs.length c ∧ SA a xs.length ∧ H = [.own (iT xs) (.slice a xs.length c)]
theorem suppN_le (d : List Int) : ∀ n, (suppN d n).length ≤ n
  | 0 => by simp [suppN]
  | n + 1 => by
    have := suppN_le d n
    simp only [suppN]
    split
    · rw [List.length_append, List.length_singleton]; omega
    · omega
theorem suppN_pos {d : List Int} {n : Nat} (h : d.getD n 0 > 0) : suppN d (n + 1) = suppN d n ++ [(n : Int)] := by rw [suppN, if_pos h]
theorem suppN_neg {d : List Int} {n : Nat} (h : ¬ d.getD n 0 > 0) : suppN d (n + 1) = suppN d n := by rw [suppN, if_neg h]
theorem supp_yes {r : Rp} (h : RepP r) : supp r = suppN r.d r.d.length := by rw [supp, if_pos h]
theorem supp_no {r : Rp} (h : ¬ RepP r) : supp r = [] := by rw [supp, if_neg h]
theorem RepP.dl {r : Rp} (h : RepP r) : r.d.length ≤ 5 := by
  obtain ⟨_, ⟨⟨hV, _⟩, hdV, _⟩, _⟩ := h
  omega
theorem impl_SupportOf_ok {w : World} {r : Rp} {e : Nat} {u0 u1 u2 u3 : Value} (h0 : Rd w (iT r.q.2.1) u0) (h1 : Rd w (iT r.q.2.2) u1) (h2 : Rd w (iT r.d) u2) (h3 : Rd w (matsT e r.m) u3) :
    Does Tryz.prog 83 [.agg #[iV r.p, iV r.q.1, u0, u1, u2, u3]] w (GivesIL (supp r)) := by
  obtain ⟨rp, ⟨n, F, T⟩, d, ms⟩ := r
  simp only at h0 h1 h2 h3 ⊢
  obtain ⟨a0, c0, rfl, hs0, _⟩ := h0.ints
  obtain ⟨a1, c1, rfl, hs1, _⟩ := h1.ints
  obtain ⟨a2, c2, rfl, hs2, hc2, hd2, hg2⟩ := h2.ints
  unfold maxLen at hd2
  by_cases hR : RepP ⟨rp, (n, F, T), d, ms⟩
  · have hdl := RepP.dl hR
    simp only at hdl
    refine fn_enter Tryz.func83 rfl Tryz.ntmps83 rfl ?_
    repeat' (first | (show oL; first | refine sMv rfl rfl ?_ | refine sAs rfl rfl ?_ | refine sFd tabs rfl rfl rfl rfl ?_ | (show oA (.load _ _); first | refine sLd 0 tabs rfl rfl rfl rfl rfl ?_ | refine sLb 0 tabs rfl rfl rfl rfl rfl ?_) | (show oA (.unOp _ _ _); refine st_y (y_notd rfl) rfl ?_) | (show oA (.call _); first | (refine m_call (ent_of Tryz.func166 kr rfl) rfl rfl (fun w c => impl_IsRep_ok (r := ⟨rp, (n, F, T), d, ms⟩) (c.rd h0) (c.rd h1) (c.rd h2) (c.rd h3)) ?_; rintro v H' ⟨rfl, rfl⟩) | refine sLn tabs rfl rfl rfl ?_) | (show oA (.box _ _); refine m_box rfl rfl (fun b hb => ?_))) | refine xNt ?_ | (show oC; first | refine c_seq ?_ | refine c_region ?_ | refine c_skip (x_then ?_) | refine c_block ?_ | refine c_iff rfl nN ?_))
    refine c_loopH (α := Nat × Option Addr × Nat) [10, 11] (fun s => [(3, .slice s.2.1 (suppN d s.1).length s.2.2), (12, .int .i64 s.1)]) (fun s => s.1 ≤ d.length) (fun s => [.own (iT (suppN d s.1)) (.slice s.2.1 (suppN d s.1).length s.2.2), .blk b #[iV rp, iV n, .slice a0 F.length c0, .slice a1 T.length c1, .slice a2 d.length c2, u3] 60]) (fun s => d.length - s.1) (0, none, 0) rfl sB ?_ ?_ ?_
    · exact Nat.zero_le _
    · exact fun w' c' => Hp.nilp _ _ c'
    · rintro ⟨i, a, c⟩ hi
      simp only at hi ⊢
      have hsl := suppN_le d i
      by_cases hin : i < d.length
      · repeat' (first | (show oL; first | refine sMv rfl rfl ?_ | refine sAs rfl rfl ?_ | (show oA (.load _ _); refine st_y (y_load tabs rfl rfl (hc_w0 (hg2 i hin))) rfl ?_) | (show oA (.indexAddr _ _ _); refine st_y (y_ix1 tabs (j := i) rfl rfl rfl hs2 rfl hin) rfl ?_) | (show oA (.binOp _ _ _ _ _); first | refine sAd rfl rfl om rfl ?_ | refine sLs rfl rfl rfl ?_ | refine st_y (y_gtr rfl rfl) rfl ?_) | (show oA (.call _); refine m_pushn 0 tabs (k := (i : Int)) (m := (suppN d i).length) rfl rfl rfl rfl rfl rfl om (fun a3 c3 => ?_)) | (show oA (.buildSlice _ _ _); refine m_build1 tabs (us := [iV i]) rfl rfl rfl rfl (by decide) rfl (fun g2 hg2 => ?_))) | (show oN; first | refine c_nil (x_then ?_) | refine c_nil ?_) | (show oC; first | refine c_seq ?_ | refine c_region ?_ | refine c_skip (x_then ?_) | refine c_skip (x_blk ?_) | refine c_block ?_ | refine c_ift rfl aO ?_ | refine c_if rfl (fun h => ?_) (fun h => ?_)) | (show AT _ _ _ _; first | refine x_then ?_ | refine x_blk ?_))
        · refine x_nx (i + 1, a3, c3) (by rw [suppN_pos aS, List.length_append, List.length_singleton]; exact sB) (by simp only; omega) (fun w' c' => ?_) (by simp only; omega)
          simp only [suppN_pos aS, List.length_append, List.length_singleton]
          exact c'
        · refine x_nx (i + 1, a, c) (by rw [suppN_neg aS]; exact sB) (by simp only; omega) (fun w' c' => ?_) (by simp only; omega)
          simp only [suppN_neg aS]
          exact c'
      · have : i = d.length := by omega
        subst this
        refine AT.fact (own_sl 0 rfl) (fun hsl => ?_)
        obtain ⟨a3, c3, e3, hs3⟩ := hsl
        cases e3
        repeat' (first | (show oL; first | refine sMv rfl rfl ?_ | refine sAs rfl rfl ?_ | refine sLs rfl rfl rfl ?_) | refine xNt ?_ | (show oC; first | refine c_seq ?_ | refine c_region ?_ | refine c_ret ?_ | refine c_exit ?_ | refine c_iff rfl nN ?_) | (show AT _ _ _ _; first | refine x_then ?_ | refine x_then_exit ?_ | refine x_blk_exit rfl ?_))
        rw [supp_yes hR]
        exact x_ret1 Tryz.results83 (res_tmp rfl) (fun w' c' => ⟨_, _, rfl, ⟨_, _, rfl, hs3, rfl⟩, c'.sub (.cons_cons _ (List.nil_sublist _))⟩)
  · refine fn_enter Tryz.func83 rfl Tryz.ntmps83 rfl ?_
    repeat' (first | (show oL; first | refine sAs rfl rfl ?_ | refine sLb 0 tabs rfl rfl rfl rfl rfl ?_ | (show oA (.unOp _ _ _); refine st_y (y_notd rfl) rfl ?_) | (show oA (.call _); (refine m_call (ent_of Tryz.func166 kr rfl) rfl rfl (fun w c => impl_IsRep_ok (r := ⟨rp, (n, F, T), d, ms⟩) (c.rd h0) (c.rd h1) (c.rd h2) (c.rd h3)) ?_; rintro v H' ⟨rfl, rfl⟩)) | (show oA (.box _ _); refine m_box rfl rfl (fun b hb => ?_))) | refine xNt ?_ | (show oC; first | refine c_seq ?_ | refine c_region ?_ | refine c_ret ?_ | refine c_ift rfl aO ?_) | (show AT _ _ _ _; refine x_then_ret ?_))
    rw [supp_no hR]
    exact x_ret1 Tryz.results83 (res_tmp rfl) (fun w' c' => ⟨_, _, rfl, ⟨none, 0, rfl, .inl rfl, rfl⟩, Hp.nilp _ _ (c'.sub (List.nil_sublist _))⟩)

theorem spec_SupportOf_ok {w : World} {r : Rp} {e : Nat} {u0 u1 u2 u3 : Value} (h0 : Rd w (iT r.q.2.1) u0) (h1 : Rd w (iT r.q.2.2) u1) (h2 : Rd w (iT r.d) u2) (h3 : Rd w (matsT e r.m) u3) :
    Does Tryz.prog 84 [.agg #[iV r.p, iV r.q.1, u0, u1, u2, u3]] w (GivesIL (supp r)) := by
  obtain ⟨rp, ⟨n, F, T⟩, d, ms⟩ := r
  simp only at h0 h1 h2 h3 ⊢
  obtain ⟨a0, c0, rfl, hs0, _⟩ := h0.ints
  obtain ⟨a1, c1, rfl, hs1, _⟩ := h1.ints
  obtain ⟨a2, c2, rfl, hs2, hc2, hd2, hg2⟩ := h2.ints
  unfold maxLen at hd2
  refine fn_enter Tryz.func84 rfl Tryz.ntmps84 rfl ?_
  repeat' (first | (show oL; first | refine sAs rfl rfl ?_ | (show oA (.box _ _); refine m_box rfl rfl (fun b hb => ?_)) | (show oA (.buildSlice _ _ _); refine m_build0 tabs rfl rfl (fun g hg => ?_))) | refine xNt ?_ | (show oC; first | refine c_seq ?_ | refine c_region ?_ | refine c_block ?_))
  refine c_loopH (α := Nat × Option Addr × Nat) [1] (fun s => [(3, .slice s.2.1 (suppN d s.1).length s.2.2), (4, .int .i64 s.1)]) (fun s => s.1 ≤ d.length ∧ (s.1 = 0 ∨ RepP ⟨rp, (n, F, T), d, ms⟩)) (fun s => [.own (iT (suppN d s.1)) (.slice s.2.1 (suppN d s.1).length s.2.2), .blk b #[iV rp, iV n, .slice a0 F.length c0, .slice a1 T.length c1, .slice a2 d.length c2, u3] 60]) (fun s => d.length - s.1) (0, some ⟨g, 0, none⟩, 0) rfl sB ?_ ?_ ?_
  · exact ⟨Nat.zero_le _, .inl rfl⟩
  · exact fun w' c' => c'
  · rintro ⟨i, a, c⟩ ⟨hi, hz⟩
    simp only at hi hz ⊢
    have hsl := suppN_le d i
    have hend : (¬ i < d.length ∨ ¬ RepP ⟨rp, (n, F, T), d, ms⟩) → suppN d i = supp ⟨rp, (n, F, T), d, ms⟩ := fun h => by
      by_cases hR : RepP ⟨rp, (n, F, T), d, ms⟩
      · rw [supp_yes hR]
        have : i = d.length := by rcases h with h | h; · omega
                                  · exact absurd hR h
        rw [this]
      · rw [supp_no hR]
        rcases hz with h' | h'
        · rw [h']; rfl
        · exact absurd h' hR
    refine AT.fact (own_sl 0 rfl) (fun hsl => ?_)
    obtain ⟨a4, c4, e4, hs4⟩ := hsl
    cases e4
    by_cases hin : i < d.length
    · by_cases hR : RepP ⟨rp, (n, F, T), d, ms⟩
      · have hdl := RepP.dl hR
        simp only at hdl
        repeat' (first | (show oL; first | refine sMv rfl rfl ?_ | refine sAs rfl rfl ?_ | refine sFd tabs rfl rfl rfl rfl ?_ | (show oA (.load _ _); first | refine sLb 1 tabs rfl rfl rfl rfl rfl ?_ | refine st_y (y_load tabs rfl rfl (hc_w0 (hg2 i hin))) rfl ?_ | refine sLd 1 tabs rfl rfl rfl rfl rfl ?_) | (show oA (.indexAddr _ _ _); refine st_y (y_ix1 tabs (j := i) rfl rfl rfl hs2 rfl hin) rfl ?_) | (show oA (.binOp _ _ _ _ _); first | refine sAd rfl rfl om rfl ?_ | refine sLs rfl rfl rfl ?_ | refine st_y (y_gtr rfl rfl) rfl ?_) | (show oA (.call _); first | (refine m_call (ent_of Tryz.func148 kr rfl) rfl rfl (fun w c => spec_IsRep_ok (r := ⟨rp, (n, F, T), d, ms⟩) (c.rd h0) (c.rd h1) (c.rd h2) (c.rd h3)) ?_; rintro v H' ⟨rfl, rfl⟩) | refine m_pushn 0 tabs (k := (i : Int)) (m := (suppN d i).length) rfl rfl rfl rfl rfl rfl om (fun a3 c3 => ?_) | refine sLn tabs rfl rfl rfl ?_) | (show oA (.pick _ _ _); refine st_y (y_pickt rfl aO rfl) rfl ?_) | (show oA (.buildSlice _ _ _); refine m_build1 tabs (us := [iV i]) rfl rfl rfl rfl (by decide) rfl (fun g2 hg2 => ?_)) | refine st_gdy rfl rfl aO ?_) | (show oN; first | refine c_nil (x_then ?_) | refine c_nil ?_) | (show oC; first | refine c_seq ?_ | refine c_region ?_ | refine c_skip (x_then ?_) | refine c_skip (x_blk ?_) | refine c_block ?_ | refine c_ift rfl aO ?_ | refine c_if rfl (fun h => ?_) (fun h => ?_)) | (show AT _ _ _ _; first | refine x_then ?_ | refine x_blk ?_))
        · refine x_nx (i + 1, a3, c3) (by rw [suppN_pos aS, List.length_append, List.length_singleton]; exact sB) (by exact ⟨by simp only; omega, .inr hR⟩) (fun w' c' => ?_) (by simp only; omega)
          simp only [suppN_pos aS, List.length_append, List.length_singleton]
          exact c'
        · refine x_nx (i + 1, a, c) (by rw [suppN_neg aS]; exact sB) (by exact ⟨by simp only; omega, .inr hR⟩) (fun w' c' => ?_) (by simp only; omega)
          simp only [suppN_neg aS]
          exact c'
      · repeat' (first | (show oL; first | refine sMv rfl rfl ?_ | refine sAs rfl rfl ?_ | refine sFd tabs rfl rfl rfl rfl ?_ | (show oA (.load _ _); first | refine sLb 1 tabs rfl rfl rfl rfl rfl ?_ | refine sLd 1 tabs rfl rfl rfl rfl rfl ?_) | refine sLs rfl rfl rfl ?_ | (show oA (.call _); first | (refine m_call (ent_of Tryz.func148 kr rfl) rfl rfl (fun w c => spec_IsRep_ok (r := ⟨rp, (n, F, T), d, ms⟩) (c.rd h0) (c.rd h1) (c.rd h2) (c.rd h3)) ?_; rintro v H' ⟨rfl, rfl⟩) | refine sLn tabs rfl rfl rfl ?_) | (show oA (.pick _ _ _); refine st_y (y_pickt rfl aO rfl) rfl ?_) | refine st_gdy rfl rfl aO ?_) | refine xNt ?_ | (show oC; first | refine c_seq ?_ | refine c_region ?_ | refine c_ret ?_ | refine c_exit ?_ | refine c_iff rfl nN ?_) | (show AT _ _ _ _; first | refine x_then ?_ | refine x_then_exit ?_ | refine x_blk_exit rfl ?_))
        rw [← hend (.inr hR)]
        exact x_ret1 Tryz.results84 (res_tmp rfl) (fun w' c' => ⟨_, _, rfl, ⟨_, _, rfl, hs4, rfl⟩, c'.sub (.cons_cons _ (List.nil_sublist _))⟩)
    · repeat' (first | (show oL; first | refine sMv rfl rfl ?_ | refine sAs rfl rfl ?_ | refine sFd tabs rfl rfl rfl rfl ?_ | refine sLd 1 tabs rfl rfl rfl rfl rfl ?_ | refine sLs rfl rfl rfl ?_ | refine sLn tabs rfl rfl rfl ?_ | (show oA (.pick _ _ _); refine st_y (y_pickf rfl aO rfl) rfl ?_) | refine st_gdn rfl rfl aO rfl ?_) | refine xNt ?_ | (show oC; first | refine c_seq ?_ | refine c_region ?_ | refine c_ret ?_ | refine c_exit ?_ | refine c_false rfl ?_) | (show AT _ _ _ _; first | refine x_then ?_ | refine x_then_exit ?_ | refine x_blk_exit rfl ?_))
      all_goals rw [← hend (.inl hin)]
      all_goals exact x_ret1 Tryz.results84 (res_tmp rfl) (fun w' c' => ⟨_, _, rfl, ⟨_, _, rfl, hs4, rfl⟩, c'.sub (.cons_cons _ (List.nil_sublist _))⟩)

end Go.Proofs.YtijjkfbkihgfgaaGreat

namespace Go.Proofs.YtijjkfbkihgfgaaGreat
open Go.Lg Go.Proofs Go.RowKit
attribute [local irreducible] Code.wp wpList bodyPost Exit.then Exit.inBlock Hp Again Calls Y AT ResV QT Qn QI wpAny wpAnyQ
set_option maxRecDepth 20000
set_option maxHeartbeats 4000000

def rkN (p : Int) (ms : List Mat) : Nat → List Int
  | 0 => []
  | n + 1 => rkN p ms n ++ [((redL p (ms.getD n mat0)).length : Int)]
theorem rkN_len (p : Int) (ms : List Mat) : ∀ n, (rkN p ms n).length = n
  | 0 => rfl
  | n + 1 => by rw [rkN, List.length_append, rkN_len p ms n]; rfl
theorem RepP.ml {r : Rp} (h : RepP r) : r.m.length ≤ 6 := by
  have h1 := h.2.1.1.2.1
  have h2 := h.2.2.1
  omega
end Go.Proofs.YtijjkfbkihgfgaaGreat
