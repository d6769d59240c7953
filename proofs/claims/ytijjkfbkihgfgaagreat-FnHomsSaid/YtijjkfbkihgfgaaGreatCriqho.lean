import Derived.Test.YtijjkfbkihgfgaaGreatCreqho
import Derived.Test.YtijjkfbkihgfgaaGreatDuaqho
import Derived.Test.YtijjkfbkihgfgaaGreatHspqho
import Derived.Test.YtijjkfbkihgfgaaGreatMphqho
import Derived.Test.YtijjkfbkihgfgaaGreatNumqho
namespace Go.Proofs.YtijjkfbkihgfgaaGreat
open Go.Lg Go.Proofs Go.RowKit
attribute [local irreducible] Code.wp wpList bodyPost Exit.then Exit.inBlock Hp Again Calls Y AT ResV QT Qn QI wpAny wpAnyQ
set_option maxRecDepth 20000
set_option maxHeartbeats 4000000

def crV (a b : Rp) (ms : List Mat) : List Int := if MorP a b ms then crdL a b ms else []
theorem impl_CoordinatesOf_ok {w : World} {a b : Rp} {ms : List Mat} {e e' e2 : Nat} {u0 u1 u2 u3 v0 v1 v2 v3 um : Value} (h0 : Rd w (iT a.q.2.1) u0) (h1 : Rd w (iT a.q.2.2) u1) (h2 : Rd w (iT a.d) u2) (h3 : Rd w (matsT e a.m) u3) (k0 : Rd w (iT b.q.2.1) v0) (k1 : Rd w (iT b.q.2.2) v1) (k2 : Rd w (iT b.d) v2) (k3 : Rd w (matsT e' b.m) v3) (hm : Rd w (matsT e2 ms) um) :
    Does Tryz.prog 92 [.agg #[iV a.p, iV a.q.1, u0, u1, u2, u3], .agg #[iV b.p, iV b.q.1, v0, v1, v2, v3], um] w (GivesIB (crV a b ms) (decide (MorP a b ms))) := by
  by_cases hM : MorP a b ms
  · rw [crV, if_pos hM, decide_eq_true hM]
    have hM' := not_not_intro hM
    have hA := hM.1
    have hF := hA.1
    have hn := off_le hF
    have hI := idx_le hF
    have hfl := flat_len hA
    obtain ⟨n, en⟩ : ∃ n, n = offN a.d b.d a.d.length := ⟨_, rfl⟩
    obtain ⟨piv, ep⟩ : ∃ piv, piv = (redTo a.p (idxN a b a.q.2.1.length).length (eqsF a b) (offN a.d b.d a.d.length)).2 := ⟨_, rfl⟩
    obtain ⟨fr, ef⟩ : ∃ fr, fr = freeN piv n := ⟨_, rfl⟩
    have hcr : crdL a b ms = fr.map (fun k => (flatL ms).getD k.toNat 0) := by rw [crdL, ← ep, ← en, ← ef]
    have hfle := freeN_le piv n
    have hfm : ∀ x ∈ fr, 0 ≤ x ∧ x < n := fun x hx => by rw [ef] at hx; exact freeN_mem hx
    rw [hcr]
    rw [← en] at hfl hn
    rw [← ef] at hfle
    refine fn_enter Tryz.func92 rfl Tryz.ntmps92 rfl ?_
    repeat' (first | (show oL; first | refine sMv rfl rfl ?_ | refine sAs rfl rfl ?_ | refine sFd tabs rfl rfl rfl rfl ?_ | (show oA (.load _ _); first | refine sLb 0 tabs rfl rfl rfl rfl rfl ?_ | refine sLb 1 tabs rfl rfl rfl rfl rfl ?_ | refine sLd 3 tabs rfl rfl rfl rfl rfl ?_) | (show oA (.unOp _ _ _); refine st_y (y_notd rfl) rfl ?_) | (show oA (.call _); first | (refine m_call (ent_of Tryz.func41 kr rfl) rfl rfl (fun w c => impl_IsMorphism_ok (a := a) (b := b) (c.rd h0) (c.rd h1) (c.rd h2) (c.rd h3) (c.rd k0) (c.rd k1) (c.rd k2) (c.rd k3) (c.rd hm)) ?_; rintro v H' ⟨rfl, rfl⟩) | (refine m_call (ent_of Tryz.func206 kr rfl) rfl rfl (fun w c => boundaries_ok (a := a) (b := b) (c.rd h0) (c.rd h1) (c.rd h2) (c.rd h3) (c.rd k2) (c.rd k3) hF) ?_; rintro v H' ⟨ab, cb, rfl, hsb, rfl⟩) | (refine m_call (ent_of Tryz.func207 kr rfl) rfl rfl (fun w c => reduceK_ok (R := (idxN a b a.q.2.1.length).length) (C := offN a.d b.d a.d.length) (c.own_rd (i := 1) rfl) hF.1.1 om om (eqs_in hF.1.1)) ?_; rintro v H' ⟨a4, c4, a5, c5, rfl, hs4, hs5, rfl⟩) | (refine m_call (ent_of Tryz.func208 kr rfl) rfl rfl (fun w c => (by have h := freeColumns_ok (C := n) (piv := piv) (by rw [ep]; exact c.own_rd (i := 1) rfl) om; rw [← ef, en] at h; exact h)) ?_; rintro v H' ⟨af, cf, rfl, hsf, rfl⟩) | refine sLn tabs rfl rfl rfl ?_) | (show oA (.extract _ _); refine st_y (y_ext rfl rfl) rfl ?_) | (show oA (.store _ _ _); refine m_storeb 0 tabs rfl rfl rfl rfl rfl rfl rfl ?_) | (show oA (.box _ _); refine m_box rfl rfl (fun b4 hb4 => ?_)) | (show oA (.alloc _); refine m_alloc tabs rfl rfl (fun b5 hb5 => ?_))) | refine xNt ?_ | (show oC; first | refine c_seq ?_ | refine c_region ?_ | refine c_skip (x_then ?_) | refine c_block ?_ | refine c_iff rfl nN ?_))
    all_goals first | exact absurd hM aS | skip
    refine c_loopH (α := Nat × Option Addr × Nat) [2, 32, 33] (fun s => [(11, .slice s.2.1 s.1 s.2.2), (34, .int .i64 s.1)]) (fun s => s.1 ≤ fr.length) (fun s => [.own (iT ((fr.take s.1).map (fun k => (flatL ms).getD k.toNat 0))) (.slice s.2.1 s.1 s.2.2), .own (iT fr) (.slice af fr.length cf)]) (fun s => fr.length - s.1) (0, none, 0) rfl sB ?_ ?_ ?_
    · exact Nat.zero_le _
    · exact fun w' c' => Hp.nilp _ _ (c'.sub (.cons_cons _ (List.nil_sublist _)))
    · rintro ⟨i, ao, co⟩ hi
      simp only at hi ⊢
      have hln : ((fr.take i).map (fun k => (flatL ms).getD k.toNat 0)).length = i := by rw [List.length_map, List.length_take]; omega
      by_cases hin : i < fr.length
      · have hx := hfm (fr.getD i 0) (by rw [getD_ix hin]; exact List.getElem_mem _)
        repeat' (first | (show oL; first | refine sMv rfl rfl ?_ | refine sAs rfl rfl ?_ | (show oA (.load _ _); first | refine st_y (y_load tabs rfl rfl (hc_own 1 rfl hin)) rfl ?_ | refine st_y (y_load tabs rfl rfl (hc_own 0 rfl om)) rfl ?_) | (show oA (.indexAddr _ _ _); first | refine st_y (y_ix1 tabs (j := i) rfl rfl rfl hsf rfl hin) rfl ?_ | refine st_y (y_ixi tabs rfl rfl rfl hs6 om om) rfl ?_) | (show oA (.binOp _ _ _ _ _); first | refine sAd rfl rfl om rfl ?_ | refine sLs rfl rfl rfl ?_) | (show oA (.call _); first | (refine m_call (ent_of Tryz.func209 kr rfl) rfl rfl (fun w c => flat_ok (c.rd hm) om) ?_; rintro v H' ⟨a6, c6, rfl, hs6, rfl⟩) | refine m_pushn 1 tabs (k := (flatL ms).getD (fr.getD i 0).toNat 0) (m := i) rfl rfl rfl rfl rfl hln om (fun a7 c7 => ?_)) | (show oA (.buildSlice _ _ _); refine m_build1 tabs (us := [iV ((flatL ms).getD (fr.getD i 0).toNat 0)]) rfl rfl rfl rfl (by decide) rfl (fun g5 hg5 => ?_))) | (show oN; first | refine c_nil (x_then ?_) | refine c_nil ?_) | (show oC; first | refine c_seq ?_ | refine c_region ?_ | refine c_skip (x_then ?_) | refine c_block ?_ | refine c_ift rfl aO ?_) | (show AT _ _ _ _; first | refine x_then ?_ | refine x_blk ?_))
        refine x_nx (i + 1, a7, c7) sB (by simp only; omega) (fun w' c' => ?_) (by simp only; omega)
        have e1 : (fr.take (i + 1)).map (fun k => (flatL ms).getD k.toNat 0) = (fr.take i).map (fun k => (flatL ms).getD k.toNat 0) ++ [(flatL ms).getD (fr.getD i 0).toNat 0] := by
          rw [take_next (z := 0) hin, List.map_append]; rfl
        rw [e1]
        exact c'.sub (.cons_cons _ (.cons _ (List.Sublist.refl _)))
      · have : i = fr.length := by omega
        subst this
        rw [List.take_length]
        refine AT.fact (own_sl 0 rfl) (fun hsl => ?_)
        obtain ⟨a9, c9, e9, hs9⟩ := hsl
        injection e9 with q1 q2 q3
        rw [List.length_map, ← q1] at hs9
        repeat' (first | (show oL; first | refine sMv rfl rfl ?_ | refine sAs rfl rfl ?_ | refine sLs rfl rfl rfl ?_) | refine xNt ?_ | (show oC; first | refine c_seq ?_ | refine c_region ?_ | refine c_ret ?_ | refine c_exit ?_ | refine c_iff rfl nN ?_) | (show AT _ _ _ _; first | refine x_then ?_ | refine x_then_exit ?_ | refine x_blk_exit rfl ?_))
        exact x_ret2 Tryz.results92 (res_tmp rfl) (res_tmp rfl) (fun w' c' => ⟨_, _, rfl, ⟨ao, co, by rw [List.length_map], by rw [List.length_map]; exact hs9, by rw [List.length_map]⟩, c'.sub (.cons_cons _ (List.nil_sublist _))⟩)
  · rw [crV, if_neg hM, decide_eq_false hM]
    refine fn_enter Tryz.func92 rfl Tryz.ntmps92 rfl ?_
    repeat' (first | (show oL; first | refine sMv rfl rfl ?_ | refine sAs rfl rfl ?_ | (show oA (.load _ _); first | refine sLb 0 tabs rfl rfl rfl rfl rfl ?_ | refine sLb 1 tabs rfl rfl rfl rfl rfl ?_) | (show oA (.unOp _ _ _); refine st_y (y_notd rfl) rfl ?_) | (show oA (.call _); (refine m_call (ent_of Tryz.func41 kr rfl) rfl rfl (fun w c => impl_IsMorphism_ok (a := a) (b := b) (c.rd h0) (c.rd h1) (c.rd h2) (c.rd h3) (c.rd k0) (c.rd k1) (c.rd k2) (c.rd k3) (c.rd hm)) ?_; rintro v H' ⟨rfl, rfl⟩)) | (show oA (.box _ _); refine m_box rfl rfl (fun b4 hb4 => ?_))) | refine xNt ?_ | (show oC; first | refine c_seq ?_ | refine c_region ?_ | refine c_ret ?_ | refine c_ift rfl aO ?_) | (show AT _ _ _ _; refine x_then_ret ?_))
    all_goals first | exact absurd aS hM | skip
    exact x_ret2 Tryz.results92 (res_tmp rfl) (res_tmp rfl) (fun w' c' => ⟨_, _, rfl, ⟨none, 0, rfl, .inl rfl, rfl⟩, Hp.nilp _ _ (c'.sub (List.nil_sublist _))⟩)
end Go.Proofs.YtijjkfbkihgfgaaGreat
