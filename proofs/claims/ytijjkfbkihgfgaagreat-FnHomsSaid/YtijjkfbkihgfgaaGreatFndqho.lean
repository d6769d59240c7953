import Derived.Test.YtijjkfbkihgfgaaGreatHspqho
namespace Go.Proofs.YtijjkfbkihgfgaaGreat
open Go.Lg Go.Proofs Go.RowKit
theorem own_split {M : List Nat} {w0 w : World} {H : List HE} {t : T} {ts : List T} {vs : List Value} (hp : Hp M w0 (.ownL (t :: ts) vs :: H) w) : ∃ v vs', vs = v :: vs' ∧ Hp M w0 (.own t v :: .ownL ts vs' :: H) w := by
  obtain ⟨fp, ⟨f1, f2, rfl, s1, s2⟩, nd, ge, kp⟩ := hp
  simp only [HE.sat, OwnL] at s1
  obtain ⟨v, vs', g1, g2, rfl, rfl, h3, h4⟩ := s1
  exact ⟨v, vs', rfl, g1 ++ (g2 ++ f2), ⟨g1, g2 ++ f2, rfl, h3, g2, f2, rfl, h4, s2⟩, by rwa [List.append_assoc] at nd, by rwa [List.append_assoc] at ge, kp⟩
attribute [local irreducible] Code.wp wpList bodyPost Exit.then Exit.inBlock Hp Again Calls Y AT ResV QT Qn QI wpAny wpAnyQ
set_option maxRecDepth 20000
set_option maxHeartbeats 4000000

def fmL (a b : Rp) : List Mat := (homB a b).headD []
def fmB (a b : Rp) : Bool := decide (homB a b ≠ [])
theorem rd_msl {w : World} {e : Nat} {ms : List Mat} {u : Value} (h : Rd w (matsT e ms) u) : ∃ a c, u = .slice a ms.length c ∧ SA a ms.length := by
  obtain ⟨a, c, h1, h2, _⟩ := rd_mats h
  exact ⟨a, c, h1, h2⟩
theorem impl_FindMorphism_ok {w : World} {a b : Rp} {e e' : Nat} {u0 u1 u2 u3 v0 v1 v2 v3 : Value} (h0 : Rd w (iT a.q.2.1) u0) (h1 : Rd w (iT a.q.2.2) u1) (h2 : Rd w (iT a.d) u2) (h3 : Rd w (matsT e a.m) u3) (k0 : Rd w (iT b.q.2.1) v0) (k1 : Rd w (iT b.q.2.2) v1) (k2 : Rd w (iT b.d) v2) (k3 : Rd w (matsT e' b.m) v3) :
    Does Tryz.prog 102 [.agg #[iV a.p, iV a.q.1, u0, u1, u2, u3], .agg #[iV b.p, iV b.q.1, v0, v1, v2, v3]] w (GivesMsB (fmL a b) (fmB a b)) := by
  have hbx : decide (FitP a b) = false → homB a b = [] := fun h => by rw [homB, if_neg (of_decide_eq_false h)]
  by_cases hB : homB a b = []
  · have eb : fmB a b = false := by rw [fmB, decide_eq_false (fun h => h hB)]
    have el : fmL a b = [] := by rw [fmL, hB]; rfl
    have hl : (homB a b).length = 0 := by rw [hB]; rfl
    rw [eb, el]
    refine fn_enter Tryz.func102 rfl Tryz.ntmps102 rfl ?_
    repeat' (first | (show oL; first | refine sMv rfl rfl ?_ | refine sAs rfl rfl ?_ | (show oA (.load _ _); first | refine sLb 0 tabs rfl rfl rfl rfl rfl ?_ | refine sLb 1 tabs rfl rfl rfl rfl rfl ?_) | (show oA (.binOp _ _ _ _ _); refine st_y (y_eql rfl rfl) rfl ?_) | (show oA (.call _); first | (refine m_call (ent_of Tryz.func86 kr rfl) rfl rfl (fun w c => impl_HomBasis_ok (a := a) (b := b) (c.rd h0) (c.rd h1) (c.rd h2) (c.rd h3) (c.rd k0) (c.rd k1) (c.rd k2) (c.rd k3)) ?_; rintro v H' ⟨am, cm, rfl, hs, rfl⟩) | refine sLn tabs rfl rfl rfl ?_) | (show oA (.extract _ _); refine st_y (y_ext rfl rfl) rfl ?_) | (show oA (.box _ _); refine m_box rfl rfl (fun b4 hb4 => ?_))) | refine xNt ?_ | (show oC; first | refine c_seq ?_ | refine c_region ?_ | refine c_ret ?_ | refine c_ift rfl aO ?_) | (show AT _ _ _ _; refine x_then_ret ?_))
    all_goals first | (exfalso; omega) | skip
    all_goals exact x_ret2 Tryz.results102 (res_tmp rfl) (res_tmp rfl) (fun w' c' => ⟨_, _, rfl, ⟨none, 0, rfl, .inl rfl, rfl⟩, Hp.nilp _ _ (c'.sub (List.nil_sublist _))⟩)
  · obtain ⟨m, l, hm⟩ : ∃ m l, homB a b = m :: l := by
      cases h : homB a b with
      | nil => exact absurd h hB
      | cons m l => exact ⟨m, l, rfl⟩
    have eb : fmB a b = true := by rw [fmB, decide_eq_true hB]
    have el : fmL a b = m := by rw [fmL, hm]; rfl
    have hfit : decide (FitP a b) = true := by
      cases h : decide (FitP a b) with
      | false => exact absurd (hbx h) hB
      | true => rfl
    have hlen : 0 < (m :: l).length := by simp
    rw [eb, el]
    refine fn_enter Tryz.func102 rfl Tryz.ntmps102 rfl ?_
    repeat' (first | (show oL; first | refine sMv rfl rfl ?_ | refine sAs rfl rfl ?_ | (show oA (.load _ _); first | refine sLb 0 tabs rfl rfl rfl rfl rfl ?_ | refine sLb 1 tabs rfl rfl rfl rfl rfl ?_) | (show oA (.indexAddr _ _ _); refine st_y (y_ix1 tabs (j := 0) rfl rfl rfl hs rfl hlen) rfl ?_) | (show oA (.binOp _ _ _ _ _); refine st_y (y_eql rfl rfl) rfl ?_) | (show oA (.call _); first | (refine m_call (ent_of Tryz.func86 kr rfl) rfl rfl (fun w c => impl_HomBasis_ok (a := a) (b := b) (c.rd h0) (c.rd h1) (c.rd h2) (c.rd h3) (c.rd k0) (c.rd k1) (c.rd k2) (c.rd k3)) ?_; rintro v H' ⟨am, cm, rfl, hs, rfl⟩; rw [hfit]; rw [hm] at hs ⊢) | refine sLn tabs rfl rfl rfl ?_) | (show oA (.extract _ _); refine st_y (y_ext rfl rfl) rfl ?_) | (show oA (.box _ _); refine m_box rfl rfl (fun b4 hb4 => ?_))) | refine xNt ?_ | (show oC; first | refine c_seq ?_ | refine c_region ?_ | refine c_skip (x_then ?_) | refine c_false rfl ?_))
    all_goals first | (exfalso; simp only [List.length_cons] at *; omega) | skip
    refine AT.opn 0 rfl (fun us hus => ?_)
    obtain ⟨v0', us', rfl⟩ : ∃ v0' us', us = v0' :: us' := by
      cases us with
      | nil => simp at hus
      | cons v0' us' => exact ⟨v0', us', rfl⟩
    refine AT.fact (fun w' c' => rd_msl (Hp.ownL_rd 1 (q := 0) rfl rfl rfl c')) (fun hsl => ?_)
    obtain ⟨a5, c5, rfl, hs5⟩ := hsl
    repeat' (first | (show oL; first | refine sAs rfl rfl ?_ | (show oA (.load _ _); refine st_y (y_load tabs rfl rfl (hc_nm 0 (q := 0) rfl rfl)) rfl ?_)) | refine xNt ?_ | (show oC; refine c_ret ?_))
    refine x_ret2 Tryz.results102 (res_tmp rfl) (res_tmp rfl) (fun w' c' => ⟨_, _, rfl, ⟨a5, c5, rfl, hs5, rfl⟩, ?_⟩)
    have c2 := own_split (t := matsT 47 m) (c'.sub (.cons _ (.cons_cons _ (List.nil_sublist _))))
    obtain ⟨_, _, e6, c3⟩ := c2
    cases e6
    exact c3.sub (.cons_cons _ (List.nil_sublist _))

theorem spec_FindMorphism_ok {w : World} {a b : Rp} {e e' : Nat} {u0 u1 u2 u3 v0 v1 v2 v3 : Value} (h0 : Rd w (iT a.q.2.1) u0) (h1 : Rd w (iT a.q.2.2) u1) (h2 : Rd w (iT a.d) u2) (h3 : Rd w (matsT e a.m) u3) (k0 : Rd w (iT b.q.2.1) v0) (k1 : Rd w (iT b.q.2.2) v1) (k2 : Rd w (iT b.d) v2) (k3 : Rd w (matsT e' b.m) v3) :
    Does Tryz.prog 103 [.agg #[iV a.p, iV a.q.1, u0, u1, u2, u3], .agg #[iV b.p, iV b.q.1, v0, v1, v2, v3]] w (GivesMsB (fmL a b) (fmB a b)) := by
  have hbx : decide (FitP a b) = false → homB a b = [] := fun h => by rw [homB, if_neg (of_decide_eq_false h)]
  by_cases hB : homB a b = []
  · have eb : fmB a b = false := by rw [fmB, decide_eq_false (fun h => h hB)]
    have el : fmL a b = [] := by rw [fmL, hB]; rfl
    have hl : (homB a b).length = 0 := by rw [hB]; rfl
    rw [eb, el]
    refine fn_enter Tryz.func103 rfl Tryz.ntmps103 rfl ?_
    repeat' (first | (show oL; first | refine sMv rfl rfl ?_ | refine sAs rfl rfl ?_ | (show oA (.load _ _); first | refine sLb 0 tabs rfl rfl rfl rfl rfl ?_ | refine sLb 1 tabs rfl rfl rfl rfl rfl ?_) | (show oA (.binOp _ _ _ _ _); refine st_y (y_eql rfl rfl) rfl ?_) | (show oA (.unOp _ _ _); refine st_y (y_notd rfl) rfl ?_) | (show oA (.call _); first | (refine m_call (ent_of Tryz.func87 kr rfl) rfl rfl (fun w c => spec_HomBasis_ok (a := a) (b := b) (c.rd h0) (c.rd h1) (c.rd h2) (c.rd h3) (c.rd k0) (c.rd k1) (c.rd k2) (c.rd k3)) ?_; rintro v H' ⟨am, cm, rfl, hs, rfl⟩) | refine sLn tabs rfl rfl rfl ?_) | (show oA (.extract _ _); refine st_y (y_ext rfl rfl) rfl ?_) | (show oA (.pick _ _ _); first | refine st_y (y_pickt rfl aO rfl) rfl ?_ | refine st_y (y_pickf rfl aO rfl) rfl ?_) | (show oA (.box _ _); refine m_box rfl rfl (fun b4 hb4 => ?_)) | (show oA (.buildSlice _ _ _); refine m_build0 tabs rfl rfl (fun g hg => ?_)) | refine st_gfy rfl rfl aO ?_ | refine st_gfn rfl rfl aO rfl ?_ | refine st_gd rfl rfl (fun h => ?_) (fun h => ?_)) | refine xNt ?_ | (show oC; first | refine c_seq ?_ | refine c_region ?_ | refine c_ret ?_ | refine c_true rfl ?_ | refine c_ift rfl aO ?_) | (show AT _ _ _ _; refine x_then_ret ?_))
    all_goals first | (exfalso; omega) | skip
    all_goals exact x_ret2 Tryz.results103 (res_tmp rfl) (res_tmp rfl) (fun w' c' => ⟨_, _, rfl, ⟨_, 0, rfl, .inl rfl, rfl⟩, c'.sub (.cons_cons _ (List.nil_sublist _))⟩)
  · obtain ⟨m, l, hm⟩ : ∃ m l, homB a b = m :: l := by
      cases h : homB a b with
      | nil => exact absurd h hB
      | cons m l => exact ⟨m, l, rfl⟩
    have eb : fmB a b = true := by rw [fmB, decide_eq_true hB]
    have el : fmL a b = m := by rw [fmL, hm]; rfl
    have hfit : decide (FitP a b) = true := by
      cases h : decide (FitP a b) with
      | false => exact absurd (hbx h) hB
      | true => rfl
    have hlen : 0 < (m :: l).length := by simp
    rw [eb, el]
    refine fn_enter Tryz.func103 rfl Tryz.ntmps103 rfl ?_
    repeat' (first | (show oL; first | refine sMv rfl rfl ?_ | refine sAs rfl rfl ?_ | (show oA (.load _ _); first | refine sLb 0 tabs rfl rfl rfl rfl rfl ?_ | refine sLb 1 tabs rfl rfl rfl rfl rfl ?_) | (show oA (.indexAddr _ _ _); refine st_y (y_ix1 tabs (j := 0) rfl rfl rfl hs rfl hlen) rfl ?_) | (show oA (.binOp _ _ _ _ _); refine st_y (y_eql rfl rfl) rfl ?_) | (show oA (.unOp _ _ _); refine st_y (y_not rfl) rfl ?_) | (show oA (.call _); first | (refine m_call (ent_of Tryz.func87 kr rfl) rfl rfl (fun w c => spec_HomBasis_ok (a := a) (b := b) (c.rd h0) (c.rd h1) (c.rd h2) (c.rd h3) (c.rd k0) (c.rd k1) (c.rd k2) (c.rd k3)) ?_; rintro v H' ⟨am, cm, rfl, hs, rfl⟩; rw [hfit]; rw [hm] at hs ⊢) | refine sLn tabs rfl rfl rfl ?_) | (show oA (.extract _ _); refine st_y (y_ext rfl rfl) rfl ?_) | (show oA (.pick _ _ _); refine st_y (y_pick rfl rfl rfl) rfl ?_) | (show oA (.box _ _); refine m_box rfl rfl (fun b4 hb4 => ?_)) | refine st_gy rfl rfl ?_) | refine xNt ?_ | (show oC; first | refine c_seq ?_ | refine c_region ?_ | refine c_skip (x_then ?_) | refine c_false rfl ?_))
    all_goals first | (exfalso; simp only [List.length_cons] at *; omega) | skip
    refine AT.opn 0 rfl (fun us hus => ?_)
    obtain ⟨v0', us', rfl⟩ : ∃ v0' us', us = v0' :: us' := by
      cases us with
      | nil => simp at hus
      | cons v0' us' => exact ⟨v0', us', rfl⟩
    refine AT.fact (fun w' c' => rd_msl (Hp.ownL_rd 1 (q := 0) rfl rfl rfl c')) (fun hsl => ?_)
    obtain ⟨a5, c5, rfl, hs5⟩ := hsl
    repeat' (first | (show oL; first | refine sAs rfl rfl ?_ | (show oA (.load _ _); refine st_y (y_load tabs rfl rfl (hc_nm 0 (q := 0) rfl rfl)) rfl ?_)) | refine xNt ?_ | (show oC; refine c_ret ?_))
    refine x_ret2 Tryz.results103 (res_tmp rfl) (res_tmp rfl) (fun w' c' => ⟨_, _, rfl, ⟨a5, c5, rfl, hs5, rfl⟩, ?_⟩)
    have c2 := own_split (t := matsT 47 m) (c'.sub (.cons _ (.cons_cons _ (List.nil_sublist _))))
    obtain ⟨_, _, e6, c3⟩ := c2
    cases e6
    exact c3.sub (.cons_cons _ (List.nil_sublist _))

end Go.Proofs.YtijjkfbkihgfgaaGreat
