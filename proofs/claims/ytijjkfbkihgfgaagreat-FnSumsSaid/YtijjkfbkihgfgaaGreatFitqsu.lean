import Derived.Test.YtijjkfbkihgfgaaGreatEqmqsu
import Derived.Test.YtijjkfbkihgfgaaGreatLCqsu
import Derived.Test.YtijjkfbkihgfgaaGreatRepqsu
namespace Go.Proofs.YtijjkfbkihgfgaaGreat
open Go.Lg Go.Proofs Go.RowKit
attribute [local irreducible] Code.wp wpList bodyPost Exit.then Exit.inBlock Hp Again Calls Y AT ResV QT Qn QI wpAny wpAnyQ
set_option maxRecDepth 20000
set_option maxHeartbeats 4000000

def FitP (a b : Rp) : Prop := RepP a ∧ RepP b ∧ a.p = b.p ∧ a.q = b.q
instance (a b : Rp) : Decidable (FitP a b) := by unfold FitP; infer_instance
theorem l6Same_ok (w : World) (v u : Value) (xs ys : List Int) (hr : Rd w (iT xs) v) (hr' : Rd w (iT ys) u) :
    Does Tryz.prog 162 [v, u] w (fun r H => r = .bool (decide (xs = ys)) ∧ H = []) := by
  obtain ⟨a, c, rfl, hs, hc1, hc2, hget⟩ := hr.ints
  obtain ⟨a', c', rfl, hs', hc1', hc2', hget'⟩ := hr'.ints
  unfold maxLen at hc2 hc2'
  refine fn_enter Tryz.func162 rfl Tryz.ntmps162 rfl ?_
  repeat' (first | (show oL; first | refine sMv rfl rfl ?_ | refine sAs rfl rfl ?_ | (show oA (.binOp _ _ _ _ _); refine st_y (y_neq rfl rfl) rfl ?_) | refine sLn tabs rfl rfl rfl ?_) | refine xNt ?_ | (show oC; first | refine c_seq ?_ | refine c_region ?_ | refine c_skip (x_then ?_) | refine c_block ?_ | refine c_ret ?_ | refine c_ifnd rfl (fun h => ?_) (fun h => ?_)) | (show AT _ _ _ _; refine x_then_ret ?_))
  · refine x_ret1 Tryz.results162 (res_tmp rfl) (fun w' c' => ⟨_, _, rfl, ⟨?_, rfl⟩, c'⟩)
    have : ¬ xs = ys := fun e => h (by rw [e])
    simp [this]
  · have hl : xs.length = ys.length := by omega
    refine c_loopH (α := Nat) [0, 1] (fun i => [(5, .int .i64 i)]) (fun i => i ≤ xs.length ∧ xs.take i = ys.take i) (fun i => []) (fun i => xs.length - i) 0 rfl sB ?_ ?_ ?_
    · exact ⟨by omega, rfl⟩
    · exact fun w' c' => c'
    · rintro i ⟨hi, he⟩
      by_cases hin : i < xs.length
      · have hin' : i < ys.length := by omega
        repeat' (first | (show oL; first | refine sMv rfl rfl ?_ | refine sAs rfl rfl ?_ | (show oA (.binOp _ _ _ _ _); first | refine sAd rfl rfl om rfl ?_ | refine sLs rfl rfl rfl ?_) | refine sLn tabs rfl rfl rfl ?_) | refine xNt ?_ | (show oC; first | refine c_seq ?_ | refine c_region ?_ | refine c_skip (x_then ?_) | refine c_skip (x_blk ?_) | refine c_block ?_ | refine c_ret ?_ | refine c_draw kr kr (fun _ c => Hp.drew c) ?_ | refine c_ift rfl aO ?_ | refine c_ifnd rfl (fun h => ?_) (fun h => ?_)) | (show QT _ _ _ _ _ _ (_ :: _); first | refine qMv rfl rfl ?_ | (show qA (.load _ _); first | refine q_y (y_load tabs rfl rfl (hc_w0 (hget i hin))) rfl ?_ | refine q_y (y_load tabs rfl rfl (hc_w0 (hget' i hin'))) rfl ?_) | (show qA (.indexAddr _ _ _); first | refine q_y (y_ix1 tabs (j := i) rfl rfl rfl hs rfl hin) rfl ?_ | refine q_y (y_ix1 tabs (j := i) rfl rfl rfl hs' rfl hin') rfl ?_) | (show qA (.binOp _ _ _ _ _); refine q_y (y_neq rfl rfl) rfl ?_)) | (show QT _ _ _ _ _ _ []; refine q_nil (x_then ?_)) | (show AT _ _ _ _; first | refine x_then ?_ | refine x_then_ret ?_ | refine x_blk_ret ?_))
        · refine x_ret1 Tryz.results162 (res_tmp rfl) (fun w' c' => ⟨_, _, rfl, ⟨?_, rfl⟩, c'⟩)
          have : ¬ xs = ys := fun e => h (by rw [e])
          simp [this]
        · have h2 : xs.getD i 0 = ys.getD i 0 := by simpa using h
          refine x_nx (i + 1) sB ⟨by omega, ?_⟩ (fun w' c' => c') om
          rw [take_next (z := 0) om, take_next (z := 0) om, he, h2]
      · repeat' (first | (show oL; first | refine sMv rfl rfl ?_ | refine sAs rfl rfl ?_ | refine sLs rfl rfl rfl ?_ | refine sLn tabs rfl rfl rfl ?_) | refine xNt ?_ | (show oC; first | refine c_seq ?_ | refine c_region ?_ | refine c_ret ?_ | refine c_exit ?_ | refine c_iff rfl nN ?_) | (show AT _ _ _ _; first | refine x_then ?_ | refine x_then_exit ?_ | refine x_blk_exit rfl ?_))
        refine x_ret1 Tryz.results162 (res_tmp rfl) (fun w' c' => ⟨_, _, rfl, ⟨?_, rfl⟩, c'⟩)
        rw [take_end om, take_end om] at he
        simp [he]
theorem spec_EqualQuivers_ok {w : World} {q q' : Qv} {u0 u1 v0 v1 : Value} (h0 : Rd w (iT q.2.1) u0) (h1 : Rd w (iT q.2.2) u1) (k0 : Rd w (iT q'.2.1) v0) (k1 : Rd w (iT q'.2.2) v1) :
    Does Tryz.prog 179 [.agg #[iV q.1, u0, u1], .agg #[iV q'.1, v0, v1]] w (fun r H => r = .bool (decide (q = q')) ∧ H = []) := by
  obtain ⟨x, y, z⟩ := q
  obtain ⟨x', y', z'⟩ := q'
  simp only at h0 h1 k0 k1 ⊢
  refine fn_enter Tryz.func179 rfl Tryz.ntmps179 rfl ?_
  repeat' (first | (show oL; first | refine sMv rfl rfl ?_ | refine sAs rfl rfl ?_ | refine sFd tabs rfl rfl rfl rfl ?_ | (show oA (.load _ _); first | refine sLd 0 tabs rfl rfl rfl rfl rfl ?_ | refine sLd 1 tabs rfl rfl rfl rfl rfl ?_) | (show oA (.binOp _ _ _ _ _); refine st_y (y_eql rfl rfl) rfl ?_) | (show oA (.call _); first | (refine m_call (ent_of Tryz.func162 kr rfl) rfl rfl (fun w c => l6Same_ok w _ _ y y' (c.rd h0) (c.rd k0)) ?_; rintro v H' ⟨rfl, rfl⟩) | (refine m_call (ent_of Tryz.func162 kr rfl) rfl rfl (fun w c => l6Same_ok w _ _ z z' (c.rd h1) (c.rd k1)) ?_; rintro v H' ⟨rfl, rfl⟩)) | (show oA (.pick _ _ _); first | refine st_y (y_pickt rfl aS rfl) rfl ?_ | refine st_y (y_pickf rfl aS rfl) rfl ?_ | refine st_y (y_pick rfl rfl rfl) rfl ?_) | (show oA (.box _ _); refine m_box rfl rfl (fun bq hbq => ?_)) | refine st_gn rfl rfl rfl ?_ | refine st_gdy rfl rfl aS ?_ | refine st_gdn rfl rfl aS rfl ?_ | refine st_gd rfl rfl (fun h => ?_) (fun h => ?_)) | refine xNt ?_ | (show oC; first | refine c_seq ?_ | refine c_region ?_ | refine c_ret ?_))
  all_goals refine x_ret1 Tryz.results179 (res_tmp rfl) (fun w c => ⟨_, _, rfl, ⟨?_, rfl⟩, c.sub (List.nil_sublist _)⟩)
  all_goals simp_all

theorem impl_EqualQuivers_ok {w : World} {q q' : Qv} {u0 u1 v0 v1 : Value} (h0 : Rd w (iT q.2.1) u0) (h1 : Rd w (iT q.2.2) u1) (k0 : Rd w (iT q'.2.1) v0) (k1 : Rd w (iT q'.2.2) v1) :
    Does Tryz.prog 254 [.agg #[iV q.1, u0, u1], .agg #[iV q'.1, v0, v1]] w (fun r H => r = .bool (decide (q = q')) ∧ H = []) := by
  obtain ⟨x, y, z⟩ := q
  obtain ⟨x', y', z'⟩ := q'
  simp only at h0 h1 k0 k1 ⊢
  refine fn_enter Tryz.func254 rfl Tryz.ntmps254 rfl ?_
  repeat' (first | (show oL; first | refine sMv rfl rfl ?_ | refine sAs rfl rfl ?_ | refine sFd tabs rfl rfl rfl rfl ?_ | (show oA (.load _ _); first | refine sLd 0 tabs rfl rfl rfl rfl rfl ?_ | refine sLd 1 tabs rfl rfl rfl rfl rfl ?_) | (show oA (.binOp _ _ _ _ _); refine st_y (y_eql rfl rfl) rfl ?_) | (show oA (.call _); first | (refine m_call (ent_of Tryz.func142 kr rfl) rfl rfl (fun w c => Equal_ok w _ _ y y' (c.rd h0) (c.rd k0)) ?_; rintro v H' ⟨rfl, rfl⟩) | (refine m_call (ent_of Tryz.func142 kr rfl) rfl rfl (fun w c => Equal_ok w _ _ z z' (c.rd h1) (c.rd k1)) ?_; rintro v H' ⟨rfl, rfl⟩)) | (show oA (.pick _ _ _); first | refine st_y (y_pickt rfl aS rfl) rfl ?_ | refine st_y (y_pickf rfl aS rfl) rfl ?_ | refine st_y (y_pick rfl rfl rfl) rfl ?_) | (show oA (.box _ _); refine m_box rfl rfl (fun bq hbq => ?_)) | refine st_gn rfl rfl rfl ?_ | refine st_gdy rfl rfl aS ?_ | refine st_gdn rfl rfl aS rfl ?_ | refine st_gd rfl rfl (fun h => ?_) (fun h => ?_)) | refine xNt ?_ | (show oC; first | refine c_seq ?_ | refine c_region ?_ | refine c_ret ?_))
  all_goals refine x_ret1 Tryz.results254 (res_tmp rfl) (fun w c => ⟨_, _, rfl, ⟨?_, rfl⟩, c.sub (List.nil_sublist _)⟩)
  all_goals simp_all

theorem l9Fit_ok {w : World} {a b : Rp} {e e' : Nat} {u0 u1 u2 u3 v0 v1 v2 v3 : Value} (h0 : Rd w (iT a.q.2.1) u0) (h1 : Rd w (iT a.q.2.2) u1) (h2 : Rd w (iT a.d) u2) (h3 : Rd w (matsT e a.m) u3) (k0 : Rd w (iT b.q.2.1) v0) (k1 : Rd w (iT b.q.2.2) v1) (k2 : Rd w (iT b.d) v2) (k3 : Rd w (matsT e' b.m) v3) :
    Does Tryz.prog 165 [.agg #[iV a.p, iV a.q.1, u0, u1, u2, u3], .agg #[iV b.p, iV b.q.1, v0, v1, v2, v3]] w (fun r H => r = .bool (decide (FitP a b)) ∧ H = []) := by
  refine fn_enter Tryz.func165 rfl Tryz.ntmps165 rfl ?_
  repeat' (first | (show oL; first | refine sMv rfl rfl ?_ | refine sAs rfl rfl ?_ | refine sFd tabs rfl rfl rfl rfl ?_ | (show oA (.load _ _); first | refine st_y (y_load3 tabs rfl rfl (hc_blk 0 rfl rfl) (hc_blk 0 rfl rfl) (hc_blk 0 rfl rfl)) rfl ?_ | refine st_y (y_load3 tabs rfl rfl (hc_blk 1 rfl rfl) (hc_blk 1 rfl rfl) (hc_blk 1 rfl rfl)) rfl ?_ | refine sLd 0 tabs rfl rfl rfl rfl rfl ?_ | refine sLd 1 tabs rfl rfl rfl rfl rfl ?_ | refine sLb 0 tabs rfl rfl rfl rfl rfl ?_ | refine sLb 1 tabs rfl rfl rfl rfl rfl ?_) | (show oA (.binOp _ _ _ _ _); refine st_y (y_eql rfl rfl) rfl ?_) | (show oA (.call _); first | (refine m_call (ent_of Tryz.func148 kr rfl) rfl rfl (fun w c => spec_IsRep_ok (r := a) (c.rd h0) (c.rd h1) (c.rd h2) (c.rd h3)) ?_; rintro v H' ⟨rfl, rfl⟩) | (refine m_call (ent_of Tryz.func148 kr rfl) rfl rfl (fun w c => spec_IsRep_ok (r := b) (c.rd k0) (c.rd k1) (c.rd k2) (c.rd k3)) ?_; rintro v H' ⟨rfl, rfl⟩) | (refine m_call (ent_of Tryz.func179 kr rfl) rfl rfl (fun w c => spec_EqualQuivers_ok (q := a.q) (q' := b.q) (c.rd h0) (c.rd h1) (c.rd k0) (c.rd k1)) ?_; rintro v H' ⟨rfl, rfl⟩)) | (show oA (.pick _ _ _); first | refine st_y (y_pickt rfl aS rfl) rfl ?_ | refine st_y (y_pickf rfl aS rfl) rfl ?_ | refine st_y (y_pick rfl rfl rfl) rfl ?_) | (show oA (.box _ _); refine m_box rfl rfl (fun bq hbq => ?_)) | refine st_gn rfl rfl rfl ?_ | refine st_gdy rfl rfl aS ?_ | refine st_gdn rfl rfl aS rfl ?_ | refine st_gd rfl rfl (fun h => ?_) (fun h => ?_)) | refine xNt ?_ | (show oC; first | refine c_seq ?_ | refine c_region ?_ | refine c_ret ?_))
  all_goals refine x_ret1 Tryz.results165 (res_tmp rfl) (fun w c => ⟨_, _, rfl, ⟨congrArg Value.bool ?_, rfl⟩, c.sub (List.nil_sublist _)⟩)
  all_goals first
    | (have hn : ¬ FitP a b := fun hi => by first | exact absurd hi.1 aS | exact absurd hi.2.1 aS | exact absurd hi.2.2.1 aS
       simp [hn]; done)
    | (simp_all [FitP]; done)

theorem fit_ok {w : World} {a b : Rp} {e e' : Nat} {u0 u1 u2 u3 v0 v1 v2 v3 : Value} (h0 : Rd w (iT a.q.2.1) u0) (h1 : Rd w (iT a.q.2.2) u1) (h2 : Rd w (iT a.d) u2) (h3 : Rd w (matsT e a.m) u3) (k0 : Rd w (iT b.q.2.1) v0) (k1 : Rd w (iT b.q.2.2) v1) (k2 : Rd w (iT b.d) v2) (k3 : Rd w (matsT e' b.m) v3) :
    Does Tryz.prog 164 [.agg #[iV a.p, iV a.q.1, u0, u1, u2, u3], .agg #[iV b.p, iV b.q.1, v0, v1, v2, v3]] w (fun r H => r = .bool (decide (FitP a b)) ∧ H = []) := by
  refine fn_enter Tryz.func164 rfl Tryz.ntmps164 rfl ?_
  repeat' (first | (show oL; first | refine sMv rfl rfl ?_ | refine sAs rfl rfl ?_ | refine sFd tabs rfl rfl rfl rfl ?_ | (show oA (.load _ _); first | refine st_y (y_load3 tabs rfl rfl (hc_blk 0 rfl rfl) (hc_blk 0 rfl rfl) (hc_blk 0 rfl rfl)) rfl ?_ | refine st_y (y_load3 tabs rfl rfl (hc_blk 1 rfl rfl) (hc_blk 1 rfl rfl) (hc_blk 1 rfl rfl)) rfl ?_ | refine sLd 0 tabs rfl rfl rfl rfl rfl ?_ | refine sLd 1 tabs rfl rfl rfl rfl rfl ?_ | refine sLb 0 tabs rfl rfl rfl rfl rfl ?_ | refine sLb 1 tabs rfl rfl rfl rfl rfl ?_) | (show oA (.binOp _ _ _ _ _); refine st_y (y_eql rfl rfl) rfl ?_) | (show oA (.call _); first | (refine m_call (ent_of Tryz.func166 kr rfl) rfl rfl (fun w c => impl_IsRep_ok (r := a) (c.rd h0) (c.rd h1) (c.rd h2) (c.rd h3)) ?_; rintro v H' ⟨rfl, rfl⟩) | (refine m_call (ent_of Tryz.func166 kr rfl) rfl rfl (fun w c => impl_IsRep_ok (r := b) (c.rd k0) (c.rd k1) (c.rd k2) (c.rd k3)) ?_; rintro v H' ⟨rfl, rfl⟩) | (refine m_call (ent_of Tryz.func254 kr rfl) rfl rfl (fun w c => impl_EqualQuivers_ok (q := a.q) (q' := b.q) (c.rd h0) (c.rd h1) (c.rd k0) (c.rd k1)) ?_; rintro v H' ⟨rfl, rfl⟩)) | (show oA (.pick _ _ _); first | refine st_y (y_pickt rfl aS rfl) rfl ?_ | refine st_y (y_pickf rfl aS rfl) rfl ?_ | refine st_y (y_pick rfl rfl rfl) rfl ?_) | (show oA (.box _ _); refine m_box rfl rfl (fun bq hbq => ?_)) | refine st_gn rfl rfl rfl ?_ | refine st_gdy rfl rfl aS ?_ | refine st_gdn rfl rfl aS rfl ?_ | refine st_gd rfl rfl (fun h => ?_) (fun h => ?_)) | refine xNt ?_ | (show oC; first | refine c_seq ?_ | refine c_region ?_ | refine c_ret ?_))
  all_goals refine x_ret1 Tryz.results164 (res_tmp rfl) (fun w c => ⟨_, _, rfl, ⟨congrArg Value.bool ?_, rfl⟩, c.sub (List.nil_sublist _)⟩)
  all_goals first
    | (have hn : ¬ FitP a b := fun hi => by first | exact absurd hi.1 aS | exact absurd hi.2.1 aS | exact absurd hi.2.2.1 aS
       simp [hn]; done)
    | (simp_all [FitP]; done)

def ElemP (p : Int) (d d' : List Int) (ms : List Mat) (i : Nat) : Prop := MatP p (ms.getD i mat0) ∧ (ms.getD i mat0).2.1 = d.getD i 0 ∧ (ms.getD i mat0).1 = d'.getD i 0
instance (p : Int) (d d' : List Int) (ms : List Mat) (i : Nat) : Decidable (ElemP p d d' ms i) := by unfold ElemP; infer_instance
def AreP (a b : Rp) (ms : List Mat) : Prop := FitP a b ∧ ms.length = a.d.length ∧ ∀ i, i < ms.length → ElemP a.p a.d b.d ms i
instance (a b : Rp) (ms : List Mat) : Decidable (AreP a b ms) := by unfold AreP; infer_instance
theorem impl_AreMatrices_ok {w : World} {a b : Rp} {e e' : Nat} {u0 u1 u2 u3 v0 v1 v2 v3 : Value} (h0 : Rd w (iT a.q.2.1) u0) (h1 : Rd w (iT a.q.2.2) u1) (h2 : Rd w (iT a.d) u2) (h3 : Rd w (matsT e a.m) u3) (k0 : Rd w (iT b.q.2.1) v0) (k1 : Rd w (iT b.q.2.2) v1) (k2 : Rd w (iT b.d) v2) (k3 : Rd w (matsT e' b.m) v3) {ms : List Mat} {e2 : Nat} {um : Value} (hm : Rd w (matsT e2 ms) um) :
    Does Tryz.prog 54 [.agg #[iV a.p, iV a.q.1, u0, u1, u2, u3], .agg #[iV b.p, iV b.q.1, v0, v1, v2, v3], um] w (fun r H => r = .bool (decide (AreP a b ms)) ∧ H = []) := by
  obtain ⟨am, cm, rfl, hsm, hcm1, hcm2, hget⟩ := rd_mats hm
  obtain ⟨al, cl, rfl, hsl, hcl1, hcl2, hgd⟩ := h2.ints
  obtain ⟨al', cl', rfl, hsl', hcl1', hcl2', hgd'⟩ := k2.ints
  unfold maxLen at hcm2 hcl2 hcl2'
  by_cases hF : FitP a b
  · by_cases hL : ms.length = a.d.length
    · have hL' : ((ms.length : Nat) : Int) = (a.d.length : Nat) := by omega
      obtain ⟨p, q, d, m0⟩ := a
      obtain ⟨p', q', d', m0'⟩ := b
      obtain ⟨hR, hR', e1, e2'⟩ := hF
      simp only at e1 e2' hL hL'
      subst e1; subst e2'
      have hd := hR.2.1.2.1
      have hd' := hR'.2.1.2.1
      simp only at hd hd' h0 h1 h2 h3 k0 k1 k2 k3 hgd hgd' hsl hsl'
      have hFit : FitP ⟨p, q, d, m0⟩ ⟨p, q, d', m0'⟩ := ⟨hR, hR', rfl, rfl⟩
      have hdd : d.length = d'.length := by omega
      refine fn_enter Tryz.func54 rfl Tryz.ntmps54 rfl ?_
      repeat' (first | (show oL; first | refine sMv rfl rfl ?_ | refine sAs rfl rfl ?_ | refine sFd tabs rfl rfl rfl rfl ?_ | (show oA (.load _ _); first | refine sLb 0 tabs rfl rfl rfl rfl rfl ?_ | refine sLb 1 tabs rfl rfl rfl rfl rfl ?_ | refine sLd 1 tabs rfl rfl rfl rfl rfl ?_) | (show oA (.binOp _ _ _ _ _); refine st_y (y_neq rfl rfl) rfl ?_) | (show oA (.unOp _ _ _); refine st_y (y_notd rfl) rfl ?_) | (show oA (.call _); first | (refine m_call (ent_of Tryz.func164 kr rfl) rfl rfl (fun w c => fit_ok (a := ⟨p, q, d, m0⟩) (b := ⟨p, q, d', m0'⟩) (c.rd h0) (c.rd h1) (c.rd h2) (c.rd h3) (c.rd k0) (c.rd k1) (c.rd k2) (c.rd k3)) ?_; rintro v H' ⟨rfl, rfl⟩) | refine sLn tabs rfl rfl rfl ?_) | (show oA (.pick _ _ _); first | refine st_y (y_pickt rfl aO rfl) rfl ?_ | refine st_y (y_pickf rfl aO rfl) rfl ?_) | (show oA (.box _ _); refine m_box rfl rfl (fun b2 hb2 => ?_)) | refine st_gfy rfl rfl aO ?_ | refine st_gfn rfl rfl aO rfl ?_ | refine st_gd rfl rfl (fun h => ?_) (fun h => ?_)) | refine xNt ?_ | (show oC; first | refine c_seq ?_ | refine c_region ?_ | refine c_skip (x_then ?_) | refine c_block ?_ | refine c_ret ?_ | refine c_true rfl ?_ | refine c_iff rfl nN ?_) | (show AT _ _ _ _; refine x_then_ret ?_))
      all_goals try exact absurd hFit aS
      rename_i b1 hb1
      refine c_loopH (α := Nat) [3, 4, 21, 22] (fun i => [(23, .int .i64 i)]) (fun i => i ≤ ms.length ∧ ∀ j, j < i → ElemP p d d' ms j) (fun i => [.blk b2 #[iV p, iV q.1, v0, v1, .slice al' d'.length cl', v3] 60, .blk b1 #[iV p, iV q.1, u0, u1, .slice al d.length cl, u3] 60]) (fun i => ms.length - i) 0 rfl sB ?_ ?_ ?_
      · exact ⟨Nat.zero_le _, fun j hj => by omega⟩
      · exact fun w' c' => c'
      · rintro i ⟨hi, hn⟩
        by_cases hin : i < ms.length
        · obtain ⟨m, hmi⟩ : ∃ m, ms[i]? = some m := ⟨_, List.getElem?_eq_getElem hin⟩
          obtain ⟨a2, c2, g1, g2, g3, g4⟩ := hget i m hmi
          have hmd : ms.getD i mat0 = m := by simp [List.getD, hmi]
          have hid : i < d.length := by omega
          have hid' : i < d'.length := by omega
          have n1 := hgd i hid
          have n2 := hgd' i hid'
          repeat' (first | (show oL; first | refine sMv rfl rfl ?_ | refine sAs rfl rfl ?_ | (show oA (.load _ _); refine st_y (y_load3 tabs rfl rfl (hc_w0 g1) (hc_w0 g2) (hc_w0 g3)) rfl ?_) | (show oA (.indexAddr _ _ _); refine st_y (y_ixa tabs rfl rfl rfl hsm om om) rfl ?_) | (show oA (.binOp _ _ _ _ _); first | refine sAd rfl rfl om rfl ?_ | refine sLs rfl rfl rfl ?_) | (show oA (.store _ _ _); refine m_storeb 0 tabs rfl rfl rfl rfl rfl rfl rfl ?_) | (show oA (.alloc _); refine m_alloc tabs rfl rfl (fun bq hbq => ?_))) | refine xNt ?_ | (show oC; first | refine c_seq ?_ | refine c_region ?_ | refine c_skip (x_then ?_) | refine c_skip (x_blk ?_) | refine c_block ?_ | refine c_ret ?_ | refine c_draw kr kr (fun _ c => Hp.drew c) ?_ | refine c_true rfl ?_ | refine c_ift rfl aO ?_ | refine c_ifnd rfl (fun h => ?_) (fun h => ?_)) | (show QT _ _ _ _ _ _ (_ :: _); first | refine qMv rfl rfl ?_ | refine qFd tabs rfl rfl rfl rfl ?_ | (show qA (.load _ _); first | refine q_y (y_load tabs rfl rfl (hc_w0 n1)) rfl ?_ | refine q_y (y_load tabs rfl rfl (hc_w0 n2)) rfl ?_ | refine qLb 0 tabs rfl rfl rfl rfl rfl ?_ | refine qLd 0 tabs rfl rfl rfl rfl rfl ?_ | refine qLd 1 tabs rfl rfl rfl rfl rfl ?_ | refine qLd 2 tabs rfl rfl rfl rfl rfl ?_) | (show qA (.indexAddr _ _ _); first | refine q_y (y_ix1 tabs (j := i) rfl rfl rfl hsl rfl hid) rfl ?_ | refine q_y (y_ix1 tabs (j := i) rfl rfl rfl hsl' rfl hid') rfl ?_) | (show qA (.binOp _ _ _ _ _); refine q_y (y_neq rfl rfl) rfl ?_) | (show qA (.unOp _ _ _); refine q_y (y_notd rfl) rfl ?_) | (show qA (.call _); refine q_call (ent_of Tryz.func132 kr rfl) rfl rfl (fun w c => impl_IsMatrix_ok (m := m) (c.rd g4)) (fun u H' h => h.1) ?_) | (show qA (.pick _ _ _); first | refine q_y (y_pickt rfl aO rfl) rfl ?_ | refine q_y (y_pickf rfl aO rfl) rfl ?_ | refine q_y (y_pick rfl rfl rfl) rfl ?_) | refine q_gn rfl rfl rfl ?_ | refine q_gfy rfl rfl aO ?_ | refine q_gfn rfl rfl aO rfl ?_ | refine q_gd rfl rfl (fun h => ?_) (fun h => ?_)) | (show QT _ _ _ _ _ _ []; refine q_nil (x_then ?_)) | (show AT _ _ _ _; first | refine x_then ?_ | refine x_then_ret ?_ | refine x_blk_ret ?_))
          all_goals first
            | (refine x_nx (i + 1) sB ⟨by omega, fun j hj => ?_⟩ (fun w' c' => c'.drop) om
               by_cases hji : j = i
               · subst hji
                 unfold ElemP
                 rw [hmd]
                 exact ⟨by first | assumption | exact Decidable.not_not.1 aS, by omega, by omega⟩
               · exact hn j om)
            | (refine x_ret1 Tryz.results54 (res_tmp rfl) (fun w' c' => ⟨_, _, rfl, ⟨congrArg Value.bool ?_, rfl⟩, c'.sub (List.nil_sublist _)⟩)
               have hno : ¬ AreP ⟨p, q, d, m0⟩ ⟨p, q, d', m0'⟩ ms := fun hA => by
                 have he := hA.2.2 i hin
                 unfold ElemP at he
                 simp only [hmd] at he
                 first | exact absurd he.1 aS | (have := he.2.1; omega) | (have := he.2.2; omega)
               simp [hno])
        · have : i = ms.length := by omega
          subst this
          repeat' (first | (show oL; first | refine sAs rfl rfl ?_ | refine sLs rfl rfl rfl ?_) | refine xNt ?_ | (show oC; first | refine c_seq ?_ | refine c_region ?_ | refine c_ret ?_ | refine c_exit ?_ | refine c_iff rfl nN ?_) | (show AT _ _ _ _; first | refine x_then ?_ | refine x_then_exit ?_ | refine x_blk_exit rfl ?_))
          refine x_ret1 Tryz.results54 (res_tmp rfl) (fun w' c' => ⟨_, _, rfl, ⟨congrArg Value.bool ?_, rfl⟩, c'.sub (List.nil_sublist _)⟩)
          have : AreP ⟨p, q, d, m0⟩ ⟨p, q, d', m0'⟩ ms := ⟨hFit, hL, hn⟩
          simp [this]
    · have hno : ¬ AreP a b ms := fun hA => hL hA.2.1
      rw [decide_eq_false hno]
      refine fn_enter Tryz.func54 rfl Tryz.ntmps54 rfl ?_
      repeat' (first | (show oL; first | refine sMv rfl rfl ?_ | refine sAs rfl rfl ?_ | refine sFd tabs rfl rfl rfl rfl ?_ | (show oA (.load _ _); first | refine sLb 0 tabs rfl rfl rfl rfl rfl ?_ | refine sLb 1 tabs rfl rfl rfl rfl rfl ?_ | refine sLd 1 tabs rfl rfl rfl rfl rfl ?_) | (show oA (.binOp _ _ _ _ _); refine st_y (y_neq rfl rfl) rfl ?_) | (show oA (.unOp _ _ _); refine st_y (y_notd rfl) rfl ?_) | (show oA (.call _); first | (refine m_call (ent_of Tryz.func164 kr rfl) rfl rfl (fun w c => fit_ok (a := a) (b := b) (c.rd h0) (c.rd h1) (c.rd h2) (c.rd h3) (c.rd k0) (c.rd k1) (c.rd k2) (c.rd k3)) ?_; rintro v H' ⟨rfl, rfl⟩) | refine sLn tabs rfl rfl rfl ?_) | (show oA (.pick _ _ _); first | refine st_y (y_pickt rfl aO rfl) rfl ?_ | refine st_y (y_pickf rfl aO rfl) rfl ?_) | (show oA (.box _ _); refine m_box rfl rfl (fun b2 hb2 => ?_)) | refine st_gfy rfl rfl aO ?_ | refine st_gfn rfl rfl aO rfl ?_ | refine st_gd rfl rfl (fun h => ?_) (fun h => ?_)) | refine xNt ?_ | (show oC; first | refine c_seq ?_ | refine c_region ?_ | refine c_ret ?_ | refine c_true rfl ?_ | refine c_ift rfl aO ?_) | (show AT _ _ _ _; refine x_then_ret ?_))
      all_goals first | exact absurd hF aS | exact absurd om hL | exact x_ret1 Tryz.results54 (res_tmp rfl) (fun w' c' => ⟨_, _, rfl, ⟨rfl, rfl⟩, c'.sub (List.nil_sublist _)⟩)
  · have hno : ¬ AreP a b ms := fun hA => hF hA.1
    rw [decide_eq_false hno]
    refine fn_enter Tryz.func54 rfl Tryz.ntmps54 rfl ?_
    repeat' (first | (show oL; first | refine sMv rfl rfl ?_ | refine sAs rfl rfl ?_ | (show oA (.load _ _); first | refine sLb 0 tabs rfl rfl rfl rfl rfl ?_ | refine sLb 1 tabs rfl rfl rfl rfl rfl ?_) | (show oA (.unOp _ _ _); refine st_y (y_notd rfl) rfl ?_) | (show oA (.call _); (refine m_call (ent_of Tryz.func164 kr rfl) rfl rfl (fun w c => fit_ok (a := a) (b := b) (c.rd h0) (c.rd h1) (c.rd h2) (c.rd h3) (c.rd k0) (c.rd k1) (c.rd k2) (c.rd k3)) ?_; rintro v H' ⟨rfl, rfl⟩)) | (show oA (.pick _ _ _); refine st_y (y_pickt rfl aO rfl) rfl ?_) | (show oA (.box _ _); refine m_box rfl rfl (fun b2 hb2 => ?_)) | refine st_gfn rfl rfl aO rfl ?_) | refine xNt ?_ | (show oC; first | refine c_seq ?_ | refine c_region ?_ | refine c_ret ?_ | refine c_true rfl ?_) | (show AT _ _ _ _; refine x_then_ret ?_))
    all_goals first | exact absurd (Decidable.not_not.1 aS) hF | exact x_ret1 Tryz.results54 (res_tmp rfl) (fun w' c' => ⟨_, _, rfl, ⟨rfl, rfl⟩, c'.sub (List.nil_sublist _)⟩)

end Go.Proofs.YtijjkfbkihgfgaaGreat
