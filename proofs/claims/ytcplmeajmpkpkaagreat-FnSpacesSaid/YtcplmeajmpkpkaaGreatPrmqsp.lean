import Derived.Test.YtcplmeajmpkpkaaGreatPrdqsp
namespace Go.Proofs.YtcplmeajmpkpkaaGreat
open Go.Lg Go.Proofs Go.RowKit
attribute [local irreducible] Code.wp wpList bodyPost Exit.then Exit.inBlock Hp Again Calls Y AT ResV QT
set_option maxRecDepth 20000
set_option maxHeartbeats 4000000

theorem inP_take {lo hi : Int} {xs : List Int} {i : Nat} (h : InP lo hi (xs.take i)) (hi' : i < xs.length) (hx : lo ≤ xs.getD i 0 ∧ xs.getD i 0 ≤ hi) : InP lo hi (xs.take (i + 1)) := by
  intro x hm
  rw [take_next (z := 0) hi'] at hm
  rcases List.mem_append.1 hm with hm | hm
  · exact h x hm
  · simp only [List.mem_singleton] at hm
    subst hm; exact hx
theorem inP_not {lo hi : Int} {xs : List Int} {i : Nat} (hi' : i < xs.length) (hx : ¬ (lo ≤ xs.getD i 0 ∧ xs.getD i 0 ≤ hi)) : ¬ InP lo hi xs := fun h => hx (h _ (by
  have : xs.getD i 0 = xs[i] := by simp [List.getD, hi']
  rw [this]; exact List.getElem_mem hi'))
theorem inP_get {lo hi : Int} {xs : List Int} {i : Nat} (h : InP lo hi xs) (hi' : i < xs.length) : lo ≤ xs.getD i 0 ∧ xs.getD i 0 ≤ hi := h _ (by
  have : xs.getD i 0 = xs[i] := by simp [List.getD, hi']
  rw [this]; exact List.getElem_mem hi')

theorem spec_IsVector_ok {w : World} {p : Int} {v : Value} {xs : List Int} (hr : Rd w (iT xs) v) : Does Tryz.prog 69 [iV p, v] w (fun v H => v = .bool (decide (VecP p xs)) ∧ H = []) := by
  obtain ⟨a, c, rfl, hs, hc1, hc2, hget⟩ := hr.ints
  unfold maxLen at hc2
  refine fn_enter Tryz.func69 rfl Tryz.ntmps69 rfl ?_
  repeat' (first | (show oL; first | refine sMv rfl rfl ?_ | refine sAs rfl rfl ?_ | (show oA (.binOp _ _ _ _ _); refine st_y (y_gtr rfl rfl) rfl ?_) | (show oA (.unOp _ _ _); refine st_y (y_notd rfl) rfl ?_) | (show oA (.call _); first | (refine m_call (ent_of Tryz.func74 kr rfl) rfl rfl (fun w c => spec_IsField_ok p) ?_; rintro v H' ⟨rfl, rfl⟩) | refine sLn tabs rfl rfl rfl ?_) | (show oA (.pick _ _ _); first | refine st_y (y_pickt rfl aS rfl) rfl ?_ | refine st_y (y_pickf rfl aS rfl) rfl ?_) | refine st_gfy rfl rfl aS ?_ | refine st_gfn rfl rfl aS rfl ?_ | refine st_gd rfl rfl (fun h => ?_) (fun h => ?_)) | refine xNt ?_ | (show oC; first | refine c_seq ?_ | refine c_region ?_ | refine c_skip (x_then ?_) | refine c_block ?_ | refine c_ret ?_ | refine c_true rfl ?_ | refine c_if rfl (fun h => ?_) (fun h => ?_)) | (show AT _ _ _ _; refine x_then_ret ?_))
  · refine x_ret1 Tryz.results69 (res_tmp rfl) (fun w c => ⟨_, _, rfl, ⟨congrArg Value.bool ?_, rfl⟩, c⟩)
    simp_all [VecP]
  · refine x_ret1 Tryz.results69 (res_tmp rfl) (fun w c => ⟨_, _, rfl, ⟨congrArg Value.bool ?_, rfl⟩, c⟩)
    have : ¬ VecP p xs := fun hv => by have := hv.2.1; omega
    simp [this]
  · have hF : FieldP p := by simp_all
    have hp : p ≤ 5 ∧ 2 ≤ p := by unfold FieldP at hF; omega
    refine c_loop (fun i : Nat => [(0, iV p), (1, .slice a xs.length c), (5, .int .i64 i)])
      (fun i w' => (i ≤ xs.length ∧ InP 0 (p - 1) (xs.take i)) ∧ Hp [] w [] w') (fun i => xs.length - i) 0 ?_ ?_ ?_
    · exact sB
    · intro w' c'
      exact ⟨⟨by omega, by intro x hx; simp at hx⟩, c'⟩
    · intro i
      refine AT.pr (fun ⟨hi, hn⟩ => ?_)
      repeat' (first | (show oL; first | refine sMv rfl rfl ?_ | refine sAs rfl rfl ?_ | (show oA (.load _ _); refine st_y (y_load tabs rfl rfl (hc_w0 (hget _ om))) rfl ?_) | (show oA (.indexAddr _ _ _); refine st_y (y_ix1 tabs rfl rfl rfl mK rfl om) rfl ?_) | (show oA (.binOp _ _ _ _ _); first | refine sAd rfl rfl om rfl ?_ | refine st_y (y_sub rfl rfl om) rfl ?_ | refine sLs rfl rfl rfl ?_) | (show oA (.unOp _ _ _); refine st_y (y_notd rfl) rfl ?_) | (show oA (.call _); first | (refine m_call (ent_of Tryz.func75 kr rfl) rfl rfl (fun w c => l1In_ok _ _ _) ?_; rintro v H' ⟨rfl, rfl⟩) | refine sLn tabs rfl rfl rfl ?_)) | refine xNt ?_ | (show oC; first | refine c_seq ?_ | refine c_region ?_ | refine c_skip (x_then ?_) | refine c_skip (x_blk ?_) | refine c_block ?_ | refine c_ret ?_ | refine c_exit ?_ | refine c_ifnd rfl (fun h => ?_) (fun h => ?_) | refine c_if rfl (fun h => ?_) (fun h => ?_)) | (show AT _ _ _ _; first | refine x_then ?_ | refine x_then_ret ?_ | refine x_blk_ret ?_ | refine x_then_exit ?_ | refine x_blk_exit rfl ?_))
      · refine x_ret1 Tryz.results69 (res_tmp rfl) (fun w c => ⟨_, _, rfl, ⟨congrArg Value.bool ?_, rfl⟩, c⟩)
        have : ¬ VecP p xs := fun hv => inP_not om h hv.2.2
        simp [this]
      · refine x_next (i + 1) sB (fun w' c' => ⟨⟨by omega, inP_take hn om (by simpa using h)⟩, c'⟩) om
      · refine x_ret1 Tryz.results69 (res_tmp rfl) (fun w c => ⟨_, _, rfl, ⟨congrArg Value.bool ?_, rfl⟩, c⟩)
        rw [take_end om] at hn
        have : VecP p xs := ⟨hF, by omega, hn⟩
        simp [this]

theorem impl_IsVector_ok {w : World} {p : Int} {v : Value} {xs : List Int} (hr : Rd w (iT xs) v) : Does Tryz.prog 67 [iV p, v] w (fun v H => v = .bool (decide (VecP p xs)) ∧ H = []) := by
  obtain ⟨a, c, rfl, hs, hc1, hc2, hget⟩ := hr.ints
  unfold maxLen at hc2
  have hF : FieldP p → p ≤ 5 ∧ 2 ≤ p := by unfold FieldP; omega
  refine fn_enter Tryz.func67 rfl Tryz.ntmps67 rfl ?_
  repeat' (first | (show oL; first | refine sMv rfl rfl ?_ | refine sAs rfl rfl ?_ | (show oA (.binOp _ _ _ _ _); first | refine st_y (y_sub rfl rfl (by have := hF aS; omega)) rfl ?_ | refine st_y (y_leq rfl rfl) rfl ?_) | (show oA (.call _); first | (refine m_call (ent_of Tryz.func45 kr rfl) rfl rfl (fun w c => impl_IsField_ok p) ?_; rintro v H' ⟨rfl, rfl⟩) | (refine m_call (ent_of Tryz.func106 kr rfl) rfl rfl (fun w c => allWithin_ok (c.rd hr)) ?_; rintro v H' ⟨rfl, rfl⟩) | refine sLn tabs rfl rfl rfl ?_) | (show oA (.pick _ _ _); first | refine st_y (y_pickt rfl aS rfl) rfl ?_ | refine st_y (y_pickf rfl aS rfl) rfl ?_ | refine st_y (y_pick rfl rfl rfl) rfl ?_) | refine st_gn rfl rfl rfl ?_ | refine st_gdy rfl rfl aS ?_ | refine st_gdn rfl rfl aS rfl ?_ | refine st_gd rfl rfl (fun h => ?_) (fun h => ?_)) | refine xNt ?_ | (show oC; first | refine c_seq ?_ | refine c_region ?_ | refine c_ret ?_))
  all_goals refine x_ret1 Tryz.results67 (res_tmp rfl) (fun w c => ⟨_, _, rfl, ⟨congrArg Value.bool ?_, rfl⟩, c⟩)
  all_goals first | (simp_all [VecP]; done) | (simp_all [VecP]; omega)

theorem spec_IsMatrix_ok {w : World} {p : Int} {m : Mat} {u : Value} (hr : Rd w (iT m.2.2) u) : Does Tryz.prog 64 [iV p, .agg #[iV m.1, iV m.2.1, u]] w (fun v H => v = .bool (decide (MatP p m)) ∧ H = []) := by
  obtain ⟨r, k, xs⟩ := m
  simp only at hr ⊢
  obtain ⟨a, c, rfl, hs, hc1, hc2, hget⟩ := hr.ints
  have hm : (0 ≤ r ∧ r ≤ 8) → (0 ≤ k ∧ k ≤ 8) → 0 ≤ r * k ∧ r * k ≤ 64 := fun h1 h2 => ⟨Int.mul_nonneg h1.1 h2.1, by have := Int.mul_le_mul h1.2 h2.2 h2.1 om; omega⟩
  refine fn_enter Tryz.func64 rfl Tryz.ntmps64 rfl ?_
  repeat' (first | (show oL; first | refine sMv rfl rfl ?_ | refine sAs rfl rfl ?_ | refine sFd tabs rfl rfl rfl rfl ?_ | refine sLd 0 tabs rfl rfl rfl rfl rfl ?_ | (show oA (.binOp _ _ _ _ _); first | refine st_y (y_mul rfl rfl (by have := hm aS aS; omega)) rfl ?_ | refine st_y (y_eql rfl rfl) rfl ?_) | (show oA (.call _); first | (refine m_call (ent_of Tryz.func75 kr rfl) rfl rfl (fun w c => l1In_ok _ _ _) ?_; rintro v H' ⟨rfl, rfl⟩) | (refine m_call (ent_of Tryz.func69 kr rfl) rfl rfl (fun w c => spec_IsVector_ok (c.rd hr)) ?_; rintro v H' ⟨rfl, rfl⟩) | refine sLn tabs rfl rfl rfl ?_) | (show oA (.pick _ _ _); first | refine st_y (y_pickt rfl aS rfl) rfl ?_ | refine st_y (y_pickf rfl aS rfl) rfl ?_ | refine st_y (y_pick rfl rfl rfl) rfl ?_) | (show oA (.box _ _); refine m_box rfl rfl (fun b hb => ?_)) | refine st_gn rfl rfl rfl ?_ | refine st_gdy rfl rfl aS ?_ | refine st_gdn rfl rfl aS rfl ?_ | refine st_gd rfl rfl (fun h => ?_) (fun h => ?_)) | refine xNt ?_ | (show oC; first | refine c_seq ?_ | refine c_region ?_ | refine c_ret ?_))
  all_goals refine x_ret1 Tryz.results64 (res_tmp rfl) (fun w c => ⟨_, _, rfl, ⟨congrArg Value.bool ?_, rfl⟩, c.sub (List.nil_sublist _)⟩)
  all_goals first | (simp_all [MatP]; done) | (simp_all [MatP]; omega) | (have hM : ¬ MatP p (r, k, xs) := fun hv => absurd hv.1 aS; simp [hM])
theorem impl_IsMatrix_ok {w : World} {p : Int} {m : Mat} {u : Value} (hr : Rd w (iT m.2.2) u) : Does Tryz.prog 62 [iV p, .agg #[iV m.1, iV m.2.1, u]] w (fun v H => v = .bool (decide (MatP p m)) ∧ H = []) := by
  obtain ⟨r, k, xs⟩ := m
  simp only at hr ⊢
  obtain ⟨a, c, rfl, hs, hc1, hc2, hget⟩ := hr.ints
  have hm : (0 ≤ r ∧ r ≤ 8) → (0 ≤ k ∧ k ≤ 8) → 0 ≤ r * k ∧ r * k ≤ 64 := fun h1 h2 => ⟨Int.mul_nonneg h1.1 h2.1, by have := Int.mul_le_mul h1.2 h2.2 h2.1 om; omega⟩
  refine fn_enter Tryz.func62 rfl Tryz.ntmps62 rfl ?_
  repeat' (first | (show oL; first | refine sMv rfl rfl ?_ | refine sAs rfl rfl ?_ | refine sFd tabs rfl rfl rfl rfl ?_ | refine sLd 0 tabs rfl rfl rfl rfl rfl ?_ | (show oA (.binOp _ _ _ _ _); first | refine st_y (y_mul rfl rfl (by have := hm aS aS; omega)) rfl ?_ | refine st_y (y_eql rfl rfl) rfl ?_) | (show oA (.call _); first | (refine m_call (ent_of Tryz.func51 kr rfl) rfl rfl (fun w c => within_ok _ _ _) ?_; rintro v H' ⟨rfl, rfl⟩) | (refine m_call (ent_of Tryz.func67 kr rfl) rfl rfl (fun w c => impl_IsVector_ok (c.rd hr)) ?_; rintro v H' ⟨rfl, rfl⟩) | refine sLn tabs rfl rfl rfl ?_) | (show oA (.pick _ _ _); first | refine st_y (y_pickt rfl aS rfl) rfl ?_ | refine st_y (y_pickf rfl aS rfl) rfl ?_ | refine st_y (y_pick rfl rfl rfl) rfl ?_) | (show oA (.box _ _); refine m_box rfl rfl (fun b hb => ?_)) | refine st_gn rfl rfl rfl ?_ | refine st_gdy rfl rfl aS ?_ | refine st_gdn rfl rfl aS rfl ?_ | refine st_gd rfl rfl (fun h => ?_) (fun h => ?_)) | refine xNt ?_ | (show oC; first | refine c_seq ?_ | refine c_region ?_ | refine c_ret ?_))
  all_goals refine x_ret1 Tryz.results62 (res_tmp rfl) (fun w c => ⟨_, _, rfl, ⟨congrArg Value.bool ?_, rfl⟩, c.sub (List.nil_sublist _)⟩)
  all_goals first | (simp_all [MatP]; done) | (simp_all [MatP]; omega) | (have hM : ¬ MatP p (r, k, xs) := fun hv => absurd hv.1 aS; simp [hM])
end Go.Proofs.YtcplmeajmpkpkaaGreat
