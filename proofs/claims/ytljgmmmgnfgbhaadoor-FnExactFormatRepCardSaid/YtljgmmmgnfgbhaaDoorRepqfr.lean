import Derived.Test.YtljgmmmgnfgbhaaDoorQupqfr
namespace Go.Proofs.YtljgmmmgnfgbhaaDoor
open Go.Lg Go.Proofs Go.RowKit
attribute [local irreducible] Code.wp wpList bodyPost Exit.then Exit.inBlock Hp Again Calls Y AT ResV QT
set_option maxRecDepth 20000
set_option maxHeartbeats 4000000

/-- the map of an arrow fits -/
def MapP (r : Rp) (i : Nat) : Prop := MatP r.p (r.m.getD i mat0) ∧ (r.m.getD i mat0).2.1 = r.d.getD (r.q.2.1.getD i 0).toNat 0 ∧ (r.m.getD i mat0).1 = r.d.getD (r.q.2.2.getD i 0).toNat 0
instance (r : Rp) (i : Nat) : Decidable (MapP r i) := by unfold MapP; infer_instance
def RepP (r : Rp) : Prop := FieldP r.p ∧ DimsP r.q r.d ∧ r.m.length = r.q.2.1.length ∧ ∀ i, i < r.m.length → MapP r i
instance (r : Rp) : Decidable (RepP r) := by unfold RepP; infer_instance

theorem spec_IsRep_ok {w : World} {r : Rp} {e : Nat} {u0 u1 u2 u3 : Value} (h0 : Rd w (iT r.q.2.1) u0) (h1 : Rd w (iT r.q.2.2) u1) (h2 : Rd w (iT r.d) u2) (h3 : Rd w (matsT e r.m) u3) :
    Does Tryd.prog 12 [.agg #[iV r.p, iV r.q.1, u0, u1, u2, u3]] w (fun v H => v = .bool (decide (RepP r)) ∧ H = []) := by
  obtain ⟨p, ⟨V, F, T⟩, d, ms⟩ := r
  simp only at h0 h1 h2 h3 ⊢
  obtain ⟨a0, c0, rfl, hs0, hc01, hc02, hg0⟩ := h0.ints
  obtain ⟨a1, c1, rfl, hs1, hc11, hc12, hg1⟩ := h1.ints
  obtain ⟨a2, c2, rfl, hs2, hc21, hc22, hg2⟩ := h2.ints
  obtain ⟨a3, c3, rfl, hs3, hc31, hc32, hg3⟩ := rd_mats h3
  unfold maxLen at hc02 hc12 hc22 hc32
  refine fn_enter Tryd.func12 rfl Tryd.ntmps12 rfl ?_
  repeat' (first
    | (show AT _ _ _ (wpList _ _ _ (_ :: _)); first
       | (show AT _ _ _ (wpList _ _ _ (⟨_, Op.move _, _, _, _, _⟩ :: _)); refine st_y (y_move rfl) rfl ?_)
       | (show AT _ _ _ (wpList _ _ _ (⟨_, Op.assign _, _, _, _, _⟩ :: _)); refine st_y (y_assign rfl) rfl ?_)
       | (show AT _ _ _ (wpList _ _ _ (⟨_, Op.fieldAddr _ _ _, _, _, _, _⟩ :: _)); refine st_y (y_field tabs rfl rfl rfl) rfl ?_)
       | (show AT _ _ _ (wpList _ _ _ (⟨_, Op.load _ _, _, _, _, _⟩ :: _)); first | refine st_y (y_load3 tabs rfl rfl (hc_blk 0 rfl rfl) (hc_blk 0 rfl rfl) (hc_blk 0 rfl rfl)) rfl ?_ | refine st_y (y_load tabs rfl rfl (hc_blk 0 rfl rfl)) rfl ?_)
       | (show AT _ _ _ (wpList _ _ _ (⟨_, Op.binOp _ _ _ _ _, _, _, _, _⟩ :: _)); refine st_y (y_neq rfl rfl) rfl ?_)
       | (show AT _ _ _ (wpList _ _ _ (⟨_, Op.unOp _ _ _, _, _, _, _⟩ :: _)); refine st_y (y_notd rfl) rfl ?_)
       | (show AT _ _ _ (wpList _ _ _ (⟨_, Op.call _, _, _, _, _⟩ :: _)); first | (refine m_call (ent_of Tryd.func25 (by kernel_rfl) rfl) rfl rfl (fun w c => spec_IsField_ok p) ?_; rintro v H' ⟨rfl, rfl⟩) | (refine m_call (ent_of Tryd.func26 (by kernel_rfl) rfl) rfl rfl (fun w c => spec_AreDims_ok (q := (V, F, T)) (c.rd h0) (c.rd h1) (c.rd h2)) ?_; rintro v H' ⟨rfl, rfl⟩) | refine st_y (y_len tabs rfl rfl) rfl ?_)
       | (show AT _ _ _ (wpList _ _ _ (⟨_, Op.pick _ _ _, _, _, _, _⟩ :: _)); first | refine st_y (y_pickt rfl (by assumption) rfl) rfl ?_ | refine st_y (y_pickf rfl (by assumption) rfl) rfl ?_ | refine st_y (y_pick rfl rfl rfl) rfl ?_)
       | (show AT _ _ _ (wpList _ _ _ (⟨_, Op.box _ _, _, _, _, _⟩ :: _)); refine m_box rfl rfl (fun b hb => ?_))
       | refine st_gn rfl rfl rfl ?_ | refine st_gfy rfl rfl (by assumption) ?_ | refine st_gfn rfl rfl (by assumption) rfl ?_ | refine st_gd rfl rfl (fun h => ?_) (fun h => ?_))
    | (show AT _ _ _ (wpList _ _ _ []); refine c_nil (x_then ?_))
    | (show AT _ _ _ (Code.wp _ _ _); first | refine c_seq ?_ | refine c_region ?_ | refine c_skip (x_then ?_) | refine c_block ?_ | refine c_ret ?_ | refine c_true rfl ?_ | refine c_ifnd rfl (fun h => ?_) (fun h => ?_))
    | (show AT _ _ _ _; refine x_then_ret ?_))
  rotate_right
  · have hP : FieldP p := Decidable.not_not.1 (by assumption)
    have hD : DimsP (V, F, T) d := Decidable.not_not.1 (by assumption)
    have hL : ms.length = F.length := by omega
    obtain ⟨⟨hV, hF6, hTF, hFi, hTi⟩, hdV, hdi, hds⟩ := hD
    simp only at hV hF6 hTF hFi hTi hdV
    refine c_loop (fun i : Nat => [(1, .pointer (some ⟨b, 0, none⟩)), (3, .int .i64 i)])
      (fun i w' => (i ≤ ms.length ∧ ∀ j, j < i → MapP ⟨p, (V, F, T), d, ms⟩ j) ∧ Hp [] w [.blk b #[iV p, iV V, .slice a0 F.length c0, .slice a1 T.length c1, .slice a2 d.length c2, .slice a3 ms.length c3] 33] w') (fun i => ms.length - i) 0 ?_ ?_ ?_
    · exact (by repeat' (first | exact Sub.nil | refine Sub.cons rfl ?_ | refine Sub.consi rfl (by omega) ?_))
    · intro w' c'
      exact ⟨⟨by omega, fun j hj => by omega⟩, c'⟩
    · intro i
      refine AT.pr (fun ⟨hi, hn⟩ => ?_)
      by_cases hlt : i < ms.length
      · have f0 := inP_get hFi (i := i) (by omega)
        have f1 := inP_get hTi (i := i) (by omega)
        obtain ⟨m, hm⟩ : ∃ m, ms[i]? = some m := ⟨_, List.getElem?_eq_getElem hlt⟩
        have hmd : ms.getD i mat0 = m := by simp [List.getD, hm]
        obtain ⟨g1, g2, g3, g4, g5, g6⟩ := hg3 i m hm
        have hno : ¬ MapP ⟨p, (V, F, T), d, ms⟩ i → ¬ RepP ⟨p, (V, F, T), d, ms⟩ := fun h hr => h (hr.2.2.2 i hlt)
        unfold MapP at hno
        simp only [hmd] at hno
        have k0 := hg0 i (by omega)
        have k1 := hg1 i (by omega)
        have k2 := hg2 (F.getD i 0).toNat (by omega)
        have k3 := hg2 (T.getD i 0).toNat (by omega)
        clear hg0 hg1 hg2 hg3
        repeat' (first
          | (show AT _ _ _ (wpList _ _ _ (_ :: _)); first
             | (show AT _ _ _ (wpList _ _ _ (⟨_, Op.move _, _, _, _, _⟩ :: _)); refine st_y (y_move rfl) rfl ?_)
             | (show AT _ _ _ (wpList _ _ _ (⟨_, Op.assign _, _, _, _, _⟩ :: _)); refine st_y (y_assign rfl) rfl ?_)
             | (show AT _ _ _ (wpList _ _ _ (⟨_, Op.fieldAddr _ _ _, _, _, _, _⟩ :: _)); refine st_y (y_field tabs rfl rfl rfl) rfl ?_)
             | (show AT _ _ _ (wpList _ _ _ (⟨_, Op.load _ _, _, _, _, _⟩ :: _)); refine st_y (y_load tabs rfl rfl (hc_blk 0 rfl rfl)) rfl ?_)
             | (show AT _ _ _ (wpList _ _ _ (⟨_, Op.binOp _ _ _ _ _, _, _, _, _⟩ :: _)); first | refine st_y (y_add rfl rfl (by omega)) rfl ?_ | refine st_y (y_lss rfl rfl) rfl ?_)
             | (show AT _ _ _ (wpList _ _ _ (⟨_, Op.call _, _, _, _, _⟩ :: _)); refine st_y (y_len tabs rfl rfl) rfl ?_))
          | (show AT _ _ _ (wpList _ _ _ []); refine c_nil (x_then ?_))
          | (show AT _ _ _ (Code.wp _ _ _); first | refine c_seq ?_ | refine c_region ?_ | refine c_skip (x_then ?_) | refine c_skip (x_blk ?_) | refine c_block ?_ | refine c_ret ?_ | refine c_draw (by kernel_rfl) (by kernel_rfl) (fun _ c => Hp.drew c) ?_ | refine c_true rfl ?_ | refine c_ift rfl (by first | assumption | omega) ?_ | refine c_ifnd rfl (fun h => ?_) (fun h => ?_))
          | (show QT _ _ _ _ _ _ (_ :: _); first
             | (show QT _ _ _ _ _ _ (⟨_, Op.move _, _, _, _, _⟩ :: _); refine q_y (y_move rfl) rfl ?_)
             | (show QT _ _ _ _ _ _ (⟨_, Op.fieldAddr _ _ _, _, _, _, _⟩ :: _); refine q_y (y_field tabs rfl rfl rfl) rfl ?_)
             | (show QT _ _ _ _ _ _ (⟨_, Op.load _ _, _, _, _, _⟩ :: _); first | refine q_y (y_load3 tabs rfl rfl (hc_w0 g3) (hc_w0 g4) (hc_w0 g5)) rfl ?_ | refine q_y (y_load tabs rfl rfl (hc_w0 g3)) rfl ?_ | refine q_y (y_load tabs rfl rfl (hc_w0 g4)) rfl ?_ | refine q_y (y_load tabs rfl rfl (hc_w0 k0)) rfl ?_ | refine q_y (y_load tabs rfl rfl (hc_w0 k1)) rfl ?_ | refine q_y (y_load tabs rfl rfl (hc_w0 k2)) rfl ?_ | refine q_y (y_load tabs rfl rfl (hc_w0 k3)) rfl ?_ | refine q_y (y_load tabs rfl rfl (hc_blk 0 rfl rfl)) rfl ?_)
             | (show QT _ _ _ _ _ _ (⟨_, Op.indexAddr _ _ _, _, _, _, _⟩ :: _); first | refine q_y (y_ix1 tabs rfl rfl rfl (by first | assumption | exact .mk) rfl (by omega)) rfl ?_ | refine q_y (y_ixi tabs rfl rfl rfl (by first | assumption | exact .mk) (by omega) (by omega)) rfl ?_ | refine q_y (y_ixa tabs rfl rfl rfl (by first | assumption | exact .mk) (by omega) (by omega)) rfl ?_)
             | (show QT _ _ _ _ _ _ (⟨_, Op.binOp _ _ _ _ _, _, _, _, _⟩ :: _); refine q_y (y_neq rfl rfl) rfl ?_)
             | (show QT _ _ _ _ _ _ (⟨_, Op.unOp _ _ _, _, _, _, _⟩ :: _); refine q_y (y_notd rfl) rfl ?_)
             | (show QT _ _ _ _ _ _ (⟨_, Op.call _, _, _, _, _⟩ :: _); refine q_call (ent_of Tryd.func27 (by kernel_rfl) rfl) rfl rfl (fun w c => spec_IsMatrix_ok (m := m) (c.rd g6)) (fun u H' h => h.1) ?_)
             | (show QT _ _ _ _ _ _ (⟨_, Op.pick _ _ _, _, _, _, _⟩ :: _); first | refine q_y (y_pickt rfl (by assumption) rfl) rfl ?_ | refine q_y (y_pickf rfl (by assumption) rfl) rfl ?_ | refine q_y (y_pick rfl rfl rfl) rfl ?_)
             | refine q_gn rfl rfl rfl ?_ | refine q_gfy rfl rfl (by assumption) ?_ | refine q_gfn rfl rfl (by assumption) rfl ?_ | refine q_gd rfl rfl (fun h => ?_) (fun h => ?_))
          | (show QT _ _ _ _ _ _ []; refine q_nil (x_then ?_))
          | (show AT _ _ _ _; first | refine x_then ?_ | refine x_then_ret ?_ | refine x_blk_ret ?_))
        rotate_right
        · refine x_next (i + 1) (by repeat' (first | exact Sub.nil | refine Sub.cons rfl ?_ | refine Sub.consi rfl (by omega) ?_)) (fun w' c' => ⟨⟨by omega, fun j hj => ?_⟩, c'⟩) (by omega)
          by_cases hji : j = i
          · subst hji
            unfold MapP
            simp only [hmd]
            exact ⟨Decidable.not_not.1 (by assumption), by omega, by omega⟩
          · exact hn j (by omega)
        all_goals refine x_ret1 Tryd.results12 (res_tmp rfl) (fun w c => ⟨_, _, rfl, ⟨congrArg Value.bool ?_, rfl⟩, c.sub (List.nil_sublist _)⟩)
        all_goals
          have hq := hno (fun hh => by first | exact absurd hh.1 (by assumption) | (have := hh.2.1; omega) | (have := hh.2.2; omega))
          simp [hq]
      · repeat' (first
          | (show AT _ _ _ (wpList _ _ _ (_ :: _)); first
             | (show AT _ _ _ (wpList _ _ _ (⟨_, Op.move _, _, _, _, _⟩ :: _)); refine st_y (y_move rfl) rfl ?_)
             | (show AT _ _ _ (wpList _ _ _ (⟨_, Op.assign _, _, _, _, _⟩ :: _)); refine st_y (y_assign rfl) rfl ?_)
             | (show AT _ _ _ (wpList _ _ _ (⟨_, Op.fieldAddr _ _ _, _, _, _, _⟩ :: _)); refine st_y (y_field tabs rfl rfl rfl) rfl ?_)
             | (show AT _ _ _ (wpList _ _ _ (⟨_, Op.load _ _, _, _, _, _⟩ :: _)); refine st_y (y_load tabs rfl rfl (hc_blk 0 rfl rfl)) rfl ?_)
             | (show AT _ _ _ (wpList _ _ _ (⟨_, Op.binOp _ _ _ _ _, _, _, _, _⟩ :: _)); refine st_y (y_lss rfl rfl) rfl ?_)
             | (show AT _ _ _ (wpList _ _ _ (⟨_, Op.call _, _, _, _, _⟩ :: _)); refine st_y (y_len tabs rfl rfl) rfl ?_))
          | (show AT _ _ _ (wpList _ _ _ []); refine c_nil (x_then ?_))
          | (show AT _ _ _ (Code.wp _ _ _); first | refine c_seq ?_ | refine c_region ?_ | refine c_ret ?_ | refine c_exit ?_ | refine c_iff rfl (by first | assumption | exact not_not_intro (by assumption) | omega) ?_)
          | (show AT _ _ _ _; first | refine x_then ?_ | refine x_then_exit ?_ | refine x_blk_exit rfl ?_))
        refine x_ret1 Tryd.results12 (res_tmp rfl) (fun w c => ⟨_, _, rfl, ⟨congrArg Value.bool ?_, rfl⟩, c.sub (List.nil_sublist _)⟩)
        have : RepP ⟨p, (V, F, T), d, ms⟩ := ⟨hP, ⟨⟨hV, hF6, hTF, hFi, hTi⟩, hdV, hdi, hds⟩, hL, fun j hj => hn j (by simp only at hj; omega)⟩
        simp [this]
  all_goals refine x_ret1 Tryd.results12 (res_tmp rfl) (fun w c => ⟨_, _, rfl, ⟨congrArg Value.bool ?_, rfl⟩, c.sub (List.nil_sublist _)⟩)
  all_goals first | (simp_all [RepP]; done) | (have hq : ¬ RepP ⟨p, (V, F, T), d, ms⟩ := fun hr => (by have := hr.2.2.1; simp only at this; omega); simp [hq])
theorem impl_IsRep_ok {w : World} {r : Rp} {e : Nat} {u0 u1 u2 u3 : Value} (h0 : Rd w (iT r.q.2.1) u0) (h1 : Rd w (iT r.q.2.2) u1) (h2 : Rd w (iT r.d) u2) (h3 : Rd w (matsT e r.m) u3) :
    Does Tryd.prog 18 [.agg #[iV r.p, iV r.q.1, u0, u1, u2, u3]] w (fun v H => v = .bool (decide (RepP r)) ∧ H = []) := by
  obtain ⟨p, ⟨V, F, T⟩, d, ms⟩ := r
  simp only at h0 h1 h2 h3 ⊢
  obtain ⟨a0, c0, rfl, hs0, hc01, hc02, hg0⟩ := h0.ints
  obtain ⟨a1, c1, rfl, hs1, hc11, hc12, hg1⟩ := h1.ints
  obtain ⟨a2, c2, rfl, hs2, hc21, hc22, hg2⟩ := h2.ints
  obtain ⟨a3, c3, rfl, hs3, hc31, hc32, hg3⟩ := rd_mats h3
  unfold maxLen at hc02 hc12 hc22 hc32
  refine fn_enter Tryd.func18 rfl Tryd.ntmps18 rfl ?_
  repeat' (first
    | (show AT _ _ _ (wpList _ _ _ (_ :: _)); first
       | (show AT _ _ _ (wpList _ _ _ (⟨_, Op.move _, _, _, _, _⟩ :: _)); refine st_y (y_move rfl) rfl ?_)
       | (show AT _ _ _ (wpList _ _ _ (⟨_, Op.assign _, _, _, _, _⟩ :: _)); refine st_y (y_assign rfl) rfl ?_)
       | (show AT _ _ _ (wpList _ _ _ (⟨_, Op.fieldAddr _ _ _, _, _, _, _⟩ :: _)); refine st_y (y_field tabs rfl rfl rfl) rfl ?_)
       | (show AT _ _ _ (wpList _ _ _ (⟨_, Op.load _ _, _, _, _, _⟩ :: _)); first | refine st_y (y_load3 tabs rfl rfl (hc_blk 0 rfl rfl) (hc_blk 0 rfl rfl) (hc_blk 0 rfl rfl)) rfl ?_ | refine st_y (y_load tabs rfl rfl (hc_blk 0 rfl rfl)) rfl ?_)
       | (show AT _ _ _ (wpList _ _ _ (⟨_, Op.binOp _ _ _ _ _, _, _, _, _⟩ :: _)); refine st_y (y_neq rfl rfl) rfl ?_)
       | (show AT _ _ _ (wpList _ _ _ (⟨_, Op.unOp _ _ _, _, _, _, _⟩ :: _)); refine st_y (y_notd rfl) rfl ?_)
       | (show AT _ _ _ (wpList _ _ _ (⟨_, Op.call _, _, _, _, _⟩ :: _)); first | (refine m_call (ent_of Tryd.func29 (by kernel_rfl) rfl) rfl rfl (fun w c => impl_IsField_ok p) ?_; rintro v H' ⟨rfl, rfl⟩) | (refine m_call (ent_of Tryd.func30 (by kernel_rfl) rfl) rfl rfl (fun w c => impl_AreDims_ok (q := (V, F, T)) (c.rd h0) (c.rd h1) (c.rd h2)) ?_; rintro v H' ⟨rfl, rfl⟩) | refine st_y (y_len tabs rfl rfl) rfl ?_)
       | (show AT _ _ _ (wpList _ _ _ (⟨_, Op.pick _ _ _, _, _, _, _⟩ :: _)); first | refine st_y (y_pickt rfl (by assumption) rfl) rfl ?_ | refine st_y (y_pickf rfl (by assumption) rfl) rfl ?_ | refine st_y (y_pick rfl rfl rfl) rfl ?_)
       | (show AT _ _ _ (wpList _ _ _ (⟨_, Op.box _ _, _, _, _, _⟩ :: _)); refine m_box rfl rfl (fun b hb => ?_))
       | refine st_gn rfl rfl rfl ?_ | refine st_gfy rfl rfl (by assumption) ?_ | refine st_gfn rfl rfl (by assumption) rfl ?_ | refine st_gd rfl rfl (fun h => ?_) (fun h => ?_))
    | (show AT _ _ _ (wpList _ _ _ []); refine c_nil (x_then ?_))
    | (show AT _ _ _ (Code.wp _ _ _); first | refine c_seq ?_ | refine c_region ?_ | refine c_skip (x_then ?_) | refine c_block ?_ | refine c_ret ?_ | refine c_true rfl ?_ | refine c_ifnd rfl (fun h => ?_) (fun h => ?_))
    | (show AT _ _ _ _; refine x_then_ret ?_))
  rotate_right
  · have hP : FieldP p := Decidable.not_not.1 (by assumption)
    have hD : DimsP (V, F, T) d := Decidable.not_not.1 (by assumption)
    have hL : ms.length = F.length := by omega
    obtain ⟨⟨hV, hF6, hTF, hFi, hTi⟩, hdV, hdi, hds⟩ := hD
    simp only at hV hF6 hTF hFi hTi hdV
    refine c_loop (fun i : Nat => [(1, .pointer (some ⟨b, 0, none⟩)), (28, .slice a3 ms.length c3), (29, iV ms.length), (30, .int .i64 i)])
      (fun i w' => (i ≤ ms.length ∧ ∀ j, j < i → MapP ⟨p, (V, F, T), d, ms⟩ j) ∧ Hp [] w [.blk b #[iV p, iV V, .slice a0 F.length c0, .slice a1 T.length c1, .slice a2 d.length c2, .slice a3 ms.length c3] 33] w') (fun i => ms.length - i) 0 ?_ ?_ ?_
    · exact (by repeat' (first | exact Sub.nil | refine Sub.cons rfl ?_ | refine Sub.consi rfl (by omega) ?_))
    · intro w' c'
      exact ⟨⟨by omega, fun j hj => by omega⟩, c'⟩
    · intro i
      refine AT.pr (fun ⟨hi, hn⟩ => ?_)
      by_cases hlt : i < ms.length
      · have f0 := inP_get hFi (i := i) (by omega)
        have f1 := inP_get hTi (i := i) (by omega)
        obtain ⟨m, hm⟩ : ∃ m, ms[i]? = some m := ⟨_, List.getElem?_eq_getElem hlt⟩
        have hmd : ms.getD i mat0 = m := by simp [List.getD, hm]
        obtain ⟨g1, g2, g3, g4, g5, g6⟩ := hg3 i m hm
        have hno : ¬ MapP ⟨p, (V, F, T), d, ms⟩ i → ¬ RepP ⟨p, (V, F, T), d, ms⟩ := fun h hr => h (hr.2.2.2 i hlt)
        unfold MapP at hno
        simp only [hmd] at hno
        have k0 := hg0 i (by omega)
        have k1 := hg1 i (by omega)
        have k2 := hg2 (F.getD i 0).toNat (by omega)
        have k3 := hg2 (T.getD i 0).toNat (by omega)
        clear hg0 hg1 hg2 hg3
        repeat' (first
          | (show AT _ _ _ (wpList _ _ _ (_ :: _)); first
             | (show AT _ _ _ (wpList _ _ _ (⟨_, Op.move _, _, _, _, _⟩ :: _)); refine st_y (y_move rfl) rfl ?_)
             | (show AT _ _ _ (wpList _ _ _ (⟨_, Op.assign _, _, _, _, _⟩ :: _)); refine st_y (y_assign rfl) rfl ?_)
             | (show AT _ _ _ (wpList _ _ _ (⟨_, Op.load _ _, _, _, _, _⟩ :: _)); refine st_y (y_load3 tabs rfl rfl (hc_w0 g3) (hc_w0 g4) (hc_w0 g5)) rfl ?_)
             | (show AT _ _ _ (wpList _ _ _ (⟨_, Op.indexAddr _ _ _, _, _, _, _⟩ :: _)); refine st_y (y_ixa tabs rfl rfl rfl (by first | assumption | exact .mk) (by omega) (by omega)) rfl ?_)
             | (show AT _ _ _ (wpList _ _ _ (⟨_, Op.binOp _ _ _ _ _, _, _, _, _⟩ :: _)); first | refine st_y (y_add rfl rfl (by omega)) rfl ?_ | refine st_y (y_lss rfl rfl) rfl ?_)
             | (show AT _ _ _ (wpList _ _ _ (⟨_, Op.store _ _ _, _, _, _, _⟩ :: _)); refine m_storeb 0 tabs rfl rfl rfl rfl rfl rfl rfl ?_)
             | (show AT _ _ _ (wpList _ _ _ (⟨_, Op.alloc _, _, _, _, _⟩ :: _)); refine m_alloc tabs rfl rfl (fun b2 hb2 => ?_)))
          | (show AT _ _ _ (wpList _ _ _ []); refine c_nil (x_then ?_))
          | (show AT _ _ _ (Code.wp _ _ _); first | refine c_seq ?_ | refine c_region ?_ | refine c_skip (x_then ?_) | refine c_skip (x_blk ?_) | refine c_block ?_ | refine c_ret ?_ | refine c_draw (by kernel_rfl) (by kernel_rfl) (fun _ c => Hp.drew c) ?_ | refine c_true rfl ?_ | refine c_ift rfl (by first | assumption | omega) ?_ | refine c_ifnd rfl (fun h => ?_) (fun h => ?_))
          | (show QT _ _ _ _ _ _ (_ :: _); first
             | (show QT _ _ _ _ _ _ (⟨_, Op.move _, _, _, _, _⟩ :: _); refine q_y (y_move rfl) rfl ?_)
             | (show QT _ _ _ _ _ _ (⟨_, Op.fieldAddr _ _ _, _, _, _, _⟩ :: _); refine q_y (y_field tabs rfl rfl rfl) rfl ?_)
             | (show QT _ _ _ _ _ _ (⟨_, Op.load _ _, _, _, _, _⟩ :: _); first | refine q_y (y_loadb 0 tabs rfl rfl rfl rfl) rfl ?_ | refine q_y (y_load tabs rfl rfl (hc_blk 0 rfl rfl)) rfl ?_ | refine q_y (y_load tabs rfl rfl (hc_blk 1 rfl rfl)) rfl ?_ | refine q_y (y_load tabs rfl rfl (hc_w0 k0)) rfl ?_ | refine q_y (y_load tabs rfl rfl (hc_w0 k1)) rfl ?_ | refine q_y (y_load tabs rfl rfl (hc_w0 k2)) rfl ?_ | refine q_y (y_load tabs rfl rfl (hc_w0 k3)) rfl ?_)
             | (show QT _ _ _ _ _ _ (⟨_, Op.indexAddr _ _ _, _, _, _, _⟩ :: _); first | refine q_y (y_ix1 tabs rfl rfl rfl (by first | assumption | exact .mk) rfl (by omega)) rfl ?_ | refine q_y (y_ixi tabs rfl rfl rfl (by first | assumption | exact .mk) (by omega) (by omega)) rfl ?_)
             | (show QT _ _ _ _ _ _ (⟨_, Op.binOp _ _ _ _ _, _, _, _, _⟩ :: _); refine q_y (y_neq rfl rfl) rfl ?_)
             | (show QT _ _ _ _ _ _ (⟨_, Op.unOp _ _ _, _, _, _, _⟩ :: _); refine q_y (y_notd rfl) rfl ?_)
             | (show QT _ _ _ _ _ _ (⟨_, Op.call _, _, _, _, _⟩ :: _); refine q_call (ent_of Tryd.func31 (by kernel_rfl) rfl) rfl rfl (fun w c => impl_IsMatrix_ok (m := m) (c.rd g6)) (fun u H' h => h.1) ?_)
             | (show QT _ _ _ _ _ _ (⟨_, Op.pick _ _ _, _, _, _, _⟩ :: _); first | refine q_y (y_pickt rfl (by assumption) rfl) rfl ?_ | refine q_y (y_pickf rfl (by assumption) rfl) rfl ?_ | refine q_y (y_pick rfl rfl rfl) rfl ?_)
             | refine q_gn rfl rfl rfl ?_ | refine q_gfy rfl rfl (by assumption) ?_ | refine q_gfn rfl rfl (by assumption) rfl ?_ | refine q_gd rfl rfl (fun h => ?_) (fun h => ?_))
          | (show QT _ _ _ _ _ _ []; refine q_nil (x_then ?_))
          | (show AT _ _ _ _; first | refine x_then ?_ | refine x_then_ret ?_ | refine x_blk_ret ?_))
        rotate_right
        · refine x_next (i + 1) (by repeat' (first | exact Sub.nil | refine Sub.cons rfl ?_ | refine Sub.consi rfl (by omega) ?_)) (fun w' c' => ⟨⟨by omega, fun j hj => ?_⟩, c'.drop⟩) (by omega)
          by_cases hji : j = i
          · subst hji
            unfold MapP
            simp only [hmd]
            exact ⟨Decidable.not_not.1 (by assumption), by omega, by omega⟩
          · exact hn j (by omega)
        all_goals refine x_ret1 Tryd.results18 (res_tmp rfl) (fun w c => ⟨_, _, rfl, ⟨congrArg Value.bool ?_, rfl⟩, c.sub (List.nil_sublist _)⟩)
        all_goals
          have hq := hno (fun hh => by first | exact absurd hh.1 (by assumption) | (have := hh.2.1; omega) | (have := hh.2.2; omega))
          simp [hq]
      · repeat' (first
          | (show AT _ _ _ (wpList _ _ _ (_ :: _)); first
             | (show AT _ _ _ (wpList _ _ _ (⟨_, Op.assign _, _, _, _, _⟩ :: _)); refine st_y (y_assign rfl) rfl ?_)
             | (show AT _ _ _ (wpList _ _ _ (⟨_, Op.binOp _ _ _ _ _, _, _, _, _⟩ :: _)); refine st_y (y_lss rfl rfl) rfl ?_))
          | (show AT _ _ _ (wpList _ _ _ []); refine c_nil (x_then ?_))
          | (show AT _ _ _ (Code.wp _ _ _); first | refine c_seq ?_ | refine c_region ?_ | refine c_ret ?_ | refine c_exit ?_ | refine c_iff rfl (by first | assumption | exact not_not_intro (by assumption) | omega) ?_)
          | (show AT _ _ _ _; first | refine x_then ?_ | refine x_then_exit ?_ | refine x_blk_exit rfl ?_))
        refine x_ret1 Tryd.results18 (res_tmp rfl) (fun w c => ⟨_, _, rfl, ⟨congrArg Value.bool ?_, rfl⟩, c.sub (List.nil_sublist _)⟩)
        have : RepP ⟨p, (V, F, T), d, ms⟩ := ⟨hP, ⟨⟨hV, hF6, hTF, hFi, hTi⟩, hdV, hdi, hds⟩, hL, fun j hj => hn j (by simp only at hj; omega)⟩
        simp [this]
  all_goals refine x_ret1 Tryd.results18 (res_tmp rfl) (fun w c => ⟨_, _, rfl, ⟨congrArg Value.bool ?_, rfl⟩, c.sub (List.nil_sublist _)⟩)
  all_goals first | (simp_all [RepP]; done) | (have hq : ¬ RepP ⟨p, (V, F, T), d, ms⟩ := fun hr => (by have := hr.2.2.1; simp only at this; omega); simp [hq])

end Go.Proofs.YtljgmmmgnfgbhaaDoor
