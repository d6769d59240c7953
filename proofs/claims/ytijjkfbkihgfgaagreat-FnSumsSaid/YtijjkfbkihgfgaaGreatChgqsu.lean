import Derived.Test.YtijjkfbkihgfgaaGreatRksqsu
namespace Go.Proofs.YtijjkfbkihgfgaaGreat
open Go.Lg Go.Proofs Go.RowKit
attribute [local irreducible] Code.wp wpList bodyPost Exit.then Exit.inBlock Hp Again Calls Y AT ResV QT Qn QI wpAny wpAnyQ
set_option maxRecDepth 20000
set_option maxHeartbeats 4000000

def ElemC (r : Rp) (g : List Mat) (i : Nat) : Prop := InvP r.p (g.getD i mat0) ∧ (g.getD i mat0).1 = r.d.getD i 0
instance (r : Rp) (g : List Mat) (i : Nat) : Decidable (ElemC r g i) := by unfold ElemC; infer_instance
def ChgP (r : Rp) (g : List Mat) : Prop := RepP r ∧ g.length = r.d.length ∧ ∀ i, i < g.length → ElemC r g i
instance (r : Rp) (g : List Mat) : Decidable (ChgP r g) := by unfold ChgP; infer_instance
theorem spec_AreChanges_ok {w : World} {r : Rp} {e : Nat} {u0 u1 u2 u3 : Value} (h0 : Rd w (iT r.q.2.1) u0) (h1 : Rd w (iT r.q.2.2) u1) (h2 : Rd w (iT r.d) u2) (h3 : Rd w (matsT e r.m) u3) {ms : List Mat} {e2 : Nat} {um : Value} (hm : Rd w (matsT e2 ms) um) :
    Does Tryz.prog 184 [.agg #[iV r.p, iV r.q.1, u0, u1, u2, u3], um] w (fun v H => v = .bool (decide (ChgP r ms)) ∧ H = []) := by
  obtain ⟨am, cm, rfl, hsm, hcm1, hcm2, hget⟩ := rd_mats hm
  obtain ⟨al, cl, rfl, hsl, hcl1, hcl2, hgd⟩ := h2.ints
  unfold maxLen at hcm2 hcl2
  by_cases hR : RepP r
  · by_cases hL : ms.length = r.d.length
    · have hL' : ((ms.length : Nat) : Int) = (r.d.length : Nat) := by omega
      refine fn_enter Tryz.func184 rfl Tryz.ntmps184 rfl ?_
      repeat' (first | (show oL; first | refine sMv rfl rfl ?_ | refine sAs rfl rfl ?_ | refine sFd tabs rfl rfl rfl rfl ?_ | (show oA (.load _ _); first | refine sLd 0 tabs rfl rfl rfl rfl rfl ?_ | refine sLb 0 tabs rfl rfl rfl rfl rfl ?_) | (show oA (.binOp _ _ _ _ _); refine st_y (y_neq rfl rfl) rfl ?_) | (show oA (.unOp _ _ _); refine st_y (y_notd rfl) rfl ?_) | (show oA (.call _); first | (refine m_call (ent_of Tryz.func148 kr rfl) rfl rfl (fun w c => spec_IsRep_ok (r := r) (c.rd h0) (c.rd h1) (c.rd h2) (c.rd h3)) ?_; rintro v H' ⟨rfl, rfl⟩) | refine sLn tabs rfl rfl rfl ?_) | (show oA (.pick _ _ _); first | refine st_y (y_pickt rfl aO rfl) rfl ?_ | refine st_y (y_pickf rfl aO rfl) rfl ?_) | (show oA (.box _ _); refine m_box rfl rfl (fun b hb => ?_)) | refine st_gfy rfl rfl aO ?_ | refine st_gfn rfl rfl aO rfl ?_ | refine st_gd rfl rfl (fun h => ?_) (fun h => ?_)) | refine xNt ?_ | (show oC; first | refine c_seq ?_ | refine c_region ?_ | refine c_skip (x_then ?_) | refine c_block ?_ | refine c_ret ?_ | refine c_true rfl ?_ | refine c_iff rfl nN ?_) | (show AT _ _ _ _; refine x_then_ret ?_))
      all_goals try exact absurd hR aS
      refine c_loopH (α := Nat) [1, 2] (fun i => [(5, .int .i64 i)]) (fun i => i ≤ ms.length ∧ ∀ j, j < i → ElemC r ms j) (fun i => [.blk b #[iV r.p, iV r.q.1, u0, u1, .slice al r.d.length cl, u3] 60]) (fun i => ms.length - i) 0 rfl sB ?_ ?_ ?_
      · exact ⟨Nat.zero_le _, fun j hj => by omega⟩
      · exact fun w' c' => c'
      · rintro i ⟨hi, hn⟩
        by_cases hin : i < ms.length
        · obtain ⟨m, hmi⟩ : ∃ m, ms[i]? = some m := ⟨_, List.getElem?_eq_getElem hin⟩
          obtain ⟨a2, c2, g1, g2, g3, g4⟩ := hget i m hmi
          have hmd : ms.getD i mat0 = m := by simp [List.getD, hmi]
          have hid : i < r.d.length := by omega
          have n1 := hgd i hid
          by_cases hE : InvP r.p m ∧ m.1 = r.d.getD i 0
          · obtain ⟨hE1, hE2⟩ := hE
            repeat' (first | (show oL; first | refine sMv rfl rfl ?_ | refine sAs rfl rfl ?_ | (show oA (.binOp _ _ _ _ _); first | refine sAd rfl rfl om rfl ?_ | refine sLs rfl rfl rfl ?_) | refine sLn tabs rfl rfl rfl ?_) | refine xNt ?_ | (show oC; first | refine c_seq ?_ | refine c_region ?_ | refine c_skip (x_then ?_) | refine c_skip (x_blk ?_) | refine c_block ?_ | refine c_ret ?_ | refine c_draw kr kr (fun _ c => Hp.drew c) ?_ | refine c_true rfl ?_ | refine c_ift rfl aO ?_ | refine c_iff rfl nN ?_) | (show QT _ _ _ _ _ _ (_ :: _); first | refine qMv rfl rfl ?_ | refine qFd tabs rfl rfl rfl rfl ?_ | (show qA (.load _ _); first | refine q_y (y_load3 tabs rfl rfl (hc_w0 g1) (hc_w0 g2) (hc_w0 g3)) rfl ?_ | refine q_y (y_load tabs rfl rfl (hc_w0 g1)) rfl ?_ | refine q_y (y_load tabs rfl rfl (hc_w0 n1)) rfl ?_ | refine qLd 0 tabs rfl rfl rfl rfl rfl ?_) | (show qA (.indexAddr _ _ _); first | refine q_y (y_ixa tabs rfl rfl rfl hsm om om) rfl ?_ | refine q_y (y_ix1 tabs (j := i) rfl rfl rfl hsl rfl hid) rfl ?_) | (show qA (.binOp _ _ _ _ _); refine q_y (y_neq rfl rfl) rfl ?_) | (show qA (.unOp _ _ _); refine q_y (y_notd rfl) rfl ?_) | (show qA (.call _); refine q_call (ent_of Tryz.func244 kr rfl) rfl rfl (fun w c => spec_IsInvertible_ok (m := m) (c.rd g4)) (fun u H' h => h.1) ?_) | (show qA (.pick _ _ _); first | refine q_y (y_pickt rfl aO rfl) rfl ?_ | refine q_y (y_pickf rfl aO rfl) rfl ?_) | refine q_gfy rfl rfl aO ?_ | refine q_gfn rfl rfl aO rfl ?_ | refine q_gd rfl rfl (fun h => ?_) (fun h => ?_)) | (show QT _ _ _ _ _ _ []; refine q_nil (x_then ?_)) | (show AT _ _ _ _; first | refine x_then ?_ | refine x_then_ret ?_ | refine x_blk_ret ?_))
            all_goals first | exact absurd hE1 aS | exact absurd hE2 aS | skip
            all_goals refine x_nx (i + 1) sB ⟨by omega, fun j hj => ?_⟩ (fun w' c' => c') om
            by_cases hji : j = i
            · subst hji
              unfold ElemC
              rw [hmd]
              exact ⟨hE1, hE2⟩
            · exact hn j om
          · have hno : ¬ ChgP r ms := fun hA => by
              have he := hA.2.2 i hin
              unfold ElemC at he
              rw [hmd] at he
              exact hE he
            rw [decide_eq_false hno]
            have hcs : (¬ InvP r.p m) ∨ (InvP r.p m ∧ ¬ m.1 = r.d.getD i 0) := by grind
            by_cases hE2 : m.1 = r.d.getD i 0
            all_goals rcases hcs with hE1 | ⟨hE1, hE3⟩
            all_goals try exact absurd hE2 hE3
            all_goals
              repeat' (first | (show oL; first | refine sMv rfl rfl ?_ | refine sAs rfl rfl ?_ | refine sLs rfl rfl rfl ?_ | refine sLn tabs rfl rfl rfl ?_) | refine xNt ?_ | (show oC; first | refine c_seq ?_ | refine c_region ?_ | refine c_skip (x_then ?_) | refine c_block ?_ | refine c_ret ?_ | refine c_draw kr kr (fun _ c => Hp.drew c) ?_ | refine c_true rfl ?_ | refine c_ift rfl aO ?_) | (show QT _ _ _ _ _ _ (_ :: _); first | refine qMv rfl rfl ?_ | refine qFd tabs rfl rfl rfl rfl ?_ | (show qA (.load _ _); first | refine q_y (y_load3 tabs rfl rfl (hc_w0 g1) (hc_w0 g2) (hc_w0 g3)) rfl ?_ | refine q_y (y_load tabs rfl rfl (hc_w0 g1)) rfl ?_ | refine q_y (y_load tabs rfl rfl (hc_w0 n1)) rfl ?_ | refine qLd 0 tabs rfl rfl rfl rfl rfl ?_) | (show qA (.indexAddr _ _ _); first | refine q_y (y_ixa tabs rfl rfl rfl hsm om om) rfl ?_ | refine q_y (y_ix1 tabs (j := i) rfl rfl rfl hsl rfl hid) rfl ?_) | (show qA (.binOp _ _ _ _ _); refine q_y (y_neq rfl rfl) rfl ?_) | (show qA (.unOp _ _ _); refine q_y (y_notd rfl) rfl ?_) | (show qA (.call _); refine q_call (ent_of Tryz.func244 kr rfl) rfl rfl (fun w c => spec_IsInvertible_ok (m := m) (c.rd g4)) (fun u H' h => h.1) ?_) | (show qA (.pick _ _ _); first | refine q_y (y_pickt rfl aO rfl) rfl ?_ | refine q_y (y_pickf rfl aO rfl) rfl ?_) | refine q_gfy rfl rfl aO ?_ | refine q_gfn rfl rfl aO rfl ?_ | refine q_gd rfl rfl (fun h => ?_) (fun h => ?_)) | (show QT _ _ _ _ _ _ []; refine q_nil (x_then ?_)) | (show AT _ _ _ _; first | refine x_then_ret ?_ | refine x_blk_ret ?_))
            all_goals exact x_ret1 Tryz.results184 (res_tmp rfl) (fun w' c' => ⟨_, _, rfl, ⟨rfl, rfl⟩, c'.sub (List.nil_sublist _)⟩)
        · have : i = ms.length := by omega
          subst this
          have hyes : ChgP r ms := ⟨hR, hL, hn⟩
          rw [decide_eq_true hyes]
          repeat' (first | (show oL; first | refine sMv rfl rfl ?_ | refine sAs rfl rfl ?_ | refine sLs rfl rfl rfl ?_ | refine sLn tabs rfl rfl rfl ?_) | refine xNt ?_ | (show oC; first | refine c_seq ?_ | refine c_region ?_ | refine c_ret ?_ | refine c_exit ?_ | refine c_iff rfl nN ?_) | (show AT _ _ _ _; first | refine x_then ?_ | refine x_then_exit ?_ | refine x_blk_exit rfl ?_))
          exact x_ret1 Tryz.results184 (res_tmp rfl) (fun w' c' => ⟨_, _, rfl, ⟨rfl, rfl⟩, c'.sub (List.nil_sublist _)⟩)
    · have hno : ¬ ChgP r ms := fun hA => hL hA.2.1
      have hL' : ¬ ((ms.length : Nat) : Int) = (r.d.length : Nat) := by omega
      rw [decide_eq_false hno]
      refine fn_enter Tryz.func184 rfl Tryz.ntmps184 rfl ?_
      repeat' (first | (show oL; first | refine sMv rfl rfl ?_ | refine sAs rfl rfl ?_ | refine sFd tabs rfl rfl rfl rfl ?_ | (show oA (.load _ _); first | refine sLd 0 tabs rfl rfl rfl rfl rfl ?_ | refine sLb 0 tabs rfl rfl rfl rfl rfl ?_) | (show oA (.binOp _ _ _ _ _); refine st_y (y_neq rfl rfl) rfl ?_) | (show oA (.unOp _ _ _); refine st_y (y_notd rfl) rfl ?_) | (show oA (.call _); first | (refine m_call (ent_of Tryz.func148 kr rfl) rfl rfl (fun w c => spec_IsRep_ok (r := r) (c.rd h0) (c.rd h1) (c.rd h2) (c.rd h3)) ?_; rintro v H' ⟨rfl, rfl⟩) | refine sLn tabs rfl rfl rfl ?_) | (show oA (.pick _ _ _); first | refine st_y (y_pickt rfl aO rfl) rfl ?_ | refine st_y (y_pickf rfl aO rfl) rfl ?_) | (show oA (.box _ _); refine m_box rfl rfl (fun b hb => ?_)) | refine st_gfy rfl rfl aO ?_ | refine st_gfn rfl rfl aO rfl ?_ | refine st_gd rfl rfl (fun h => ?_) (fun h => ?_)) | refine xNt ?_ | (show oC; first | refine c_seq ?_ | refine c_region ?_ | refine c_ret ?_ | refine c_true rfl ?_ | refine c_ift rfl aO ?_) | (show AT _ _ _ _; refine x_then_ret ?_))
      all_goals first | exact absurd hR aS | exact x_ret1 Tryz.results184 (res_tmp rfl) (fun w' c' => ⟨_, _, rfl, ⟨rfl, rfl⟩, c'.sub (List.nil_sublist _)⟩)
  · have hno : ¬ ChgP r ms := fun hA => hR hA.1
    rw [decide_eq_false hno]
    refine fn_enter Tryz.func184 rfl Tryz.ntmps184 rfl ?_
    repeat' (first | (show oL; first | refine sMv rfl rfl ?_ | refine sAs rfl rfl ?_ | refine sLb 0 tabs rfl rfl rfl rfl rfl ?_ | (show oA (.unOp _ _ _); refine st_y (y_notd rfl) rfl ?_) | (show oA (.call _); (refine m_call (ent_of Tryz.func148 kr rfl) rfl rfl (fun w c => spec_IsRep_ok (r := r) (c.rd h0) (c.rd h1) (c.rd h2) (c.rd h3)) ?_; rintro v H' ⟨rfl, rfl⟩)) | (show oA (.pick _ _ _); refine st_y (y_pickt rfl aO rfl) rfl ?_) | (show oA (.box _ _); refine m_box rfl rfl (fun b hb => ?_)) | refine st_gfn rfl rfl aO rfl ?_) | refine xNt ?_ | (show oC; first | refine c_seq ?_ | refine c_region ?_ | refine c_ret ?_ | refine c_true rfl ?_) | (show AT _ _ _ _; refine x_then_ret ?_))
    all_goals exact x_ret1 Tryz.results184 (res_tmp rfl) (fun w' c' => ⟨_, _, rfl, ⟨rfl, rfl⟩, c'.sub (List.nil_sublist _)⟩)

theorem impl_AreChanges_ok {w : World} {r : Rp} {e : Nat} {u0 u1 u2 u3 : Value} (h0 : Rd w (iT r.q.2.1) u0) (h1 : Rd w (iT r.q.2.2) u1) (h2 : Rd w (iT r.d) u2) (h3 : Rd w (matsT e r.m) u3) {ms : List Mat} {e2 : Nat} {um : Value} (hm : Rd w (matsT e2 ms) um) :
    Does Tryz.prog 72 [.agg #[iV r.p, iV r.q.1, u0, u1, u2, u3], um] w (fun v H => v = .bool (decide (ChgP r ms)) ∧ H = []) := by
  obtain ⟨am, cm, rfl, hsm, hcm1, hcm2, hget⟩ := rd_mats hm
  obtain ⟨al, cl, rfl, hsl, hcl1, hcl2, hgd⟩ := h2.ints
  unfold maxLen at hcm2 hcl2
  by_cases hR : RepP r
  · by_cases hL : ms.length = r.d.length
    · have hL' : ((ms.length : Nat) : Int) = (r.d.length : Nat) := by omega
      refine fn_enter Tryz.func72 rfl Tryz.ntmps72 rfl ?_
      repeat' (first | (show oL; first | refine sMv rfl rfl ?_ | refine sAs rfl rfl ?_ | refine sFd tabs rfl rfl rfl rfl ?_ | (show oA (.load _ _); first | refine sLd 0 tabs rfl rfl rfl rfl rfl ?_ | refine sLb 0 tabs rfl rfl rfl rfl rfl ?_) | (show oA (.binOp _ _ _ _ _); refine st_y (y_neq rfl rfl) rfl ?_) | (show oA (.unOp _ _ _); refine st_y (y_notd rfl) rfl ?_) | (show oA (.call _); first | (refine m_call (ent_of Tryz.func166 kr rfl) rfl rfl (fun w c => impl_IsRep_ok (r := r) (c.rd h0) (c.rd h1) (c.rd h2) (c.rd h3)) ?_; rintro v H' ⟨rfl, rfl⟩) | refine sLn tabs rfl rfl rfl ?_) | (show oA (.pick _ _ _); first | refine st_y (y_pickt rfl aO rfl) rfl ?_ | refine st_y (y_pickf rfl aO rfl) rfl ?_) | (show oA (.box _ _); refine m_box rfl rfl (fun b hb => ?_)) | refine st_gfy rfl rfl aO ?_ | refine st_gfn rfl rfl aO rfl ?_ | refine st_gd rfl rfl (fun h => ?_) (fun h => ?_)) | refine xNt ?_ | (show oC; first | refine c_seq ?_ | refine c_region ?_ | refine c_skip (x_then ?_) | refine c_block ?_ | refine c_ret ?_ | refine c_true rfl ?_ | refine c_iff rfl nN ?_) | (show AT _ _ _ _; refine x_then_ret ?_))
      all_goals try exact absurd hR aS
      refine c_loopH (α := Nat) [2, 18, 19] (fun i => [(20, .int .i64 i)]) (fun i => i ≤ ms.length ∧ ∀ j, j < i → ElemC r ms j) (fun i => [.blk b #[iV r.p, iV r.q.1, u0, u1, .slice al r.d.length cl, u3] 60]) (fun i => ms.length - i) 0 rfl sB ?_ ?_ ?_
      · exact ⟨Nat.zero_le _, fun j hj => by omega⟩
      · exact fun w' c' => c'
      · rintro i ⟨hi, hn⟩
        by_cases hin : i < ms.length
        · obtain ⟨m, hmi⟩ : ∃ m, ms[i]? = some m := ⟨_, List.getElem?_eq_getElem hin⟩
          obtain ⟨a2, c2, g1, g2, g3, g4⟩ := hget i m hmi
          have hmd : ms.getD i mat0 = m := by simp [List.getD, hmi]
          have hid : i < r.d.length := by omega
          have n1 := hgd i hid
          by_cases hE : InvP r.p m ∧ m.1 = r.d.getD i 0
          · obtain ⟨hE1, hE2⟩ := hE
            repeat' (first | (show oL; first | refine sMv rfl rfl ?_ | refine sAs rfl rfl ?_ | (show oA (.load _ _); refine st_y (y_load3 tabs rfl rfl (hc_w0 g1) (hc_w0 g2) (hc_w0 g3)) rfl ?_) | (show oA (.indexAddr _ _ _); refine st_y (y_ixa tabs rfl rfl rfl hsm om om) rfl ?_) | (show oA (.binOp _ _ _ _ _); first | refine sAd rfl rfl om rfl ?_ | refine sLs rfl rfl rfl ?_) | (show oA (.store _ _ _); refine m_storeb 0 tabs rfl rfl rfl rfl rfl rfl rfl ?_) | (show oA (.alloc _); refine m_alloc tabs rfl rfl (fun b5 hb5 => ?_))) | refine xNt ?_ | (show oC; first | refine c_seq ?_ | refine c_region ?_ | refine c_skip (x_then ?_) | refine c_skip (x_blk ?_) | refine c_block ?_ | refine c_draw kr kr (fun _ c => Hp.drew c) ?_ | refine c_ift rfl aO ?_ | refine c_iff rfl nN ?_) | (show QT _ _ _ _ _ _ (_ :: _); first | refine qMv rfl rfl ?_ | refine qFd tabs rfl rfl rfl rfl ?_ | (show qA (.load _ _); first | refine q_y (y_load tabs rfl rfl (hc_w0 n1)) rfl ?_ | refine qLb 0 tabs rfl rfl rfl rfl rfl ?_ | refine qLd 0 tabs rfl rfl rfl rfl rfl ?_ | refine qLd 1 tabs rfl rfl rfl rfl rfl ?_) | (show qA (.indexAddr _ _ _); refine q_y (y_ix1 tabs (j := i) rfl rfl rfl hsl rfl hid) rfl ?_) | (show qA (.binOp _ _ _ _ _); refine q_y (y_neq rfl rfl) rfl ?_) | (show qA (.unOp _ _ _); refine q_y (y_notd rfl) rfl ?_) | (show qA (.call _); refine q_call (ent_of Tryz.func186 kr rfl) rfl rfl (fun w c => impl_IsInvertible_ok (m := m) (c.rd g4)) (fun u H' h => h.1) ?_) | (show qA (.pick _ _ _); refine q_y (y_pickf rfl aO rfl) rfl ?_) | refine q_gfy rfl rfl aO ?_) | (show QT _ _ _ _ _ _ []; refine q_nil (x_then ?_)) | (show AT _ _ _ _; refine x_then ?_))
            all_goals first | exact absurd hE1 aS | exact absurd hE2 aS | skip
            all_goals refine x_nx (i + 1) sB ⟨by omega, fun j hj => ?_⟩ (fun w' c' => c'.drop) om
            by_cases hji : j = i
            · subst hji
              unfold ElemC
              rw [hmd]
              exact ⟨hE1, hE2⟩
            · exact hn j om
          · have hno : ¬ ChgP r ms := fun hA => by
              have he := hA.2.2 i hin
              unfold ElemC at he
              rw [hmd] at he
              exact hE he
            rw [decide_eq_false hno]
            have hcs : (¬ InvP r.p m) ∨ (InvP r.p m ∧ ¬ m.1 = r.d.getD i 0) := by grind
            by_cases hE2 : m.1 = r.d.getD i 0
            all_goals rcases hcs with hE1 | ⟨hE1, hE3⟩
            all_goals try exact absurd hE2 hE3
            all_goals
              repeat' (first | (show oL; first | refine sMv rfl rfl ?_ | refine sAs rfl rfl ?_ | (show oA (.load _ _); refine st_y (y_load3 tabs rfl rfl (hc_w0 g1) (hc_w0 g2) (hc_w0 g3)) rfl ?_) | (show oA (.indexAddr _ _ _); refine st_y (y_ixa tabs rfl rfl rfl hsm om om) rfl ?_) | refine sLs rfl rfl rfl ?_ | (show oA (.store _ _ _); refine m_storeb 0 tabs rfl rfl rfl rfl rfl rfl rfl ?_) | (show oA (.alloc _); refine m_alloc tabs rfl rfl (fun b5 hb5 => ?_))) | refine xNt ?_ | (show oC; first | refine c_seq ?_ | refine c_region ?_ | refine c_skip (x_then ?_) | refine c_block ?_ | refine c_ret ?_ | refine c_draw kr kr (fun _ c => Hp.drew c) ?_ | refine c_true rfl ?_ | refine c_ift rfl aO ?_) | (show QT _ _ _ _ _ _ (_ :: _); first | refine qMv rfl rfl ?_ | refine qFd tabs rfl rfl rfl rfl ?_ | (show qA (.load _ _); first | refine q_y (y_load tabs rfl rfl (hc_w0 n1)) rfl ?_ | refine qLb 0 tabs rfl rfl rfl rfl rfl ?_ | refine qLd 0 tabs rfl rfl rfl rfl rfl ?_ | refine qLd 1 tabs rfl rfl rfl rfl rfl ?_) | (show qA (.indexAddr _ _ _); refine q_y (y_ix1 tabs (j := i) rfl rfl rfl hsl rfl hid) rfl ?_) | (show qA (.binOp _ _ _ _ _); refine q_y (y_neq rfl rfl) rfl ?_) | (show qA (.unOp _ _ _); refine q_y (y_notd rfl) rfl ?_) | (show qA (.call _); refine q_call (ent_of Tryz.func186 kr rfl) rfl rfl (fun w c => impl_IsInvertible_ok (m := m) (c.rd g4)) (fun u H' h => h.1) ?_) | (show qA (.pick _ _ _); first | refine q_y (y_pickt rfl aO rfl) rfl ?_ | refine q_y (y_pickf rfl aO rfl) rfl ?_) | refine q_gfy rfl rfl aO ?_ | refine q_gfn rfl rfl aO rfl ?_) | (show QT _ _ _ _ _ _ []; refine q_nil (x_then ?_)) | (show AT _ _ _ _; first | refine x_then_ret ?_ | refine x_blk_ret ?_))
            all_goals exact x_ret1 Tryz.results72 (res_tmp rfl) (fun w' c' => ⟨_, _, rfl, ⟨rfl, rfl⟩, c'.sub (List.nil_sublist _)⟩)
        · have : i = ms.length := by omega
          subst this
          have hyes : ChgP r ms := ⟨hR, hL, hn⟩
          rw [decide_eq_true hyes]
          repeat' (first | (show oL; first | refine sAs rfl rfl ?_ | refine sLs rfl rfl rfl ?_) | refine xNt ?_ | (show oC; first | refine c_seq ?_ | refine c_region ?_ | refine c_ret ?_ | refine c_exit ?_ | refine c_iff rfl nN ?_) | (show AT _ _ _ _; first | refine x_then ?_ | refine x_then_exit ?_ | refine x_blk_exit rfl ?_))
          exact x_ret1 Tryz.results72 (res_tmp rfl) (fun w' c' => ⟨_, _, rfl, ⟨rfl, rfl⟩, c'.sub (List.nil_sublist _)⟩)
    · have hno : ¬ ChgP r ms := fun hA => hL hA.2.1
      have hL' : ¬ ((ms.length : Nat) : Int) = (r.d.length : Nat) := by omega
      rw [decide_eq_false hno]
      refine fn_enter Tryz.func72 rfl Tryz.ntmps72 rfl ?_
      repeat' (first | (show oL; first | refine sMv rfl rfl ?_ | refine sAs rfl rfl ?_ | refine sFd tabs rfl rfl rfl rfl ?_ | (show oA (.load _ _); first | refine sLd 0 tabs rfl rfl rfl rfl rfl ?_ | refine sLb 0 tabs rfl rfl rfl rfl rfl ?_) | (show oA (.binOp _ _ _ _ _); refine st_y (y_neq rfl rfl) rfl ?_) | (show oA (.unOp _ _ _); refine st_y (y_notd rfl) rfl ?_) | (show oA (.call _); first | (refine m_call (ent_of Tryz.func166 kr rfl) rfl rfl (fun w c => impl_IsRep_ok (r := r) (c.rd h0) (c.rd h1) (c.rd h2) (c.rd h3)) ?_; rintro v H' ⟨rfl, rfl⟩) | refine sLn tabs rfl rfl rfl ?_) | (show oA (.pick _ _ _); first | refine st_y (y_pickt rfl aO rfl) rfl ?_ | refine st_y (y_pickf rfl aO rfl) rfl ?_) | (show oA (.box _ _); refine m_box rfl rfl (fun b hb => ?_)) | refine st_gfy rfl rfl aO ?_ | refine st_gfn rfl rfl aO rfl ?_ | refine st_gd rfl rfl (fun h => ?_) (fun h => ?_)) | refine xNt ?_ | (show oC; first | refine c_seq ?_ | refine c_region ?_ | refine c_ret ?_ | refine c_true rfl ?_ | refine c_ift rfl aO ?_) | (show AT _ _ _ _; refine x_then_ret ?_))
      all_goals first | exact absurd hR aS | exact x_ret1 Tryz.results72 (res_tmp rfl) (fun w' c' => ⟨_, _, rfl, ⟨rfl, rfl⟩, c'.sub (List.nil_sublist _)⟩)
  · have hno : ¬ ChgP r ms := fun hA => hR hA.1
    rw [decide_eq_false hno]
    refine fn_enter Tryz.func72 rfl Tryz.ntmps72 rfl ?_
    repeat' (first | (show oL; first | refine sMv rfl rfl ?_ | refine sAs rfl rfl ?_ | refine sLb 0 tabs rfl rfl rfl rfl rfl ?_ | (show oA (.unOp _ _ _); refine st_y (y_notd rfl) rfl ?_) | (show oA (.call _); (refine m_call (ent_of Tryz.func166 kr rfl) rfl rfl (fun w c => impl_IsRep_ok (r := r) (c.rd h0) (c.rd h1) (c.rd h2) (c.rd h3)) ?_; rintro v H' ⟨rfl, rfl⟩)) | (show oA (.pick _ _ _); refine st_y (y_pickt rfl aO rfl) rfl ?_) | (show oA (.box _ _); refine m_box rfl rfl (fun b hb => ?_)) | refine st_gfn rfl rfl aO rfl ?_) | refine xNt ?_ | (show oC; first | refine c_seq ?_ | refine c_region ?_ | refine c_ret ?_ | refine c_true rfl ?_) | (show AT _ _ _ _; refine x_then_ret ?_))
    all_goals exact x_ret1 Tryz.results72 (res_tmp rfl) (fun w' c' => ⟨_, _, rfl, ⟨rfl, rfl⟩, c'.sub (List.nil_sublist _)⟩)

end Go.Proofs.YtijjkfbkihgfgaaGreat
