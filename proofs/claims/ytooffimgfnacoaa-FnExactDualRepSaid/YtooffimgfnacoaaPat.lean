import Derived.Test.YtooffimgfnacoaaPth
import Derived.Test.YtooffimgfnacoaaMul
import Derived.Test.YtooffimgfnacoaaInv
import Derived.Test.YtooffimgfnacoaaRep
import Derived.Test.YtooffimgfnacoaaMor
namespace Go.Proofs.Ytooffimgfnacoaa
open Go.Lg Go.Proofs Go.RowKit
attribute [local irreducible] Code.wp wpList bodyPost Exit.then Exit.inBlock Hp Again Calls Y AT ResV QT Qn QI wpAny wpAnyQ
set_option maxRecDepth 20000
set_option maxHeartbeats 4000000

/-! ### paths of a quiver -/
def atP (q : Qv) (x : Pa) : Nat → Int
  | 0 => x.1
  | k + 1 => q.2.2.getD (x.2.getD k 0).toNat 0
def StepP (q : Qv) (x : Pa) (k : Nat) : Prop := (0 ≤ x.2.getD k 0 ∧ x.2.getD k 0 ≤ (q.2.1.length : Int) - 1) ∧ q.2.1.getD (x.2.getD k 0).toNat 0 = atP q x k
instance (q : Qv) (x : Pa) (k : Nat) : Decidable (StepP q x k) := by unfold StepP; infer_instance
def PathP (q : Qv) (x : Pa) : Prop := QuivP q ∧ (0 ≤ x.1 ∧ x.1 ≤ q.1 - 1) ∧ x.2.length ≤ 20 ∧ ∀ k, k < x.2.length → StepP q x k
instance (q : Qv) (x : Pa) : Decidable (PathP q x) := by unfold PathP; infer_instance
theorem hasVertex_ok {w : World} {q : Qv} {u0 u1 : Value} {v : Int} (hq : -4611686018427387904 ≤ q.1 ∧ q.1 ≤ 4611686018427387904) : Does Try.prog 182 [.agg #[iV q.1, u0, u1], iV v] w (fun r H => r = .bool (decide (0 ≤ v ∧ v ≤ q.1 - 1)) ∧ H = []) := by
  refine fn_enter Try.func182 rfl Try.ntmps182 rfl ?_
  repeat' (first
    | (show AT _ _ _ (wpList _ _ _ (_ :: _)); first
       | (show AT _ _ _ (wpList _ _ _ (⟨_, Op.move _, _, _, _, _⟩ :: _)); refine st_y (y_move rfl) rfl ?_)
       | (show AT _ _ _ (wpList _ _ _ (⟨_, Op.assign _, _, _, _, _⟩ :: _)); refine st_y (y_assign rfl) rfl ?_)
       | (show AT _ _ _ (wpList _ _ _ (⟨_, Op.fieldAddr _ _ _, _, _, _, _⟩ :: _)); refine st_y (y_field tabs rfl rfl rfl) rfl ?_)
       | (show AT _ _ _ (wpList _ _ _ (⟨_, Op.load _ _, _, _, _, _⟩ :: _)); refine st_y (y_load tabs rfl rfl (hc_blk 0 rfl rfl)) rfl ?_)
       | (show AT _ _ _ (wpList _ _ _ (⟨_, Op.binOp _ _ _ _ _, _, _, _, _⟩ :: _)); refine st_y (y_sub rfl rfl (by omega)) rfl ?_)
       | (show AT _ _ _ (wpList _ _ _ (⟨_, Op.call _, _, _, _, _⟩ :: _)); (refine m_call (ent_of Try.func153 (by kernel_rfl) rfl) rfl rfl (fun w c => within_ok _ _ _) ?_; rintro v H' ⟨rfl, rfl⟩))
       | (show AT _ _ _ (wpList _ _ _ (⟨_, Op.box _ _, _, _, _, _⟩ :: _)); refine m_box rfl rfl (fun b hb => ?_)))
    | (show AT _ _ _ (wpList _ _ _ []); refine c_nil (x_then ?_))
    | (show AT _ _ _ (Code.wp _ _ _); first | refine c_seq ?_ | refine c_region ?_ | refine c_ret ?_))
  exact x_ret1 Try.results182 (res_tmp rfl) (fun w' c' => ⟨_, _, rfl, ⟨rfl, rfl⟩, c'.sub (List.nil_sublist _)⟩)
theorem impl_IsPath_ok {w : World} {q : Qv} {x : Pa} {u0 u1 ux : Value} (h0 : Rd w (iT q.2.1) u0) (h1 : Rd w (iT q.2.2) u1) (hx : Rd w (iT x.2) ux) :
    Does Try.prog 132 [.agg #[iV q.1, u0, u1], .agg #[iV x.1, ux]] w (fun r H => r = .bool (decide (PathP q x)) ∧ H = []) := by
  obtain ⟨V, F, T⟩ := q
  obtain ⟨s, l⟩ := x
  simp only at h0 h1 hx ⊢
  obtain ⟨aF, cF, rfl, hsF, hF1, hF2, hgF⟩ := h0.ints
  obtain ⟨aT, cT, rfl, hsT, hT1, hT2, hgT⟩ := h1.ints
  obtain ⟨ax, cx, rfl, hsx, hx1, hx2, hgx⟩ := hx.ints
  unfold maxLen at hF2 hx2
  by_cases hQ : QuivP (V, F, T)
  · have hV := hQ.1
    simp only at hV
    by_cases hS : (0 ≤ s ∧ s ≤ V - 1) ∧ l.length ≤ 20
    · obtain ⟨hS1, hS2⟩ := hS
      refine fn_enter Try.func132 rfl Try.ntmps132 rfl ?_
      repeat' (first
        | (show AT _ _ _ (wpList _ _ _ (_ :: _)); first
           | (show AT _ _ _ (wpList _ _ _ (⟨_, Op.move _, _, _, _, _⟩ :: _)); refine st_y (y_move rfl) rfl ?_)
           | (show AT _ _ _ (wpList _ _ _ (⟨_, Op.assign _, _, _, _, _⟩ :: _)); refine st_y (y_assign rfl) rfl ?_)
           | (show AT _ _ _ (wpList _ _ _ (⟨_, Op.fieldAddr _ _ _, _, _, _, _⟩ :: _)); refine st_y (y_field tabs rfl rfl rfl) rfl ?_)
           | (show AT _ _ _ (wpList _ _ _ (⟨_, Op.load _ _, _, _, _, _⟩ :: _)); first | refine st_y (y_loadb 1 tabs rfl rfl rfl rfl) rfl ?_ | refine st_y (y_load tabs rfl rfl (hc_blk 0 rfl rfl)) rfl ?_)
           | (show AT _ _ _ (wpList _ _ _ (⟨_, Op.binOp _ _ _ _ _, _, _, _, _⟩ :: _)); refine st_y (y_gtr rfl rfl) rfl ?_)
           | (show AT _ _ _ (wpList _ _ _ (⟨_, Op.unOp _ _ _, _, _, _, _⟩ :: _)); refine st_y (y_notd rfl) rfl ?_)
           | (show AT _ _ _ (wpList _ _ _ (⟨_, Op.call _, _, _, _, _⟩ :: _)); first | (refine m_call (ent_of Try.func180 (by kernel_rfl) rfl) rfl rfl (fun w c => impl_IsQuiver_ok (q := (V, F, T)) (c.rd h0) (c.rd h1)) ?_; rintro v H' ⟨rfl, rfl⟩) | (refine m_call (ent_of Try.func182 (by kernel_rfl) rfl) rfl rfl (fun w c => hasVertex_ok (q := (V, F, T)) (by have := hQ.1; simp only at this; omega)) ?_; rintro v H' ⟨rfl, rfl⟩) | refine st_y (y_len tabs rfl rfl) rfl ?_)
           | (show AT _ _ _ (wpList _ _ _ (⟨_, Op.pick _ _ _, _, _, _, _⟩ :: _)); first | refine st_y (y_pickt rfl (by first | assumption | omega) rfl) rfl ?_ | refine st_y (y_pickf rfl (by first | assumption | omega) rfl) rfl ?_ | refine st_y (y_pick rfl rfl rfl) rfl ?_)
           | (show AT _ _ _ (wpList _ _ _ (⟨_, Op.box _ _, _, _, _, _⟩ :: _)); refine m_box rfl rfl (fun b hb => ?_))
           | refine st_gn rfl rfl rfl ?_ | refine st_gfy rfl rfl (by first | assumption | omega) ?_ | refine st_gfn rfl rfl (by first | assumption | omega) rfl ?_ | refine st_gd rfl rfl (fun h => ?_) (fun h => ?_))
        | (show AT _ _ _ (wpList _ _ _ []); refine c_nil (x_then ?_))
        | (show AT _ _ _ (Code.wp _ _ _); first | refine c_seq ?_ | refine c_region ?_ | refine c_skip (x_then ?_) | refine c_block ?_ | refine c_ret ?_ | refine c_true rfl ?_ | refine c_iff rfl (by first | assumption | exact not_not_intro (by assumption) | omega) ?_)
        | (show AT _ _ _ _; refine x_then_ret ?_))
      all_goals first | exact absurd hQ (by assumption) | skip
      rename_i b0 hb0
      refine c_loopH (α := Nat) [2, 27, 28] (fun i => [(5, iV (atP (V, F, T) (s, l) i)), (29, .int .i64 i)]) (fun i => i ≤ l.length ∧ ∀ k, k < i → StepP (V, F, T) (s, l) k) (fun i => [.blk b #[iV s, .slice ax l.length cx] 83, .blk b0 #[iV V, .slice aF F.length cF, .slice aT T.length cT] 48]) (fun i => l.length - i) 0 rfl (by repeat' (first | exact Sub.nil | refine Sub.cons rfl ?_ | refine Sub.consi rfl (by omega) ?_)) ?_ ?_ ?_
      · exact ⟨Nat.zero_le _, fun k hk => by omega⟩
      · exact fun w' c' => c'
      · rintro i ⟨hi, hnn⟩
        by_cases hin : i < l.length
        · have gx := hgx i hin
          by_cases hr : 0 ≤ l.getD i 0 ∧ l.getD i 0 ≤ (F.length : Int) - 1
          · obtain ⟨n, hn⟩ : ∃ n : Nat, l.getD i 0 = n := ⟨(l.getD i 0).toNat, by omega⟩
            have hnF : n < F.length := by omega
            have hnT : n < T.length := by have := hQ.2.2.1; simp only at this; omega
            have hnx : atP (V, F, T) (s, l) (i + 1) = T.getD n 0 := by simp only [atP, hn, Int.toNat_natCast]
            have hst : StepP (V, F, T) (s, l) i ↔ F.getD n 0 = atP (V, F, T) (s, l) i := by
              simp only [StepP, hn, Int.toNat_natCast]
              exact ⟨fun h => h.2, fun h => ⟨by omega, h⟩⟩
            by_cases he : F.getD n 0 = atP (V, F, T) (s, l) i
            · repeat' (first
                | (show AT _ _ _ (wpList _ _ _ (_ :: _)); first
                   | (show AT _ _ _ (wpList _ _ _ (⟨_, Op.move _, _, _, _, _⟩ :: _)); refine st_y (y_move rfl) rfl ?_)
                   | (show AT _ _ _ (wpList _ _ _ (⟨_, Op.assign _, _, _, _, _⟩ :: _)); refine st_y (y_assign rfl) rfl ?_)
                   | (show AT _ _ _ (wpList _ _ _ (⟨_, Op.fieldAddr _ _ _, _, _, _, _⟩ :: _)); refine st_y (y_field tabs rfl rfl rfl) rfl ?_)
                   | (show AT _ _ _ (wpList _ _ _ (⟨_, Op.load _ _, _, _, _, _⟩ :: _)); first | refine st_y (y_load tabs rfl rfl (hc_w0 gx)) rfl ?_ | refine st_y (y_load tabs rfl rfl (hc_w0 (hgF n hnF))) rfl ?_ | refine st_y (y_load tabs rfl rfl (hc_w0 (hgT n hnT))) rfl ?_ | refine st_y (y_load tabs rfl rfl (hc_blk 1 rfl rfl)) rfl ?_)
                   | (show AT _ _ _ (wpList _ _ _ (⟨_, Op.indexAddr _ _ _, _, _, _, _⟩ :: _)); first | refine st_y (y_ix1 tabs (j := i) rfl rfl rfl hsx rfl hin) rfl ?_ | refine st_y (y_ix1 tabs (j := n) rfl rfl rfl hsF hn hnF) rfl ?_ | refine st_y (y_ix1 tabs (j := n) rfl rfl rfl hsT hn hnT) rfl ?_)
                   | (show AT _ _ _ (wpList _ _ _ (⟨_, Op.binOp _ _ _ _ _, _, _, _, _⟩ :: _)); first | refine st_y (y_add rfl rfl (by omega)) rfl ?_ | refine st_y (y_sub rfl rfl (by omega)) rfl ?_ | refine st_y (y_lss rfl rfl) rfl ?_ | refine st_y (y_neq rfl rfl) rfl ?_)
                   | (show AT _ _ _ (wpList _ _ _ (⟨_, Op.unOp _ _ _, _, _, _, _⟩ :: _)); refine st_y (y_notd rfl) rfl ?_)
                   | (show AT _ _ _ (wpList _ _ _ (⟨_, Op.call _, _, _, _, _⟩ :: _)); first | (refine m_call (ent_of Try.func153 (by kernel_rfl) rfl) rfl rfl (fun w c => within_ok _ _ _) ?_; rintro v H' ⟨rfl, rfl⟩) | refine st_y (y_len tabs rfl rfl) rfl ?_)
                   | (show AT _ _ _ (wpList _ _ _ (⟨_, Op.pick _ _ _, _, _, _, _⟩ :: _)); refine st_y (y_pickf rfl (by first | assumption | omega) rfl) rfl ?_)
                   | refine st_gfy rfl rfl (by first | assumption | omega) ?_)
                | (show AT _ _ _ (wpList _ _ _ []); first | refine c_nil (x_then ?_) | refine c_nil ?_)
                | (show AT _ _ _ (Code.wp _ _ _); first | refine c_seq ?_ | refine c_region ?_ | refine c_skip (x_then ?_) | refine c_block ?_ | refine c_ift rfl (by first | assumption | omega) ?_ | refine c_iff rfl (by first | assumption | exact not_not_intro (by assumption) | omega) ?_)
                | (show AT _ _ _ _; first | refine x_then ?_ | refine x_blk ?_))
              refine x_nx (i + 1) (by repeat' (first | exact Sub.nil | refine Sub.cons rfl ?_ | refine Sub.consi rfl (by omega) ?_)) ⟨by omega, fun k hk => ?_⟩ (fun w' c' => c') (by omega)
              by_cases hki : k = i
              · subst hki; exact hst.2 he
              · exact hnn k (by omega)
            · have hno : ¬ PathP (V, F, T) (s, l) := fun hP => he (hst.1 (hP.2.2.2 i hin))
              rw [decide_eq_false hno]
              repeat' (first
                | (show AT _ _ _ (wpList _ _ _ (_ :: _)); first
                   | (show AT _ _ _ (wpList _ _ _ (⟨_, Op.move _, _, _, _, _⟩ :: _)); refine st_y (y_move rfl) rfl ?_)
                   | (show AT _ _ _ (wpList _ _ _ (⟨_, Op.assign _, _, _, _, _⟩ :: _)); refine st_y (y_assign rfl) rfl ?_)
                   | (show AT _ _ _ (wpList _ _ _ (⟨_, Op.fieldAddr _ _ _, _, _, _, _⟩ :: _)); refine st_y (y_field tabs rfl rfl rfl) rfl ?_)
                   | (show AT _ _ _ (wpList _ _ _ (⟨_, Op.load _ _, _, _, _, _⟩ :: _)); first | refine st_y (y_load tabs rfl rfl (hc_w0 gx)) rfl ?_ | refine st_y (y_load tabs rfl rfl (hc_w0 (hgF n hnF))) rfl ?_ | refine st_y (y_load tabs rfl rfl (hc_blk 1 rfl rfl)) rfl ?_)
                   | (show AT _ _ _ (wpList _ _ _ (⟨_, Op.indexAddr _ _ _, _, _, _, _⟩ :: _)); first | refine st_y (y_ix1 tabs (j := i) rfl rfl rfl hsx rfl hin) rfl ?_ | refine st_y (y_ix1 tabs (j := n) rfl rfl rfl hsF hn hnF) rfl ?_)
                   | (show AT _ _ _ (wpList _ _ _ (⟨_, Op.binOp _ _ _ _ _, _, _, _, _⟩ :: _)); first | refine st_y (y_sub rfl rfl (by omega)) rfl ?_ | refine st_y (y_lss rfl rfl) rfl ?_ | refine st_y (y_neq rfl rfl) rfl ?_)
                   | (show AT _ _ _ (wpList _ _ _ (⟨_, Op.unOp _ _ _, _, _, _, _⟩ :: _)); refine st_y (y_notd rfl) rfl ?_)
                   | (show AT _ _ _ (wpList _ _ _ (⟨_, Op.call _, _, _, _, _⟩ :: _)); first | (refine m_call (ent_of Try.func153 (by kernel_rfl) rfl) rfl rfl (fun w c => within_ok _ _ _) ?_; rintro v H' ⟨rfl, rfl⟩) | refine st_y (y_len tabs rfl rfl) rfl ?_)
                   | (show AT _ _ _ (wpList _ _ _ (⟨_, Op.pick _ _ _, _, _, _, _⟩ :: _)); refine st_y (y_pickf rfl (by first | assumption | omega) rfl) rfl ?_)
                   | refine st_gfy rfl rfl (by first | assumption | omega) ?_)
                | (show AT _ _ _ (wpList _ _ _ []); refine c_nil (x_then ?_))
                | (show AT _ _ _ (Code.wp _ _ _); first | refine c_seq ?_ | refine c_region ?_ | refine c_skip (x_then ?_) | refine c_block ?_ | refine c_ret ?_ | refine c_ift rfl (by first | assumption | omega) ?_)
                | (show AT _ _ _ _; first | refine x_then_ret ?_ | refine x_blk_ret ?_))
              exact x_ret1 Try.results132 (res_tmp rfl) (fun w' c' => ⟨_, _, rfl, ⟨rfl, rfl⟩, c'.sub (List.nil_sublist _)⟩)
          · have hno : ¬ PathP (V, F, T) (s, l) := fun hP => hr (hP.2.2.2 i hin).1
            rw [decide_eq_false hno]
            repeat' (first
              | (show AT _ _ _ (wpList _ _ _ (_ :: _)); first
                 | (show AT _ _ _ (wpList _ _ _ (⟨_, Op.move _, _, _, _, _⟩ :: _)); refine st_y (y_move rfl) rfl ?_)
                 | (show AT _ _ _ (wpList _ _ _ (⟨_, Op.assign _, _, _, _, _⟩ :: _)); refine st_y (y_assign rfl) rfl ?_)
                 | (show AT _ _ _ (wpList _ _ _ (⟨_, Op.fieldAddr _ _ _, _, _, _, _⟩ :: _)); refine st_y (y_field tabs rfl rfl rfl) rfl ?_)
                 | (show AT _ _ _ (wpList _ _ _ (⟨_, Op.load _ _, _, _, _, _⟩ :: _)); first | refine st_y (y_load tabs rfl rfl (hc_w0 gx)) rfl ?_ | refine st_y (y_load tabs rfl rfl (hc_blk 1 rfl rfl)) rfl ?_)
                 | (show AT _ _ _ (wpList _ _ _ (⟨_, Op.indexAddr _ _ _, _, _, _, _⟩ :: _)); refine st_y (y_ix1 tabs (j := i) rfl rfl rfl hsx rfl hin) rfl ?_)
                 | (show AT _ _ _ (wpList _ _ _ (⟨_, Op.binOp _ _ _ _ _, _, _, _, _⟩ :: _)); first | refine st_y (y_sub rfl rfl (by omega)) rfl ?_ | refine st_y (y_lss rfl rfl) rfl ?_)
                 | (show AT _ _ _ (wpList _ _ _ (⟨_, Op.unOp _ _ _, _, _, _, _⟩ :: _)); refine st_y (y_notd rfl) rfl ?_)
                 | (show AT _ _ _ (wpList _ _ _ (⟨_, Op.call _, _, _, _, _⟩ :: _)); first | (refine m_call (ent_of Try.func153 (by kernel_rfl) rfl) rfl rfl (fun w c => within_ok _ _ _) ?_; rintro v H' ⟨rfl, rfl⟩) | refine st_y (y_len tabs rfl rfl) rfl ?_)
                 | (show AT _ _ _ (wpList _ _ _ (⟨_, Op.pick _ _ _, _, _, _, _⟩ :: _)); refine st_y (y_pickt rfl (by first | assumption | omega) rfl) rfl ?_)
                 | refine st_gfn rfl rfl (by first | assumption | omega) rfl ?_)
              | (show AT _ _ _ (wpList _ _ _ []); refine c_nil (x_then ?_))
              | (show AT _ _ _ (Code.wp _ _ _); first | refine c_seq ?_ | refine c_region ?_ | refine c_skip (x_then ?_) | refine c_block ?_ | refine c_ret ?_ | refine c_true rfl ?_ | refine c_ift rfl (by first | assumption | omega) ?_)
              | (show AT _ _ _ _; first | refine x_then_ret ?_ | refine x_blk_ret ?_))
            exact x_ret1 Try.results132 (res_tmp rfl) (fun w' c' => ⟨_, _, rfl, ⟨rfl, rfl⟩, c'.sub (List.nil_sublist _)⟩)
        · have : i = l.length := by omega
          subst this
          have hyes : PathP (V, F, T) (s, l) := ⟨hQ, hS1, hS2, hnn⟩
          rw [decide_eq_true hyes]
          repeat' (first
            | (show AT _ _ _ (wpList _ _ _ (_ :: _)); first
               | (show AT _ _ _ (wpList _ _ _ (⟨_, Op.assign _, _, _, _, _⟩ :: _)); refine st_y (y_assign rfl) rfl ?_)
               | (show AT _ _ _ (wpList _ _ _ (⟨_, Op.binOp _ _ _ _ _, _, _, _, _⟩ :: _)); refine st_y (y_lss rfl rfl) rfl ?_))
            | (show AT _ _ _ (wpList _ _ _ []); refine c_nil (x_then ?_))
            | (show AT _ _ _ (Code.wp _ _ _); first | refine c_seq ?_ | refine c_region ?_ | refine c_ret ?_ | refine c_exit ?_ | refine c_iff rfl (by first | assumption | exact not_not_intro (by assumption) | omega) ?_)
            | (show AT _ _ _ _; first | refine x_then ?_ | refine x_then_exit ?_ | refine x_blk_exit rfl ?_))
          exact x_ret1 Try.results132 (res_tmp rfl) (fun w' c' => ⟨_, _, rfl, ⟨rfl, rfl⟩, c'.sub (List.nil_sublist _)⟩)
    · have hno : ¬ PathP (V, F, T) (s, l) := fun hP => hS ⟨hP.2.1, hP.2.2.1⟩
      rw [decide_eq_false hno]
      have hcs : ¬ (0 ≤ s ∧ s ≤ V - 1) ∨ ((0 ≤ s ∧ s ≤ V - 1) ∧ ¬ l.length ≤ 20) := by grind
      refine fn_enter Try.func132 rfl Try.ntmps132 rfl ?_
      rcases hcs with hS1 | ⟨hS1, hS2⟩
      all_goals
        repeat' (first
          | (show AT _ _ _ (wpList _ _ _ (_ :: _)); first
             | (show AT _ _ _ (wpList _ _ _ (⟨_, Op.move _, _, _, _, _⟩ :: _)); refine st_y (y_move rfl) rfl ?_)
             | (show AT _ _ _ (wpList _ _ _ (⟨_, Op.assign _, _, _, _, _⟩ :: _)); refine st_y (y_assign rfl) rfl ?_)
             | (show AT _ _ _ (wpList _ _ _ (⟨_, Op.fieldAddr _ _ _, _, _, _, _⟩ :: _)); refine st_y (y_field tabs rfl rfl rfl) rfl ?_)
             | (show AT _ _ _ (wpList _ _ _ (⟨_, Op.load _ _, _, _, _, _⟩ :: _)); first | refine st_y (y_loadb 1 tabs rfl rfl rfl rfl) rfl ?_ | refine st_y (y_load tabs rfl rfl (hc_blk 0 rfl rfl)) rfl ?_)
             | (show AT _ _ _ (wpList _ _ _ (⟨_, Op.binOp _ _ _ _ _, _, _, _, _⟩ :: _)); refine st_y (y_gtr rfl rfl) rfl ?_)
             | (show AT _ _ _ (wpList _ _ _ (⟨_, Op.unOp _ _ _, _, _, _, _⟩ :: _)); refine st_y (y_notd rfl) rfl ?_)
             | (show AT _ _ _ (wpList _ _ _ (⟨_, Op.call _, _, _, _, _⟩ :: _)); first | (refine m_call (ent_of Try.func180 (by kernel_rfl) rfl) rfl rfl (fun w c => impl_IsQuiver_ok (q := (V, F, T)) (c.rd h0) (c.rd h1)) ?_; rintro v H' ⟨rfl, rfl⟩) | (refine m_call (ent_of Try.func182 (by kernel_rfl) rfl) rfl rfl (fun w c => hasVertex_ok (q := (V, F, T)) (by have := hQ.1; simp only at this; omega)) ?_; rintro v H' ⟨rfl, rfl⟩) | refine st_y (y_len tabs rfl rfl) rfl ?_)
             | (show AT _ _ _ (wpList _ _ _ (⟨_, Op.pick _ _ _, _, _, _, _⟩ :: _)); first | refine st_y (y_pickt rfl (by first | assumption | omega) rfl) rfl ?_ | refine st_y (y_pickf rfl (by first | assumption | omega) rfl) rfl ?_ | refine st_y (y_pick rfl rfl rfl) rfl ?_)
             | (show AT _ _ _ (wpList _ _ _ (⟨_, Op.box _ _, _, _, _, _⟩ :: _)); refine m_box rfl rfl (fun b hb => ?_))
             | refine st_gn rfl rfl rfl ?_ | refine st_gfy rfl rfl (by first | assumption | omega) ?_ | refine st_gfn rfl rfl (by first | assumption | omega) rfl ?_ | refine st_gd rfl rfl (fun h => ?_) (fun h => ?_))
          | (show AT _ _ _ (wpList _ _ _ []); refine c_nil (x_then ?_))
          | (show AT _ _ _ (Code.wp _ _ _); first | refine c_seq ?_ | refine c_region ?_ | refine c_ret ?_ | refine c_true rfl ?_ | refine c_ift rfl (by first | assumption | omega) ?_)
          | (show AT _ _ _ _; refine x_then_ret ?_))
      all_goals first | exact absurd hQ (by assumption) | skip
      all_goals exact x_ret1 Try.results132 (res_tmp rfl) (fun w' c' => ⟨_, _, rfl, ⟨rfl, rfl⟩, c'.sub (List.nil_sublist _)⟩)
  · have hno : ¬ PathP (V, F, T) (s, l) := fun hP => hQ hP.1
    rw [decide_eq_false hno]
    refine fn_enter Try.func132 rfl Try.ntmps132 rfl ?_
    repeat' (first
      | (show AT _ _ _ (wpList _ _ _ (_ :: _)); first
         | (show AT _ _ _ (wpList _ _ _ (⟨_, Op.move _, _, _, _, _⟩ :: _)); refine st_y (y_move rfl) rfl ?_)
         | (show AT _ _ _ (wpList _ _ _ (⟨_, Op.assign _, _, _, _, _⟩ :: _)); refine st_y (y_assign rfl) rfl ?_)
         | (show AT _ _ _ (wpList _ _ _ (⟨_, Op.load _ _, _, _, _, _⟩ :: _)); refine st_y (y_loadb 1 tabs rfl rfl rfl rfl) rfl ?_)
         | (show AT _ _ _ (wpList _ _ _ (⟨_, Op.unOp _ _ _, _, _, _, _⟩ :: _)); refine st_y (y_notd rfl) rfl ?_)
         | (show AT _ _ _ (wpList _ _ _ (⟨_, Op.call _, _, _, _, _⟩ :: _)); (refine m_call (ent_of Try.func180 (by kernel_rfl) rfl) rfl rfl (fun w c => impl_IsQuiver_ok (q := (V, F, T)) (c.rd h0) (c.rd h1)) ?_; rintro v H' ⟨rfl, rfl⟩))
         | (show AT _ _ _ (wpList _ _ _ (⟨_, Op.pick _ _ _, _, _, _, _⟩ :: _)); first | refine st_y (y_pickt rfl (by first | assumption | omega) rfl) rfl ?_ | refine st_y (y_pick rfl rfl rfl) rfl ?_)
         | (show AT _ _ _ (wpList _ _ _ (⟨_, Op.box _ _, _, _, _, _⟩ :: _)); refine m_box rfl rfl (fun b hb => ?_))
         | refine st_gn rfl rfl rfl ?_ | refine st_gfn rfl rfl (by first | assumption | omega) rfl ?_)
      | (show AT _ _ _ (wpList _ _ _ []); refine c_nil (x_then ?_))
      | (show AT _ _ _ (Code.wp _ _ _); first | refine c_seq ?_ | refine c_region ?_ | refine c_ret ?_ | refine c_true rfl ?_)
      | (show AT _ _ _ _; refine x_then_ret ?_))
    all_goals exact x_ret1 Try.results132 (res_tmp rfl) (fun w' c' => ⟨_, _, rfl, ⟨rfl, rfl⟩, c'.sub (List.nil_sublist _)⟩)

theorem spec_IsPath_ok {w : World} {q : Qv} {x : Pa} {u0 u1 ux : Value} (h0 : Rd w (iT q.2.1) u0) (h1 : Rd w (iT q.2.2) u1) (hx : Rd w (iT x.2) ux) :
    Does Try.prog 130 [.agg #[iV q.1, u0, u1], .agg #[iV x.1, ux]] w (fun r H => r = .bool (decide (PathP q x)) ∧ H = []) := by
  obtain ⟨V, F, T⟩ := q
  obtain ⟨s, l⟩ := x
  simp only at h0 h1 hx ⊢
  obtain ⟨aF, cF, rfl, hsF, hF1, hF2, hgF⟩ := h0.ints
  obtain ⟨aT, cT, rfl, hsT, hT1, hT2, hgT⟩ := h1.ints
  obtain ⟨ax, cx, rfl, hsx, hx1, hx2, hgx⟩ := hx.ints
  unfold maxLen at hF2 hx2
  by_cases hQ : QuivP (V, F, T)
  · have hV := hQ.1
    simp only at hV
    by_cases hS : (0 ≤ s ∧ s ≤ V - 1) ∧ l.length ≤ 20
    · obtain ⟨hS1, hS2⟩ := hS
      refine fn_enter Try.func130 rfl Try.ntmps130 rfl ?_
      repeat' (first
        | (show AT _ _ _ (wpList _ _ _ (_ :: _)); first
           | (show AT _ _ _ (wpList _ _ _ (⟨_, Op.move _, _, _, _, _⟩ :: _)); refine st_y (y_move rfl) rfl ?_)
           | (show AT _ _ _ (wpList _ _ _ (⟨_, Op.assign _, _, _, _, _⟩ :: _)); refine st_y (y_assign rfl) rfl ?_)
           | (show AT _ _ _ (wpList _ _ _ (⟨_, Op.fieldAddr _ _ _, _, _, _, _⟩ :: _)); refine st_y (y_field tabs rfl rfl rfl) rfl ?_)
           | (show AT _ _ _ (wpList _ _ _ (⟨_, Op.load _ _, _, _, _, _⟩ :: _)); first | refine st_y (y_loadb 1 tabs rfl rfl rfl rfl) rfl ?_ | refine st_y (y_load tabs rfl rfl (hc_blk 0 rfl rfl)) rfl ?_ | refine st_y (y_load tabs rfl rfl (hc_blk 1 rfl rfl)) rfl ?_)
           | (show AT _ _ _ (wpList _ _ _ (⟨_, Op.binOp _ _ _ _ _, _, _, _, _⟩ :: _)); first | refine st_y (y_sub rfl rfl (by omega)) rfl ?_ | refine st_y (y_gtr rfl rfl) rfl ?_)
           | (show AT _ _ _ (wpList _ _ _ (⟨_, Op.unOp _ _ _, _, _, _, _⟩ :: _)); refine st_y (y_notd rfl) rfl ?_)
           | (show AT _ _ _ (wpList _ _ _ (⟨_, Op.call _, _, _, _, _⟩ :: _)); first | (refine m_call (ent_of Try.func179 (by kernel_rfl) rfl) rfl rfl (fun w c => spec_IsQuiver_ok (q := (V, F, T)) (c.rd h0) (c.rd h1)) ?_; rintro v H' ⟨rfl, rfl⟩) | (refine m_call (ent_of Try.func136 (by kernel_rfl) rfl) rfl rfl (fun w c => l1In_ok _ _ _) ?_; rintro v H' ⟨rfl, rfl⟩) | refine st_y (y_len tabs rfl rfl) rfl ?_)
           | (show AT _ _ _ (wpList _ _ _ (⟨_, Op.pick _ _ _, _, _, _, _⟩ :: _)); first | refine st_y (y_pickt rfl (by first | assumption | omega) rfl) rfl ?_ | refine st_y (y_pickf rfl (by first | assumption | omega) rfl) rfl ?_ | refine st_y (y_pick rfl rfl rfl) rfl ?_)
           | (show AT _ _ _ (wpList _ _ _ (⟨_, Op.box _ _, _, _, _, _⟩ :: _)); refine m_box rfl rfl (fun b hb => ?_))
           | refine st_gn rfl rfl rfl ?_ | refine st_gfy rfl rfl (by first | assumption | omega) ?_ | refine st_gfn rfl rfl (by first | assumption | omega) rfl ?_ | refine st_gd rfl rfl (fun h => ?_) (fun h => ?_))
        | (show AT _ _ _ (wpList _ _ _ []); refine c_nil (x_then ?_))
        | (show AT _ _ _ (Code.wp _ _ _); first | refine c_seq ?_ | refine c_region ?_ | refine c_skip (x_then ?_) | refine c_block ?_ | refine c_ret ?_ | refine c_true rfl ?_ | refine c_iff rfl (by first | assumption | exact not_not_intro (by assumption) | omega) ?_)
        | (show AT _ _ _ _; refine x_then_ret ?_))
      all_goals first | exact absurd hQ (by assumption) | skip
      rename_i b0 hb0
      refine c_loopH (α := Nat) [2, 3] (fun i => [(5, iV (atP (V, F, T) (s, l) i)), (6, .int .i64 i)]) (fun i => i ≤ l.length ∧ ∀ k, k < i → StepP (V, F, T) (s, l) k) (fun i => [.blk b #[iV s, .slice ax l.length cx] 83, .blk b0 #[iV V, .slice aF F.length cF, .slice aT T.length cT] 48]) (fun i => l.length - i) 0 rfl (by repeat' (first | exact Sub.nil | refine Sub.cons rfl ?_ | refine Sub.consi rfl (by omega) ?_)) ?_ ?_ ?_
      · exact ⟨Nat.zero_le _, fun k hk => by omega⟩
      · exact fun w' c' => c'
      · rintro i ⟨hi, hnn⟩
        by_cases hin : i < l.length
        · have gx := hgx i hin
          by_cases hr : 0 ≤ l.getD i 0 ∧ l.getD i 0 ≤ (F.length : Int) - 1
          · obtain ⟨n, hn⟩ : ∃ n : Nat, l.getD i 0 = n := ⟨(l.getD i 0).toNat, by omega⟩
            have hnF : n < F.length := by omega
            have hnT : n < T.length := by have := hQ.2.2.1; simp only at this; omega
            have hnx : atP (V, F, T) (s, l) (i + 1) = T.getD n 0 := by simp only [atP, hn, Int.toNat_natCast]
            have hst : StepP (V, F, T) (s, l) i ↔ F.getD n 0 = atP (V, F, T) (s, l) i := by
              simp only [StepP, hn, Int.toNat_natCast]
              exact ⟨fun h => h.2, fun h => ⟨by omega, h⟩⟩
            by_cases he : F.getD n 0 = atP (V, F, T) (s, l) i
            · repeat' (first
                | (show AT _ _ _ (wpList _ _ _ (_ :: _)); first
                   | (show AT _ _ _ (wpList _ _ _ (⟨_, Op.move _, _, _, _, _⟩ :: _)); refine st_y (y_move rfl) rfl ?_)
                   | (show AT _ _ _ (wpList _ _ _ (⟨_, Op.assign _, _, _, _, _⟩ :: _)); refine st_y (y_assign rfl) rfl ?_)
                   | (show AT _ _ _ (wpList _ _ _ (⟨_, Op.fieldAddr _ _ _, _, _, _, _⟩ :: _)); refine st_y (y_field tabs rfl rfl rfl) rfl ?_)
                   | (show AT _ _ _ (wpList _ _ _ (⟨_, Op.load _ _, _, _, _, _⟩ :: _)); refine st_y (y_load tabs rfl rfl (hc_blk 0 rfl rfl)) rfl ?_)
                   | (show AT _ _ _ (wpList _ _ _ (⟨_, Op.binOp _ _ _ _ _, _, _, _, _⟩ :: _)); first | refine st_y (y_add rfl rfl (by omega)) rfl ?_ | refine st_y (y_lss rfl rfl) rfl ?_)
                   | (show AT _ _ _ (wpList _ _ _ (⟨_, Op.call _, _, _, _, _⟩ :: _)); refine st_y (y_len tabs rfl rfl) rfl ?_))
                | (show AT _ _ _ (wpList _ _ _ []); refine c_nil (x_then ?_))
                | (show AT _ _ _ (Code.wp _ _ _); first | refine c_seq ?_ | refine c_region ?_ | refine c_skip (x_then ?_) | refine c_block ?_ | refine c_draw (by kernel_rfl) (by kernel_rfl) (fun _ c => Hp.drew c) ?_ | refine c_ift rfl (by first | assumption | omega) ?_ | refine c_iff rfl (by first | assumption | exact not_not_intro (by assumption) | omega) ?_)
                | (show QT _ _ _ _ _ _ (_ :: _); first
                   | (show QT _ _ _ _ _ _ (⟨_, Op.move _, _, _, _, _⟩ :: _); refine q_y (y_move rfl) rfl ?_)
                   | (show QT _ _ _ _ _ _ (⟨_, Op.assign _, _, _, _, _⟩ :: _); refine q_y (y_assign rfl) rfl ?_)
                   | (show QT _ _ _ _ _ _ (⟨_, Op.fieldAddr _ _ _, _, _, _, _⟩ :: _); refine q_y (y_field tabs rfl rfl rfl) rfl ?_)
                   | (show QT _ _ _ _ _ _ (⟨_, Op.load _ _, _, _, _, _⟩ :: _); first | refine q_y (y_load tabs rfl rfl (hc_w0 gx)) rfl ?_ | refine q_y (y_load tabs rfl rfl (hc_w0 (hgF n hnF))) rfl ?_ | refine q_y (y_load tabs rfl rfl (hc_w0 (hgT n hnT))) rfl ?_ | refine q_y (y_load tabs rfl rfl (hc_blk 0 rfl rfl)) rfl ?_ | refine q_y (y_load tabs rfl rfl (hc_blk 1 rfl rfl)) rfl ?_)
                   | (show QT _ _ _ _ _ _ (⟨_, Op.indexAddr _ _ _, _, _, _, _⟩ :: _); first | refine q_y (y_ix1 tabs (j := i) rfl rfl rfl hsx rfl hin) rfl ?_ | refine q_y (y_ix1 tabs (j := n) rfl rfl rfl hsF hn hnF) rfl ?_ | refine q_y (y_ix1 tabs (j := n) rfl rfl rfl hsT hn hnT) rfl ?_)
                   | (show QT _ _ _ _ _ _ (⟨_, Op.binOp _ _ _ _ _, _, _, _, _⟩ :: _); first | refine q_y (y_sub rfl rfl (by omega)) rfl ?_ | refine q_y (y_neq rfl rfl) rfl ?_)
                   | (show QT _ _ _ _ _ _ (⟨_, Op.unOp _ _ _, _, _, _, _⟩ :: _); refine q_y (y_notd rfl) rfl ?_)
                   | (show QT _ _ _ _ _ _ (⟨_, Op.call _, _, _, _, _⟩ :: _); first | refine q_call (ent_of Try.func136 (by kernel_rfl) rfl) rfl rfl (fun w c => l1In_ok _ _ _) (fun u H' h => h.1) ?_ | refine q_y (y_len tabs rfl rfl) rfl ?_)
                   | (show QT _ _ _ _ _ _ (⟨_, Op.pick _ _ _, _, _, _, _⟩ :: _); refine q_y (y_pickf rfl (by first | assumption | omega) rfl) rfl ?_)
                   | refine q_gfy rfl rfl (by first | assumption | omega) ?_)
                | (show QT _ _ _ _ _ _ []; first | refine q_nil (x_then ?_) | refine q_nil ?_)
                | (show AT _ _ _ _; first | refine x_then ?_ | refine x_blk ?_))
              refine x_nx (i + 1) (by repeat' (first | exact Sub.nil | refine Sub.cons rfl ?_ | refine Sub.consi rfl (by omega) ?_)) ⟨by omega, fun k hk => ?_⟩ (fun w' c' => c') (by omega)
              by_cases hki : k = i
              · subst hki; exact hst.2 he
              · exact hnn k (by omega)
            · have hno : ¬ PathP (V, F, T) (s, l) := fun hP => he (hst.1 (hP.2.2.2 i hin))
              rw [decide_eq_false hno]
              repeat' (first
                | (show AT _ _ _ (wpList _ _ _ (_ :: _)); first
                   | (show AT _ _ _ (wpList _ _ _ (⟨_, Op.move _, _, _, _, _⟩ :: _)); refine st_y (y_move rfl) rfl ?_)
                   | (show AT _ _ _ (wpList _ _ _ (⟨_, Op.assign _, _, _, _, _⟩ :: _)); refine st_y (y_assign rfl) rfl ?_)
                   | (show AT _ _ _ (wpList _ _ _ (⟨_, Op.fieldAddr _ _ _, _, _, _, _⟩ :: _)); refine st_y (y_field tabs rfl rfl rfl) rfl ?_)
                   | (show AT _ _ _ (wpList _ _ _ (⟨_, Op.load _ _, _, _, _, _⟩ :: _)); refine st_y (y_load tabs rfl rfl (hc_blk 0 rfl rfl)) rfl ?_)
                   | (show AT _ _ _ (wpList _ _ _ (⟨_, Op.binOp _ _ _ _ _, _, _, _, _⟩ :: _)); refine st_y (y_lss rfl rfl) rfl ?_)
                   | (show AT _ _ _ (wpList _ _ _ (⟨_, Op.call _, _, _, _, _⟩ :: _)); refine st_y (y_len tabs rfl rfl) rfl ?_))
                | (show AT _ _ _ (wpList _ _ _ []); refine c_nil (x_then ?_))
                | (show AT _ _ _ (Code.wp _ _ _); first | refine c_seq ?_ | refine c_region ?_ | refine c_skip (x_then ?_) | refine c_block ?_ | refine c_ret ?_ | refine c_draw (by kernel_rfl) (by kernel_rfl) (fun _ c => Hp.drew c) ?_ | refine c_ift rfl (by first | assumption | omega) ?_)
                | (show QT _ _ _ _ _ _ (_ :: _); first
                   | (show QT _ _ _ _ _ _ (⟨_, Op.move _, _, _, _, _⟩ :: _); refine q_y (y_move rfl) rfl ?_)
                   | (show QT _ _ _ _ _ _ (⟨_, Op.fieldAddr _ _ _, _, _, _, _⟩ :: _); refine q_y (y_field tabs rfl rfl rfl) rfl ?_)
                   | (show QT _ _ _ _ _ _ (⟨_, Op.load _ _, _, _, _, _⟩ :: _); first | refine q_y (y_load tabs rfl rfl (hc_w0 gx)) rfl ?_ | refine q_y (y_load tabs rfl rfl (hc_w0 (hgF n hnF))) rfl ?_ | refine q_y (y_load tabs rfl rfl (hc_blk 0 rfl rfl)) rfl ?_ | refine q_y (y_load tabs rfl rfl (hc_blk 1 rfl rfl)) rfl ?_)
                   | (show QT _ _ _ _ _ _ (⟨_, Op.indexAddr _ _ _, _, _, _, _⟩ :: _); first | refine q_y (y_ix1 tabs (j := i) rfl rfl rfl hsx rfl hin) rfl ?_ | refine q_y (y_ix1 tabs (j := n) rfl rfl rfl hsF hn hnF) rfl ?_)
                   | (show QT _ _ _ _ _ _ (⟨_, Op.binOp _ _ _ _ _, _, _, _, _⟩ :: _); first | refine q_y (y_sub rfl rfl (by omega)) rfl ?_ | refine q_y (y_neq rfl rfl) rfl ?_)
                   | (show QT _ _ _ _ _ _ (⟨_, Op.unOp _ _ _, _, _, _, _⟩ :: _); refine q_y (y_notd rfl) rfl ?_)
                   | (show QT _ _ _ _ _ _ (⟨_, Op.call _, _, _, _, _⟩ :: _); first | refine q_call (ent_of Try.func136 (by kernel_rfl) rfl) rfl rfl (fun w c => l1In_ok _ _ _) (fun u H' h => h.1) ?_ | refine q_y (y_len tabs rfl rfl) rfl ?_)
                   | (show QT _ _ _ _ _ _ (⟨_, Op.pick _ _ _, _, _, _, _⟩ :: _); refine q_y (y_pickf rfl (by first | assumption | omega) rfl) rfl ?_)
                   | refine q_gfy rfl rfl (by first | assumption | omega) ?_)
                | (show QT _ _ _ _ _ _ []; refine q_nil (x_then ?_))
                | (show AT _ _ _ _; first | refine x_then_ret ?_ | refine x_blk_ret ?_))
              exact x_ret1 Try.results130 (res_tmp rfl) (fun w' c' => ⟨_, _, rfl, ⟨rfl, rfl⟩, c'.sub (List.nil_sublist _)⟩)
          · have hno : ¬ PathP (V, F, T) (s, l) := fun hP => hr (hP.2.2.2 i hin).1
            rw [decide_eq_false hno]
            repeat' (first
              | (show AT _ _ _ (wpList _ _ _ (_ :: _)); first
                 | (show AT _ _ _ (wpList _ _ _ (⟨_, Op.move _, _, _, _, _⟩ :: _)); refine st_y (y_move rfl) rfl ?_)
                 | (show AT _ _ _ (wpList _ _ _ (⟨_, Op.assign _, _, _, _, _⟩ :: _)); refine st_y (y_assign rfl) rfl ?_)
                 | (show AT _ _ _ (wpList _ _ _ (⟨_, Op.fieldAddr _ _ _, _, _, _, _⟩ :: _)); refine st_y (y_field tabs rfl rfl rfl) rfl ?_)
                 | (show AT _ _ _ (wpList _ _ _ (⟨_, Op.load _ _, _, _, _, _⟩ :: _)); refine st_y (y_load tabs rfl rfl (hc_blk 0 rfl rfl)) rfl ?_)
                 | (show AT _ _ _ (wpList _ _ _ (⟨_, Op.binOp _ _ _ _ _, _, _, _, _⟩ :: _)); refine st_y (y_lss rfl rfl) rfl ?_)
                 | (show AT _ _ _ (wpList _ _ _ (⟨_, Op.call _, _, _, _, _⟩ :: _)); refine st_y (y_len tabs rfl rfl) rfl ?_))
              | (show AT _ _ _ (wpList _ _ _ []); refine c_nil (x_then ?_))
              | (show AT _ _ _ (Code.wp _ _ _); first | refine c_seq ?_ | refine c_region ?_ | refine c_skip (x_then ?_) | refine c_block ?_ | refine c_ret ?_ | refine c_draw (by kernel_rfl) (by kernel_rfl) (fun _ c => Hp.drew c) ?_ | refine c_true rfl ?_ | refine c_ift rfl (by first | assumption | omega) ?_)
              | (show QT _ _ _ _ _ _ (_ :: _); first
                 | (show QT _ _ _ _ _ _ (⟨_, Op.move _, _, _, _, _⟩ :: _); refine q_y (y_move rfl) rfl ?_)
                 | (show QT _ _ _ _ _ _ (⟨_, Op.fieldAddr _ _ _, _, _, _, _⟩ :: _); refine q_y (y_field tabs rfl rfl rfl) rfl ?_)
                 | (show QT _ _ _ _ _ _ (⟨_, Op.load _ _, _, _, _, _⟩ :: _); first | refine q_y (y_load tabs rfl rfl (hc_w0 gx)) rfl ?_ | refine q_y (y_load tabs rfl rfl (hc_blk 0 rfl rfl)) rfl ?_ | refine q_y (y_load tabs rfl rfl (hc_blk 1 rfl rfl)) rfl ?_)
                 | (show QT _ _ _ _ _ _ (⟨_, Op.indexAddr _ _ _, _, _, _, _⟩ :: _); refine q_y (y_ix1 tabs (j := i) rfl rfl rfl hsx rfl hin) rfl ?_)
                 | (show QT _ _ _ _ _ _ (⟨_, Op.binOp _ _ _ _ _, _, _, _, _⟩ :: _); refine q_y (y_sub rfl rfl (by omega)) rfl ?_)
                 | (show QT _ _ _ _ _ _ (⟨_, Op.unOp _ _ _, _, _, _, _⟩ :: _); refine q_y (y_notd rfl) rfl ?_)
                 | (show QT _ _ _ _ _ _ (⟨_, Op.call _, _, _, _, _⟩ :: _); first | refine q_call (ent_of Try.func136 (by kernel_rfl) rfl) rfl rfl (fun w c => l1In_ok _ _ _) (fun u H' h => h.1) ?_ | refine q_y (y_len tabs rfl rfl) rfl ?_)
                 | (show QT _ _ _ _ _ _ (⟨_, Op.pick _ _ _, _, _, _, _⟩ :: _); refine q_y (y_pickt rfl (by first | assumption | omega) rfl) rfl ?_)
                 | refine q_gfn rfl rfl (by first | assumption | omega) rfl ?_)
              | (show QT _ _ _ _ _ _ []; refine q_nil (x_then ?_))
              | (show AT _ _ _ _; first | refine x_then_ret ?_ | refine x_blk_ret ?_))
            exact x_ret1 Try.results130 (res_tmp rfl) (fun w' c' => ⟨_, _, rfl, ⟨rfl, rfl⟩, c'.sub (List.nil_sublist _)⟩)
        · have : i = l.length := by omega
          subst this
          have hyes : PathP (V, F, T) (s, l) := ⟨hQ, hS1, hS2, hnn⟩
          rw [decide_eq_true hyes]
          repeat' (first
            | (show AT _ _ _ (wpList _ _ _ (_ :: _)); first
               | (show AT _ _ _ (wpList _ _ _ (⟨_, Op.move _, _, _, _, _⟩ :: _)); refine st_y (y_move rfl) rfl ?_)
               | (show AT _ _ _ (wpList _ _ _ (⟨_, Op.assign _, _, _, _, _⟩ :: _)); refine st_y (y_assign rfl) rfl ?_)
               | (show AT _ _ _ (wpList _ _ _ (⟨_, Op.fieldAddr _ _ _, _, _, _, _⟩ :: _)); refine st_y (y_field tabs rfl rfl rfl) rfl ?_)
               | (show AT _ _ _ (wpList _ _ _ (⟨_, Op.load _ _, _, _, _, _⟩ :: _)); refine st_y (y_load tabs rfl rfl (hc_blk 0 rfl rfl)) rfl ?_)
               | (show AT _ _ _ (wpList _ _ _ (⟨_, Op.binOp _ _ _ _ _, _, _, _, _⟩ :: _)); refine st_y (y_lss rfl rfl) rfl ?_)
               | (show AT _ _ _ (wpList _ _ _ (⟨_, Op.call _, _, _, _, _⟩ :: _)); refine st_y (y_len tabs rfl rfl) rfl ?_))
            | (show AT _ _ _ (wpList _ _ _ []); refine c_nil (x_then ?_))
            | (show AT _ _ _ (Code.wp _ _ _); first | refine c_seq ?_ | refine c_region ?_ | refine c_ret ?_ | refine c_exit ?_ | refine c_iff rfl (by first | assumption | exact not_not_intro (by assumption) | omega) ?_)
            | (show AT _ _ _ _; first | refine x_then ?_ | refine x_then_exit ?_ | refine x_blk_exit rfl ?_))
          exact x_ret1 Try.results130 (res_tmp rfl) (fun w' c' => ⟨_, _, rfl, ⟨rfl, rfl⟩, c'.sub (List.nil_sublist _)⟩)
    · have hno : ¬ PathP (V, F, T) (s, l) := fun hP => hS ⟨hP.2.1, hP.2.2.1⟩
      rw [decide_eq_false hno]
      have hcs : ¬ (0 ≤ s ∧ s ≤ V - 1) ∨ ((0 ≤ s ∧ s ≤ V - 1) ∧ ¬ l.length ≤ 20) := by grind
      refine fn_enter Try.func130 rfl Try.ntmps130 rfl ?_
      rcases hcs with hS1 | ⟨hS1, hS2⟩
      all_goals
        repeat' (first
          | (show AT _ _ _ (wpList _ _ _ (_ :: _)); first
             | (show AT _ _ _ (wpList _ _ _ (⟨_, Op.move _, _, _, _, _⟩ :: _)); refine st_y (y_move rfl) rfl ?_)
             | (show AT _ _ _ (wpList _ _ _ (⟨_, Op.assign _, _, _, _, _⟩ :: _)); refine st_y (y_assign rfl) rfl ?_)
             | (show AT _ _ _ (wpList _ _ _ (⟨_, Op.fieldAddr _ _ _, _, _, _, _⟩ :: _)); refine st_y (y_field tabs rfl rfl rfl) rfl ?_)
             | (show AT _ _ _ (wpList _ _ _ (⟨_, Op.load _ _, _, _, _, _⟩ :: _)); first | refine st_y (y_loadb 1 tabs rfl rfl rfl rfl) rfl ?_ | refine st_y (y_load tabs rfl rfl (hc_blk 0 rfl rfl)) rfl ?_ | refine st_y (y_load tabs rfl rfl (hc_blk 1 rfl rfl)) rfl ?_)
             | (show AT _ _ _ (wpList _ _ _ (⟨_, Op.binOp _ _ _ _ _, _, _, _, _⟩ :: _)); first | refine st_y (y_sub rfl rfl (by omega)) rfl ?_ | refine st_y (y_gtr rfl rfl) rfl ?_)
             | (show AT _ _ _ (wpList _ _ _ (⟨_, Op.unOp _ _ _, _, _, _, _⟩ :: _)); refine st_y (y_notd rfl) rfl ?_)
             | (show AT _ _ _ (wpList _ _ _ (⟨_, Op.call _, _, _, _, _⟩ :: _)); first | (refine m_call (ent_of Try.func179 (by kernel_rfl) rfl) rfl rfl (fun w c => spec_IsQuiver_ok (q := (V, F, T)) (c.rd h0) (c.rd h1)) ?_; rintro v H' ⟨rfl, rfl⟩) | (refine m_call (ent_of Try.func136 (by kernel_rfl) rfl) rfl rfl (fun w c => l1In_ok _ _ _) ?_; rintro v H' ⟨rfl, rfl⟩) | refine st_y (y_len tabs rfl rfl) rfl ?_)
             | (show AT _ _ _ (wpList _ _ _ (⟨_, Op.pick _ _ _, _, _, _, _⟩ :: _)); first | refine st_y (y_pickt rfl (by first | assumption | omega) rfl) rfl ?_ | refine st_y (y_pickf rfl (by first | assumption | omega) rfl) rfl ?_ | refine st_y (y_pick rfl rfl rfl) rfl ?_)
             | (show AT _ _ _ (wpList _ _ _ (⟨_, Op.box _ _, _, _, _, _⟩ :: _)); refine m_box rfl rfl (fun b hb => ?_))
             | refine st_gn rfl rfl rfl ?_ | refine st_gfy rfl rfl (by first | assumption | omega) ?_ | refine st_gfn rfl rfl (by first | assumption | omega) rfl ?_ | refine st_gd rfl rfl (fun h => ?_) (fun h => ?_))
          | (show AT _ _ _ (wpList _ _ _ []); refine c_nil (x_then ?_))
          | (show AT _ _ _ (Code.wp _ _ _); first | refine c_seq ?_ | refine c_region ?_ | refine c_ret ?_ | refine c_true rfl ?_ | refine c_ift rfl (by first | assumption | omega) ?_)
          | (show AT _ _ _ _; refine x_then_ret ?_))
      all_goals first | exact absurd hQ (by assumption) | skip
      all_goals exact x_ret1 Try.results130 (res_tmp rfl) (fun w' c' => ⟨_, _, rfl, ⟨rfl, rfl⟩, c'.sub (List.nil_sublist _)⟩)
  · have hno : ¬ PathP (V, F, T) (s, l) := fun hP => hQ hP.1
    rw [decide_eq_false hno]
    refine fn_enter Try.func130 rfl Try.ntmps130 rfl ?_
    repeat' (first
      | (show AT _ _ _ (wpList _ _ _ (_ :: _)); first
         | (show AT _ _ _ (wpList _ _ _ (⟨_, Op.move _, _, _, _, _⟩ :: _)); refine st_y (y_move rfl) rfl ?_)
         | (show AT _ _ _ (wpList _ _ _ (⟨_, Op.assign _, _, _, _, _⟩ :: _)); refine st_y (y_assign rfl) rfl ?_)
         | (show AT _ _ _ (wpList _ _ _ (⟨_, Op.fieldAddr _ _ _, _, _, _, _⟩ :: _)); refine st_y (y_field tabs rfl rfl rfl) rfl ?_)
         | (show AT _ _ _ (wpList _ _ _ (⟨_, Op.load _ _, _, _, _, _⟩ :: _)); first | refine st_y (y_loadb 1 tabs rfl rfl rfl rfl) rfl ?_ | refine st_y (y_load tabs rfl rfl (hc_blk 0 rfl rfl)) rfl ?_)
         | (show AT _ _ _ (wpList _ _ _ (⟨_, Op.unOp _ _ _, _, _, _, _⟩ :: _)); refine st_y (y_notd rfl) rfl ?_)
         | (show AT _ _ _ (wpList _ _ _ (⟨_, Op.call _, _, _, _, _⟩ :: _)); (refine m_call (ent_of Try.func179 (by kernel_rfl) rfl) rfl rfl (fun w c => spec_IsQuiver_ok (q := (V, F, T)) (c.rd h0) (c.rd h1)) ?_; rintro v H' ⟨rfl, rfl⟩))
         | (show AT _ _ _ (wpList _ _ _ (⟨_, Op.pick _ _ _, _, _, _, _⟩ :: _)); first | refine st_y (y_pickt rfl (by first | assumption | omega) rfl) rfl ?_ | refine st_y (y_pick rfl rfl rfl) rfl ?_)
         | (show AT _ _ _ (wpList _ _ _ (⟨_, Op.box _ _, _, _, _, _⟩ :: _)); refine m_box rfl rfl (fun b hb => ?_))
         | refine st_gn rfl rfl rfl ?_ | refine st_gfn rfl rfl (by first | assumption | omega) rfl ?_)
      | (show AT _ _ _ (wpList _ _ _ []); refine c_nil (x_then ?_))
      | (show AT _ _ _ (Code.wp _ _ _); first | refine c_seq ?_ | refine c_region ?_ | refine c_ret ?_ | refine c_true rfl ?_)
      | (show AT _ _ _ _; refine x_then_ret ?_))
    all_goals exact x_ret1 Try.results130 (res_tmp rfl) (fun w' c' => ⟨_, _, rfl, ⟨rfl, rfl⟩, c'.sub (List.nil_sublist _)⟩)

end Go.Proofs.Ytooffimgfnacoaa
