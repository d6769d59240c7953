import Derived.Test.YtdnhmnnccfoliaaGreatDoorLCqrp
import Derived.Test.YtdnhmnnccfoliaaGreatDoorLinqrp
import Derived.Test.YtdnhmnnccfoliaaGreatDoorLwsqrp
import Derived.Test.YtdnhmnnccfoliaaGreatDoorMulqrp
import Derived.Test.YtdnhmnnccfoliaaGreatDoorOpnqrp
import Derived.Test.YtdnhmnnccfoliaaGreatDoorPrdqrp
import Derived.Test.YtdnhmnnccfoliaaGreatDoorRepqrp
import Derived.Test.YtdnhmnnccfoliaaGreatDoorSpbqrp
namespace Go.Proofs.YtdnhmnnccfoliaaGreatDoor
open Go.Lg Go.Proofs Go.RowKit
attribute [local irreducible] Code.wp wpList bodyPost Exit.then Exit.inBlock Hp Again Calls Y AT ResV QT Qn QI wpAny wpAnyQ
set_option maxRecDepth 20000
set_option maxHeartbeats 4000000

abbrev Pa := Int × List Int
section
open Go.WideShapes Go.ChangeShapes
set_option maxRecDepth 100000
variable {H : Type} {enc : TypeId × Value → H} {w : World} {base : Nat} {spare : Nat → Bool} {held : Bool}
variable {r : Reach} {b0 : Nat} {v : Value} {d : DataW H} {p : List MemPlace}
end
end Go.Proofs.YtdnhmnnccfoliaaGreatDoor

namespace Go.Proofs.YtdnhmnnccfoliaaGreatDoor
open Go.Lg Go.Proofs Go.RowKit
attribute [local irreducible] Code.wp wpList bodyPost Exit.then Exit.inBlock Hp Again Calls Y AT ResV QT Qn QI wpAny wpAnyQ
set_option maxRecDepth 20000
set_option maxHeartbeats 4000000

def atP (q : Qv) (x : Pa) : Nat → Int
  | 0 => x.1
  | k + 1 => q.2.2.getD (x.2.getD k 0).toNat 0
def StepP (q : Qv) (x : Pa) (k : Nat) : Prop := (0 ≤ x.2.getD k 0 ∧ x.2.getD k 0 ≤ (q.2.1.length : Int) - 1) ∧ q.2.1.getD (x.2.getD k 0).toNat 0 = atP q x k
instance (q : Qv) (x : Pa) (k : Nat) : Decidable (StepP q x k) := by unfold StepP; infer_instance
def PathP (q : Qv) (x : Pa) : Prop := QuivP q ∧ (0 ≤ x.1 ∧ x.1 ≤ q.1 - 1) ∧ x.2.length ≤ 20 ∧ ∀ k, k < x.2.length → StepP q x k
instance (q : Qv) (x : Pa) : Decidable (PathP q x) := by unfold PathP; infer_instance
theorem hasVertex_ok {w : World} {q : Qv} {u0 u1 : Value} {v : Int} (hq : -4611686018427387904 ≤ q.1 ∧ q.1 ≤ 4611686018427387904) : Does Tryz.prog 174 [.agg #[iV q.1, u0, u1], iV v] w (fun r H => r = .bool (decide (0 ≤ v ∧ v ≤ q.1 - 1)) ∧ H = []) := by
  refine fn_enter Tryz.func174 rfl Tryz.ntmps174 rfl ?_
  repeat' (first | (show oL; first | refine sMv rfl rfl ?_ | refine sAs rfl rfl ?_ | refine sFd tabs rfl rfl rfl rfl ?_ | refine sLd 0 tabs rfl rfl rfl rfl rfl ?_ | (show oA (.binOp _ _ _ _ _); refine st_y (y_sub rfl rfl om) rfl ?_) | (show oA (.call _); (refine m_call (ent_of Tryz.func106 kr rfl) rfl rfl (fun w c => within_ok _ _ _) ?_; rintro v H' ⟨rfl, rfl⟩)) | (show oA (.box _ _); refine m_box rfl rfl (fun b hb => ?_))) | refine xNt ?_ | (show oC; first | refine c_seq ?_ | refine c_region ?_ | refine c_ret ?_))
  exact x_ret1 Tryz.results174 (res_tmp rfl) (fun w' c' => ⟨_, _, rfl, ⟨rfl, rfl⟩, c'.sub (List.nil_sublist _)⟩)
theorem impl_IsPath_ok {w : World} {q : Qv} {x : Pa} {u0 u1 ux : Value} (h0 : Rd w (iT q.2.1) u0) (h1 : Rd w (iT q.2.2) u1) (hx : Rd w (iT x.2) ux) :
    Does Tryz.prog 142 [.agg #[iV q.1, u0, u1], .agg #[iV x.1, ux]] w (fun r H => r = .bool (decide (PathP q x)) ∧ H = []) := by
  obtain ⟨V, F, T⟩ := q
  obtain ⟨s, l⟩ := x
  simp only at h0 h1 hx ⊢
  obtain ⟨aF, cF, rfl, hsF, hF1, hF2, hgF⟩ := h0.ints
  obtain ⟨aT, cT, rfl, hsT, hT1, hT2, hgT⟩ := h1.ints
  obtain ⟨ax, cx, rfl, hsx, hx1, hx2, hgx⟩ := hx.ints
  unfold maxLen at hF2 hx2
  by_cases hQ : QuivP (V, F, T)
  · have hV := hQ.1
    simp only at hV
    by_cases hS : (0 ≤ s ∧ s ≤ V - 1) ∧ l.length ≤ 20
    · obtain ⟨hS1, hS2⟩ := hS
      refine fn_enter Tryz.func142 rfl Tryz.ntmps142 rfl ?_
      repeat' (first | (show oL; first | refine sMv rfl rfl ?_ | refine sAs rfl rfl ?_ | refine sFd tabs rfl rfl rfl rfl ?_ | (show oA (.load _ _); first | refine sLb 1 tabs rfl rfl rfl rfl rfl ?_ | refine sLd 0 tabs rfl rfl rfl rfl rfl ?_) | (show oA (.binOp _ _ _ _ _); refine st_y (y_gtr rfl rfl) rfl ?_) | (show oA (.unOp _ _ _); refine st_y (y_notd rfl) rfl ?_) | (show oA (.call _); first | (refine m_call (ent_of Tryz.func81 kr rfl) rfl rfl (fun w c => impl_IsQuiver_ok (q := (V, F, T)) (c.rd h0) (c.rd h1)) ?_; rintro v H' ⟨rfl, rfl⟩) | (refine m_call (ent_of Tryz.func174 kr rfl) rfl rfl (fun w c => hasVertex_ok (q := (V, F, T)) (by have := hQ.1; simp only at this; omega)) ?_; rintro v H' ⟨rfl, rfl⟩) | refine sLn tabs rfl rfl rfl ?_) | (show oA (.pick _ _ _); first | refine st_y (y_pickt rfl aO rfl) rfl ?_ | refine st_y (y_pickf rfl aO rfl) rfl ?_ | refine st_y (y_pick rfl rfl rfl) rfl ?_) | (show oA (.box _ _); refine m_box rfl rfl (fun b hb => ?_)) | refine st_gn rfl rfl rfl ?_ | refine st_gfy rfl rfl aO ?_ | refine st_gfn rfl rfl aO rfl ?_ | refine st_gd rfl rfl (fun h => ?_) (fun h => ?_)) | refine xNt ?_ | (show oC; first | refine c_seq ?_ | refine c_region ?_ | refine c_skip (x_then ?_) | refine c_block ?_ | refine c_ret ?_ | refine c_true rfl ?_ | refine c_iff rfl nN ?_) | (show AT _ _ _ _; refine x_then_ret ?_))
      all_goals first | exact absurd hQ aS | skip
      rename_i b0 hb0
      refine c_loopH (α := Nat) [2, 27, 28] (fun i => [(5, iV (atP (V, F, T) (s, l) i)), (29, .int .i64 i)]) (fun i => i ≤ l.length ∧ ∀ k, k < i → StepP (V, F, T) (s, l) k) (fun i => [.blk b #[iV s, .slice ax l.length cx] 78, .blk b0 #[iV V, .slice aF F.length cF, .slice aT T.length cT] 26]) (fun i => l.length - i) 0 rfl sB ?_ ?_ ?_
      · exact ⟨Nat.zero_le _, fun k hk => by omega⟩
      · exact fun w' c' => c'
      · rintro i ⟨hi, hnn⟩
        by_cases hin : i < l.length
        · have gx := hgx i hin
          by_cases hr : 0 ≤ l.getD i 0 ∧ l.getD i 0 ≤ (F.length : Int) - 1
          · obtain ⟨n, hn⟩ : ∃ n : Nat, l.getD i 0 = n := ⟨(l.getD i 0).toNat, by omega⟩
            have hnF : n < F.length := by omega
            have hnT : n < T.length := by have := hQ.2.2.1; simp only at this; omega
            have hnx : atP (V, F, T) (s, l) (i + 1) = T.getD n 0 := by simp only [atP, hn, Int.toNat_natCast]
            have hst : StepP (V, F, T) (s, l) i ↔ F.getD n 0 = atP (V, F, T) (s, l) i := by
              simp only [StepP, hn, Int.toNat_natCast]
              exact ⟨fun h => h.2, fun h => ⟨by omega, h⟩⟩
            by_cases he : F.getD n 0 = atP (V, F, T) (s, l) i
            · repeat' (first | (show oL; first | refine sMv rfl rfl ?_ | refine sAs rfl rfl ?_ | refine sFd tabs rfl rfl rfl rfl ?_ | (show oA (.load _ _); first | refine st_y (y_load tabs rfl rfl (hc_w0 gx)) rfl ?_ | refine st_y (y_load tabs rfl rfl (hc_w0 (hgF n hnF))) rfl ?_ | refine st_y (y_load tabs rfl rfl (hc_w0 (hgT n hnT))) rfl ?_ | refine sLd 1 tabs rfl rfl rfl rfl rfl ?_) | (show oA (.indexAddr _ _ _); first | refine st_y (y_ix1 tabs (j := i) rfl rfl rfl hsx rfl hin) rfl ?_ | refine st_y (y_ix1 tabs (j := n) rfl rfl rfl hsF hn hnF) rfl ?_ | refine st_y (y_ix1 tabs (j := n) rfl rfl rfl hsT hn hnT) rfl ?_) | (show oA (.binOp _ _ _ _ _); first | refine sAd rfl rfl om rfl ?_ | refine st_y (y_sub rfl rfl om) rfl ?_ | refine sLs rfl rfl rfl ?_ | refine st_y (y_neq rfl rfl) rfl ?_) | (show oA (.unOp _ _ _); refine st_y (y_notd rfl) rfl ?_) | (show oA (.call _); first | (refine m_call (ent_of Tryz.func106 kr rfl) rfl rfl (fun w c => within_ok _ _ _) ?_; rintro v H' ⟨rfl, rfl⟩) | refine sLn tabs rfl rfl rfl ?_) | (show oA (.pick _ _ _); refine st_y (y_pickf rfl aO rfl) rfl ?_) | refine st_gfy rfl rfl aO ?_) | (show oN; first | refine c_nil (x_then ?_) | refine c_nil ?_) | (show oC; first | refine c_seq ?_ | refine c_region ?_ | refine c_skip (x_then ?_) | refine c_block ?_ | refine c_ift rfl aO ?_ | refine c_iff rfl nN ?_) | (show AT _ _ _ _; first | refine x_then ?_ | refine x_blk ?_))
              refine x_nx (i + 1) sB ⟨by omega, fun k hk => ?_⟩ (fun w' c' => c') om
              by_cases hki : k = i
              · subst hki; exact hst.2 he
              · exact hnn k om
            · have hno : ¬ PathP (V, F, T) (s, l) := fun hP => he (hst.1 (hP.2.2.2 i hin))
              rw [decide_eq_false hno]
              repeat' (first | (show oL; first | refine sMv rfl rfl ?_ | refine sAs rfl rfl ?_ | refine sFd tabs rfl rfl rfl rfl ?_ | (show oA (.load _ _); first | refine st_y (y_load tabs rfl rfl (hc_w0 gx)) rfl ?_ | refine st_y (y_load tabs rfl rfl (hc_w0 (hgF n hnF))) rfl ?_ | refine sLd 1 tabs rfl rfl rfl rfl rfl ?_) | (show oA (.indexAddr _ _ _); first | refine st_y (y_ix1 tabs (j := i) rfl rfl rfl hsx rfl hin) rfl ?_ | refine st_y (y_ix1 tabs (j := n) rfl rfl rfl hsF hn hnF) rfl ?_) | (show oA (.binOp _ _ _ _ _); first | refine st_y (y_sub rfl rfl om) rfl ?_ | refine sLs rfl rfl rfl ?_ | refine st_y (y_neq rfl rfl) rfl ?_) | (show oA (.unOp _ _ _); refine st_y (y_notd rfl) rfl ?_) | (show oA (.call _); first | (refine m_call (ent_of Tryz.func106 kr rfl) rfl rfl (fun w c => within_ok _ _ _) ?_; rintro v H' ⟨rfl, rfl⟩) | refine sLn tabs rfl rfl rfl ?_) | (show oA (.pick _ _ _); refine st_y (y_pickf rfl aO rfl) rfl ?_) | refine st_gfy rfl rfl aO ?_) | refine xNt ?_ | (show oC; first | refine c_seq ?_ | refine c_region ?_ | refine c_skip (x_then ?_) | refine c_block ?_ | refine c_ret ?_ | refine c_ift rfl aO ?_) | (show AT _ _ _ _; first | refine x_then_ret ?_ | refine x_blk_ret ?_))
              exact x_ret1 Tryz.results142 (res_tmp rfl) (fun w' c' => ⟨_, _, rfl, ⟨rfl, rfl⟩, c'.sub (List.nil_sublist _)⟩)
          · have hno : ¬ PathP (V, F, T) (s, l) := fun hP => hr (hP.2.2.2 i hin).1
            rw [decide_eq_false hno]
            repeat' (first | (show oL; first | refine sMv rfl rfl ?_ | refine sAs rfl rfl ?_ | refine sFd tabs rfl rfl rfl rfl ?_ | (show oA (.load _ _); first | refine st_y (y_load tabs rfl rfl (hc_w0 gx)) rfl ?_ | refine sLd 1 tabs rfl rfl rfl rfl rfl ?_) | (show oA (.indexAddr _ _ _); refine st_y (y_ix1 tabs (j := i) rfl rfl rfl hsx rfl hin) rfl ?_) | (show oA (.binOp _ _ _ _ _); first | refine st_y (y_sub rfl rfl om) rfl ?_ | refine sLs rfl rfl rfl ?_) | (show oA (.unOp _ _ _); refine st_y (y_notd rfl) rfl ?_) | (show oA (.call _); first | (refine m_call (ent_of Tryz.func106 kr rfl) rfl rfl (fun w c => within_ok _ _ _) ?_; rintro v H' ⟨rfl, rfl⟩) | refine sLn tabs rfl rfl rfl ?_) | (show oA (.pick _ _ _); refine st_y (y_pickt rfl aO rfl) rfl ?_) | refine st_gfn rfl rfl aO rfl ?_) | refine xNt ?_ | (show oC; first | refine c_seq ?_ | refine c_region ?_ | refine c_skip (x_then ?_) | refine c_block ?_ | refine c_ret ?_ | refine c_true rfl ?_ | refine c_ift rfl aO ?_) | (show AT _ _ _ _; first | refine x_then_ret ?_ | refine x_blk_ret ?_))
            exact x_ret1 Tryz.results142 (res_tmp rfl) (fun w' c' => ⟨_, _, rfl, ⟨rfl, rfl⟩, c'.sub (List.nil_sublist _)⟩)
        · have : i = l.length := by omega
          subst this
          have hyes : PathP (V, F, T) (s, l) := ⟨hQ, hS1, hS2, hnn⟩
          rw [decide_eq_true hyes]
          repeat' (first | (show oL; first | refine sAs rfl rfl ?_ | refine sLs rfl rfl rfl ?_) | refine xNt ?_ | (show oC; first | refine c_seq ?_ | refine c_region ?_ | refine c_ret ?_ | refine c_exit ?_ | refine c_iff rfl nN ?_) | (show AT _ _ _ _; first | refine x_then ?_ | refine x_then_exit ?_ | refine x_blk_exit rfl ?_))
          exact x_ret1 Tryz.results142 (res_tmp rfl) (fun w' c' => ⟨_, _, rfl, ⟨rfl, rfl⟩, c'.sub (List.nil_sublist _)⟩)
    · have hno : ¬ PathP (V, F, T) (s, l) := fun hP => hS ⟨hP.2.1, hP.2.2.1⟩
      rw [decide_eq_false hno]
      have hcs : ¬ (0 ≤ s ∧ s ≤ V - 1) ∨ ((0 ≤ s ∧ s ≤ V - 1) ∧ ¬ l.length ≤ 20) := by grind
      refine fn_enter Tryz.func142 rfl Tryz.ntmps142 rfl ?_
      rcases hcs with hS1 | ⟨hS1, hS2⟩
      all_goals
        repeat' (first | (show oL; first | refine sMv rfl rfl ?_ | refine sAs rfl rfl ?_ | refine sFd tabs rfl rfl rfl rfl ?_ | (show oA (.load _ _); first | refine sLb 1 tabs rfl rfl rfl rfl rfl ?_ | refine sLd 0 tabs rfl rfl rfl rfl rfl ?_) | (show oA (.binOp _ _ _ _ _); refine st_y (y_gtr rfl rfl) rfl ?_) | (show oA (.unOp _ _ _); refine st_y (y_notd rfl) rfl ?_) | (show oA (.call _); first | (refine m_call (ent_of Tryz.func81 kr rfl) rfl rfl (fun w c => impl_IsQuiver_ok (q := (V, F, T)) (c.rd h0) (c.rd h1)) ?_; rintro v H' ⟨rfl, rfl⟩) | (refine m_call (ent_of Tryz.func174 kr rfl) rfl rfl (fun w c => hasVertex_ok (q := (V, F, T)) (by have := hQ.1; simp only at this; omega)) ?_; rintro v H' ⟨rfl, rfl⟩) | refine sLn tabs rfl rfl rfl ?_) | (show oA (.pick _ _ _); first | refine st_y (y_pickt rfl aO rfl) rfl ?_ | refine st_y (y_pickf rfl aO rfl) rfl ?_ | refine st_y (y_pick rfl rfl rfl) rfl ?_) | (show oA (.box _ _); refine m_box rfl rfl (fun b hb => ?_)) | refine st_gn rfl rfl rfl ?_ | refine st_gfy rfl rfl aO ?_ | refine st_gfn rfl rfl aO rfl ?_ | refine st_gd rfl rfl (fun h => ?_) (fun h => ?_)) | refine xNt ?_ | (show oC; first | refine c_seq ?_ | refine c_region ?_ | refine c_ret ?_ | refine c_true rfl ?_ | refine c_ift rfl aO ?_) | (show AT _ _ _ _; refine x_then_ret ?_))
      all_goals first | exact absurd hQ aS | skip
      all_goals exact x_ret1 Tryz.results142 (res_tmp rfl) (fun w' c' => ⟨_, _, rfl, ⟨rfl, rfl⟩, c'.sub (List.nil_sublist _)⟩)
  · have hno : ¬ PathP (V, F, T) (s, l) := fun hP => hQ hP.1
    rw [decide_eq_false hno]
    refine fn_enter Tryz.func142 rfl Tryz.ntmps142 rfl ?_
    repeat' (first | (show oL; first | refine sMv rfl rfl ?_ | refine sAs rfl rfl ?_ | refine sLb 1 tabs rfl rfl rfl rfl rfl ?_ | (show oA (.unOp _ _ _); refine st_y (y_notd rfl) rfl ?_) | (show oA (.call _); (refine m_call (ent_of Tryz.func81 kr rfl) rfl rfl (fun w c => impl_IsQuiver_ok (q := (V, F, T)) (c.rd h0) (c.rd h1)) ?_; rintro v H' ⟨rfl, rfl⟩)) | (show oA (.pick _ _ _); first | refine st_y (y_pickt rfl aO rfl) rfl ?_ | refine st_y (y_pick rfl rfl rfl) rfl ?_) | (show oA (.box _ _); refine m_box rfl rfl (fun b hb => ?_)) | refine st_gn rfl rfl rfl ?_ | refine st_gfn rfl rfl aO rfl ?_) | refine xNt ?_ | (show oC; first | refine c_seq ?_ | refine c_region ?_ | refine c_ret ?_ | refine c_true rfl ?_) | (show AT _ _ _ _; refine x_then_ret ?_))
    all_goals exact x_ret1 Tryz.results142 (res_tmp rfl) (fun w' c' => ⟨_, _, rfl, ⟨rfl, rfl⟩, c'.sub (List.nil_sublist _)⟩)

theorem spec_IsPath_ok {w : World} {q : Qv} {x : Pa} {u0 u1 ux : Value} (h0 : Rd w (iT q.2.1) u0) (h1 : Rd w (iT q.2.2) u1) (hx : Rd w (iT x.2) ux) :
    Does Tryz.prog 144 [.agg #[iV q.1, u0, u1], .agg #[iV x.1, ux]] w (fun r H => r = .bool (decide (PathP q x)) ∧ H = []) := by
  obtain ⟨V, F, T⟩ := q
  obtain ⟨s, l⟩ := x
  simp only at h0 h1 hx ⊢
  obtain ⟨aF, cF, rfl, hsF, hF1, hF2, hgF⟩ := h0.ints
  obtain ⟨aT, cT, rfl, hsT, hT1, hT2, hgT⟩ := h1.ints
  obtain ⟨ax, cx, rfl, hsx, hx1, hx2, hgx⟩ := hx.ints
  unfold maxLen at hF2 hx2
  by_cases hQ : QuivP (V, F, T)
  · have hV := hQ.1
    simp only at hV
    by_cases hS : (0 ≤ s ∧ s ≤ V - 1) ∧ l.length ≤ 20
    · obtain ⟨hS1, hS2⟩ := hS
      refine fn_enter Tryz.func144 rfl Tryz.ntmps144 rfl ?_
      repeat' (first | (show oL; first | refine sMv rfl rfl ?_ | refine sAs rfl rfl ?_ | refine sFd tabs rfl rfl rfl rfl ?_ | (show oA (.load _ _); first | refine sLb 1 tabs rfl rfl rfl rfl rfl ?_ | refine sLd 0 tabs rfl rfl rfl rfl rfl ?_ | refine sLd 1 tabs rfl rfl rfl rfl rfl ?_) | (show oA (.binOp _ _ _ _ _); first | refine st_y (y_sub rfl rfl om) rfl ?_ | refine st_y (y_gtr rfl rfl) rfl ?_) | (show oA (.unOp _ _ _); refine st_y (y_notd rfl) rfl ?_) | (show oA (.call _); first | (refine m_call (ent_of Tryz.func77 kr rfl) rfl rfl (fun w c => spec_IsQuiver_ok (q := (V, F, T)) (c.rd h0) (c.rd h1)) ?_; rintro v H' ⟨rfl, rfl⟩) | (refine m_call (ent_of Tryz.func104 kr rfl) rfl rfl (fun w c => l1In_ok _ _ _) ?_; rintro v H' ⟨rfl, rfl⟩) | refine sLn tabs rfl rfl rfl ?_) | (show oA (.pick _ _ _); first | refine st_y (y_pickt rfl aO rfl) rfl ?_ | refine st_y (y_pickf rfl aO rfl) rfl ?_ | refine st_y (y_pick rfl rfl rfl) rfl ?_) | (show oA (.box _ _); refine m_box rfl rfl (fun b hb => ?_)) | refine st_gn rfl rfl rfl ?_ | refine st_gfy rfl rfl aO ?_ | refine st_gfn rfl rfl aO rfl ?_ | refine st_gd rfl rfl (fun h => ?_) (fun h => ?_)) | refine xNt ?_ | (show oC; first | refine c_seq ?_ | refine c_region ?_ | refine c_skip (x_then ?_) | refine c_block ?_ | refine c_ret ?_ | refine c_true rfl ?_ | refine c_iff rfl nN ?_) | (show AT _ _ _ _; refine x_then_ret ?_))
      all_goals first | exact absurd hQ aS | skip
      rename_i b0 hb0
      refine c_loopH (α := Nat) [2, 3] (fun i => [(5, iV (atP (V, F, T) (s, l) i)), (6, .int .i64 i)]) (fun i => i ≤ l.length ∧ ∀ k, k < i → StepP (V, F, T) (s, l) k) (fun i => [.blk b #[iV s, .slice ax l.length cx] 78, .blk b0 #[iV V, .slice aF F.length cF, .slice aT T.length cT] 26]) (fun i => l.length - i) 0 rfl sB ?_ ?_ ?_
      · exact ⟨Nat.zero_le _, fun k hk => by omega⟩
      · exact fun w' c' => c'
      · rintro i ⟨hi, hnn⟩
        by_cases hin : i < l.length
        · have gx := hgx i hin
          by_cases hr : 0 ≤ l.getD i 0 ∧ l.getD i 0 ≤ (F.length : Int) - 1
          · obtain ⟨n, hn⟩ : ∃ n : Nat, l.getD i 0 = n := ⟨(l.getD i 0).toNat, by omega⟩
            have hnF : n < F.length := by omega
            have hnT : n < T.length := by have := hQ.2.2.1; simp only at this; omega
            have hnx : atP (V, F, T) (s, l) (i + 1) = T.getD n 0 := by simp only [atP, hn, Int.toNat_natCast]
            have hst : StepP (V, F, T) (s, l) i ↔ F.getD n 0 = atP (V, F, T) (s, l) i := by
              simp only [StepP, hn, Int.toNat_natCast]
              exact ⟨fun h => h.2, fun h => ⟨by omega, h⟩⟩
            by_cases he : F.getD n 0 = atP (V, F, T) (s, l) i
            · repeat' (first | (show oL; first | refine sMv rfl rfl ?_ | refine sAs rfl rfl ?_ | refine sFd tabs rfl rfl rfl rfl ?_ | refine sLd 0 tabs rfl rfl rfl rfl rfl ?_ | (show oA (.binOp _ _ _ _ _); first | refine sAd rfl rfl om rfl ?_ | refine sLs rfl rfl rfl ?_) | refine sLn tabs rfl rfl rfl ?_) | refine xNt ?_ | (show oC; first | refine c_seq ?_ | refine c_region ?_ | refine c_skip (x_then ?_) | refine c_block ?_ | refine c_draw kr kr (fun _ c => Hp.drew c) ?_ | refine c_ift rfl aO ?_ | refine c_iff rfl nN ?_) | (show QT _ _ _ _ _ _ (_ :: _); first | refine qMv rfl rfl ?_ | refine qAs rfl rfl ?_ | refine qFd tabs rfl rfl rfl rfl ?_ | (show qA (.load _ _); first | refine q_y (y_load tabs rfl rfl (hc_w0 gx)) rfl ?_ | refine q_y (y_load tabs rfl rfl (hc_w0 (hgF n hnF))) rfl ?_ | refine q_y (y_load tabs rfl rfl (hc_w0 (hgT n hnT))) rfl ?_ | refine qLd 0 tabs rfl rfl rfl rfl rfl ?_ | refine qLd 1 tabs rfl rfl rfl rfl rfl ?_) | (show qA (.indexAddr _ _ _); first | refine q_y (y_ix1 tabs (j := i) rfl rfl rfl hsx rfl hin) rfl ?_ | refine q_y (y_ix1 tabs (j := n) rfl rfl rfl hsF hn hnF) rfl ?_ | refine q_y (y_ix1 tabs (j := n) rfl rfl rfl hsT hn hnT) rfl ?_) | (show qA (.binOp _ _ _ _ _); first | refine q_y (y_sub rfl rfl om) rfl ?_ | refine q_y (y_neq rfl rfl) rfl ?_) | (show qA (.unOp _ _ _); refine q_y (y_notd rfl) rfl ?_) | (show qA (.call _); first | refine q_call (ent_of Tryz.func104 kr rfl) rfl rfl (fun w c => l1In_ok _ _ _) (fun u H' h => h.1) ?_ | refine qLn tabs rfl rfl rfl ?_) | (show qA (.pick _ _ _); refine q_y (y_pickf rfl aO rfl) rfl ?_) | refine q_gfy rfl rfl aO ?_) | (show QT _ _ _ _ _ _ []; first | refine q_nil (x_then ?_) | refine q_nil ?_) | (show AT _ _ _ _; first | refine x_then ?_ | refine x_blk ?_))
              refine x_nx (i + 1) sB ⟨by omega, fun k hk => ?_⟩ (fun w' c' => c') om
              by_cases hki : k = i
              · subst hki; exact hst.2 he
              · exact hnn k om
            · have hno : ¬ PathP (V, F, T) (s, l) := fun hP => he (hst.1 (hP.2.2.2 i hin))
              rw [decide_eq_false hno]
              repeat' (first | (show oL; first | refine sMv rfl rfl ?_ | refine sAs rfl rfl ?_ | refine sFd tabs rfl rfl rfl rfl ?_ | refine sLd 0 tabs rfl rfl rfl rfl rfl ?_ | refine sLs rfl rfl rfl ?_ | refine sLn tabs rfl rfl rfl ?_) | refine xNt ?_ | (show oC; first | refine c_seq ?_ | refine c_region ?_ | refine c_skip (x_then ?_) | refine c_block ?_ | refine c_ret ?_ | refine c_draw kr kr (fun _ c => Hp.drew c) ?_ | refine c_ift rfl aO ?_) | (show QT _ _ _ _ _ _ (_ :: _); first | refine qMv rfl rfl ?_ | refine qFd tabs rfl rfl rfl rfl ?_ | (show qA (.load _ _); first | refine q_y (y_load tabs rfl rfl (hc_w0 gx)) rfl ?_ | refine q_y (y_load tabs rfl rfl (hc_w0 (hgF n hnF))) rfl ?_ | refine qLd 0 tabs rfl rfl rfl rfl rfl ?_ | refine qLd 1 tabs rfl rfl rfl rfl rfl ?_) | (show qA (.indexAddr _ _ _); first | refine q_y (y_ix1 tabs (j := i) rfl rfl rfl hsx rfl hin) rfl ?_ | refine q_y (y_ix1 tabs (j := n) rfl rfl rfl hsF hn hnF) rfl ?_) | (show qA (.binOp _ _ _ _ _); first | refine q_y (y_sub rfl rfl om) rfl ?_ | refine q_y (y_neq rfl rfl) rfl ?_) | (show qA (.unOp _ _ _); refine q_y (y_notd rfl) rfl ?_) | (show qA (.call _); first | refine q_call (ent_of Tryz.func104 kr rfl) rfl rfl (fun w c => l1In_ok _ _ _) (fun u H' h => h.1) ?_ | refine qLn tabs rfl rfl rfl ?_) | (show qA (.pick _ _ _); refine q_y (y_pickf rfl aO rfl) rfl ?_) | refine q_gfy rfl rfl aO ?_) | (show QT _ _ _ _ _ _ []; refine q_nil (x_then ?_)) | (show AT _ _ _ _; first | refine x_then_ret ?_ | refine x_blk_ret ?_))
              exact x_ret1 Tryz.results144 (res_tmp rfl) (fun w' c' => ⟨_, _, rfl, ⟨rfl, rfl⟩, c'.sub (List.nil_sublist _)⟩)
          · have hno : ¬ PathP (V, F, T) (s, l) := fun hP => hr (hP.2.2.2 i hin).1
            rw [decide_eq_false hno]
            repeat' (first | (show oL; first | refine sMv rfl rfl ?_ | refine sAs rfl rfl ?_ | refine sFd tabs rfl rfl rfl rfl ?_ | refine sLd 0 tabs rfl rfl rfl rfl rfl ?_ | refine sLs rfl rfl rfl ?_ | refine sLn tabs rfl rfl rfl ?_) | refine xNt ?_ | (show oC; first | refine c_seq ?_ | refine c_region ?_ | refine c_skip (x_then ?_) | refine c_block ?_ | refine c_ret ?_ | refine c_draw kr kr (fun _ c => Hp.drew c) ?_ | refine c_true rfl ?_ | refine c_ift rfl aO ?_) | (show QT _ _ _ _ _ _ (_ :: _); first | refine qMv rfl rfl ?_ | refine qFd tabs rfl rfl rfl rfl ?_ | (show qA (.load _ _); first | refine q_y (y_load tabs rfl rfl (hc_w0 gx)) rfl ?_ | refine qLd 0 tabs rfl rfl rfl rfl rfl ?_ | refine qLd 1 tabs rfl rfl rfl rfl rfl ?_) | (show qA (.indexAddr _ _ _); refine q_y (y_ix1 tabs (j := i) rfl rfl rfl hsx rfl hin) rfl ?_) | (show qA (.binOp _ _ _ _ _); refine q_y (y_sub rfl rfl om) rfl ?_) | (show qA (.unOp _ _ _); refine q_y (y_notd rfl) rfl ?_) | (show qA (.call _); first | refine q_call (ent_of Tryz.func104 kr rfl) rfl rfl (fun w c => l1In_ok _ _ _) (fun u H' h => h.1) ?_ | refine qLn tabs rfl rfl rfl ?_) | (show qA (.pick _ _ _); refine q_y (y_pickt rfl aO rfl) rfl ?_) | refine q_gfn rfl rfl aO rfl ?_) | (show QT _ _ _ _ _ _ []; refine q_nil (x_then ?_)) | (show AT _ _ _ _; first | refine x_then_ret ?_ | refine x_blk_ret ?_))
            exact x_ret1 Tryz.results144 (res_tmp rfl) (fun w' c' => ⟨_, _, rfl, ⟨rfl, rfl⟩, c'.sub (List.nil_sublist _)⟩)
        · have : i = l.length := by omega
          subst this
          have hyes : PathP (V, F, T) (s, l) := ⟨hQ, hS1, hS2, hnn⟩
          rw [decide_eq_true hyes]
          repeat' (first | (show oL; first | refine sMv rfl rfl ?_ | refine sAs rfl rfl ?_ | refine sFd tabs rfl rfl rfl rfl ?_ | refine sLd 0 tabs rfl rfl rfl rfl rfl ?_ | refine sLs rfl rfl rfl ?_ | refine sLn tabs rfl rfl rfl ?_) | refine xNt ?_ | (show oC; first | refine c_seq ?_ | refine c_region ?_ | refine c_ret ?_ | refine c_exit ?_ | refine c_iff rfl nN ?_) | (show AT _ _ _ _; first | refine x_then ?_ | refine x_then_exit ?_ | refine x_blk_exit rfl ?_))
          exact x_ret1 Tryz.results144 (res_tmp rfl) (fun w' c' => ⟨_, _, rfl, ⟨rfl, rfl⟩, c'.sub (List.nil_sublist _)⟩)
    · have hno : ¬ PathP (V, F, T) (s, l) := fun hP => hS ⟨hP.2.1, hP.2.2.1⟩
      rw [decide_eq_false hno]
      have hcs : ¬ (0 ≤ s ∧ s ≤ V - 1) ∨ ((0 ≤ s ∧ s ≤ V - 1) ∧ ¬ l.length ≤ 20) := by grind
      refine fn_enter Tryz.func144 rfl Tryz.ntmps144 rfl ?_
      rcases hcs with hS1 | ⟨hS1, hS2⟩
      all_goals
        repeat' (first | (show oL; first | refine sMv rfl rfl ?_ | refine sAs rfl rfl ?_ | refine sFd tabs rfl rfl rfl rfl ?_ | (show oA (.load _ _); first | refine sLb 1 tabs rfl rfl rfl rfl rfl ?_ | refine sLd 0 tabs rfl rfl rfl rfl rfl ?_ | refine sLd 1 tabs rfl rfl rfl rfl rfl ?_) | (show oA (.binOp _ _ _ _ _); first | refine st_y (y_sub rfl rfl om) rfl ?_ | refine st_y (y_gtr rfl rfl) rfl ?_) | (show oA (.unOp _ _ _); refine st_y (y_notd rfl) rfl ?_) | (show oA (.call _); first | (refine m_call (ent_of Tryz.func77 kr rfl) rfl rfl (fun w c => spec_IsQuiver_ok (q := (V, F, T)) (c.rd h0) (c.rd h1)) ?_; rintro v H' ⟨rfl, rfl⟩) | (refine m_call (ent_of Tryz.func104 kr rfl) rfl rfl (fun w c => l1In_ok _ _ _) ?_; rintro v H' ⟨rfl, rfl⟩) | refine sLn tabs rfl rfl rfl ?_) | (show oA (.pick _ _ _); first | refine st_y (y_pickt rfl aO rfl) rfl ?_ | refine st_y (y_pickf rfl aO rfl) rfl ?_ | refine st_y (y_pick rfl rfl rfl) rfl ?_) | (show oA (.box _ _); refine m_box rfl rfl (fun b hb => ?_)) | refine st_gn rfl rfl rfl ?_ | refine st_gfy rfl rfl aO ?_ | refine st_gfn rfl rfl aO rfl ?_ | refine st_gd rfl rfl (fun h => ?_) (fun h => ?_)) | refine xNt ?_ | (show oC; first | refine c_seq ?_ | refine c_region ?_ | refine c_ret ?_ | refine c_true rfl ?_ | refine c_ift rfl aO ?_) | (show AT _ _ _ _; refine x_then_ret ?_))
      all_goals first | exact absurd hQ aS | skip
      all_goals exact x_ret1 Tryz.results144 (res_tmp rfl) (fun w' c' => ⟨_, _, rfl, ⟨rfl, rfl⟩, c'.sub (List.nil_sublist _)⟩)
  · have hno : ¬ PathP (V, F, T) (s, l) := fun hP => hQ hP.1
    rw [decide_eq_false hno]
    refine fn_enter Tryz.func144 rfl Tryz.ntmps144 rfl ?_
    repeat' (first | (show oL; first | refine sMv rfl rfl ?_ | refine sAs rfl rfl ?_ | refine sFd tabs rfl rfl rfl rfl ?_ | (show oA (.load _ _); first | refine sLb 1 tabs rfl rfl rfl rfl rfl ?_ | refine sLd 0 tabs rfl rfl rfl rfl rfl ?_) | (show oA (.unOp _ _ _); refine st_y (y_notd rfl) rfl ?_) | (show oA (.call _); (refine m_call (ent_of Tryz.func77 kr rfl) rfl rfl (fun w c => spec_IsQuiver_ok (q := (V, F, T)) (c.rd h0) (c.rd h1)) ?_; rintro v H' ⟨rfl, rfl⟩)) | (show oA (.pick _ _ _); first | refine st_y (y_pickt rfl aO rfl) rfl ?_ | refine st_y (y_pick rfl rfl rfl) rfl ?_) | (show oA (.box _ _); refine m_box rfl rfl (fun b hb => ?_)) | refine st_gn rfl rfl rfl ?_ | refine st_gfn rfl rfl aO rfl ?_) | refine xNt ?_ | (show oC; first | refine c_seq ?_ | refine c_region ?_ | refine c_ret ?_ | refine c_true rfl ?_) | (show AT _ _ _ _; refine x_then_ret ?_))
    all_goals exact x_ret1 Tryz.results144 (res_tmp rfl) (fun w' c' => ⟨_, _, rfl, ⟨rfl, rfl⟩, c'.sub (List.nil_sublist _)⟩)

end Go.Proofs.YtdnhmnnccfoliaaGreatDoor

namespace Go.Proofs.YtdnhmnnccfoliaaGreatDoor
open Go.Lg Go.Proofs Go.RowKit
attribute [local irreducible] Code.wp wpList bodyPost Exit.then Exit.inBlock Hp Again Calls Y AT ResV QT Qn QI wpAny wpAnyQ
set_option maxRecDepth 20000
set_option maxHeartbeats 4000000

theorem matP_cells {p : Int} {m : Mat} (h : MatP p m) : ∃ R C : Nat, m.1 = R ∧ m.2.1 = C ∧ R ≤ 8 ∧ C ≤ 8 ∧ m.2.2 = mk R C (matF m) ∧ inF p R C (matF m) := by
  obtain ⟨R, C, f, rfl, hR, hC, _, hin⟩ := matP_mk h
  refine ⟨R, C, rfl, rfl, hR, hC, mk_ext (fun i j hi hj => (matF_mk hi hj).symm), fun i j hi hj => ?_⟩
  rw [matF_mk hi hj]
  exact hin i j hi hj
def dimA (r : Rp) (x : Pa) (k : Nat) : Nat := (r.d.getD (atP r.q x k).toNat 0).toNat
def alF (r : Rp) (x : Pa) : Nat → Nat → Nat → Int
  | 0 => idF
  | k + 1 => mulF r.p (dimA r x k) (matF (r.m.getD (x.2.getD k 0).toNat mat0)) (alF r x k)
def alP (r : Rp) (x : Pa) : Prop := RepP r ∧ PathP r.q x
instance (r : Rp) (x : Pa) : Decidable (alP r x) := by unfold alP; infer_instance
def alM (r : Rp) (x : Pa) : Mat := if alP r x then ((dimA r x x.2.length : Int), (dimA r x 0 : Int), mk (dimA r x x.2.length) (dimA r x 0) (alF r x x.2.length)) else mat0
theorem RepP.dg {r : Rp} (h : RepP r) (n : Nat) : 0 ≤ r.d.getD n 0 ∧ r.d.getD n 0 ≤ 4 := (RepP.dd h).1 n
theorem dimA_le {r : Rp} {x : Pa} (h : RepP r) (k : Nat) : dimA r x k ≤ 4 := by
  have := h.dg (atP r.q x k).toNat
  unfold dimA; omega
theorem atP_in {q : Qv} {x : Pa} (h : PathP q x) : ∀ k, k ≤ x.2.length → 0 ≤ atP q x k ∧ atP q x k ≤ q.1 - 1
  | 0, _ => h.2.1
  | k + 1, hk => by
    have hs := (h.2.2.2 k om).1
    have hl := h.1.2.2.1
    exact inP_get h.1.2.2.2.2 om
theorem alF_in {r : Rp} {x : Pa} (hF : FieldP r.p) {R C : Nat} : ∀ k, inF r.p R C (alF r x k)
  | 0 => fun i j _ _ => by have := fieldP_pos hF; unfold alF idF; split <;> omega
  | k + 1 => inF_mul (by have := fieldP_pos hF; omega)
theorem arr_at {r : Rp} {x : Pa} {k : Nat} (h : alP r x) (hk : k < x.2.length) : ∃ n : Nat, x.2.getD k 0 = n ∧ n < r.m.length ∧ ∃ m : Mat, r.m[n]? = some m ∧ m.1 = dimA r x (k + 1) ∧ m.2.1 = dimA r x k ∧ m.2.2 = mk (dimA r x (k + 1)) (dimA r x k) (matF m) ∧ inF r.p (dimA r x (k + 1)) (dimA r x k) (matF m) ∧ r.m.getD (x.2.getD k 0).toNat mat0 = m := by
  obtain ⟨hR, hP⟩ := h
  obtain ⟨hs1, hs2⟩ := hP.2.2.2 k hk
  have hml := hR.2.2.1
  refine ⟨(x.2.getD k 0).toNat, by omega, by omega, ?_⟩
  have hn : (x.2.getD k 0).toNat < r.m.length := by omega
  obtain ⟨m, hm⟩ : ∃ m, r.m[(x.2.getD k 0).toNat]? = some m := ⟨_, List.getElem?_eq_getElem hn⟩
  have hmd : r.m.getD (x.2.getD k 0).toNat mat0 = m := by rw [List.getD, hm]; rfl
  obtain ⟨hM1, hM2, hM3⟩ := hR.2.2.2 _ hn
  rw [hmd] at hM1 hM2 hM3
  obtain ⟨R, C, e1, e2, _, _, e3, e4⟩ := matP_cells hM1
  have d1 : dimA r x (k + 1) = R := by unfold dimA; simp only [atP]; rw [← hM3]; omega
  have d2 : dimA r x k = C := by unfold dimA; rw [← hs2, ← hM2]; omega
  refine ⟨m, hm, ?_, ?_, ?_, ?_, hmd⟩
  · rw [d1, e1]
  · rw [d2, e2]
  · rw [d1, d2]; exact e3
  · rw [d1, d2]; exact e4
theorem along_ok {w : World} {r : Rp} {x : Pa} {e : Nat} {u0 u1 u2 u3 ux : Value} (h2 : Rd w (iT r.d) u2) (h3 : Rd w (matsT e r.m) u3) (hx : Rd w (iT x.2) ux) (hA : alP r x) :
    Does Tryz.prog 143 [.agg #[iV r.p, iV r.q.1, u0, u1, u2, u3], .agg #[iV x.1, ux]] w (GivesK (dimA r x x.2.length) (dimA r x 0) (alF r x x.2.length)) := by
  have hR := hA.1
  have hP := hA.2
  obtain ⟨a2, c2, rfl, hs2, _, hd2, hg2⟩ := h2.ints
  obtain ⟨a3, c3, rfl, hs3, _, hd3, hg3⟩ := rd_mats h3
  obtain ⟨ax, cx, rfl, hsx, _, hdx, hgx⟩ := hx.ints
  have hl20 := hP.2.2.1
  have hdl := hR.2.1.2.1
  have h00 := atP_in hP 0 (Nat.zero_le _)
  have hda := fun k => dimA_le (x := x) hR k
  have hdg := hR.dg (atP r.q x 0).toNat
  obtain ⟨s0, hs0⟩ : ∃ s0 : Nat, x.1 = s0 := ⟨x.1.toNat, by have := hP.2.1; omega⟩
  have hs0l : s0 < r.d.length := by simp only [atP] at h00; omega
  have hd0 : r.d.getD s0 0 = dimA r x 0 := by
    have : (atP r.q x 0).toNat = s0 := by simp only [atP]; omega
    rw [this] at hdg
    unfold dimA; rw [this]; omega
  refine fn_enter Tryz.func143 rfl Tryz.ntmps143 rfl ?_
  repeat' (first | (show oL; first | refine sMv rfl rfl ?_ | refine sFd tabs rfl rfl rfl rfl ?_ | (show oA (.load _ _); first | refine st_y (y_load tabs rfl rfl (hc_w0 (hg2 s0 hs0l))) rfl ?_ | refine sLd 1 tabs rfl rfl rfl rfl rfl ?_ | refine sLd 2 tabs rfl rfl rfl rfl rfl ?_ | refine sLd 3 tabs rfl rfl rfl rfl rfl ?_) | (show oA (.indexAddr _ _ _); refine st_y (y_ix1 tabs (j := s0) rfl rfl rfl hs2 hs0 hs0l) rfl ?_) | (show oA (.call _); first | (refine m_call (ent_of Tryz.func126 kr rfl) rfl rfl (fun w c => (by rw [hd0]; exact identity_ok (n := dimA r x 0) (by have := hda 0; omega))) ?_; rintro v H' ⟨am, cm, rfl, hsm, rfl⟩) | refine sLn tabs rfl rfl rfl ?_) | (show oA (.store _ _ _); refine m_storeb 0 tabs rfl rfl rfl rfl rfl rfl rfl ?_) | (show oA (.box _ _); refine m_box rfl rfl (fun b3 hb3 => ?_)) | (show oA (.alloc _); refine m_alloc tabs rfl rfl (fun b5 hb5 => ?_))) | refine xNt ?_ | (show oC; first | refine c_seq ?_ | refine c_region ?_ | refine c_block ?_))
  rename_i b2 hb2 b4 hb4
  refine c_loopH (α := Nat × Option Addr × Nat) [2, 4, 5, 16, 17] (fun s => [(18, .int .i64 s.1)]) (fun s => s.1 ≤ x.2.length ∧ SA s.2.1 (dimA r x s.1 * dimA r x 0)) (fun s => [.own (iT (mk (dimA r x s.1) (dimA r x 0) (alF r x s.1))) (.slice s.2.1 (dimA r x s.1 * dimA r x 0) s.2.2), .blk b5 #[iV (dimA r x s.1), iV (dimA r x 0), .slice s.2.1 (dimA r x s.1 * dimA r x 0) s.2.2] 41, .blk b4 #[iV 0, iV 0, .slice none 0 0] 41, .blk b3 #[iV x.1, .slice ax x.2.length cx] 78, .blk b2 #[iV r.p, iV r.q.1, u0, u1, .slice a2 r.d.length c2, .slice a3 r.m.length c3] 29]) (fun s => x.2.length - s.1) (0, am, cm) rfl sB ?_ ?_ ?_
  · exact ⟨Nat.zero_le _, hsm⟩
  · exact fun w' c' => c'.front (i := 1) rfl
  · rintro ⟨k, a, c⟩ ⟨hk, hsa⟩
    simp only at hk hsa ⊢
    by_cases hkl : k < x.2.length
    · obtain ⟨n, hn, hnl, m, hm, e1, e2, e3, e4, e5⟩ := arr_at hA hkl
      obtain ⟨a6, c6, g1, g2, g3, g4⟩ := hg3 n m hm
      rw [e1] at g1
      rw [e2] at g2
      rw [e3] at g4
      rw [e3, mk_length] at g3
      have hml : m.2.2.length = dimA r x (k + 1) * dimA r x k := by rw [e3, mk_length]
      rw [mk_length] at g4
      have gx := hgx k hkl
      rw [hn] at gx
      repeat' (first | (show oL; first | refine sAs rfl rfl ?_ | (show oA (.load _ _); refine st_y (y_load tabs rfl rfl (hc_w0 gx)) rfl ?_) | (show oA (.indexAddr _ _ _); refine st_y (y_ix1 tabs (j := k) rfl rfl rfl hsx rfl hkl) rfl ?_) | refine sLs rfl rfl rfl ?_) | refine xNt ?_ | (show oC; first | refine c_seq ?_ | refine c_region ?_ | refine c_skip (x_then ?_) | refine c_block ?_ | refine c_ift rfl aO ?_))
      refine c_mixR (Hp [] w [.blk b5 #[iV (dimA r x k), iV (dimA r x 0), .slice a (dimA r x k * dimA r x 0) c] 41, .blk b2 #[iV r.p, iV r.q.1, u0, u1, .slice a2 r.d.length c2, .slice a3 r.m.length c3] 29]) 9 kr kr kr kr kr (fun _ c => Hp.drew c) ?_
      refine h_take 0 rfl kr kr kr (by exact y_field tabs rfl rfl rfl) rfl sS ?_
      refine h_take 1 rfl kr kr kr (by exact y_load tabs rfl rfl (hc_blk 1 rfl rfl)) rfl sS ?_
      refine h_take 2 rfl kr kr kr (by exact y_field tabs rfl rfl rfl) rfl sS ?_
      refine h_take 3 rfl kr kr kr (by exact y_load tabs rfl rfl (hc_blk 1 rfl rfl)) rfl sS ?_
      refine h_take 4 rfl kr kr kr (by exact y_move rfl) rfl sS ?_
      refine h_take 5 rfl kr kr kr (by exact y_ixa tabs rfl rfl rfl hs3 om om) rfl sS ?_
      refine h_take 6 rfl kr kr kr (by exact y_load3 tabs rfl rfl (hc_w0 g1) (hc_w0 g2) (hc_w0 g3)) rfl sS ?_
      refine h_take 7 rfl kr kr kr (by exact y_loadb 0 tabs rfl rfl rfl rfl) rfl sS ?_
      refine h_only 8 rfl kr ?_
      (refine m_call (ent_of Tryz.func110 kr rfl) rfl rfl (fun w c => times_ok (c.rd g4) (c.own_rd (i := 0) rfl) hR.1 (by have := hda (k + 1); omega) (by have := hda k; omega) (by have := hda 0; omega) e4 (alF_in hR.1 k)) ?_; rintro v H' ⟨a7, c7, rfl, hs7, rfl⟩)
      refine c_nil (x_one (h_keep sS ?_))
      refine h_end kr ?_
      repeat' (first | (show oL; first | refine sMv rfl rfl ?_ | refine sAd rfl rfl om rfl ?_ | (show oA (.store _ _ _); refine m_storeb 2 tabs rfl rfl rfl rfl rfl rfl rfl ?_)) | (show oN; first | refine c_nil (x_then ?_) | refine c_nil ?_) | (show oC; refine c_region ?_) | (show AT _ _ _ _; first | refine x_then ?_ | refine x_blk ?_))
      refine x_nx (k + 1, a7, c7) sB ⟨by simp only; omega, hs7⟩ (fun w' c' => ?_) (by simp only; omega)
      have e0 : mulF r.p (dimA r x k) (matF m) (alF r x k) = alF r x (k + 1) := by rw [alF, e5]
      rw [e0] at c'
      exact c'.sub (.cons_cons _ (.cons _ (List.Sublist.refl _)))
    · have : k = x.2.length := by omega
      subst this
      repeat' (first | (show oL; first | refine sLb 1 tabs rfl rfl rfl rfl rfl ?_ | refine sLs rfl rfl rfl ?_ | (show oA (.store _ _ _); refine m_storeb 2 tabs rfl rfl rfl rfl rfl rfl rfl ?_)) | refine xNt ?_ | (show oC; first | refine c_seq ?_ | refine c_region ?_ | refine c_ret ?_ | refine c_exit ?_ | refine c_iff rfl nN ?_) | (show AT _ _ _ _; first | refine x_then ?_ | refine x_then_exit ?_ | refine x_blk_exit rfl ?_))
      exact x_ret1 Tryz.results143 (res_cellb 2 tabs rfl rfl rfl rfl) (fun w' c' => ⟨_, _, rfl, ⟨_, _, rfl, hsa, rfl⟩, c'.sub (.cons_cons _ (List.nil_sublist _))⟩)
theorem impl_MapAlong_ok {w : World} {r : Rp} {x : Pa} {e : Nat} {u0 u1 u2 u3 ux : Value} (h0 : Rd w (iT r.q.2.1) u0) (h1 : Rd w (iT r.q.2.2) u1) (h2 : Rd w (iT r.d) u2) (h3 : Rd w (matsT e r.m) u3) (hx : Rd w (iT x.2) ux) :
    Does Tryz.prog 62 [.agg #[iV r.p, iV r.q.1, u0, u1, u2, u3], .agg #[iV x.1, ux]] w (GivesMB (alM r x) (decide (alP r x))) := by
  by_cases hA : alP r x
  · have hA1 := hA.1
    have hA2 := hA.2
    rw [alM, if_pos hA, decide_eq_true hA]
    refine fn_enter Tryz.func62 rfl Tryz.ntmps62 rfl ?_
    repeat' (first | (show oL; first | refine sMv rfl rfl ?_ | refine sAs rfl rfl ?_ | refine sFd tabs rfl rfl rfl rfl ?_ | (show oA (.load _ _); first | refine st_y (y_load3 tabs rfl rfl (hc_blk 2 rfl rfl) (hc_blk 2 rfl rfl) (hc_blk 2 rfl rfl)) rfl ?_ | refine sLb 1 tabs rfl rfl rfl rfl rfl ?_ | refine sLb 2 tabs rfl rfl rfl rfl rfl ?_) | (show oA (.unOp _ _ _); refine st_y (y_notd rfl) rfl ?_) | (show oA (.call _); first | (refine m_call (ent_of Tryz.func52 kr rfl) rfl rfl (fun w c => impl_IsRep_ok (r := r) (c.rd h0) (c.rd h1) (c.rd h2) (c.rd h3)) ?_; rintro v H' ⟨rfl, rfl⟩) | (refine m_call (ent_of Tryz.func142 kr rfl) rfl rfl (fun w c => impl_IsPath_ok (q := r.q) (x := x) (c.rd h0) (c.rd h1) (c.rd hx)) ?_; rintro v H' ⟨rfl, rfl⟩) | (refine m_call (ent_of Tryz.func143 kr rfl) rfl rfl (fun w c => along_ok (r := r) (x := x) (c.rd h2) (c.rd h3) (c.rd hx) hA) ?_; rintro v H' ⟨a, c, rfl, hs, rfl⟩)) | (show oA (.pick _ _ _); first | refine st_y (y_pickt rfl aS rfl) rfl ?_ | refine st_y (y_pickf rfl aS rfl) rfl ?_) | (show oA (.store _ _ _); refine m_storeb 1 tabs rfl rfl rfl rfl rfl rfl rfl ?_) | (show oA (.box _ _); refine m_box rfl rfl (fun b3 hb3 => ?_)) | (show oA (.alloc _); refine m_alloc tabs rfl rfl (fun b5 hb5 => ?_)) | refine st_gfy rfl rfl aS ?_ | refine st_gfn rfl rfl aS rfl ?_ | refine st_gd rfl rfl (fun h => ?_) (fun h => ?_)) | refine xNt ?_ | (show oC; first | refine c_seq ?_ | refine c_region ?_ | refine c_skip (x_then ?_) | refine c_ret ?_ | refine c_true rfl ?_ | refine c_iff rfl nN ?_))
    all_goals first | exact absurd hA1 aS | exact absurd hA2 aS | skip
    exact x_ret2 Tryz.results62 (res_cellb 1 tabs rfl rfl rfl rfl) (res_tmp rfl) (fun w' c' => ⟨_, _, rfl, ⟨a, c, by simp, by simpa using hs, by simp⟩, c'.sub (.cons_cons _ (List.nil_sublist _))⟩)
  · rw [alM, if_neg hA, decide_eq_false hA]
    have hcs : ¬ RepP r ∨ (RepP r ∧ ¬ PathP r.q x) := by unfold alP at hA; grind
    refine fn_enter Tryz.func62 rfl Tryz.ntmps62 rfl ?_
    rcases hcs with hA1 | ⟨hA1, hA2⟩
    all_goals
      repeat' (first | (show oL; first | refine sMv rfl rfl ?_ | refine sAs rfl rfl ?_ | refine sFd tabs rfl rfl rfl rfl ?_ | (show oA (.load _ _); first | refine st_y (y_load3 tabs rfl rfl (hc_blk 2 rfl rfl) (hc_blk 2 rfl rfl) (hc_blk 2 rfl rfl)) rfl ?_ | refine sLb 1 tabs rfl rfl rfl rfl rfl ?_ | refine sLb 2 tabs rfl rfl rfl rfl rfl ?_) | (show oA (.unOp _ _ _); refine st_y (y_notd rfl) rfl ?_) | (show oA (.call _); first | (refine m_call (ent_of Tryz.func52 kr rfl) rfl rfl (fun w c => impl_IsRep_ok (r := r) (c.rd h0) (c.rd h1) (c.rd h2) (c.rd h3)) ?_; rintro v H' ⟨rfl, rfl⟩) | (refine m_call (ent_of Tryz.func142 kr rfl) rfl rfl (fun w c => impl_IsPath_ok (q := r.q) (x := x) (c.rd h0) (c.rd h1) (c.rd hx)) ?_; rintro v H' ⟨rfl, rfl⟩)) | (show oA (.pick _ _ _); first | refine st_y (y_pickt rfl aS rfl) rfl ?_ | refine st_y (y_pickf rfl aS rfl) rfl ?_) | (show oA (.store _ _ _); refine m_storeb 0 tabs rfl rfl rfl rfl rfl rfl rfl ?_) | (show oA (.box _ _); refine m_box rfl rfl (fun b3 hb3 => ?_)) | (show oA (.alloc _); refine m_alloc tabs rfl rfl (fun b5 hb5 => ?_)) | (show oA (.build _ _); refine st_y (y_bld0 bld_mat0) rfl ?_) | refine st_gfy rfl rfl aS ?_ | refine st_gfn rfl rfl aS rfl ?_ | refine st_gd rfl rfl (fun h => ?_) (fun h => ?_)) | refine xNt ?_ | (show oC; first | refine c_seq ?_ | refine c_region ?_ | refine c_ret ?_ | refine c_true rfl ?_ | refine c_ift rfl aO ?_) | (show AT _ _ _ _; refine x_then_ret ?_))
    all_goals exact x_ret2 Tryz.results62 (res_cellb 0 tabs rfl rfl rfl rfl) (res_tmp rfl) (fun w' c' => ⟨_, _, rfl, ⟨none, 0, rfl, .inl rfl, rfl⟩, Hp.nilp _ _ (c'.sub (List.nil_sublist _))⟩)
theorem spec_MapAlong_ok {w : World} {r : Rp} {x : Pa} {e : Nat} {u0 u1 u2 u3 ux : Value} (h0 : Rd w (iT r.q.2.1) u0) (h1 : Rd w (iT r.q.2.2) u1) (h2 : Rd w (iT r.d) u2) (h3 : Rd w (matsT e r.m) u3) (hx : Rd w (iT x.2) ux) :
    Does Tryz.prog 63 [.agg #[iV r.p, iV r.q.1, u0, u1, u2, u3], .agg #[iV x.1, ux]] w (GivesMB (alM r x) (decide (alP r x))) := by
  by_cases hA : alP r x
  · have hR := hA.1
    have hP := hA.2
    rw [alM, if_pos hA, decide_eq_true hA]
    obtain ⟨a2, c2, rfl, hs2, _, hd2, hg2⟩ := h2.ints
    obtain ⟨a3, c3, rfl, hs3, _, hd3, hg3⟩ := rd_mats h3
    obtain ⟨ax, cx, rfl, hsx, _, hdx, hgx⟩ := hx.ints
    have hl20 := hP.2.2.1
    have hdl := hR.2.1.2.1
    have h00 := atP_in hP 0 (Nat.zero_le _)
    have hda := fun k => dimA_le (x := x) hR k
    have hdg := hR.dg (atP r.q x 0).toNat
    obtain ⟨s0, hs0⟩ : ∃ s0 : Nat, x.1 = s0 := ⟨x.1.toNat, by have := hP.2.1; omega⟩
    have hs0l : s0 < r.d.length := by simp only [atP] at h00; omega
    have hd0 : r.d.getD s0 0 = dimA r x 0 := by
      have : (atP r.q x 0).toNat = s0 := by simp only [atP]; omega
      rw [this] at hdg
      unfold dimA; rw [this]; omega
    refine fn_enter Tryz.func63 rfl Tryz.ntmps63 rfl ?_
    repeat' (first | (show oL; first | refine sMv rfl rfl ?_ | refine sAs rfl rfl ?_ | refine sFd tabs rfl rfl rfl rfl ?_ | (show oA (.load _ _); first | refine st_y (y_load3 tabs rfl rfl (hc_blk 2 rfl rfl) (hc_blk 2 rfl rfl) (hc_blk 2 rfl rfl)) rfl ?_ | refine st_y (y_load tabs rfl rfl (hc_w0 (hg2 s0 hs0l))) rfl ?_ | refine sLd 1 tabs rfl rfl rfl rfl rfl ?_ | refine sLd 2 tabs rfl rfl rfl rfl rfl ?_ | refine sLb 1 tabs rfl rfl rfl rfl rfl ?_ | refine sLb 2 tabs rfl rfl rfl rfl rfl ?_) | (show oA (.indexAddr _ _ _); refine st_y (y_ix1 tabs (j := s0) rfl rfl rfl hs2 hs0 hs0l) rfl ?_) | (show oA (.unOp _ _ _); refine st_y (y_notd rfl) rfl ?_) | (show oA (.call _); first | (refine m_call (ent_of Tryz.func53 kr rfl) rfl rfl (fun w c => spec_IsRep_ok (r := r) (c.rd h0) (c.rd h1) (c.rd h2) (c.rd h3)) ?_; rintro v H' ⟨rfl, rfl⟩) | (refine m_call (ent_of Tryz.func144 kr rfl) rfl rfl (fun w c => spec_IsPath_ok (q := r.q) (x := x) (c.rd h0) (c.rd h1) (c.rd hx)) ?_; rintro v H' ⟨rfl, rfl⟩) | (refine m_call (ent_of Tryz.func127 kr rfl) rfl rfl (fun w c => (by rw [hd0]; exact l3Identity_ok (n := dimA r x 0) (by have := hda 0; omega))) ?_; rintro v H' ⟨am, cm, rfl, hsm, rfl⟩)) | (show oA (.pick _ _ _); first | refine st_y (y_pickt rfl aS rfl) rfl ?_ | refine st_y (y_pickf rfl aS rfl) rfl ?_) | (show oA (.store _ _ _); refine m_storeb 0 tabs rfl rfl rfl rfl rfl rfl rfl ?_) | (show oA (.box _ _); refine m_box rfl rfl (fun b3 hb3 => ?_)) | (show oA (.alloc _); refine m_alloc tabs rfl rfl (fun b5 hb5 => ?_)) | refine st_gfy rfl rfl aS ?_ | refine st_gfn rfl rfl aS rfl ?_ | refine st_gd rfl rfl (fun h => ?_) (fun h => ?_)) | refine xNt ?_ | (show oC; first | refine c_seq ?_ | refine c_region ?_ | refine c_skip (x_then ?_) | refine c_block ?_ | refine c_true rfl ?_ | refine c_iff rfl nN ?_))
    all_goals first | exact absurd hR aS | exact absurd hP aS | skip
    rename_i b2 hb2 b4 hb4
    refine c_loopH (α := Nat × Option Addr × Nat) [2, 3, 4, 6] (fun s => [(7, .int .i64 s.1)]) (fun s => s.1 ≤ x.2.length ∧ SA s.2.1 (dimA r x s.1 * dimA r x 0)) (fun s => [.own (iT (mk (dimA r x s.1) (dimA r x 0) (alF r x s.1))) (.slice s.2.1 (dimA r x s.1 * dimA r x 0) s.2.2), .blk b5 #[iV (dimA r x s.1), iV (dimA r x 0), .slice s.2.1 (dimA r x s.1 * dimA r x 0) s.2.2] 41, .blk b4 #[iV 0, iV 0, .slice none 0 0] 41, .blk b3 #[iV x.1, .slice ax x.2.length cx] 78, .blk b2 #[iV r.p, iV r.q.1, u0, u1, .slice a2 r.d.length c2, .slice a3 r.m.length c3] 29]) (fun s => x.2.length - s.1) (0, am, cm) rfl sB ?_ ?_ ?_
    · exact ⟨Nat.zero_le _, hsm⟩
    · exact fun w' c' => c'.front (i := 1) rfl
    · rintro ⟨k, a, c⟩ ⟨hk, hsa⟩
      simp only at hk hsa ⊢
      by_cases hkl : k < x.2.length
      · obtain ⟨n, hn, hnl, m, hm, e1, e2, e3, e4, e5⟩ := arr_at hA hkl
        obtain ⟨a6, c6, g1, g2, g3, g4⟩ := hg3 n m hm
        rw [e1] at g1
        rw [e2] at g2
        rw [e3] at g4
        rw [e3, mk_length] at g3
        rw [mk_length] at g4
        have gx := hgx k hkl
        rw [hn] at gx
        repeat' (first | (show oL; first | refine sMv rfl rfl ?_ | refine sFd tabs rfl rfl rfl rfl ?_ | refine sLd 3 tabs rfl rfl rfl rfl rfl ?_ | refine sLs rfl rfl rfl ?_ | refine sLn tabs rfl rfl rfl ?_) | refine xNt ?_ | (show oC; first | refine c_seq ?_ | refine c_region ?_ | refine c_skip (x_then ?_) | refine c_block ?_ | refine c_ift rfl aO ?_))
        refine c_mixR (Hp [] w [.blk b5 #[iV (dimA r x k), iV (dimA r x 0), .slice a (dimA r x k * dimA r x 0) c] 41, .blk b3 #[iV x.1, .slice ax x.2.length cx] 78, .blk b2 #[iV r.p, iV r.q.1, u0, u1, .slice a2 r.d.length c2, .slice a3 r.m.length c3] 29]) 13 kr kr kr kr kr (fun _ c => Hp.drew c) ?_
        refine h_take 0 rfl kr kr kr (by exact y_field tabs rfl rfl rfl) rfl sS ?_
        refine h_take 1 rfl kr kr kr (by exact y_load tabs rfl rfl (hc_blk 2 rfl rfl)) rfl sS ?_
        refine h_take 2 rfl kr kr kr (by exact y_field tabs rfl rfl rfl) rfl sS ?_
        refine h_take 3 rfl kr kr kr (by exact y_load tabs rfl rfl (hc_blk 2 rfl rfl)) rfl sS ?_
        refine h_take 4 rfl kr kr kr (by exact y_field tabs rfl rfl rfl) rfl sS ?_
        refine h_take 5 rfl kr kr kr (by exact y_load tabs rfl rfl (hc_blk 1 rfl rfl)) rfl sS ?_
        refine h_take 6 rfl kr kr kr (by exact y_move rfl) rfl sS ?_
        refine h_take 7 rfl kr kr kr (by exact y_ix1 tabs (j := k) rfl rfl rfl hsx rfl hkl) rfl sS ?_
        refine h_take 8 rfl kr kr kr (by exact y_load tabs rfl rfl (hc_w0 gx)) rfl sS ?_
        refine h_take 9 rfl kr kr kr (by exact y_ixa tabs rfl rfl rfl hs3 om om) rfl sS ?_
        refine h_take 10 rfl kr kr kr (by exact y_load3 tabs rfl rfl (hc_w0 g1) (hc_w0 g2) (hc_w0 g3)) rfl sS ?_
        refine h_take 11 rfl kr kr kr (by exact y_loadb 0 tabs rfl rfl rfl rfl) rfl sS ?_
        refine h_only 12 rfl kr ?_
        (refine m_call (ent_of Tryz.func111 kr rfl) rfl rfl (fun w c => l3Multiply_ok (c.rd g4) (c.own_rd (i := 0) rfl) hR.1 (by have := hda (k + 1); omega) (by have := hda k; omega) (by have := hda 0; omega) e4 (alF_in hR.1 k)) ?_; rintro v H' ⟨a7, c7, rfl, hs7, rfl⟩)
        refine c_nil (x_one (h_keep sS ?_))
        refine h_end kr ?_
        repeat' (first | (show oL; first | refine sMv rfl rfl ?_ | refine sAs rfl rfl ?_ | refine sAd rfl rfl om rfl ?_ | (show oA (.store _ _ _); refine m_storeb 2 tabs rfl rfl rfl rfl rfl rfl rfl ?_)) | (show oN; first | refine c_nil (x_then ?_) | refine c_nil ?_) | (show oC; refine c_region ?_) | (show AT _ _ _ _; first | refine x_then ?_ | refine x_blk ?_))
        refine x_nx (k + 1, a7, c7) sB ⟨by simp only; omega, hs7⟩ (fun w' c' => ?_) (by simp only; omega)
        have e0 : mulF r.p (dimA r x k) (matF m) (alF r x k) = alF r x (k + 1) := by rw [alF, e5]
        rw [e0] at c'
        exact c'.sub (.cons_cons _ (.cons _ (List.Sublist.refl _)))
      · have : k = x.2.length := by omega
        subst this
        repeat' (first | (show oL; first | refine sMv rfl rfl ?_ | refine sAs rfl rfl ?_ | refine sFd tabs rfl rfl rfl rfl ?_ | (show oA (.load _ _); first | refine sLd 3 tabs rfl rfl rfl rfl rfl ?_ | refine sLb 1 tabs rfl rfl rfl rfl rfl ?_) | refine sLs rfl rfl rfl ?_ | refine sLn tabs rfl rfl rfl ?_ | (show oA (.store _ _ _); refine m_storeb 2 tabs rfl rfl rfl rfl rfl rfl rfl ?_)) | refine xNt ?_ | (show oC; first | refine c_seq ?_ | refine c_region ?_ | refine c_ret ?_ | refine c_exit ?_ | refine c_iff rfl nN ?_) | (show AT _ _ _ _; first | refine x_then ?_ | refine x_then_exit ?_ | refine x_blk_exit rfl ?_))
        exact x_ret2 Tryz.results63 (res_cellb 2 tabs rfl rfl rfl rfl) (res_tmp rfl) (fun w' c' => ⟨_, _, rfl, ⟨a, c, by simp, by simpa using hsa, by simp⟩, c'.sub (.cons_cons _ (List.nil_sublist _))⟩)
  · rw [alM, if_neg hA, decide_eq_false hA]
    have hcs : ¬ RepP r ∨ (RepP r ∧ ¬ PathP r.q x) := by unfold alP at hA; grind
    refine fn_enter Tryz.func63 rfl Tryz.ntmps63 rfl ?_
    rcases hcs with hA1 | ⟨hA1, hA2⟩
    all_goals
      repeat' (first | (show oL; first | refine sMv rfl rfl ?_ | refine sAs rfl rfl ?_ | refine sFd tabs rfl rfl rfl rfl ?_ | (show oA (.load _ _); first | refine st_y (y_load3 tabs rfl rfl (hc_blk 2 rfl rfl) (hc_blk 2 rfl rfl) (hc_blk 2 rfl rfl)) rfl ?_ | refine sLb 1 tabs rfl rfl rfl rfl rfl ?_ | refine sLb 2 tabs rfl rfl rfl rfl rfl ?_) | (show oA (.unOp _ _ _); refine st_y (y_notd rfl) rfl ?_) | (show oA (.call _); first | (refine m_call (ent_of Tryz.func53 kr rfl) rfl rfl (fun w c => spec_IsRep_ok (r := r) (c.rd h0) (c.rd h1) (c.rd h2) (c.rd h3)) ?_; rintro v H' ⟨rfl, rfl⟩) | (refine m_call (ent_of Tryz.func144 kr rfl) rfl rfl (fun w c => spec_IsPath_ok (q := r.q) (x := x) (c.rd h0) (c.rd h1) (c.rd hx)) ?_; rintro v H' ⟨rfl, rfl⟩)) | (show oA (.pick _ _ _); first | refine st_y (y_pickt rfl aS rfl) rfl ?_ | refine st_y (y_pickf rfl aS rfl) rfl ?_) | (show oA (.store _ _ _); refine m_storeb 0 tabs rfl rfl rfl rfl rfl rfl rfl ?_) | (show oA (.box _ _); refine m_box rfl rfl (fun b3 hb3 => ?_)) | (show oA (.alloc _); refine m_alloc tabs rfl rfl (fun b5 hb5 => ?_)) | (show oA (.build _ _); refine st_y (y_bld0 bld_mat0) rfl ?_) | refine st_gfy rfl rfl aS ?_ | refine st_gfn rfl rfl aS rfl ?_ | refine st_gd rfl rfl (fun h => ?_) (fun h => ?_)) | refine xNt ?_ | (show oC; first | refine c_seq ?_ | refine c_region ?_ | refine c_ret ?_ | refine c_true rfl ?_ | refine c_ift rfl aO ?_) | (show AT _ _ _ _; refine x_then_ret ?_))
    all_goals exact x_ret2 Tryz.results63 (res_cellb 0 tabs rfl rfl rfl rfl) (res_tmp rfl) (fun w' c' => ⟨_, _, rfl, ⟨none, 0, rfl, .inl rfl, rfl⟩, Hp.nilp _ _ (c'.sub (List.nil_sublist _))⟩)
end Go.Proofs.YtdnhmnnccfoliaaGreatDoor
