import Derived.Test.YtcplmeajmpkpkaaGreatQuiqsp
namespace Go.Proofs.YtcplmeajmpkpkaaGreat
open Go.Lg Go.Proofs Go.RowKit
attribute [local irreducible] Code.wp wpList bodyPost Exit.then Exit.inBlock Hp Again Calls Y AT ResV QT
set_option maxRecDepth 20000
set_option maxHeartbeats 4000000

def FieldP (p : Int) : Prop := p = 2 ∨ p = 3 ∨ p = 5
instance (p : Int) : Decidable (FieldP p) := by unfold FieldP; infer_instance
def InP (lo hi : Int) (xs : List Int) : Prop := ∀ x ∈ xs, lo ≤ x ∧ x ≤ hi
instance (lo hi : Int) (xs : List Int) : Decidable (InP lo hi xs) := by unfold InP; infer_instance
def VecP (p : Int) (xs : List Int) : Prop := FieldP p ∧ xs.length ≤ 64 ∧ InP 0 (p - 1) xs
instance (p : Int) (xs : List Int) : Decidable (VecP p xs) := by unfold VecP; infer_instance
def MatP (p : Int) (m : Mat) : Prop := (0 ≤ m.1 ∧ m.1 ≤ 8) ∧ (0 ≤ m.2.1 ∧ m.2.1 ≤ 8) ∧ (m.2.2.length : Int) = m.1 * m.2.1 ∧ VecP p m.2.2
instance (p : Int) (m : Mat) : Decidable (MatP p m) := by unfold MatP; infer_instance

theorem spec_IsField_ok {w : World} (p : Int) : Does Tryz.prog 74 [iV p] w (fun v H => v = .bool (decide (FieldP p)) ∧ H = []) := by
  refine fn_enter Tryz.func74 rfl Tryz.ntmps74 rfl ?_
  repeat' (first | (show oL; first | refine sMv rfl rfl ?_ | refine sAs rfl rfl ?_ | (show oA (.binOp _ _ _ _ _); refine st_y (y_eql rfl rfl) rfl ?_) | (show oA (.pick _ _ _); first | refine st_y (y_pickt rfl aS rfl) rfl ?_ | refine st_y (y_pickf rfl aS rfl) rfl ?_ | refine st_y (y_pick rfl rfl rfl) rfl ?_) | refine st_gn rfl rfl rfl ?_ | refine st_gfy rfl rfl aS ?_ | refine st_gfn rfl rfl aS rfl ?_ | refine st_gd rfl rfl (fun h => ?_) (fun h => ?_)) | refine xNt ?_ | (show oC; first | refine c_seq ?_ | refine c_region ?_ | refine c_ret ?_))
  all_goals refine x_ret1 Tryz.results74 (res_tmp rfl) (fun w c => ⟨_, _, rfl, ⟨?_, rfl⟩, c⟩)
  all_goals simp_all [FieldP]
theorem impl_IsField_ok {w : World} (p : Int) : Does Tryz.prog 45 [iV p] w (fun v H => v = .bool (decide (FieldP p)) ∧ H = []) := by
  refine fn_enter Tryz.func45 rfl Tryz.ntmps45 rfl ?_
  repeat' (first | (show oL; first | refine sMv rfl rfl ?_ | refine sAs rfl rfl ?_ | (show oA (.binOp _ _ _ _ _); refine st_y (y_eql rfl rfl) rfl ?_) | (show oA (.pick _ _ _); first | refine st_y (y_pickt rfl aS rfl) rfl ?_ | refine st_y (y_pickf rfl aS rfl) rfl ?_ | refine st_y (y_pick rfl rfl rfl) rfl ?_) | refine st_gn rfl rfl rfl ?_ | refine st_gfy rfl rfl aS ?_ | refine st_gfn rfl rfl aS rfl ?_ | refine st_gd rfl rfl (fun h => ?_) (fun h => ?_)) | refine xNt ?_ | (show oC; first | refine c_seq ?_ | refine c_region ?_ | refine c_ret ?_))
  all_goals refine x_ret1 Tryz.results45 (res_tmp rfl) (fun w c => ⟨_, _, rfl, ⟨?_, rfl⟩, c⟩)
  all_goals simp_all [FieldP]
theorem l1In_ok {w : World} (x lo hi : Int) : Does Tryz.prog 75 [iV x, iV lo, iV hi] w (fun v H => v = .bool (decide (lo ≤ x ∧ x ≤ hi)) ∧ H = []) := by
  refine fn_enter Tryz.func75 rfl Tryz.ntmps75 rfl ?_
  repeat' (first | (show oL; first | refine sMv rfl rfl ?_ | refine sAs rfl rfl ?_ | (show oA (.binOp _ _ _ _ _); first | refine st_y (y_leq rfl rfl) rfl ?_ | refine st_y (y_geq rfl rfl) rfl ?_) | (show oA (.pick _ _ _); first | refine st_y (y_pickt rfl aS rfl) rfl ?_ | refine st_y (y_pickf rfl aS rfl) rfl ?_) | refine st_gdy rfl rfl aS ?_ | refine st_gdn rfl rfl aS rfl ?_ | refine st_gd rfl rfl (fun h => ?_) (fun h => ?_)) | refine xNt ?_ | (show oC; first | refine c_seq ?_ | refine c_region ?_ | refine c_ret ?_))
  all_goals refine x_ret1 Tryz.results75 (res_tmp rfl) (fun w c => ⟨_, _, rfl, ⟨?_, rfl⟩, c⟩)
  all_goals first | (simp_all; done) | (simp_all; omega)
theorem within_ok {w : World} (x lo hi : Int) : Does Tryz.prog 51 [iV x, iV lo, iV hi] w (fun v H => v = .bool (decide (lo ≤ x ∧ x ≤ hi)) ∧ H = []) := by
  refine fn_enter Tryz.func51 rfl Tryz.ntmps51 rfl ?_
  repeat' (first | (show oL; first | refine sMv rfl rfl ?_ | refine sAs rfl rfl ?_ | (show oA (.binOp _ _ _ _ _); first | refine st_y (y_leq rfl rfl) rfl ?_ | refine st_y (y_geq rfl rfl) rfl ?_) | (show oA (.pick _ _ _); first | refine st_y (y_pickt rfl aS rfl) rfl ?_ | refine st_y (y_pickf rfl aS rfl) rfl ?_) | refine st_gdy rfl rfl aS ?_ | refine st_gdn rfl rfl aS rfl ?_ | refine st_gd rfl rfl (fun h => ?_) (fun h => ?_)) | refine xNt ?_ | (show oC; first | refine c_seq ?_ | refine c_region ?_ | refine c_ret ?_))
  all_goals refine x_ret1 Tryz.results51 (res_tmp rfl) (fun w c => ⟨_, _, rfl, ⟨?_, rfl⟩, c⟩)
  all_goals first | (simp_all; done) | (simp_all; omega)
theorem allWithin1_ok {w : World} {x lo hi : Int} {b b' : Nat} (h : w.cell? ⟨b, 0, none⟩ = some (iV lo)) (h' : w.cell? ⟨b', 0, none⟩ = some (iV hi)) :
    Does Tryz.prog 124 [iV x, .pointer (some ⟨b, 0, none⟩), .pointer (some ⟨b', 0, none⟩)] w (fun v H => v = .bool (decide (¬ (lo ≤ x ∧ x ≤ hi))) ∧ H = []) := by
  refine fn_enter Tryz.func124 rfl Tryz.ntmps124 rfl ?_
  repeat' (first | (show oL; first | refine sMv rfl rfl ?_ | refine sAs rfl rfl ?_ | (show oA (.load _ _); first | refine st_y (y_load tabs rfl rfl (hc_w0 h)) rfl ?_ | refine st_y (y_load tabs rfl rfl (hc_w0 h')) rfl ?_) | (show oA (.unOp _ _ _); refine st_y (y_notd rfl) rfl ?_) | (show oA (.call _); (refine m_call (ent_of Tryz.func51 kr rfl) rfl rfl (fun w c => within_ok _ _ _) ?_; rintro v H' ⟨rfl, rfl⟩))) | refine xNt ?_ | (show oC; first | refine c_seq ?_ | refine c_region ?_ | refine c_ret ?_))
  all_goals refine x_ret1 Tryz.results124 (res_tmp rfl) (fun w c => ⟨_, _, rfl, ⟨?_, rfl⟩, c⟩)
  all_goals rw [decide_not]
theorem IndexFunc_ok {w : World} {v : Value} {xs : List Int} {g : Nat} {cap : Array Value} {p : Int → Prop} [DecidablePred p] (hr : Rd w (iT xs) v) (he : Ent Tryz.prog g)
    (hf : ∀ w' x, Hp [] w [] w' → Does Tryz.prog g ([iV x] ++ cap.toList) w' (fun r H => r = .bool (decide (p x)) ∧ H = [])) :
    Does Tryz.prog 125 [v, .func (.func g) #[] cap] w (fun r H => (∃ k, r = iV k ∧ (0 ≤ k ↔ ∃ x ∈ xs, p x)) ∧ H = []) := by
  obtain ⟨a, c, rfl, hs, hc1, hc2, hget⟩ := hr.ints
  unfold maxLen at hc2
  refine fn_enter Tryz.func125 rfl Tryz.ntmps125 rfl ?_
  repeat' (first | (show oL; first | refine sMv rfl rfl ?_ | refine sAs rfl rfl ?_ | refine sLn tabs rfl rfl rfl ?_) | refine xNt ?_ | (show oC; first | refine c_seq ?_ | refine c_region ?_ | refine c_block ?_))
  refine c_loop (fun i : Nat => [(0, .slice a xs.length c), (1, .func (.func g) #[] cap), (7, iV xs.length), (8, .int .i64 i)])
    (fun i w' => (i ≤ xs.length ∧ ∀ x ∈ xs.take i, ¬ p x) ∧ Hp [] w [] w') (fun i => xs.length - i) 0 ?_ ?_ ?_
  · exact sB
  · intro w' c'
    exact ⟨⟨by omega, by simp⟩, c'⟩
  · intro i
    refine AT.pr (fun ⟨hi, hn⟩ => ?_)
    repeat' (first | (show oL; first | refine sMv rfl rfl ?_ | refine sAs rfl rfl ?_ | (show oA (.load _ _); refine st_y (y_load tabs rfl rfl (hc_w0 (hget _ om))) rfl ?_) | (show oA (.indexAddr _ _ _); refine st_y (y_ix1 tabs rfl rfl rfl mK rfl om) rfl ?_) | (show oA (.binOp _ _ _ _ _); first | refine sAd rfl rfl om rfl ?_ | refine sLs rfl rfl rfl ?_) | (show oA (.call _); (refine m_callv rfl he rfl rfl (fun w c => hf w _ c) ?_; rintro v H' ⟨rfl, rfl⟩))) | refine xNt ?_ | (show oC; first | refine c_seq ?_ | refine c_region ?_ | refine c_skip (x_then ?_) | refine c_skip (x_blk ?_) | refine c_block ?_ | refine c_ret ?_ | refine c_exit ?_ | refine c_if rfl (fun h => ?_) (fun h => ?_)) | (show AT _ _ _ _; first | refine x_then ?_ | refine x_then_ret ?_ | refine x_blk_ret ?_ | refine x_then_exit ?_ | refine x_blk_exit rfl ?_))
    · refine x_ret1 Tryz.results125 (res_tmp rfl) (fun w' c' => ⟨_, _, rfl, ⟨⟨i, rfl, ?_⟩, rfl⟩, c'⟩)
      have hi' : i < xs.length := by omega
      refine ⟨fun _ => ⟨_, List.getElem_mem hi', ?_⟩, fun _ => by omega⟩
      simpa [List.getD, hi'] using h
    · refine x_next (i + 1) sB (fun w' c' => ⟨⟨by omega, ?_⟩, c'⟩) om
      intro x hx
      rw [take_next (z := 0) om] at hx
      rcases List.mem_append.1 hx with hx | hx
      · exact hn x hx
      · simp at hx
        subst hx
        simpa [List.getD] using h
    · refine x_ret1 Tryz.results125 (res_tmp rfl) (fun w' c' => ⟨_, _, rfl, ⟨⟨-1, rfl, ?_⟩, rfl⟩, c'⟩)
      rw [take_end om] at hn
      constructor
      · intro hh; omega
      · rintro ⟨x, hx, hp⟩; exact absurd hp (hn x hx)
theorem ContainsFunc_ok {w : World} {v : Value} {xs : List Int} {g : Nat} {cap : Array Value} {p : Int → Prop} [DecidablePred p] (hr : Rd w (iT xs) v) (he : Ent Tryz.prog g)
    (hf : ∀ w' x, Hp [] w [] w' → Does Tryz.prog g ([iV x] ++ cap.toList) w' (fun r H => r = .bool (decide (p x)) ∧ H = [])) :
    Does Tryz.prog 123 [v, .func (.func g) #[] cap] w (fun r H => r = .bool (decide (∃ x ∈ xs, p x)) ∧ H = []) := by
  refine fn_enter Tryz.func123 rfl Tryz.ntmps123 rfl ?_
  repeat' (first | (show oL; first | refine sMv rfl rfl ?_ | refine sAs rfl rfl ?_ | (show oA (.binOp _ _ _ _ _); refine st_y (y_geq rfl rfl) rfl ?_) | (show oA (.call _); (refine m_call (ent_of Tryz.func125 kr rfl) rfl rfl (fun w c => IndexFunc_ok (c.rd hr) he (fun w' x c' => hf w' x (c.trans c'))) ?_; rintro v H' ⟨⟨k, rfl, hk⟩, rfl⟩))) | refine xNt ?_ | (show oC; first | refine c_seq ?_ | refine c_region ?_ | refine c_ret ?_))
  refine x_ret1 Tryz.results123 (res_tmp rfl) (fun w' c' => ⟨_, _, rfl, ⟨?_, rfl⟩, c'⟩)
  simp [hk]
theorem allWithin_ok {w : World} {v : Value} {xs : List Int} {lo hi : Int} (hr : Rd w (iT xs) v) :
    Does Tryz.prog 106 [v, iV lo, iV hi] w (fun r H => r = .bool (decide (InP lo hi xs)) ∧ H = []) := by
  refine fn_enter Tryz.func106 rfl Tryz.ntmps106 rfl ?_
  repeat' (first | (show oL; first | refine sMv rfl rfl ?_ | refine sAs rfl rfl ?_ | (show oA (.unOp _ _ _); refine st_y (y_notd rfl) rfl ?_) | (show oA (.call _); (refine m_call (ent_of Tryz.func123 kr rfl) rfl rfl (fun w c => ContainsFunc_ok (p := fun x => ¬ (lo ≤ x ∧ x ≤ hi)) (c.rd hr) (ent_of Tryz.func124 kr rfl) (fun w' x c' => allWithin1_ok (c'.cell (hc_blk 1 rfl rfl w c)) (c'.cell (hc_blk 0 rfl rfl w c)))) ?_; rintro v H' ⟨rfl, rfl⟩)) | (show oA (.makeFunc _ _ _); refine st_y (y_fn rfl rfl) rfl ?_) | (show oA (.box _ _); refine m_box rfl rfl (fun b hb => ?_))) | refine xNt ?_ | (show oC; first | refine c_seq ?_ | refine c_region ?_ | refine c_ret ?_))
  refine x_ret1 Tryz.results106 (res_tmp rfl) (fun w' c' => ⟨_, _, rfl, ⟨?_, rfl⟩, c'.sub (List.nil_sublist _)⟩)
  refine congrArg Value.bool ?_
  refine decide_eq_decide.2 ⟨fun h x hx => Decidable.byContradiction (fun hn => h ⟨x, hx, hn⟩), ?_⟩
  rintro h ⟨x, hx, hn⟩
  exact hn (h x hx)
end Go.Proofs.YtcplmeajmpkpkaaGreat
