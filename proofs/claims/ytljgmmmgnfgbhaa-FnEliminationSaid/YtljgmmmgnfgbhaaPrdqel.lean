import Derived.Test.YtljgmmmgnfgbhaaQuiqel
namespace Go.Proofs.Ytljgmmmgnfgbhaa
open Go.Lg Go.Proofs Go.RowKit
attribute [local irreducible] Code.wp wpList bodyPost Exit.then Exit.inBlock Hp Again Calls Y AT ResV QT
set_option maxRecDepth 20000
set_option maxHeartbeats 4000000

/-! ### which numbers, vectors and matrices are such -/
def FieldP (p : Int) : Prop := p = 2 ∨ p = 3 ∨ p = 5
instance (p : Int) : Decidable (FieldP p) := by unfold FieldP; infer_instance
def InP (lo hi : Int) (xs : List Int) : Prop := ∀ x ∈ xs, lo ≤ x ∧ x ≤ hi
instance (lo hi : Int) (xs : List Int) : Decidable (InP lo hi xs) := by unfold InP; infer_instance
def VecP (p : Int) (xs : List Int) : Prop := FieldP p ∧ xs.length ≤ 64 ∧ InP 0 (p - 1) xs
instance (p : Int) (xs : List Int) : Decidable (VecP p xs) := by unfold VecP; infer_instance
def MatP (p : Int) (m : Mat) : Prop := (0 ≤ m.1 ∧ m.1 ≤ 8) ∧ (0 ≤ m.2.1 ∧ m.2.1 ≤ 8) ∧ (m.2.2.length : Int) = m.1 * m.2.1 ∧ VecP p m.2.2
instance (p : Int) (m : Mat) : Decidable (MatP p m) := by unfold MatP; infer_instance

theorem spec_IsField_ok {w : World} (p : Int) : Does Try.prog 113 [iV p] w (fun v H => v = .bool (decide (FieldP p)) ∧ H = []) := by
  refine fn_enter Try.func113 rfl Try.ntmps113 rfl ?_
  repeat' (first
    | (show AT _ _ _ (wpList _ _ _ (_ :: _)); first
       | (show AT _ _ _ (wpList _ _ _ (⟨_, Op.move _, _, _, _, _⟩ :: _)); refine st_y (y_move rfl) rfl ?_)
       | (show AT _ _ _ (wpList _ _ _ (⟨_, Op.assign _, _, _, _, _⟩ :: _)); refine st_y (y_assign rfl) rfl ?_)
       | (show AT _ _ _ (wpList _ _ _ (⟨_, Op.binOp _ _ _ _ _, _, _, _, _⟩ :: _)); refine st_y (y_eql rfl rfl) rfl ?_)
       | (show AT _ _ _ (wpList _ _ _ (⟨_, Op.pick _ _ _, _, _, _, _⟩ :: _)); first | refine st_y (y_pickt rfl (by assumption) rfl) rfl ?_ | refine st_y (y_pickf rfl (by assumption) rfl) rfl ?_ | refine st_y (y_pick rfl rfl rfl) rfl ?_)
       | refine st_gn rfl rfl rfl ?_ | refine st_gfy rfl rfl (by assumption) ?_ | refine st_gfn rfl rfl (by assumption) rfl ?_ | refine st_gd rfl rfl (fun h => ?_) (fun h => ?_))
    | (show AT _ _ _ (wpList _ _ _ []); refine c_nil (x_then ?_))
    | (show AT _ _ _ (Code.wp _ _ _); first | refine c_seq ?_ | refine c_region ?_ | refine c_ret ?_))
  all_goals refine x_ret1 Try.results113 (res_tmp rfl) (fun w c => ⟨_, _, rfl, ⟨?_, rfl⟩, c⟩)
  all_goals simp_all [FieldP]
theorem impl_IsField_ok {w : World} (p : Int) : Does Try.prog 106 [iV p] w (fun v H => v = .bool (decide (FieldP p)) ∧ H = []) := by
  refine fn_enter Try.func106 rfl Try.ntmps106 rfl ?_
  repeat' (first
    | (show AT _ _ _ (wpList _ _ _ (_ :: _)); first
       | (show AT _ _ _ (wpList _ _ _ (⟨_, Op.move _, _, _, _, _⟩ :: _)); refine st_y (y_move rfl) rfl ?_)
       | (show AT _ _ _ (wpList _ _ _ (⟨_, Op.assign _, _, _, _, _⟩ :: _)); refine st_y (y_assign rfl) rfl ?_)
       | (show AT _ _ _ (wpList _ _ _ (⟨_, Op.binOp _ _ _ _ _, _, _, _, _⟩ :: _)); refine st_y (y_eql rfl rfl) rfl ?_)
       | (show AT _ _ _ (wpList _ _ _ (⟨_, Op.pick _ _ _, _, _, _, _⟩ :: _)); first | refine st_y (y_pickt rfl (by assumption) rfl) rfl ?_ | refine st_y (y_pickf rfl (by assumption) rfl) rfl ?_ | refine st_y (y_pick rfl rfl rfl) rfl ?_)
       | refine st_gn rfl rfl rfl ?_ | refine st_gfy rfl rfl (by assumption) ?_ | refine st_gfn rfl rfl (by assumption) rfl ?_ | refine st_gd rfl rfl (fun h => ?_) (fun h => ?_))
    | (show AT _ _ _ (wpList _ _ _ []); refine c_nil (x_then ?_))
    | (show AT _ _ _ (Code.wp _ _ _); first | refine c_seq ?_ | refine c_region ?_ | refine c_ret ?_))
  all_goals refine x_ret1 Try.results106 (res_tmp rfl) (fun w c => ⟨_, _, rfl, ⟨?_, rfl⟩, c⟩)
  all_goals simp_all [FieldP]
theorem l1In_ok {w : World} (x lo hi : Int) : Does Try.prog 88 [iV x, iV lo, iV hi] w (fun v H => v = .bool (decide (lo ≤ x ∧ x ≤ hi)) ∧ H = []) := by
  refine fn_enter Try.func88 rfl Try.ntmps88 rfl ?_
  repeat' (first
    | (show AT _ _ _ (wpList _ _ _ (_ :: _)); first
       | (show AT _ _ _ (wpList _ _ _ (⟨_, Op.move _, _, _, _, _⟩ :: _)); refine st_y (y_move rfl) rfl ?_)
       | (show AT _ _ _ (wpList _ _ _ (⟨_, Op.assign _, _, _, _, _⟩ :: _)); refine st_y (y_assign rfl) rfl ?_)
       | (show AT _ _ _ (wpList _ _ _ (⟨_, Op.binOp _ _ _ _ _, _, _, _, _⟩ :: _)); first | refine st_y (y_leq rfl rfl) rfl ?_ | refine st_y (y_geq rfl rfl) rfl ?_)
       | (show AT _ _ _ (wpList _ _ _ (⟨_, Op.pick _ _ _, _, _, _, _⟩ :: _)); first | refine st_y (y_pickt rfl (by assumption) rfl) rfl ?_ | refine st_y (y_pickf rfl (by assumption) rfl) rfl ?_)
       | refine st_gdy rfl rfl (by assumption) ?_ | refine st_gdn rfl rfl (by assumption) rfl ?_ | refine st_gd rfl rfl (fun h => ?_) (fun h => ?_))
    | (show AT _ _ _ (wpList _ _ _ []); refine c_nil (x_then ?_))
    | (show AT _ _ _ (Code.wp _ _ _); first | refine c_seq ?_ | refine c_region ?_ | refine c_ret ?_))
  all_goals refine x_ret1 Try.results88 (res_tmp rfl) (fun w c => ⟨_, _, rfl, ⟨?_, rfl⟩, c⟩)
  all_goals first | (simp_all; done) | (simp_all; omega)
theorem within_ok {w : World} (x lo hi : Int) : Does Try.prog 91 [iV x, iV lo, iV hi] w (fun v H => v = .bool (decide (lo ≤ x ∧ x ≤ hi)) ∧ H = []) := by
  refine fn_enter Try.func91 rfl Try.ntmps91 rfl ?_
  repeat' (first
    | (show AT _ _ _ (wpList _ _ _ (_ :: _)); first
       | (show AT _ _ _ (wpList _ _ _ (⟨_, Op.move _, _, _, _, _⟩ :: _)); refine st_y (y_move rfl) rfl ?_)
       | (show AT _ _ _ (wpList _ _ _ (⟨_, Op.assign _, _, _, _, _⟩ :: _)); refine st_y (y_assign rfl) rfl ?_)
       | (show AT _ _ _ (wpList _ _ _ (⟨_, Op.binOp _ _ _ _ _, _, _, _, _⟩ :: _)); first | refine st_y (y_leq rfl rfl) rfl ?_ | refine st_y (y_geq rfl rfl) rfl ?_)
       | (show AT _ _ _ (wpList _ _ _ (⟨_, Op.pick _ _ _, _, _, _, _⟩ :: _)); first | refine st_y (y_pickt rfl (by assumption) rfl) rfl ?_ | refine st_y (y_pickf rfl (by assumption) rfl) rfl ?_)
       | refine st_gdy rfl rfl (by assumption) ?_ | refine st_gdn rfl rfl (by assumption) rfl ?_ | refine st_gd rfl rfl (fun h => ?_) (fun h => ?_))
    | (show AT _ _ _ (wpList _ _ _ []); refine c_nil (x_then ?_))
    | (show AT _ _ _ (Code.wp _ _ _); first | refine c_seq ?_ | refine c_region ?_ | refine c_ret ?_))
  all_goals refine x_ret1 Try.results91 (res_tmp rfl) (fun w c => ⟨_, _, rfl, ⟨?_, rfl⟩, c⟩)
  all_goals first | (simp_all; done) | (simp_all; omega)
theorem allWithin1_ok {w : World} {x lo hi : Int} {b b' : Nat} (h : w.cell? ⟨b, 0, none⟩ = some (iV lo)) (h' : w.cell? ⟨b', 0, none⟩ = some (iV hi)) :
    Does Try.prog 129 [iV x, .pointer (some ⟨b, 0, none⟩), .pointer (some ⟨b', 0, none⟩)] w (fun v H => v = .bool (decide (¬ (lo ≤ x ∧ x ≤ hi))) ∧ H = []) := by
  refine fn_enter Try.func129 rfl Try.ntmps129 rfl ?_
  repeat' (first
    | (show AT _ _ _ (wpList _ _ _ (_ :: _)); first
       | (show AT _ _ _ (wpList _ _ _ (⟨_, Op.move _, _, _, _, _⟩ :: _)); refine st_y (y_move rfl) rfl ?_)
       | (show AT _ _ _ (wpList _ _ _ (⟨_, Op.assign _, _, _, _, _⟩ :: _)); refine st_y (y_assign rfl) rfl ?_)
       | (show AT _ _ _ (wpList _ _ _ (⟨_, Op.load _ _, _, _, _, _⟩ :: _)); first | refine st_y (y_load tabs rfl rfl (hc_w0 h)) rfl ?_ | refine st_y (y_load tabs rfl rfl (hc_w0 h')) rfl ?_)
       | (show AT _ _ _ (wpList _ _ _ (⟨_, Op.unOp _ _ _, _, _, _, _⟩ :: _)); refine st_y (y_notd rfl) rfl ?_)
       | (show AT _ _ _ (wpList _ _ _ (⟨_, Op.call _, _, _, _, _⟩ :: _)); (refine m_call (ent_of Try.func91 (by kernel_rfl) rfl) rfl rfl (fun w c => within_ok _ _ _) ?_; rintro v H' ⟨rfl, rfl⟩)))
    | (show AT _ _ _ (wpList _ _ _ []); refine c_nil (x_then ?_))
    | (show AT _ _ _ (Code.wp _ _ _); first | refine c_seq ?_ | refine c_region ?_ | refine c_ret ?_))
  all_goals refine x_ret1 Try.results129 (res_tmp rfl) (fun w c => ⟨_, _, rfl, ⟨?_, rfl⟩, c⟩)
  all_goals rw [decide_not]
theorem IndexFunc_ok {w : World} {v : Value} {xs : List Int} {g : Nat} {cap : Array Value} {p : Int → Prop} [DecidablePred p] (hr : Rd w (iT xs) v) (he : Ent Try.prog g)
    (hf : ∀ w' x, Hp [] w [] w' → Does Try.prog g ([iV x] ++ cap.toList) w' (fun r H => r = .bool (decide (p x)) ∧ H = [])) :
    Does Try.prog 131 [v, .func (.func g) #[] cap] w (fun r H => (∃ k, r = iV k ∧ (0 ≤ k ↔ ∃ x ∈ xs, p x)) ∧ H = []) := by
  obtain ⟨a, c, rfl, hs, hc1, hc2, hget⟩ := hr.ints
  unfold maxLen at hc2
  refine fn_enter Try.func131 rfl Try.ntmps131 rfl ?_
  repeat' (first
    | (show AT _ _ _ (wpList _ _ _ (_ :: _)); first
       | (show AT _ _ _ (wpList _ _ _ (⟨_, Op.move _, _, _, _, _⟩ :: _)); refine st_y (y_move rfl) rfl ?_)
       | (show AT _ _ _ (wpList _ _ _ (⟨_, Op.assign _, _, _, _, _⟩ :: _)); refine st_y (y_assign rfl) rfl ?_)
       | (show AT _ _ _ (wpList _ _ _ (⟨_, Op.call _, _, _, _, _⟩ :: _)); refine st_y (y_len tabs rfl rfl) rfl ?_))
    | (show AT _ _ _ (wpList _ _ _ []); refine c_nil (x_then ?_))
    | (show AT _ _ _ (Code.wp _ _ _); first | refine c_seq ?_ | refine c_region ?_ | refine c_block ?_))
  refine c_loop (fun i : Nat => [(0, .slice a xs.length c), (1, .func (.func g) #[] cap), (7, iV xs.length), (8, .int .i64 i)])
    (fun i w' => (i ≤ xs.length ∧ ∀ x ∈ xs.take i, ¬ p x) ∧ Hp [] w [] w') (fun i => xs.length - i) 0 ?_ ?_ ?_
  · exact (by repeat' (first | exact Sub.nil | refine Sub.cons rfl ?_ | refine Sub.consi rfl (by omega) ?_))
  · intro w' c'
    exact ⟨⟨by omega, by simp⟩, c'⟩
  · intro i
    refine AT.pr (fun ⟨hi, hn⟩ => ?_)
    repeat' (first
      | (show AT _ _ _ (wpList _ _ _ (_ :: _)); first
         | (show AT _ _ _ (wpList _ _ _ (⟨_, Op.move _, _, _, _, _⟩ :: _)); refine st_y (y_move rfl) rfl ?_)
         | (show AT _ _ _ (wpList _ _ _ (⟨_, Op.assign _, _, _, _, _⟩ :: _)); refine st_y (y_assign rfl) rfl ?_)
         | (show AT _ _ _ (wpList _ _ _ (⟨_, Op.load _ _, _, _, _, _⟩ :: _)); refine st_y (y_load tabs rfl rfl (hc_w0 (hget _ (by omega)))) rfl ?_)
         | (show AT _ _ _ (wpList _ _ _ (⟨_, Op.indexAddr _ _ _, _, _, _, _⟩ :: _)); refine st_y (y_ix1 tabs rfl rfl rfl (by first | assumption | exact .mk) rfl (by omega)) rfl ?_)
         | (show AT _ _ _ (wpList _ _ _ (⟨_, Op.binOp _ _ _ _ _, _, _, _, _⟩ :: _)); first | refine st_y (y_add rfl rfl (by omega)) rfl ?_ | refine st_y (y_lss rfl rfl) rfl ?_)
         | (show AT _ _ _ (wpList _ _ _ (⟨_, Op.call _, _, _, _, _⟩ :: _)); (refine m_callv rfl he rfl rfl (fun w c => hf w _ c) ?_; rintro v H' ⟨rfl, rfl⟩)))
      | (show AT _ _ _ (wpList _ _ _ []); refine c_nil (x_then ?_))
      | (show AT _ _ _ (Code.wp _ _ _); first | refine c_seq ?_ | refine c_region ?_ | refine c_skip (x_then ?_) | refine c_skip (x_blk ?_) | refine c_block ?_ | refine c_ret ?_ | refine c_exit ?_ | refine c_if rfl (fun h => ?_) (fun h => ?_))
      | (show AT _ _ _ _; first | refine x_then ?_ | refine x_then_ret ?_ | refine x_blk_ret ?_ | refine x_then_exit ?_ | refine x_blk_exit rfl ?_))
    · refine x_ret1 Try.results131 (res_tmp rfl) (fun w' c' => ⟨_, _, rfl, ⟨⟨i, rfl, ?_⟩, rfl⟩, c'⟩)
      have hi' : i < xs.length := by omega
      refine ⟨fun _ => ⟨_, List.getElem_mem hi', ?_⟩, fun _ => by omega⟩
      simpa [List.getD, hi'] using h
    · refine x_next (i + 1) (by repeat' (first | exact Sub.nil | refine Sub.cons rfl ?_ | refine Sub.consi rfl (by omega) ?_)) (fun w' c' => ⟨⟨by omega, ?_⟩, c'⟩) (by omega)
      intro x hx
      rw [take_next (z := 0) (by omega)] at hx
      rcases List.mem_append.1 hx with hx | hx
      · exact hn x hx
      · simp at hx
        subst hx
        simpa [List.getD] using h
    · refine x_ret1 Try.results131 (res_tmp rfl) (fun w' c' => ⟨_, _, rfl, ⟨⟨-1, rfl, ?_⟩, rfl⟩, c'⟩)
      rw [take_end (by omega)] at hn
      constructor
      · intro hh; omega
      · rintro ⟨x, hx, hp⟩; exact absurd hp (hn x hx)
theorem ContainsFunc_ok {w : World} {v : Value} {xs : List Int} {g : Nat} {cap : Array Value} {p : Int → Prop} [DecidablePred p] (hr : Rd w (iT xs) v) (he : Ent Try.prog g)
    (hf : ∀ w' x, Hp [] w [] w' → Does Try.prog g ([iV x] ++ cap.toList) w' (fun r H => r = .bool (decide (p x)) ∧ H = [])) :
    Does Try.prog 117 [v, .func (.func g) #[] cap] w (fun r H => r = .bool (decide (∃ x ∈ xs, p x)) ∧ H = []) := by
  refine fn_enter Try.func117 rfl Try.ntmps117 rfl ?_
  repeat' (first
    | (show AT _ _ _ (wpList _ _ _ (_ :: _)); first
       | (show AT _ _ _ (wpList _ _ _ (⟨_, Op.move _, _, _, _, _⟩ :: _)); refine st_y (y_move rfl) rfl ?_)
       | (show AT _ _ _ (wpList _ _ _ (⟨_, Op.assign _, _, _, _, _⟩ :: _)); refine st_y (y_assign rfl) rfl ?_)
       | (show AT _ _ _ (wpList _ _ _ (⟨_, Op.binOp _ _ _ _ _, _, _, _, _⟩ :: _)); refine st_y (y_geq rfl rfl) rfl ?_)
       | (show AT _ _ _ (wpList _ _ _ (⟨_, Op.call _, _, _, _, _⟩ :: _)); (refine m_call (ent_of Try.func131 (by kernel_rfl) rfl) rfl rfl (fun w c => IndexFunc_ok (c.rd hr) he (fun w' x c' => hf w' x (c.trans c'))) ?_; rintro v H' ⟨⟨k, rfl, hk⟩, rfl⟩)))
    | (show AT _ _ _ (wpList _ _ _ []); refine c_nil (x_then ?_))
    | (show AT _ _ _ (Code.wp _ _ _); first | refine c_seq ?_ | refine c_region ?_ | refine c_ret ?_))
  refine x_ret1 Try.results117 (res_tmp rfl) (fun w' c' => ⟨_, _, rfl, ⟨?_, rfl⟩, c'⟩)
  simp [hk]
theorem allWithin_ok {w : World} {v : Value} {xs : List Int} {lo hi : Int} (hr : Rd w (iT xs) v) :
    Does Try.prog 107 [v, iV lo, iV hi] w (fun r H => r = .bool (decide (InP lo hi xs)) ∧ H = []) := by
  refine fn_enter Try.func107 rfl Try.ntmps107 rfl ?_
  repeat' (first
    | (show AT _ _ _ (wpList _ _ _ (_ :: _)); first
       | (show AT _ _ _ (wpList _ _ _ (⟨_, Op.move _, _, _, _, _⟩ :: _)); refine st_y (y_move rfl) rfl ?_)
       | (show AT _ _ _ (wpList _ _ _ (⟨_, Op.assign _, _, _, _, _⟩ :: _)); refine st_y (y_assign rfl) rfl ?_)
       | (show AT _ _ _ (wpList _ _ _ (⟨_, Op.unOp _ _ _, _, _, _, _⟩ :: _)); refine st_y (y_notd rfl) rfl ?_)
       | (show AT _ _ _ (wpList _ _ _ (⟨_, Op.call _, _, _, _, _⟩ :: _)); (refine m_call (ent_of Try.func117 (by kernel_rfl) rfl) rfl rfl (fun w c => ContainsFunc_ok (p := fun x => ¬ (lo ≤ x ∧ x ≤ hi)) (c.rd hr) (ent_of Try.func129 (by kernel_rfl) rfl) (fun w' x c' => allWithin1_ok (c'.cell (hc_blk 1 rfl rfl w c)) (c'.cell (hc_blk 0 rfl rfl w c)))) ?_; rintro v H' ⟨rfl, rfl⟩))
       | (show AT _ _ _ (wpList _ _ _ (⟨_, Op.makeFunc _ _ _, _, _, _, _⟩ :: _)); refine st_y (y_fn rfl rfl) rfl ?_)
       | (show AT _ _ _ (wpList _ _ _ (⟨_, Op.box _ _, _, _, _, _⟩ :: _)); refine m_box rfl rfl (fun b hb => ?_)))
    | (show AT _ _ _ (wpList _ _ _ []); refine c_nil (x_then ?_))
    | (show AT _ _ _ (Code.wp _ _ _); first | refine c_seq ?_ | refine c_region ?_ | refine c_ret ?_))
  refine x_ret1 Try.results107 (res_tmp rfl) (fun w' c' => ⟨_, _, rfl, ⟨?_, rfl⟩, c'.sub (List.nil_sublist _)⟩)
  refine congrArg Value.bool ?_
  refine decide_eq_decide.2 ⟨fun h x hx => Decidable.byContradiction (fun hn => h ⟨x, hx, hn⟩), ?_⟩
  rintro h ⟨x, hx, hn⟩
  exact hn (h x hx)
end Go.Proofs.Ytljgmmmgnfgbhaa
