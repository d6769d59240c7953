import Derived.Test.YtnmhdmkfhacdbaaGreatCopqA
import Derived.Test.YtnmhdmkfhacdbaaGreatPrmqA
import Derived.Test.YtnmhdmkfhacdbaaGreatShrqA
namespace Go.Proofs.YtnmhdmkfhacdbaaGreat
open Go.Lg Go.Proofs Go.RowKit
attribute [local irreducible] Code.wp wpList bodyPost Exit.then Exit.inBlock Hp Again Calls Y AT ResV QT Qn QI wpAny wpAnyQ
set_option maxRecDepth 20000
set_option maxHeartbeats 4000000

/-! ### lists of rows: search -/
theorem IndexFuncR_ok {w : World} {v : Value} {e : Nat} {rs : List (List Int)} {g : Nat} {cap : Array Value} {p : List Int → Prop} [DecidablePred p] (hr : Rd w (rowsT e rs) v) (he : Ent Tryz.prog g)
    (hf : ∀ w' xs u, xs ∈ rs → Rd w' (iT xs) u → Hp [] w [] w' → Does Tryz.prog g ([u] ++ cap.toList) w' (fun r H => r = .bool (decide (p xs)) ∧ H = [])) :
    Does Tryz.prog 86 [v, .func (.func g) #[] cap] w (fun r H => (∃ k, r = iV k ∧ (0 ≤ k ↔ ∃ x ∈ rs, p x)) ∧ H = []) := by
  obtain ⟨a, c, rfl, hs, hc1, hc2, hget⟩ := rd_rows hr
  unfold maxLen at hc2
  refine fn_enter Tryz.func86 rfl Tryz.ntmps86 rfl ?_
  repeat' (first
    | (show AT _ _ _ (wpList _ _ _ (_ :: _)); first
       | (show AT _ _ _ (wpList _ _ _ (⟨_, Op.move _, _, _, _, _⟩ :: _)); refine st_y (y_move rfl) rfl ?_)
       | (show AT _ _ _ (wpList _ _ _ (⟨_, Op.assign _, _, _, _, _⟩ :: _)); refine st_y (y_assign rfl) rfl ?_)
       | (show AT _ _ _ (wpList _ _ _ (⟨_, Op.call _, _, _, _, _⟩ :: _)); refine st_y (y_len tabs rfl rfl) rfl ?_))
    | (show AT _ _ _ (wpList _ _ _ []); refine c_nil (x_then ?_))
    | (show AT _ _ _ (Code.wp _ _ _); first | refine c_seq ?_ | refine c_region ?_ | refine c_block ?_))
  refine c_loopH (α := Nat) [0, 1, 7] (fun i => [(8, .int .i64 i)]) (fun i => i ≤ rs.length ∧ ∀ x ∈ rs.take i, ¬ p x) (fun i => []) (fun i => rs.length - i) 0 rfl (by repeat' (first | exact Sub.nil | refine Sub.cons rfl ?_ | refine Sub.consi rfl (by omega) ?_)) ?_ ?_ ?_
  · exact ⟨Nat.zero_le _, by simp⟩
  · exact fun w' c' => c'
  · rintro i ⟨hi, hn⟩
    by_cases hin : i < rs.length
    · obtain ⟨xs, hx⟩ : ∃ xs, rs[i]? = some xs := ⟨_, List.getElem?_eq_getElem hin⟩
      obtain ⟨a2, c2, g1, g2⟩ := hget i xs hx
      have hmem := List.mem_of_getElem? hx
      repeat' (first
        | (show AT _ _ _ (wpList _ _ _ (_ :: _)); first
           | (show AT _ _ _ (wpList _ _ _ (⟨_, Op.move _, _, _, _, _⟩ :: _)); refine st_y (y_move rfl) rfl ?_)
           | (show AT _ _ _ (wpList _ _ _ (⟨_, Op.assign _, _, _, _, _⟩ :: _)); refine st_y (y_assign rfl) rfl ?_)
           | (show AT _ _ _ (wpList _ _ _ (⟨_, Op.load _ _, _, _, _, _⟩ :: _)); refine st_y (y_load tabs rfl rfl (hc_w0 g1)) rfl ?_)
           | (show AT _ _ _ (wpList _ _ _ (⟨_, Op.indexAddr _ _ _, _, _, _, _⟩ :: _)); refine st_y (y_ix1 tabs (j := i) rfl rfl rfl hs rfl hin) rfl ?_)
           | (show AT _ _ _ (wpList _ _ _ (⟨_, Op.binOp _ _ _ _ _, _, _, _, _⟩ :: _)); first | refine st_y (y_add rfl rfl (by omega)) rfl ?_ | refine st_y (y_lss rfl rfl) rfl ?_)
           | (show AT _ _ _ (wpList _ _ _ (⟨_, Op.call _, _, _, _, _⟩ :: _)); (refine m_callv rfl he rfl rfl (fun w c => hf w _ _ hmem (c.rd g2) c) ?_; rintro v H' ⟨rfl, rfl⟩)))
        | (show AT _ _ _ (wpList _ _ _ []); refine c_nil (x_then ?_))
        | (show AT _ _ _ (Code.wp _ _ _); first | refine c_seq ?_ | refine c_region ?_ | refine c_skip (x_then ?_) | refine c_skip (x_blk ?_) | refine c_block ?_ | refine c_ret ?_ | refine c_ift rfl (by first | assumption | omega) ?_ | refine c_if rfl (fun h => ?_) (fun h => ?_))
        | (show AT _ _ _ _; first | refine x_then ?_ | refine x_then_ret ?_ | refine x_blk_ret ?_))
      · exact x_ret1 Tryz.results86 (res_tmp rfl) (fun w' c' => ⟨_, _, rfl, ⟨⟨i, rfl, fun _ => ⟨xs, hmem, by assumption⟩, fun _ => by omega⟩, rfl⟩, c'⟩)
      · refine x_nx (i + 1) (by repeat' (first | exact Sub.nil | refine Sub.cons rfl ?_ | refine Sub.consi rfl (by omega) ?_)) ⟨by omega, fun x hxm => ?_⟩ (fun w' c' => c') (by omega)
        rw [List.take_add_one, hx] at hxm
        rcases List.mem_append.1 hxm with hxm | hxm
        · exact hn x hxm
        · simp at hxm
          subst hxm
          assumption
    · repeat' (first
        | (show AT _ _ _ (wpList _ _ _ (_ :: _)); first
           | (show AT _ _ _ (wpList _ _ _ (⟨_, Op.assign _, _, _, _, _⟩ :: _)); refine st_y (y_assign rfl) rfl ?_)
           | (show AT _ _ _ (wpList _ _ _ (⟨_, Op.binOp _ _ _ _ _, _, _, _, _⟩ :: _)); refine st_y (y_lss rfl rfl) rfl ?_))
        | (show AT _ _ _ (wpList _ _ _ []); refine c_nil (x_then ?_))
        | (show AT _ _ _ (Code.wp _ _ _); first | refine c_seq ?_ | refine c_region ?_ | refine c_ret ?_ | refine c_exit ?_ | refine c_iff rfl (by first | assumption | exact not_not_intro (by assumption) | omega) ?_)
        | (show AT _ _ _ _; first | refine x_then ?_ | refine x_then_exit ?_ | refine x_blk_exit rfl ?_))
      refine x_ret1 Tryz.results86 (res_tmp rfl) (fun w' c' => ⟨_, _, rfl, ⟨⟨-1, rfl, fun h => by omega, ?_⟩, rfl⟩, c'⟩)
      rw [take_end (by omega)] at hn
      rintro ⟨x, hx, hp⟩
      exact absurd hp (hn x hx)
theorem ContainsFuncR_ok {w : World} {v : Value} {e : Nat} {rs : List (List Int)} {g : Nat} {cap : Array Value} {p : List Int → Prop} [DecidablePred p] (hr : Rd w (rowsT e rs) v) (he : Ent Tryz.prog g)
    (hf : ∀ w' xs u, xs ∈ rs → Rd w' (iT xs) u → Hp [] w [] w' → Does Tryz.prog g ([u] ++ cap.toList) w' (fun r H => r = .bool (decide (p xs)) ∧ H = [])) :
    Does Tryz.prog 64 [v, .func (.func g) #[] cap] w (fun r H => r = .bool (decide (∃ x ∈ rs, p x)) ∧ H = []) := by
  refine fn_enter Tryz.func64 rfl Tryz.ntmps64 rfl ?_
  repeat' (first
    | (show AT _ _ _ (wpList _ _ _ (_ :: _)); first
       | (show AT _ _ _ (wpList _ _ _ (⟨_, Op.move _, _, _, _, _⟩ :: _)); refine st_y (y_move rfl) rfl ?_)
       | (show AT _ _ _ (wpList _ _ _ (⟨_, Op.assign _, _, _, _, _⟩ :: _)); refine st_y (y_assign rfl) rfl ?_)
       | (show AT _ _ _ (wpList _ _ _ (⟨_, Op.binOp _ _ _ _ _, _, _, _, _⟩ :: _)); refine st_y (y_geq rfl rfl) rfl ?_)
       | (show AT _ _ _ (wpList _ _ _ (⟨_, Op.call _, _, _, _, _⟩ :: _)); (refine m_call (ent_of Tryz.func86 (by kernel_rfl) rfl) rfl rfl (fun w c => IndexFuncR_ok (c.rd hr) he (fun w' x u hm hru c' => hf w' x u hm hru (c.trans c'))) ?_; rintro v H' ⟨⟨k, rfl, hk⟩, rfl⟩)))
    | (show AT _ _ _ (wpList _ _ _ []); refine c_nil (x_then ?_))
    | (show AT _ _ _ (Code.wp _ _ _); first | refine c_seq ?_ | refine c_region ?_ | refine c_ret ?_))
  refine x_ret1 Tryz.results64 (res_tmp rfl) (fun w' c' => ⟨_, _, rfl, ⟨?_, rfl⟩, c'⟩)
  simp [hk]

/-! ### vectors that fit -/
def FineP (p n : Int) (l : List (List Int)) : Prop := FieldP p ∧ (0 ≤ n ∧ n ≤ 8) ∧ l.length ≤ 16 ∧ ∀ v ∈ l, (v.length : Int) = n ∧ VecP p v
instance (p n : Int) (l : List (List Int)) : Decidable (FineP p n l) := by unfold FineP; infer_instance
theorem areVectors1_ok {w : World} {p n : Int} {bn bp : Nat} {xs : List Int} {u : Value} (hr : Rd w (iT xs) u) (hn : w.cell? ⟨bn, 0, none⟩ = some (iV n)) (hp : w.cell? ⟨bp, 0, none⟩ = some (iV p)) :
    Does Tryz.prog 78 [u, .pointer (some ⟨bn, 0, none⟩), .pointer (some ⟨bp, 0, none⟩)] w (fun r H => r = .bool (decide (¬ ((xs.length : Int) = n ∧ VecP p xs))) ∧ H = []) := by
  obtain ⟨a, c, rfl, hs, hc1, hc2, hget⟩ := hr.ints
  refine fn_enter Tryz.func78 rfl Tryz.ntmps78 rfl ?_
  repeat' (first
    | (show AT _ _ _ (wpList _ _ _ (_ :: _)); first
       | (show AT _ _ _ (wpList _ _ _ (⟨_, Op.move _, _, _, _, _⟩ :: _)); refine st_y (y_move rfl) rfl ?_)
       | (show AT _ _ _ (wpList _ _ _ (⟨_, Op.assign _, _, _, _, _⟩ :: _)); refine st_y (y_assign rfl) rfl ?_)
       | (show AT _ _ _ (wpList _ _ _ (⟨_, Op.load _ _, _, _, _, _⟩ :: _)); first | refine st_y (y_load tabs rfl rfl (hc_w0 hn)) rfl ?_ | refine st_y (y_load tabs rfl rfl (hc_w0 hp)) rfl ?_)
       | (show AT _ _ _ (wpList _ _ _ (⟨_, Op.binOp _ _ _ _ _, _, _, _, _⟩ :: _)); refine st_y (y_neq rfl rfl) rfl ?_)
       | (show AT _ _ _ (wpList _ _ _ (⟨_, Op.unOp _ _ _, _, _, _, _⟩ :: _)); refine st_y (y_notd rfl) rfl ?_)
       | (show AT _ _ _ (wpList _ _ _ (⟨_, Op.call _, _, _, _, _⟩ :: _)); first | (refine m_call (ent_of Tryz.func77 (by kernel_rfl) rfl) rfl rfl (fun w c => impl_IsVector_ok (c.rd hr)) ?_; rintro v H' ⟨rfl, rfl⟩) | refine st_y (y_len tabs rfl rfl) rfl ?_)
       | (show AT _ _ _ (wpList _ _ _ (⟨_, Op.pick _ _ _, _, _, _, _⟩ :: _)); first | refine st_y (y_pickt rfl (by assumption) rfl) rfl ?_ | refine st_y (y_pickf rfl (by assumption) rfl) rfl ?_)
       | refine st_gfy rfl rfl (by assumption) ?_ | refine st_gfn rfl rfl (by assumption) rfl ?_ | refine st_gd rfl rfl (fun h => ?_) (fun h => ?_))
    | (show AT _ _ _ (wpList _ _ _ []); refine c_nil (x_then ?_))
    | (show AT _ _ _ (Code.wp _ _ _); first | refine c_seq ?_ | refine c_region ?_ | refine c_ret ?_))
  all_goals refine x_ret1 Tryz.results78 (res_tmp rfl) (fun w c => ⟨_, _, rfl, ⟨?_, rfl⟩, c⟩)
  all_goals simp_all
theorem areVectors_ok {w : World} {p n : Int} {e : Nat} {l : List (List Int)} {v : Value} (hr : Rd w (rowsT e l) v) (hF : FieldP p) :
    Does Tryz.prog 61 [iV p, iV n, v] w (fun r H => r = .bool (decide (FineP p n l)) ∧ H = []) := by
  obtain ⟨a, c, rfl, hs, hc1, hc2, hget⟩ := rd_rows hr
  refine fn_enter Tryz.func61 rfl Tryz.ntmps61 rfl ?_
  repeat' (first
    | (show AT _ _ _ (wpList _ _ _ (_ :: _)); first
       | (show AT _ _ _ (wpList _ _ _ (⟨_, Op.move _, _, _, _, _⟩ :: _)); refine st_y (y_move rfl) rfl ?_)
       | (show AT _ _ _ (wpList _ _ _ (⟨_, Op.assign _, _, _, _, _⟩ :: _)); refine st_y (y_assign rfl) rfl ?_)
       | (show AT _ _ _ (wpList _ _ _ (⟨_, Op.load _ _, _, _, _, _⟩ :: _)); refine st_y (y_load tabs rfl rfl (hc_blk 0 rfl rfl)) rfl ?_)
       | (show AT _ _ _ (wpList _ _ _ (⟨_, Op.binOp _ _ _ _ _, _, _, _, _⟩ :: _)); refine st_y (y_leq rfl rfl) rfl ?_)
       | (show AT _ _ _ (wpList _ _ _ (⟨_, Op.unOp _ _ _, _, _, _, _⟩ :: _)); refine st_y (y_notd rfl) rfl ?_)
       | (show AT _ _ _ (wpList _ _ _ (⟨_, Op.call _, _, _, _, _⟩ :: _)); first | (refine m_call (ent_of Tryz.func76 (by kernel_rfl) rfl) rfl rfl (fun w c => within_ok _ _ _) ?_; rintro v H' ⟨rfl, rfl⟩) | (refine m_call (ent_of Tryz.func64 (by kernel_rfl) rfl) rfl rfl (fun w c => ContainsFuncR_ok (p := fun xs => ¬ ((xs.length : Int) = n ∧ VecP p xs)) (c.rd hr) (ent_of Tryz.func78 (by kernel_rfl) rfl) (fun w' xs u _ hu c' => areVectors1_ok hu (c'.cell (hc_blk 0 rfl rfl w c)) (c'.cell (hc_blk 1 rfl rfl w c)))) ?_; rintro v H' ⟨rfl, rfl⟩) | refine st_y (y_len tabs rfl rfl) rfl ?_)
       | (show AT _ _ _ (wpList _ _ _ (⟨_, Op.pick _ _ _, _, _, _, _⟩ :: _)); first | refine st_y (y_pickt rfl (by assumption) rfl) rfl ?_ | refine st_y (y_pickf rfl (by assumption) rfl) rfl ?_ | refine st_y (y_pick rfl rfl rfl) rfl ?_)
       | (show AT _ _ _ (wpList _ _ _ (⟨_, Op.makeFunc _ _ _, _, _, _, _⟩ :: _)); refine st_y (y_fn rfl rfl) rfl ?_)
       | (show AT _ _ _ (wpList _ _ _ (⟨_, Op.box _ _, _, _, _, _⟩ :: _)); refine m_box rfl rfl (fun b hb => ?_))
       | refine st_gn rfl rfl rfl ?_ | refine st_gdy rfl rfl (by assumption) ?_ | refine st_gdn rfl rfl (by assumption) rfl ?_ | refine st_gd rfl rfl (fun h => ?_) (fun h => ?_))
    | (show AT _ _ _ (wpList _ _ _ []); refine c_nil (x_then ?_))
    | (show AT _ _ _ (Code.wp _ _ _); first | refine c_seq ?_ | refine c_region ?_ | refine c_ret ?_))
  all_goals refine x_ret1 Tryz.results61 (res_tmp rfl) (fun w c => ⟨_, _, rfl, ⟨congrArg Value.bool ?_, rfl⟩, c.sub (List.nil_sublist _)⟩)
  all_goals first
    | (rw [Bool.eq_iff_iff]; simp only [FineP, decide_eq_true_eq]; grind)
    | (simp only [FineP]; grind)
theorem l5Fine_ok {w : World} {p n : Int} {e : Nat} {l : List (List Int)} {v : Value} (hr : Rd w (rowsT e l) v) :
    Does Tryz.prog 51 [iV p, iV n, v] w (fun r H => r = .bool (decide (FineP p n l)) ∧ H = []) := by
  obtain ⟨a, c, rfl, hs, hc1, hc2, hget⟩ := rd_rows hr
  unfold maxLen at hc2
  refine fn_enter Tryz.func51 rfl Tryz.ntmps51 rfl ?_
  repeat' (first
    | (show AT _ _ _ (wpList _ _ _ (_ :: _)); first
       | (show AT _ _ _ (wpList _ _ _ (⟨_, Op.assign _, _, _, _, _⟩ :: _)); refine st_y (y_assign rfl) rfl ?_))
    | (show AT _ _ _ (wpList _ _ _ []); refine c_nil (x_then ?_))
    | (show AT _ _ _ (Code.wp _ _ _); first | refine c_seq ?_ | refine c_region ?_ | refine c_block ?_))
  refine c_loopH (α := Nat) [0, 1, 2] (fun i => [(7, .int .i64 i)]) (fun i => i ≤ l.length ∧ ∀ v ∈ l.take i, (v.length : Int) = n ∧ VecP p v) (fun i => []) (fun i => l.length - i) 0 rfl (by repeat' (first | exact Sub.nil | refine Sub.cons rfl ?_ | refine Sub.consi rfl (by omega) ?_)) ?_ ?_ ?_
  · exact ⟨Nat.zero_le _, by simp⟩
  · exact fun w' c' => c'
  · rintro i ⟨hi, hn⟩
    by_cases hin : i < l.length
    · obtain ⟨xs, hx⟩ : ∃ xs, l[i]? = some xs := ⟨_, List.getElem?_eq_getElem hin⟩
      obtain ⟨a2, c2, g1, g2⟩ := hget i xs hx
      have hmem := List.mem_of_getElem? hx
      repeat' (first
        | (show AT _ _ _ (wpList _ _ _ (_ :: _)); first
           | (show AT _ _ _ (wpList _ _ _ (⟨_, Op.move _, _, _, _, _⟩ :: _)); refine st_y (y_move rfl) rfl ?_)
           | (show AT _ _ _ (wpList _ _ _ (⟨_, Op.assign _, _, _, _, _⟩ :: _)); refine st_y (y_assign rfl) rfl ?_)
           | (show AT _ _ _ (wpList _ _ _ (⟨_, Op.load _ _, _, _, _, _⟩ :: _)); refine st_y (y_load tabs rfl rfl (hc_w0 g1)) rfl ?_)
           | (show AT _ _ _ (wpList _ _ _ (⟨_, Op.indexAddr _ _ _, _, _, _, _⟩ :: _)); refine st_y (y_ix1 tabs (j := i) rfl rfl rfl hs rfl hin) rfl ?_)
           | (show AT _ _ _ (wpList _ _ _ (⟨_, Op.binOp _ _ _ _ _, _, _, _, _⟩ :: _)); first | refine st_y (y_add rfl rfl (by omega)) rfl ?_ | refine st_y (y_lss rfl rfl) rfl ?_ | refine st_y (y_neq rfl rfl) rfl ?_)
           | (show AT _ _ _ (wpList _ _ _ (⟨_, Op.unOp _ _ _, _, _, _, _⟩ :: _)); refine st_y (y_notd rfl) rfl ?_)
           | (show AT _ _ _ (wpList _ _ _ (⟨_, Op.call _, _, _, _, _⟩ :: _)); first | (refine m_call (ent_of Tryz.func70 (by kernel_rfl) rfl) rfl rfl (fun w c => spec_IsVector_ok (c.rd g2)) ?_; rintro v H' ⟨rfl, rfl⟩) | refine st_y (y_len tabs rfl rfl) rfl ?_)
           | (show AT _ _ _ (wpList _ _ _ (⟨_, Op.pick _ _ _, _, _, _, _⟩ :: _)); first | refine st_y (y_pickt rfl (by assumption) rfl) rfl ?_ | refine st_y (y_pickf rfl (by assumption) rfl) rfl ?_)
           | refine st_gfy rfl rfl (by assumption) ?_ | refine st_gfn rfl rfl (by assumption) rfl ?_ | refine st_gd rfl rfl (fun h => ?_) (fun h => ?_))
        | (show AT _ _ _ (wpList _ _ _ []); refine c_nil (x_then ?_))
        | (show AT _ _ _ (Code.wp _ _ _); first | refine c_seq ?_ | refine c_region ?_ | refine c_skip (x_then ?_) | refine c_skip (x_blk ?_) | refine c_block ?_ | refine c_ret ?_ | refine c_true rfl ?_ | refine c_ift rfl (by first | assumption | omega) ?_ | refine c_ifnd rfl (fun h => ?_) (fun h => ?_))
        | (show AT _ _ _ _; first | refine x_then ?_ | refine x_then_ret ?_ | refine x_blk_ret ?_))
      all_goals first
        | (refine x_ret1 Tryz.results51 (res_tmp rfl) (fun w' c' => ⟨_, _, rfl, ⟨congrArg Value.bool ?_, rfl⟩, c'⟩)
           have hno : ¬ FineP p n l := fun hA => by
             have := hA.2.2.2 xs hmem
             first | exact absurd this.1 (by assumption) | exact absurd this.2 (by assumption)
           simp [hno])
        | (refine x_nx (i + 1) (by repeat' (first | exact Sub.nil | refine Sub.cons rfl ?_ | refine Sub.consi rfl (by omega) ?_)) ⟨by omega, fun x hxm => ?_⟩ (fun w' c' => c') (by omega)
           rw [List.take_add_one, hx] at hxm
           rcases List.mem_append.1 hxm with hxm | hxm
           · exact hn x hxm
           · simp at hxm
             subst hxm
             exact ⟨by omega, by first | assumption | exact Decidable.not_not.1 (by assumption)⟩)
    · rw [take_end (by omega)] at hn
      repeat' (first
        | (show AT _ _ _ (wpList _ _ _ (_ :: _)); first
           | (show AT _ _ _ (wpList _ _ _ (⟨_, Op.move _, _, _, _, _⟩ :: _)); refine st_y (y_move rfl) rfl ?_)
           | (show AT _ _ _ (wpList _ _ _ (⟨_, Op.assign _, _, _, _, _⟩ :: _)); refine st_y (y_assign rfl) rfl ?_)
           | (show AT _ _ _ (wpList _ _ _ (⟨_, Op.binOp _ _ _ _ _, _, _, _, _⟩ :: _)); first | refine st_y (y_lss rfl rfl) rfl ?_ | refine st_y (y_leq rfl rfl) rfl ?_)
           | (show AT _ _ _ (wpList _ _ _ (⟨_, Op.call _, _, _, _, _⟩ :: _)); first | (refine m_call (ent_of Tryz.func48 (by kernel_rfl) rfl) rfl rfl (fun w c => spec_IsField_ok p) ?_; rintro v H' ⟨rfl, rfl⟩) | (refine m_call (ent_of Tryz.func69 (by kernel_rfl) rfl) rfl rfl (fun w c => l1In_ok _ _ _) ?_; rintro v H' ⟨rfl, rfl⟩) | refine st_y (y_len tabs rfl rfl) rfl ?_)
           | (show AT _ _ _ (wpList _ _ _ (⟨_, Op.pick _ _ _, _, _, _, _⟩ :: _)); first | refine st_y (y_pickt rfl (by assumption) rfl) rfl ?_ | refine st_y (y_pickf rfl (by assumption) rfl) rfl ?_ | refine st_y (y_pick rfl rfl rfl) rfl ?_)
           | refine st_gn rfl rfl rfl ?_ | refine st_gdy rfl rfl (by assumption) ?_ | refine st_gdn rfl rfl (by assumption) rfl ?_ | refine st_gd rfl rfl (fun h => ?_) (fun h => ?_))
        | (show AT _ _ _ (wpList _ _ _ []); refine c_nil (x_then ?_))
        | (show AT _ _ _ (Code.wp _ _ _); first | refine c_seq ?_ | refine c_region ?_ | refine c_ret ?_ | refine c_exit ?_ | refine c_iff rfl (by first | assumption | exact not_not_intro (by assumption) | omega) ?_)
        | (show AT _ _ _ _; first | refine x_then ?_ | refine x_then_exit ?_ | refine x_blk_exit rfl ?_))
      all_goals refine x_ret1 Tryz.results51 (res_tmp rfl) (fun w c => ⟨_, _, rfl, ⟨congrArg Value.bool ?_, rfl⟩, c⟩)
      all_goals first
        | (rw [Bool.eq_iff_iff]; simp only [FineP, decide_eq_true_eq]; grind)
        | (simp only [FineP]; grind)
end Go.Proofs.YtnmhdmkfhacdbaaGreat
