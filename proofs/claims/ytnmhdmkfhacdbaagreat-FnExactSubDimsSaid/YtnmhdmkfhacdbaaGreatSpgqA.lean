import Derived.Test.YtnmhdmkfhacdbaaGreatSpfqA
namespace Go.Proofs.YtnmhdmkfhacdbaaGreat
open Go.Lg Go.Proofs Go.RowKit
theorem y_fld {P : Program} {n : Nat} {K : World → Prop} {s : List (Nat × Value)} {ty t fi : Nat} {x : Operand} {v0 v : Value} (hb : ∀ w, (Instr.field t v0 fi).run P w = .ok v w) (hx : ev s x = some v0) : Y P n K s (.field t x fi) ty v := fun a w f c d pos af g => by
  simp [execOp, f.ev hx, hb]
attribute [local irreducible] Code.wp wpList bodyPost Exit.then Exit.inBlock Hp Again Calls Y AT ResV QT Qn QI wpAny wpAnyQ
set_option maxRecDepth 20000
set_option maxHeartbeats 4000000

/-! ### InSpace, IsWithin -/
theorem isWithin1_ok {w : World} {p : Int} {C : Nat} {s : Sp} {xs : List Int} {u v : Value} {bb bp : Nat} (hb0 : w.cell? ⟨bb, 0, none⟩ = some (iV s.1)) (hb1 : w.cell? ⟨bb, 0 + 1, none⟩ = some u) (hbp : w.cell? ⟨bp, 0, none⟩ = some (iV p)) (hu : Rd w (rowsT 22 s.2) u) (hr : Rd w (iT xs) v) (hs : SpcP p s) (hc : s.1 = C) (hx : xs.length = C) (hxi : InP 0 (p - 1) xs) :
    Does Tryz.prog 65 [v, .pointer (some ⟨bb, 0, none⟩), .pointer (some ⟨bp, 0, none⟩)] w (fun r H => r = .bool (decide (¬ rkL p C (s.2 ++ [xs]) = s.2.length)) ∧ H = []) := by
  refine fn_enter Tryz.func65 rfl Tryz.ntmps65 rfl ?_
  repeat' (first
    | (show AT _ _ _ (wpList _ _ _ (_ :: _)); first
       | (show AT _ _ _ (wpList _ _ _ (⟨_, Op.move _, _, _, _, _⟩ :: _)); refine st_y (y_move rfl) rfl ?_)
       | (show AT _ _ _ (wpList _ _ _ (⟨_, Op.assign _, _, _, _, _⟩ :: _)); refine st_y (y_assign rfl) rfl ?_)
       | (show AT _ _ _ (wpList _ _ _ (⟨_, Op.load _ _, _, _, _, _⟩ :: _)); first | refine st_y (y_load2 tabs rfl rfl (hc_w0 hb0) (hc_w0 hb1)) rfl ?_ | refine st_y (y_load tabs rfl rfl (hc_w0 hbp)) rfl ?_)
       | (show AT _ _ _ (wpList _ _ _ (⟨_, Op.unOp _ _ _, _, _, _, _⟩ :: _)); refine st_y (y_notd rfl) rfl ?_)
       | (show AT _ _ _ (wpList _ _ _ (⟨_, Op.call _, _, _, _, _⟩ :: _)); (refine m_call (ent_of Tryz.func66 (by kernel_rfl) rfl) rfl rfl (fun w c => has_ok (C := C) (c.rd hu) (c.rd hr) hs hc hx hxi) ?_; rintro v H' ⟨rfl, rfl⟩)))
    | (show AT _ _ _ (wpList _ _ _ []); refine c_nil (x_then ?_))
    | (show AT _ _ _ (Code.wp _ _ _); first | refine c_seq ?_ | refine c_region ?_ | refine c_ret ?_))
  refine x_ret1 Tryz.results65 (res_tmp rfl) (fun w' c' => ⟨_, _, rfl, ⟨?_, rfl⟩, c'⟩)
  rw [decide_not]
/-- all vectors of a belong to b -/
def WthP (p : Int) (a b : Sp) : Prop := SumP p a b ∧ rkL p a.1.toNat (a.2 ++ b.2) = b.2.length
instance (p : Int) (a b : Sp) : Decidable (WthP p a b) := by unfold WthP; infer_instance
theorem within_iff {p : Int} {C : Nat} {A : List (List Int)} {b : Sp} (hb : SpcP p b) (hc : b.1 = C) (hA : RowsP p C A) : (∀ x ∈ A, rkL p C (b.2 ++ [x]) = b.2.length) ↔ rkL p C (A ++ b.2) = b.2.length := by
  obtain ⟨C', hc', hC, hl, hF, hn8, hk, hg⟩ := hb.rows
  have : C' = C := by omega
  subst this
  have h1 := rk_join (p := p) (C := C') (A := A) (B := b.2) (M := A ++ b.2) hF (hA.app hl) hl (fun x h => List.mem_append.1 h) (fun x h => by simp [h]) (fun x h => by simp [h])
  rw [hk] at h1
  rw [h1]
  have h2 := fun x (hx : x ∈ A) => by
    have hone : RowsP p C' [x] := fun y hy => by simp at hy; subst hy; exact hA _ hx
    have := rk_join (p := p) (C := C') (A := [x]) (B := b.2) (M := b.2 ++ [x]) hF (hl.app hone) hl (fun x h => by simp at h ⊢; exact h.symm) (fun x h => by simp at h ⊢; exact .inr h) (fun x h => by simp [h])
    rw [hk] at this
    exact this
  refine ⟨fun h x hx => ?_, fun h x hx => ?_⟩
  · exact (h2 x hx).1 (h x hx) x (by simp)
  · exact (h2 x hx).2 (fun y hy => by simp at hy; subst hy; exact h _ hx)
theorem isWithin_ok {w : World} {p : Int} {C : Nat} {n : Int} {A : List (List Int)} {b : Sp} {u v : Value} (hu : Rd w (rowsT 22 A) u) (hv : Rd w (rowsT 22 b.2) v) (hA : RowsP p C A) (hb : SpcP p b) (hc : b.1 = C) : Does Tryz.prog 44 [iV p, .agg #[iV n, u], .agg #[iV b.1, v]] w (fun r H => r = .bool (decide (rkL p C (A ++ b.2) = b.2.length)) ∧ H = []) := by
  refine fn_enter Tryz.func44 rfl Tryz.ntmps44 rfl ?_
  repeat' (first
    | (show AT _ _ _ (wpList _ _ _ (_ :: _)); first
       | (show AT _ _ _ (wpList _ _ _ (⟨_, Op.assign _, _, _, _, _⟩ :: _)); refine st_y (y_assign rfl) rfl ?_)
       | (show AT _ _ _ (wpList _ _ _ (⟨_, Op.fieldAddr _ _ _, _, _, _, _⟩ :: _)); refine st_y (y_field tabs rfl rfl rfl) rfl ?_)
       | (show AT _ _ _ (wpList _ _ _ (⟨_, Op.load _ _, _, _, _, _⟩ :: _)); refine st_y (y_load tabs rfl rfl (hc_blk 1 rfl rfl)) rfl ?_)
       | (show AT _ _ _ (wpList _ _ _ (⟨_, Op.unOp _ _ _, _, _, _, _⟩ :: _)); refine st_y (y_notd rfl) rfl ?_)
       | (show AT _ _ _ (wpList _ _ _ (⟨_, Op.call _, _, _, _, _⟩ :: _)); (refine m_call (ent_of Tryz.func64 (by kernel_rfl) rfl) rfl rfl (fun w c => ContainsFuncR_ok (p := fun xs => ¬ rkL p C (b.2 ++ [xs]) = b.2.length) (c.rd hu) (ent_of Tryz.func65 (by kernel_rfl) rfl) (fun w' xs u hm hu' c' => isWithin1_ok (s := b) (C := C) (c'.cell (hc_blk 0 rfl rfl w c)) (c'.cell (hc_blk 0 rfl rfl w c)) (c'.cell (hc_blk 2 rfl rfl w c)) (c'.rd (c.rd hv)) hu' hb hc (hA xs hm).1 (hA xs hm).2)) ?_; rintro v H' ⟨rfl, rfl⟩))
       | (show AT _ _ _ (wpList _ _ _ (⟨_, Op.makeFunc _ _ _, _, _, _, _⟩ :: _)); refine st_y (y_fn rfl rfl) rfl ?_)
       | (show AT _ _ _ (wpList _ _ _ (⟨_, Op.box _ _, _, _, _, _⟩ :: _)); refine m_box rfl rfl (fun bq hbq => ?_)))
    | (show AT _ _ _ (wpList _ _ _ []); refine c_nil (x_then ?_))
    | (show AT _ _ _ (Code.wp _ _ _); first | refine c_seq ?_ | refine c_region ?_ | refine c_ret ?_))
  refine x_ret1 Tryz.results44 (res_tmp rfl) (fun w' c' => ⟨_, _, rfl, ⟨congrArg Value.bool ?_, rfl⟩, c'.sub (List.nil_sublist _)⟩)
  refine decide_eq_decide.2 ?_
  rw [← within_iff hb hc hA]
  simp
theorem spec_IsWithin_ok {w : World} {p : Int} {a b : Sp} {u v : Value} (hu : Rd w (rowsT 22 a.2) u) (hv : Rd w (rowsT 22 b.2) v) : Does Tryz.prog 39 [iV p, .agg #[iV a.1, u], .agg #[iV b.1, v]] w (fun r H => r = .bool (decide (WthP p a b)) ∧ H = []) := by
  obtain ⟨av, cv, rfl, _⟩ := rd_rows hv
  refine fn_enter Tryz.func39 rfl Tryz.ntmps39 rfl ?_
  repeat' (first
    | (show AT _ _ _ (wpList _ _ _ (_ :: _)); first
       | (show AT _ _ _ (wpList _ _ _ (⟨_, Op.move _, _, _, _, _⟩ :: _)); refine st_y (y_move rfl) rfl ?_)
       | (show AT _ _ _ (wpList _ _ _ (⟨_, Op.assign _, _, _, _, _⟩ :: _)); refine st_y (y_assign rfl) rfl ?_)
       | (show AT _ _ _ (wpList _ _ _ (⟨_, Op.fieldAddr _ _ _, _, _, _, _⟩ :: _)); refine st_y (y_field tabs rfl rfl rfl) rfl ?_)
       | (show AT _ _ _ (wpList _ _ _ (⟨_, Op.load _ _, _, _, _, _⟩ :: _)); first | refine st_y (y_loadb 0 tabs rfl rfl rfl rfl) rfl ?_ | refine st_y (y_loadb 1 tabs rfl rfl rfl rfl) rfl ?_ | refine st_y (y_load tabs rfl rfl (hc_blk 0 rfl rfl)) rfl ?_ | refine st_y (y_load tabs rfl rfl (hc_blk 2 rfl rfl)) rfl ?_)
       | (show AT _ _ _ (wpList _ _ _ (⟨_, Op.binOp _ _ _ _ _, _, _, _, _⟩ :: _)); refine st_y (y_eql rfl rfl) rfl ?_)
       | (show AT _ _ _ (wpList _ _ _ (⟨_, Op.call _, _, _, _, _⟩ :: _)); first | (refine m_call (ent_of Tryz.func57 (by kernel_rfl) rfl) rfl rfl (fun w c => spec_AddSpaces_ok (a := a) (b := b) (c.rd hu) (c.rd hv)) ?_; rintro v H' ⟨a', c', rfl, hs, rfl⟩) | refine st_y (y_len tabs rfl rfl) rfl ?_)
       | (show AT _ _ _ (wpList _ _ _ (⟨_, Op.extract _ _, _, _, _, _⟩ :: _)); refine st_y (y_ext rfl rfl) rfl ?_)
       | (show AT _ _ _ (wpList _ _ _ (⟨_, Op.pick _ _ _, _, _, _, _⟩ :: _)); first | refine st_y (y_pickt rfl (by assumption) rfl) rfl ?_ | refine st_y (y_pickf rfl (by assumption) rfl) rfl ?_)
       | (show AT _ _ _ (wpList _ _ _ (⟨_, Op.store _ _ _, _, _, _, _⟩ :: _)); refine m_storeb 0 tabs rfl rfl rfl rfl rfl rfl rfl ?_)
       | (show AT _ _ _ (wpList _ _ _ (⟨_, Op.box _ _, _, _, _, _⟩ :: _)); refine m_box rfl rfl (fun bq hbq => ?_))
       | (show AT _ _ _ (wpList _ _ _ (⟨_, Op.alloc _, _, _, _, _⟩ :: _)); refine m_alloc tabs rfl rfl (fun b7 hb7 => ?_))
       | refine st_gdy rfl rfl (by assumption) ?_ | refine st_gdn rfl rfl (by assumption) rfl ?_ | refine st_gd rfl rfl (fun h => ?_) (fun h => ?_))
    | (show AT _ _ _ (wpList _ _ _ []); refine c_nil (x_then ?_))
    | (show AT _ _ _ (Code.wp _ _ _); first | refine c_seq ?_ | refine c_region ?_ | refine c_ret ?_))
  · refine x_ret1 Tryz.results39 (res_tmp rfl) (fun w' c' => ⟨_, _, rfl, ⟨congrArg Value.bool (decide_eq_decide.2 ?_), rfl⟩, c'.sub (List.nil_sublist _)⟩)
    have hA : SumP p a b := by assumption
    simp only [WthP, sumS, if_pos hA, basL_len]
    exact ⟨fun h => ⟨hA, by omega⟩, fun h => by have := h.2; omega⟩
  · refine x_ret1 Tryz.results39 (res_tmp rfl) (fun w' c' => ⟨_, _, rfl, ⟨congrArg Value.bool ?_, rfl⟩, c'.sub (List.nil_sublist _)⟩)
    have hA : ¬ SumP p a b := by assumption
    simp [WthP, hA]
end Go.Proofs.YtnmhdmkfhacdbaaGreat
