import Derived.Test.YtnmhdmkfhacdbaaGreatWthqA
namespace Go.Proofs.YtnmhdmkfhacdbaaGreat
open Go.Lg Go.Proofs Go.RowKit
attribute [local irreducible] Code.wp wpList bodyPost Exit.then Exit.inBlock Hp Again Calls Y AT ResV QT Qn QI wpAny wpAnyQ
set_option maxRecDepth 20000
set_option maxHeartbeats 4000000

/-! ### sums of spaces -/
theorem rd_two {M : List Nat} {w0 w : World} {H : List HE} (i : Nat) {e e' m c : Nat} {A B : List (List Int)} {us usa usb : List Value} {a : Option Addr} (hi : H[i]? = some (.own (.s e 1 (us.map T.c)) (.slice a m c))) (hus : us = usa ++ usb) (cw : Hp M w0 H w) (hA : RdC w (A.map iT) usa) (hB : RdC w (B.map iT) usb) : Rd w (rowsT e' (A ++ B)) (.slice a m c) := by
  subst hus
  have h := hA.append hB
  rw [← List.map_append, ← rowT_map] at h
  exact rd_named i hi cw h
def SumP (p : Int) (a b : Sp) : Prop := SpcP p a ∧ SpcP p b ∧ a.1 = b.1
instance (p : Int) (a b : Sp) : Decidable (SumP p a b) := by unfold SumP; infer_instance
def sumS (p : Int) (a b : Sp) : Sp := if SumP p a b then (a.1, basL p a.1.toNat (a.2 ++ b.2)) else (0, [])
theorem spec_AddSpaces_ok {w : World} {p : Int} {a b : Sp} {u v : Value} (hu : Rd w (rowsT 22 a.2) u) (hv : Rd w (rowsT 22 b.2) v) : Does Tryz.prog 57 [iV p, .agg #[iV a.1, u], .agg #[iV b.1, v]] w (GivesSpB (sumS p a b) (decide (SumP p a b))) := by
  by_cases hA : SumP p a b
  · rw [sumS, if_pos hA, decide_eq_true hA]
    obtain ⟨C, hc, hC, hl, hF, hn, _⟩ := hA.1.rows
    obtain ⟨C', hc', hC', hl', _, hn', _⟩ := hA.2.1.rows
    have : C' = C := by have := hA.2.2; omega
    subst this
    obtain ⟨h1, h2, h3⟩ := hA
    obtain ⟨n, A⟩ := a
    obtain ⟨n', B⟩ := b
    simp only at hc hc' hu hv hl hl' hn hn'
    subst hc; subst hc'
    simp only [Int.toNat_natCast]
    obtain ⟨usa, nA, rA, lA⟩ := rd_names hu (by omega)
    obtain ⟨usb, nB, rB, lB⟩ := rd_names hv (by omega)
    obtain ⟨aa, ca, rfl, _, hsa, hca, h1a⟩ := nA
    obtain ⟨ab', cb, rfl, _, hsb, hcb, h1b⟩ := nB
    refine fn_enter Tryz.func57 rfl Tryz.ntmps57 rfl ?_
    repeat' (first
      | (show AT _ _ _ (wpList _ _ _ (_ :: _)); first
         | (show AT _ _ _ (wpList _ _ _ (⟨_, Op.move _, _, _, _, _⟩ :: _)); refine st_y (y_move rfl) rfl ?_)
         | (show AT _ _ _ (wpList _ _ _ (⟨_, Op.assign _, _, _, _, _⟩ :: _)); refine st_y (y_assign rfl) rfl ?_)
         | (show AT _ _ _ (wpList _ _ _ (⟨_, Op.fieldAddr _ _ _, _, _, _, _⟩ :: _)); refine st_y (y_field tabs rfl rfl rfl) rfl ?_)
         | (show AT _ _ _ (wpList _ _ _ (⟨_, Op.load _ _, _, _, _, _⟩ :: _)); first | refine st_y (y_loadb 1 tabs rfl rfl rfl rfl) rfl ?_ | refine st_y (y_loadb 2 tabs rfl rfl rfl rfl) rfl ?_ | refine st_y (y_load tabs rfl rfl (hc_blk 1 rfl rfl)) rfl ?_ | refine st_y (y_load tabs rfl rfl (hc_blk 2 rfl rfl)) rfl ?_)
         | (show AT _ _ _ (wpList _ _ _ (⟨_, Op.binOp _ _ _ _ _, _, _, _, _⟩ :: _)); refine st_y (y_neq rfl rfl) rfl ?_)
         | (show AT _ _ _ (wpList _ _ _ (⟨_, Op.unOp _ _ _, _, _, _, _⟩ :: _)); refine st_y (y_notd rfl) rfl ?_)
         | (show AT _ _ _ (wpList _ _ _ (⟨_, Op.call _, _, _, _, _⟩ :: _)); first | (refine m_call (ent_of Tryz.func37 (by kernel_rfl) rfl) rfl rfl (fun w c => spec_IsSpace_ok (s := (_, A)) (c.rd hu)) ?_; rintro v H' ⟨rfl, rfl⟩) | (refine m_call (ent_of Tryz.func37 (by kernel_rfl) rfl) rfl rfl (fun w c => spec_IsSpace_ok (s := (_, B)) (c.rd hv)) ?_; rintro v H' ⟨rfl, rfl⟩))
         | (show AT _ _ _ (wpList _ _ _ (⟨_, Op.pick _ _ _, _, _, _, _⟩ :: _)); first | refine st_y (y_pickt rfl (by assumption) rfl) rfl ?_ | refine st_y (y_pickf rfl (by assumption) rfl) rfl ?_ | refine st_y (y_pick rfl rfl rfl) rfl ?_)
         | (show AT _ _ _ (wpList _ _ _ (⟨_, Op.box _ _, _, _, _, _⟩ :: _)); refine m_box rfl rfl (fun b4 hb4 => ?_))
         | (show AT _ _ _ (wpList _ _ _ (⟨_, Op.alloc _, _, _, _, _⟩ :: _)); refine m_alloc tabs rfl rfl (fun b6 hb6 => ?_))
         | refine st_gn rfl rfl rfl ?_ | refine st_gfy rfl rfl (by assumption) ?_ | refine st_gfn rfl rfl (by assumption) rfl ?_ | refine st_gd rfl rfl (fun h => ?_) (fun h => ?_))
      | (show AT _ _ _ (wpList _ _ _ []); refine c_nil (x_then ?_))
      | (show AT _ _ _ (Code.wp _ _ _); first | refine c_seq ?_ | refine c_region ?_ | refine c_skip (x_then ?_) | refine c_true rfl ?_ | refine c_iff rfl (by first | assumption | exact not_not_intro (by assumption) | omega) ?_))
    all_goals first | exact absurd h1 (by assumption) | exact absurd h2 (by assumption) | exact absurd rfl (by assumption) | skip
    rename_i b5 hb5 _
    refine c_mixR (Hp [] w [.blk b4 #[iV C', .slice ab' usb.length cb] 53, .blk b5 #[iV C', .slice aa usa.length ca] 53]) 11 (by kernel_rfl) (by kernel_rfl) (by kernel_rfl) (by kernel_rfl) (by kernel_rfl) (fun _ c => Hp.drew c) ?_
    refine h_take 0 rfl (by kernel_rfl) (by kernel_rfl) (by kernel_rfl) (by exact y_move rfl) rfl (fun w c => by exact c.drop) ?_
    refine h_take 1 rfl (by kernel_rfl) (by kernel_rfl) (by kernel_rfl) (by exact y_field tabs rfl rfl rfl) rfl (fun w c => by exact c.drop) ?_
    refine h_take 2 rfl (by kernel_rfl) (by kernel_rfl) (by kernel_rfl) (by exact y_load tabs rfl rfl (hc_blk 1 rfl rfl)) rfl (fun w c => by exact c.drop) ?_
    refine h_take 4 rfl (by kernel_rfl) (by kernel_rfl) (by kernel_rfl) (by exact y_field tabs rfl rfl rfl) rfl (fun w c => by exact c.drop) ?_
    refine h_take 5 rfl (by kernel_rfl) (by kernel_rfl) (by kernel_rfl) (by exact y_load tabs rfl rfl (hc_blk 1 rfl rfl)) rfl (fun w c => by exact c.drop) ?_
    refine h_take 7 rfl (by kernel_rfl) (by kernel_rfl) (by kernel_rfl) (by exact y_field tabs rfl rfl rfl) rfl (fun w c => by exact c.drop) ?_
    refine h_take 8 rfl (by kernel_rfl) (by kernel_rfl) (by kernel_rfl) (by exact y_load tabs rfl rfl (hc_blk 0 rfl rfl)) rfl (fun w c => by exact c.drop) ?_
    refine h_only 3 rfl (by kernel_rfl) ?_
    first | (refine m_build0 tabs rfl rfl (fun gb hgb => ?_)) | (refine m_apps tabs (us := []) (us' := usa) (m' := 0 + usa.length) rfl rfl rfl rfl rfl h1a (by simp) (by simp; omega) (by decide) (fun w c => c) (named_src hsa hca) (fun a3 c3 => ?_)) | (refine m_apps tabs (us := [] ++ usa) (us' := usb) (m' := 0 + usa.length + usb.length) rfl rfl rfl rfl rfl h1b (by simp) (by simp; omega) (by decide) (fun w c => c) (named_src hsb hcb) (fun a4 c4 => ?_)) | (refine m_call (ent_of Tryz.func56 (by kernel_rfl) rfl) rfl rfl (fun w c => l5Span_ok (rd_two (e' := 22) 0 rfl (by simp) c (c.rdC rA) (c.rdC rB)) hF (hl.app hl') (by simp; omega) (by omega)) ?_; rintro v H' ⟨a, c, rfl, hs, rfl⟩)
    refine c_nil (x_one (h_keep (fun w c => by exact c.drop.drop) ?_))
    refine h_only 6 rfl (by kernel_rfl) ?_
    first | (refine m_build0 tabs rfl rfl (fun gb hgb => ?_)) | (refine m_apps tabs (us := []) (us' := usa) (m' := 0 + usa.length) rfl rfl rfl rfl rfl h1a (by simp) (by simp; omega) (by decide) (fun w c => c) (named_src hsa hca) (fun a3 c3 => ?_)) | (refine m_apps tabs (us := [] ++ usa) (us' := usb) (m' := 0 + usa.length + usb.length) rfl rfl rfl rfl rfl h1b (by simp) (by simp; omega) (by decide) (fun w c => c) (named_src hsb hcb) (fun a4 c4 => ?_)) | (refine m_call (ent_of Tryz.func56 (by kernel_rfl) rfl) rfl rfl (fun w c => l5Span_ok (rd_two (e' := 22) 0 rfl (by simp) c (c.rdC rA) (c.rdC rB)) hF (hl.app hl') (by simp; omega) (by omega)) ?_; rintro v H' ⟨a, c, rfl, hs, rfl⟩)
    refine c_nil (x_one (h_keep (fun w c => by exact c.drop.drop) ?_))
    refine h_only 9 rfl (by kernel_rfl) ?_
    first | (refine m_build0 tabs rfl rfl (fun gb hgb => ?_)) | (refine m_apps tabs (us := []) (us' := usa) (m' := 0 + usa.length) rfl rfl rfl rfl rfl h1a (by simp) (by simp; omega) (by decide) (fun w c => c) (named_src hsa hca) (fun a3 c3 => ?_)) | (refine m_apps tabs (us := [] ++ usa) (us' := usb) (m' := 0 + usa.length + usb.length) rfl rfl rfl rfl rfl h1b (by simp) (by simp; omega) (by decide) (fun w c => c) (named_src hsb hcb) (fun a4 c4 => ?_)) | (refine m_call (ent_of Tryz.func56 (by kernel_rfl) rfl) rfl rfl (fun w c => l5Span_ok (rd_two (e' := 22) 0 rfl (by simp) c (c.rdC rA) (c.rdC rB)) hF (hl.app hl') (by simp; omega) (by omega)) ?_; rintro v H' ⟨a, c, rfl, hs, rfl⟩)
    refine c_nil (x_one (h_keep (fun w c => by exact c.drop.drop) ?_))
    refine h_only 10 rfl (by kernel_rfl) ?_
    first | (refine m_build0 tabs rfl rfl (fun gb hgb => ?_)) | (refine m_apps tabs (us := []) (us' := usa) (m' := 0 + usa.length) rfl rfl rfl rfl rfl h1a (by simp) (by simp; omega) (by decide) (fun w c => c) (named_src hsa hca) (fun a3 c3 => ?_)) | (refine m_apps tabs (us := [] ++ usa) (us' := usb) (m' := 0 + usa.length + usb.length) rfl rfl rfl rfl rfl h1b (by simp) (by simp; omega) (by decide) (fun w c => c) (named_src hsb hcb) (fun a4 c4 => ?_)) | (refine m_call (ent_of Tryz.func56 (by kernel_rfl) rfl) rfl rfl (fun w c => l5Span_ok (rd_two (e' := 22) 0 rfl (by simp) c (c.rdC rA) (c.rdC rB)) hF (hl.app hl') (by simp; omega) (by omega)) ?_; rintro v H' ⟨a, c, rfl, hs, rfl⟩)
    refine c_nil (x_one (h_keep (fun w c => by exact c.sub (by repeat' first | exact List.Sublist.refl _ | exact List.nil_sublist _ | apply List.Sublist.cons_cons | apply List.Sublist.cons)) ?_))
    refine h_end (by kernel_rfl) ?_
    repeat' (first
      | (show AT _ _ _ (wpList _ _ _ (_ :: _)); first
         | (show AT _ _ _ (wpList _ _ _ (⟨_, Op.assign _, _, _, _, _⟩ :: _)); refine st_y (y_assign rfl) rfl ?_)
         | (show AT _ _ _ (wpList _ _ _ (⟨_, Op.store _ _ _, _, _, _, _⟩ :: _)); refine m_storeb 2 tabs rfl rfl rfl rfl rfl rfl rfl ?_))
      | (show AT _ _ _ (wpList _ _ _ []); refine c_nil (x_then ?_))
      | (show AT _ _ _ (Code.wp _ _ _); refine c_ret ?_))
    exact x_ret2 Tryz.results57 (res_cellb 2 tabs rfl rfl rfl rfl) (res_tmp rfl) (fun w' c' => ⟨_, _, rfl, ⟨a, c, rfl, hs, rfl⟩, c'.sub (.cons_cons _ (List.nil_sublist _))⟩)
  · rw [sumS, if_neg hA, decide_eq_false hA]
    refine fn_enter Tryz.func57 rfl Tryz.ntmps57 rfl ?_
    repeat' (first
      | (show AT _ _ _ (wpList _ _ _ (_ :: _)); first
         | (show AT _ _ _ (wpList _ _ _ (⟨_, Op.move _, _, _, _, _⟩ :: _)); refine st_y (y_move rfl) rfl ?_)
         | (show AT _ _ _ (wpList _ _ _ (⟨_, Op.assign _, _, _, _, _⟩ :: _)); refine st_y (y_assign rfl) rfl ?_)
         | (show AT _ _ _ (wpList _ _ _ (⟨_, Op.fieldAddr _ _ _, _, _, _, _⟩ :: _)); refine st_y (y_field tabs rfl rfl rfl) rfl ?_)
         | (show AT _ _ _ (wpList _ _ _ (⟨_, Op.load _ _, _, _, _, _⟩ :: _)); first | refine st_y (y_loadb 1 tabs rfl rfl rfl rfl) rfl ?_ | refine st_y (y_loadb 2 tabs rfl rfl rfl rfl) rfl ?_ | refine st_y (y_load tabs rfl rfl (hc_blk 1 rfl rfl)) rfl ?_ | refine st_y (y_load tabs rfl rfl (hc_blk 2 rfl rfl)) rfl ?_)
         | (show AT _ _ _ (wpList _ _ _ (⟨_, Op.binOp _ _ _ _ _, _, _, _, _⟩ :: _)); refine st_y (y_neq rfl rfl) rfl ?_)
         | (show AT _ _ _ (wpList _ _ _ (⟨_, Op.unOp _ _ _, _, _, _, _⟩ :: _)); refine st_y (y_notd rfl) rfl ?_)
         | (show AT _ _ _ (wpList _ _ _ (⟨_, Op.call _, _, _, _, _⟩ :: _)); first | (refine m_call (ent_of Tryz.func37 (by kernel_rfl) rfl) rfl rfl (fun w c => spec_IsSpace_ok (s := a) (c.rd hu)) ?_; rintro v H' ⟨rfl, rfl⟩) | (refine m_call (ent_of Tryz.func37 (by kernel_rfl) rfl) rfl rfl (fun w c => spec_IsSpace_ok (s := b) (c.rd hv)) ?_; rintro v H' ⟨rfl, rfl⟩))
         | (show AT _ _ _ (wpList _ _ _ (⟨_, Op.pick _ _ _, _, _, _, _⟩ :: _)); first | refine st_y (y_pickt rfl (by assumption) rfl) rfl ?_ | refine st_y (y_pickf rfl (by assumption) rfl) rfl ?_ | refine st_y (y_pick rfl rfl rfl) rfl ?_)
         | (show AT _ _ _ (wpList _ _ _ (⟨_, Op.store _ _ _, _, _, _, _⟩ :: _)); refine m_storeb 0 tabs rfl rfl rfl rfl rfl rfl rfl ?_)
         | (show AT _ _ _ (wpList _ _ _ (⟨_, Op.box _ _, _, _, _, _⟩ :: _)); refine m_box rfl rfl (fun b4 hb4 => ?_))
         | (show AT _ _ _ (wpList _ _ _ (⟨_, Op.alloc _, _, _, _, _⟩ :: _)); refine m_alloc tabs rfl rfl (fun b6 hb6 => ?_))
         | (show AT _ _ _ (wpList _ _ _ (⟨_, Op.build _ _, _, _, _, _⟩ :: _)); refine st_y (y_bld0 bld_sp0) rfl ?_)
         | refine st_gn rfl rfl rfl ?_ | refine st_gfy rfl rfl (by assumption) ?_ | refine st_gfn rfl rfl (by assumption) rfl ?_ | refine st_gd rfl rfl (fun h => ?_) (fun h => ?_))
      | (show AT _ _ _ (wpList _ _ _ []); refine c_nil (x_then ?_))
      | (show AT _ _ _ (Code.wp _ _ _); first | refine c_seq ?_ | refine c_region ?_ | refine c_skip (x_then ?_) | refine c_ret ?_ | refine c_true rfl ?_ | refine c_ifnd rfl (fun h => ?_) (fun h => ?_))
      | (show AT _ _ _ _; refine x_then_ret ?_))
    all_goals first
      | exact absurd ⟨by first | assumption | exact Decidable.not_not.1 (by assumption), by first | assumption | exact Decidable.not_not.1 (by assumption), by first | assumption | exact Decidable.not_not.1 (by assumption)⟩ hA
      | exact x_ret2 Tryz.results57 (res_cellb 0 tabs rfl rfl rfl rfl) (res_tmp rfl) (fun w' c' => ⟨_, _, rfl, ⟨none, 0, rfl, .inl rfl, rfl⟩, Hp.nilp _ _ (c'.sub (List.nil_sublist _))⟩)
end Go.Proofs.YtnmhdmkfhacdbaaGreat
