import Derived.Test.YtcplmeajmpkpkaaGreatWthqsp
namespace Go.Proofs.YtcplmeajmpkpkaaGreat
open Go.Lg Go.Proofs Go.RowKit
attribute [local irreducible] Code.wp wpList bodyPost Exit.then Exit.inBlock Hp Again Calls Y AT ResV QT Qn QI wpAny wpAnyQ
set_option maxRecDepth 20000
set_option maxHeartbeats 4000000

theorem areSpaces_ok {w : World} {p : Int} {a b : Sp} {u v : Value} (hu : Rd w (rowsT 43 a.2) u) (hv : Rd w (rowsT 43 b.2) v) : Does Tryz.prog 35 [iV p, .agg #[iV a.1, u], .agg #[iV b.1, v]] w (fun r H => r = .bool (decide (SpcP p a ∧ SpcP p b ∧ a.1 = b.1)) ∧ H = []) := by
  refine fn_enter Tryz.func35 rfl Tryz.ntmps35 rfl ?_
  repeat' (first | (show oL; first | refine sMv rfl rfl ?_ | refine sAs rfl rfl ?_ | refine sFd tabs rfl rfl rfl rfl ?_ | (show oA (.load _ _); first | refine sLb 0 tabs rfl rfl rfl rfl rfl ?_ | refine sLb 1 tabs rfl rfl rfl rfl rfl ?_ | refine sLd 0 tabs rfl rfl rfl rfl rfl ?_ | refine sLd 1 tabs rfl rfl rfl rfl rfl ?_) | (show oA (.binOp _ _ _ _ _); refine st_y (y_eql rfl rfl) rfl ?_) | (show oA (.call _); first | (refine m_call (ent_of Tryz.func12 kr rfl) rfl rfl (fun w c => impl_IsSpace_ok (s := a) (c.rd hu)) ?_; rintro v H' ⟨rfl, rfl⟩) | (refine m_call (ent_of Tryz.func12 kr rfl) rfl rfl (fun w c => impl_IsSpace_ok (s := b) (c.rd hv)) ?_; rintro v H' ⟨rfl, rfl⟩)) | (show oA (.pick _ _ _); first | refine st_y (y_pickt rfl aS rfl) rfl ?_ | refine st_y (y_pickf rfl aS rfl) rfl ?_ | refine st_y (y_pick rfl rfl rfl) rfl ?_) | (show oA (.box _ _); refine m_box rfl rfl (fun bq hbq => ?_)) | refine st_gn rfl rfl rfl ?_ | refine st_gdy rfl rfl aS ?_ | refine st_gdn rfl rfl aS rfl ?_ | refine st_gd rfl rfl (fun h => ?_) (fun h => ?_)) | refine xNt ?_ | (show oC; first | refine c_seq ?_ | refine c_region ?_ | refine c_ret ?_))
  all_goals refine x_ret1 Tryz.results35 (res_tmp rfl) (fun w c => ⟨_, _, rfl, ⟨congrArg Value.bool ?_, rfl⟩, c.sub (List.nil_sublist _)⟩)
  all_goals simp_all
theorem two_names {w : World} {g : Nat} {ua ub : Value} {usa usb : List Value} (h0 : w.cell? ⟨g, 0, none⟩ = some ua) (h1 : w.cell? ⟨g, 1, none⟩ = some ub) (ha : NamesAt w ua usa) (hb : NamesAt w ub usb) : ∀ (i : Nat) us, [usa, usb][i]? = some us → ∃ u, w.cell? ⟨g, 0 + i, none⟩ = some u ∧ NamesAt w u us := fun i us h => by
  match i, h with
  | 0, h => simp at h; subst h; exact ⟨ua, h0, ha⟩
  | 1, h => simp at h; subst h; exact ⟨ub, h1, hb⟩
  | i + 2, h => simp at h
theorem rd_two {M : List Nat} {w0 w : World} {H : List HE} (i : Nat) {e e' m c : Nat} {A B : List (List Int)} {us usa usb : List Value} {a : Option Addr} (hi : H[i]? = some (.own (.s e 1 (us.map T.c)) (.slice a m c))) (hus : us = usa ++ usb) (cw : Hp M w0 H w) (hA : RdC w (A.map iT) usa) (hB : RdC w (B.map iT) usb) : Rd w (rowsT e' (A ++ B)) (.slice a m c) := by
  subst hus
  have h := hA.append hB
  rw [← List.map_append, ← rowT_map] at h
  exact rd_named i hi cw h
theorem sumSpace_ok {w : World} {p : Int} {C : Nat} {A B : List (List Int)} {n : Int} {u v : Value} (hu : Rd w (rowsT 43 A) u) (hv : Rd w (rowsT 43 B) v) (hF : FieldP p) (hA : RowsP p C A) (hB : RowsP p C B) (hb : A.length + B.length ≤ 64) (hC : C ≤ 64) : Does Tryz.prog 42 [iV p, .agg #[iV C, u], .agg #[iV n, v]] w (GivesSp (↑C, basL p C (A ++ B))) := by
  obtain ⟨aa, ca, rfl, _⟩ := rd_rows hu
  obtain ⟨ab', cb, rfl, _⟩ := rd_rows hv
  obtain ⟨usa, nA, rA, lA⟩ := rd_names hu om
  obtain ⟨usb, nB, rB, lB⟩ := rd_names hv om
  refine fn_enter Tryz.func42 rfl Tryz.ntmps42 rfl ?_
  repeat' (first | (show oL; first | (show oA (.box _ _); refine m_box rfl rfl (fun b4 hb4 => ?_)) | (show oA (.alloc _); refine m_alloc tabs rfl rfl (fun b6 hb6 => ?_))) | refine xNt ?_ | (show oC; first | refine c_seq ?_ | refine c_region ?_))
  rename_i b5 hb5
  refine c_mixR (Hp [] w [.blk b4 #[iV n, .slice ab' B.length cb] 26, .blk b5 #[iV C, .slice aa A.length ca] 26]) 10 kr kr kr kr kr (fun _ c => Hp.drew c) ?_
  refine h_take 0 rfl kr kr kr (by exact y_move rfl) rfl (fun w c => by exact c.drop) ?_
  refine h_take 1 rfl kr kr kr (by exact y_field tabs rfl rfl rfl) rfl (fun w c => by exact c.drop) ?_
  refine h_take 2 rfl kr kr kr (by exact y_load tabs rfl rfl (hc_blk 1 rfl rfl)) rfl (fun w c => by exact c.drop) ?_
  refine h_take 3 rfl kr kr kr (by exact y_field tabs rfl rfl rfl) rfl (fun w c => by exact c.drop) ?_
  refine h_take 4 rfl kr kr kr (by exact y_load tabs rfl rfl (hc_blk 1 rfl rfl)) rfl (fun w c => by exact c.drop) ?_
  refine h_take 5 rfl kr kr kr (by exact y_field tabs rfl rfl rfl) rfl (fun w c => by exact c.drop) ?_
  refine h_take 6 rfl kr kr kr (by exact y_load tabs rfl rfl (hc_blk 0 rfl rfl)) rfl (fun w c => by exact c.drop) ?_
  refine h_only 7 rfl kr ?_
  first | (refine m_buildn tabs (vs := [.slice aa A.length ca, .slice ab' B.length cb]) rfl rfl rfl (fun u hu => by simp at hu; rcases hu with rfl | rfl <;> rfl) rfl rfl rfl (fun g hg => ?_)) | (refine m_call (ent_of Tryz.func78 kr rfl) rfl rfl (fun w c => (by exact ConcatR_ok (L := [usa, usb]) (two_names (hc_blk 0 rfl rfl w c) (hc_blk 0 rfl rfl w c) (nA.rd c) (nB.rd c)) (by simp; omega) (by simp))) ?_; rintro v H' ⟨ac, cc, rfl, rfl⟩) | (refine m_call (ent_of Tryz.func47 kr rfl) rfl rfl (fun w c => span_ok (rd_two (e' := 43) 0 rfl (by simp) c (c.rdC rA) (c.rdC rB)) hF (hA.app hB) (by simp; omega) om) ?_; rintro v H' ⟨a, c, rfl, hs, rfl⟩)
  refine c_nil (x_one (h_keep (fun w c => by exact c.drop.drop) ?_))
  refine h_only 8 rfl kr ?_
  first | (refine m_buildn tabs (vs := [.slice aa A.length ca, .slice ab' B.length cb]) rfl rfl rfl (fun u hu => by simp at hu; rcases hu with rfl | rfl <;> rfl) rfl rfl rfl (fun g hg => ?_)) | (refine m_call (ent_of Tryz.func78 kr rfl) rfl rfl (fun w c => (by exact ConcatR_ok (L := [usa, usb]) (two_names (hc_blk 0 rfl rfl w c) (hc_blk 0 rfl rfl w c) (nA.rd c) (nB.rd c)) (by simp; omega) (by simp))) ?_; rintro v H' ⟨ac, cc, rfl, rfl⟩) | (refine m_call (ent_of Tryz.func47 kr rfl) rfl rfl (fun w c => span_ok (rd_two (e' := 43) 0 rfl (by simp) c (c.rdC rA) (c.rdC rB)) hF (hA.app hB) (by simp; omega) om) ?_; rintro v H' ⟨a, c, rfl, hs, rfl⟩)
  refine c_nil (x_one (h_keep sS ?_))
  refine h_only 9 rfl kr ?_
  first | (refine m_buildn tabs (vs := [.slice aa A.length ca, .slice ab' B.length cb]) rfl rfl rfl (fun u hu => by simp at hu; rcases hu with rfl | rfl <;> rfl) rfl rfl rfl (fun g hg => ?_)) | (refine m_call (ent_of Tryz.func78 kr rfl) rfl rfl (fun w c => (by exact ConcatR_ok (L := [usa, usb]) (two_names (hc_blk 0 rfl rfl w c) (hc_blk 0 rfl rfl w c) (nA.rd c) (nB.rd c)) (by simp; omega) (by simp))) ?_; rintro v H' ⟨ac, cc, rfl, rfl⟩) | (refine m_call (ent_of Tryz.func47 kr rfl) rfl rfl (fun w c => span_ok (rd_two (e' := 43) 0 rfl (by simp) c (c.rdC rA) (c.rdC rB)) hF (hA.app hB) (by simp; omega) om) ?_; rintro v H' ⟨a, c, rfl, hs, rfl⟩)
  refine c_nil (x_one (h_keep sS ?_))
  refine h_end kr ?_
  repeat' (first | (show oL; first | (show oA (.store _ _ _); refine m_storeb 3 tabs rfl rfl rfl rfl rfl rfl rfl ?_)) | refine xNt ?_ | (show oC; refine c_ret ?_))
  exact x_ret1 Tryz.results42 (res_cellb 3 tabs rfl rfl rfl rfl) (fun w' c' => ⟨_, _, rfl, ⟨a, c, rfl, hs, rfl⟩, c'.sub (.cons_cons _ (List.nil_sublist _))⟩)
def SumP (p : Int) (a b : Sp) : Prop := SpcP p a ∧ SpcP p b ∧ a.1 = b.1
instance (p : Int) (a b : Sp) : Decidable (SumP p a b) := by unfold SumP; infer_instance
def sumS (p : Int) (a b : Sp) : Sp := if SumP p a b then (a.1, basL p a.1.toNat (a.2 ++ b.2)) else (0, [])
theorem impl_AddSpaces_ok {w : World} {p : Int} {a b : Sp} {u v : Value} (hu : Rd w (rowsT 43 a.2) u) (hv : Rd w (rowsT 43 b.2) v) : Does Tryz.prog 8 [iV p, .agg #[iV a.1, u], .agg #[iV b.1, v]] w (GivesSpB (sumS p a b) (decide (SumP p a b))) := by
  by_cases hA : SumP p a b
  · rw [sumS, if_pos hA, decide_eq_true hA]
    obtain ⟨C, hc, hC, hl, hF, hn, _⟩ := hA.1.rows
    obtain ⟨C', hc', hC', hl', _, hn', _⟩ := hA.2.1.rows
    have : C' = C := by have := hA.2.2; omega
    subst this
    have hA' : SpcP p a ∧ SpcP p b ∧ a.1 = b.1 := hA
    obtain ⟨n, A⟩ := a
    obtain ⟨n', B⟩ := b
    simp only at hc hc' hu hv hl hl' hn hn'
    subst hc; subst hc'
    simp only [Int.toNat_natCast]
    refine fn_enter Tryz.func8 rfl Tryz.ntmps8 rfl ?_
    repeat' (first | (show oL; first | refine sMv rfl rfl ?_ | refine sAs rfl rfl ?_ | (show oA (.load _ _); first | refine sLb 1 tabs rfl rfl rfl rfl rfl ?_ | refine sLb 2 tabs rfl rfl rfl rfl rfl ?_) | (show oA (.unOp _ _ _); refine st_y (y_notd rfl) rfl ?_) | (show oA (.call _); first | (refine m_call (ent_of Tryz.func35 kr rfl) rfl rfl (fun w c => areSpaces_ok (a := (_, A)) (b := (_, B)) (c.rd hu) (c.rd hv)) ?_; rintro v H' ⟨rfl, rfl⟩) | (refine m_call (ent_of Tryz.func42 kr rfl) rfl rfl (fun w c => sumSpace_ok (c.rd hu) (c.rd hv) hF hl hl' om om) ?_; rintro v H' ⟨a, c, rfl, hs, rfl⟩)) | (show oA (.store _ _ _); refine m_storeb 1 tabs rfl rfl rfl rfl rfl rfl rfl ?_) | (show oA (.box _ _); refine m_box rfl rfl (fun b4 hb4 => ?_)) | (show oA (.alloc _); refine m_alloc tabs rfl rfl (fun b6 hb6 => ?_))) | refine xNt ?_ | (show oC; first | refine c_seq ?_ | refine c_region ?_ | refine c_skip (x_then ?_) | refine c_ret ?_ | refine c_iff rfl nN ?_))
    all_goals first | exact absurd hA' aS | skip
    exact x_ret2 Tryz.results8 (res_cellb 1 tabs rfl rfl rfl rfl) (res_tmp rfl) (fun w' c' => ⟨_, _, rfl, ⟨a, c, rfl, hs, rfl⟩, c'.sub (.cons_cons _ (List.nil_sublist _))⟩)
  · rw [sumS, if_neg hA, decide_eq_false hA]
    have hA' : ¬ (SpcP p a ∧ SpcP p b ∧ a.1 = b.1) := hA
    refine fn_enter Tryz.func8 rfl Tryz.ntmps8 rfl ?_
    repeat' (first | (show oL; first | refine sMv rfl rfl ?_ | refine sAs rfl rfl ?_ | (show oA (.load _ _); first | refine sLb 1 tabs rfl rfl rfl rfl rfl ?_ | refine sLb 2 tabs rfl rfl rfl rfl rfl ?_) | (show oA (.unOp _ _ _); refine st_y (y_notd rfl) rfl ?_) | (show oA (.call _); (refine m_call (ent_of Tryz.func35 kr rfl) rfl rfl (fun w c => areSpaces_ok (a := a) (b := b) (c.rd hu) (c.rd hv)) ?_; rintro v H' ⟨rfl, rfl⟩)) | (show oA (.store _ _ _); refine m_storeb 0 tabs rfl rfl rfl rfl rfl rfl rfl ?_) | (show oA (.box _ _); refine m_box rfl rfl (fun b4 hb4 => ?_)) | (show oA (.alloc _); refine m_alloc tabs rfl rfl (fun b6 hb6 => ?_)) | (show oA (.build _ _); refine st_y (y_bld0 bld_sp0) rfl ?_)) | refine xNt ?_ | (show oC; first | refine c_seq ?_ | refine c_region ?_ | refine c_ret ?_ | refine c_ift rfl aO ?_) | (show AT _ _ _ _; refine x_then_ret ?_))
    all_goals first | exact absurd aS hA' | skip
    exact x_ret2 Tryz.results8 (res_cellb 0 tabs rfl rfl rfl rfl) (res_tmp rfl) (fun w' c' => ⟨_, _, rfl, ⟨none, 0, rfl, .inl rfl, rfl⟩, Hp.nilp _ _ (c'.sub (List.nil_sublist _))⟩)
theorem spec_AddSpaces_ok {w : World} {p : Int} {a b : Sp} {u v : Value} (hu : Rd w (rowsT 43 a.2) u) (hv : Rd w (rowsT 43 b.2) v) : Does Tryz.prog 9 [iV p, .agg #[iV a.1, u], .agg #[iV b.1, v]] w (GivesSpB (sumS p a b) (decide (SumP p a b))) := by
  by_cases hA : SumP p a b
  · rw [sumS, if_pos hA, decide_eq_true hA]
    obtain ⟨C, hc, hC, hl, hF, hn, _⟩ := hA.1.rows
    obtain ⟨C', hc', hC', hl', _, hn', _⟩ := hA.2.1.rows
    have : C' = C := by have := hA.2.2; omega
    subst this
    obtain ⟨h1, h2, h3⟩ := hA
    obtain ⟨n, A⟩ := a
    obtain ⟨n', B⟩ := b
    simp only at hc hc' hu hv hl hl' hn hn'
    subst hc; subst hc'
    simp only [Int.toNat_natCast]
    obtain ⟨usa, nA, rA, lA⟩ := rd_names hu om
    obtain ⟨usb, nB, rB, lB⟩ := rd_names hv om
    obtain ⟨aa, ca, rfl, _, hsa, hca, h1a⟩ := nA
    obtain ⟨ab', cb, rfl, _, hsb, hcb, h1b⟩ := nB
    refine fn_enter Tryz.func9 rfl Tryz.ntmps9 rfl ?_
    repeat' (first | (show oL; first | refine sMv rfl rfl ?_ | refine sAs rfl rfl ?_ | refine sFd tabs rfl rfl rfl rfl ?_ | (show oA (.load _ _); first | refine sLb 1 tabs rfl rfl rfl rfl rfl ?_ | refine sLb 2 tabs rfl rfl rfl rfl rfl ?_ | refine sLd 1 tabs rfl rfl rfl rfl rfl ?_ | refine sLd 2 tabs rfl rfl rfl rfl rfl ?_) | (show oA (.binOp _ _ _ _ _); refine st_y (y_neq rfl rfl) rfl ?_) | (show oA (.unOp _ _ _); refine st_y (y_notd rfl) rfl ?_) | (show oA (.call _); first | (refine m_call (ent_of Tryz.func32 kr rfl) rfl rfl (fun w c => spec_IsSpace_ok (s := (_, A)) (c.rd hu)) ?_; rintro v H' ⟨rfl, rfl⟩) | (refine m_call (ent_of Tryz.func32 kr rfl) rfl rfl (fun w c => spec_IsSpace_ok (s := (_, B)) (c.rd hv)) ?_; rintro v H' ⟨rfl, rfl⟩)) | (show oA (.pick _ _ _); first | refine st_y (y_pickt rfl aS rfl) rfl ?_ | refine st_y (y_pickf rfl aS rfl) rfl ?_ | refine st_y (y_pick rfl rfl rfl) rfl ?_) | (show oA (.box _ _); refine m_box rfl rfl (fun b4 hb4 => ?_)) | (show oA (.alloc _); refine m_alloc tabs rfl rfl (fun b6 hb6 => ?_)) | refine st_gn rfl rfl rfl ?_ | refine st_gfy rfl rfl aS ?_ | refine st_gfn rfl rfl aS rfl ?_ | refine st_gd rfl rfl (fun h => ?_) (fun h => ?_)) | refine xNt ?_ | (show oC; first | refine c_seq ?_ | refine c_region ?_ | refine c_skip (x_then ?_) | refine c_true rfl ?_ | refine c_iff rfl nN ?_))
    all_goals first | exact absurd h1 aS | exact absurd h2 aS | exact absurd rfl aS | skip
    rename_i b5 hb5 _
    refine c_mixR (Hp [] w [.blk b4 #[iV C', .slice ab' usb.length cb] 26, .blk b5 #[iV C', .slice aa usa.length ca] 26]) 11 kr kr kr kr kr (fun _ c => Hp.drew c) ?_
    refine h_take 0 rfl kr kr kr (by exact y_move rfl) rfl (fun w c => by exact c.drop) ?_
    refine h_take 1 rfl kr kr kr (by exact y_field tabs rfl rfl rfl) rfl (fun w c => by exact c.drop) ?_
    refine h_take 2 rfl kr kr kr (by exact y_load tabs rfl rfl (hc_blk 1 rfl rfl)) rfl (fun w c => by exact c.drop) ?_
    refine h_take 4 rfl kr kr kr (by exact y_field tabs rfl rfl rfl) rfl (fun w c => by exact c.drop) ?_
    refine h_take 5 rfl kr kr kr (by exact y_load tabs rfl rfl (hc_blk 1 rfl rfl)) rfl (fun w c => by exact c.drop) ?_
    refine h_take 7 rfl kr kr kr (by exact y_field tabs rfl rfl rfl) rfl (fun w c => by exact c.drop) ?_
    refine h_take 8 rfl kr kr kr (by exact y_load tabs rfl rfl (hc_blk 0 rfl rfl)) rfl (fun w c => by exact c.drop) ?_
    refine h_only 3 rfl kr ?_
    first | (refine m_build0 tabs rfl rfl (fun gb hgb => ?_)) | (refine m_apps tabs (us := []) (us' := usa) (m' := 0 + usa.length) rfl rfl rfl rfl rfl h1a (by simp) (by simp; omega) (by decide) (fun w c => c) (named_src hsa hca) (fun a3 c3 => ?_)) | (refine m_apps tabs (us := [] ++ usa) (us' := usb) (m' := 0 + usa.length + usb.length) rfl rfl rfl rfl rfl h1b (by simp) (by simp; omega) (by decide) (fun w c => c) (named_src hsb hcb) (fun a4 c4 => ?_)) | (refine m_call (ent_of Tryz.func41 kr rfl) rfl rfl (fun w c => l5Span_ok (rd_two (e' := 43) 0 rfl (by simp) c (c.rdC rA) (c.rdC rB)) hF (hl.app hl') (by simp; omega) om) ?_; rintro v H' ⟨a, c, rfl, hs, rfl⟩)
    refine c_nil (x_one (h_keep (fun w c => by exact c.drop.drop) ?_))
    refine h_only 6 rfl kr ?_
    first | (refine m_build0 tabs rfl rfl (fun gb hgb => ?_)) | (refine m_apps tabs (us := []) (us' := usa) (m' := 0 + usa.length) rfl rfl rfl rfl rfl h1a (by simp) (by simp; omega) (by decide) (fun w c => c) (named_src hsa hca) (fun a3 c3 => ?_)) | (refine m_apps tabs (us := [] ++ usa) (us' := usb) (m' := 0 + usa.length + usb.length) rfl rfl rfl rfl rfl h1b (by simp) (by simp; omega) (by decide) (fun w c => c) (named_src hsb hcb) (fun a4 c4 => ?_)) | (refine m_call (ent_of Tryz.func41 kr rfl) rfl rfl (fun w c => l5Span_ok (rd_two (e' := 43) 0 rfl (by simp) c (c.rdC rA) (c.rdC rB)) hF (hl.app hl') (by simp; omega) om) ?_; rintro v H' ⟨a, c, rfl, hs, rfl⟩)
    refine c_nil (x_one (h_keep (fun w c => by exact c.drop.drop) ?_))
    refine h_only 9 rfl kr ?_
    first | (refine m_build0 tabs rfl rfl (fun gb hgb => ?_)) | (refine m_apps tabs (us := []) (us' := usa) (m' := 0 + usa.length) rfl rfl rfl rfl rfl h1a (by simp) (by simp; omega) (by decide) (fun w c => c) (named_src hsa hca) (fun a3 c3 => ?_)) | (refine m_apps tabs (us := [] ++ usa) (us' := usb) (m' := 0 + usa.length + usb.length) rfl rfl rfl rfl rfl h1b (by simp) (by simp; omega) (by decide) (fun w c => c) (named_src hsb hcb) (fun a4 c4 => ?_)) | (refine m_call (ent_of Tryz.func41 kr rfl) rfl rfl (fun w c => l5Span_ok (rd_two (e' := 43) 0 rfl (by simp) c (c.rdC rA) (c.rdC rB)) hF (hl.app hl') (by simp; omega) om) ?_; rintro v H' ⟨a, c, rfl, hs, rfl⟩)
    refine c_nil (x_one (h_keep (fun w c => by exact c.drop.drop) ?_))
    refine h_only 10 rfl kr ?_
    first | (refine m_build0 tabs rfl rfl (fun gb hgb => ?_)) | (refine m_apps tabs (us := []) (us' := usa) (m' := 0 + usa.length) rfl rfl rfl rfl rfl h1a (by simp) (by simp; omega) (by decide) (fun w c => c) (named_src hsa hca) (fun a3 c3 => ?_)) | (refine m_apps tabs (us := [] ++ usa) (us' := usb) (m' := 0 + usa.length + usb.length) rfl rfl rfl rfl rfl h1b (by simp) (by simp; omega) (by decide) (fun w c => c) (named_src hsb hcb) (fun a4 c4 => ?_)) | (refine m_call (ent_of Tryz.func41 kr rfl) rfl rfl (fun w c => l5Span_ok (rd_two (e' := 43) 0 rfl (by simp) c (c.rdC rA) (c.rdC rB)) hF (hl.app hl') (by simp; omega) om) ?_; rintro v H' ⟨a, c, rfl, hs, rfl⟩)
    refine c_nil (x_one (h_keep sS ?_))
    refine h_end kr ?_
    repeat' (first | (show oL; first | refine sAs rfl rfl ?_ | (show oA (.store _ _ _); refine m_storeb 2 tabs rfl rfl rfl rfl rfl rfl rfl ?_)) | refine xNt ?_ | (show oC; refine c_ret ?_))
    exact x_ret2 Tryz.results9 (res_cellb 2 tabs rfl rfl rfl rfl) (res_tmp rfl) (fun w' c' => ⟨_, _, rfl, ⟨a, c, rfl, hs, rfl⟩, c'.sub (.cons_cons _ (List.nil_sublist _))⟩)
  · rw [sumS, if_neg hA, decide_eq_false hA]
    refine fn_enter Tryz.func9 rfl Tryz.ntmps9 rfl ?_
    repeat' (first | (show oL; first | refine sMv rfl rfl ?_ | refine sAs rfl rfl ?_ | refine sFd tabs rfl rfl rfl rfl ?_ | (show oA (.load _ _); first | refine sLb 1 tabs rfl rfl rfl rfl rfl ?_ | refine sLb 2 tabs rfl rfl rfl rfl rfl ?_ | refine sLd 1 tabs rfl rfl rfl rfl rfl ?_ | refine sLd 2 tabs rfl rfl rfl rfl rfl ?_) | (show oA (.binOp _ _ _ _ _); refine st_y (y_neq rfl rfl) rfl ?_) | (show oA (.unOp _ _ _); refine st_y (y_notd rfl) rfl ?_) | (show oA (.call _); first | (refine m_call (ent_of Tryz.func32 kr rfl) rfl rfl (fun w c => spec_IsSpace_ok (s := a) (c.rd hu)) ?_; rintro v H' ⟨rfl, rfl⟩) | (refine m_call (ent_of Tryz.func32 kr rfl) rfl rfl (fun w c => spec_IsSpace_ok (s := b) (c.rd hv)) ?_; rintro v H' ⟨rfl, rfl⟩)) | (show oA (.pick _ _ _); first | refine st_y (y_pickt rfl aS rfl) rfl ?_ | refine st_y (y_pickf rfl aS rfl) rfl ?_ | refine st_y (y_pick rfl rfl rfl) rfl ?_) | (show oA (.store _ _ _); refine m_storeb 0 tabs rfl rfl rfl rfl rfl rfl rfl ?_) | (show oA (.box _ _); refine m_box rfl rfl (fun b4 hb4 => ?_)) | (show oA (.alloc _); refine m_alloc tabs rfl rfl (fun b6 hb6 => ?_)) | (show oA (.build _ _); refine st_y (y_bld0 bld_sp0) rfl ?_) | refine st_gn rfl rfl rfl ?_ | refine st_gfy rfl rfl aS ?_ | refine st_gfn rfl rfl aS rfl ?_ | refine st_gd rfl rfl (fun h => ?_) (fun h => ?_)) | refine xNt ?_ | (show oC; first | refine c_seq ?_ | refine c_region ?_ | refine c_skip (x_then ?_) | refine c_ret ?_ | refine c_true rfl ?_ | refine c_ifnd rfl (fun h => ?_) (fun h => ?_)) | (show AT _ _ _ _; refine x_then_ret ?_))
    all_goals first
      | exact absurd ⟨by first | assumption | exact Decidable.not_not.1 aS, by first | assumption | exact Decidable.not_not.1 aS, by first | assumption | exact Decidable.not_not.1 aS⟩ hA
      | exact x_ret2 Tryz.results9 (res_cellb 0 tabs rfl rfl rfl rfl) (res_tmp rfl) (fun w' c' => ⟨_, _, rfl, ⟨none, 0, rfl, .inl rfl, rfl⟩, Hp.nilp _ _ (c'.sub (List.nil_sublist _))⟩)
end Go.Proofs.YtcplmeajmpkpkaaGreat
