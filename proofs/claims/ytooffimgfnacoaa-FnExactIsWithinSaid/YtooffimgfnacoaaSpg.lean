import Derived.Test.YtooffimgfnacoaaSpf
namespace Go.Proofs.Ytooffimgfnacoaa
open Go.Lg Go.Proofs Go.RowKit
theorem y_fld {P : Program} {n : Nat} {K : World → Prop} {s : List (Nat × Value)} {ty t fi : Nat} {x : Operand} {v0 v : Value} (hb : ∀ w, (Instr.field t v0 fi).run P w = .ok v w) (hx : ev s x = some v0) : Y P n K s (.field t x fi) ty v := fun a w f c d pos af g => by
  simp [execOp, f.ev hx, hb]
attribute [local irreducible] Code.wp wpList bodyPost Exit.then Exit.inBlock Hp Again Calls Y AT ResV QT Qn QI wpAny wpAnyQ
set_option maxRecDepth 20000
set_option maxHeartbeats 4000000

/-! ### InSpace, IsWithin -/
theorem fld_sp (r : Int) (a : Option Addr) (m c : Nat) (w : World) : (Instr.field 25 (.agg #[iV r, .slice a m c]) 1).run Try.prog w = .ok (.slice a m c) w := by kernel_rfl
def InsP (p : Int) (s : Sp) (v : List Int) : Prop := SpcP p s ∧ VecP p v ∧ (v.length : Int) = s.1 ∧ rkL p s.1.toNat (s.2 ++ [v]) = s.2.length
instance (p : Int) (s : Sp) (v : List Int) : Decidable (InsP p s v) := by unfold InsP; infer_instance
theorem impl_InSpace_ok {w : World} {p : Int} {s : Sp} {xs : List Int} {u v : Value} (hu : Rd w (rowsT 38 s.2) u) (hr : Rd w (iT xs) v) : Does Try.prog 48 [iV p, .agg #[iV s.1, u], v] w (fun r H => r = .bool (decide (InsP p s xs)) ∧ H = []) := by
  obtain ⟨a, c, rfl, hsx, _⟩ := hr.ints
  by_cases hA : SpcP p s ∧ VecP p xs ∧ (xs.length : Int) = s.1
  · obtain ⟨h1, h2, h3⟩ := hA
    obtain ⟨C, hc, hC, _⟩ := h1.rows
    refine fn_enter Try.func48 rfl Try.ntmps48 rfl ?_
    repeat' (first
      | (show AT _ _ _ (wpList _ _ _ (_ :: _)); first
         | (show AT _ _ _ (wpList _ _ _ (⟨_, Op.move _, _, _, _, _⟩ :: _)); refine st_y (y_move rfl) rfl ?_)
         | (show AT _ _ _ (wpList _ _ _ (⟨_, Op.assign _, _, _, _, _⟩ :: _)); refine st_y (y_assign rfl) rfl ?_)
         | (show AT _ _ _ (wpList _ _ _ (⟨_, Op.fieldAddr _ _ _, _, _, _, _⟩ :: _)); refine st_y (y_field tabs rfl rfl rfl) rfl ?_)
         | (show AT _ _ _ (wpList _ _ _ (⟨_, Op.load _ _, _, _, _, _⟩ :: _)); first | refine st_y (y_load tabs rfl rfl (hc_blk 0 rfl rfl)) rfl ?_ | refine st_y (y_loadb 0 tabs rfl rfl rfl rfl) rfl ?_)
         | (show AT _ _ _ (wpList _ _ _ (⟨_, Op.binOp _ _ _ _ _, _, _, _, _⟩ :: _)); refine st_y (y_eql rfl rfl) rfl ?_)
         | (show AT _ _ _ (wpList _ _ _ (⟨_, Op.call _, _, _, _, _⟩ :: _)); first | (refine m_call (ent_of Try.func31 (by kernel_rfl) rfl) rfl rfl (fun w c => impl_IsSpace_ok (s := s) (c.rd hu)) ?_; rintro v H' ⟨rfl, rfl⟩) | (refine m_call (ent_of Try.func108 (by kernel_rfl) rfl) rfl rfl (fun w c => impl_IsVector_ok (c.rd hr)) ?_; rintro v H' ⟨rfl, rfl⟩) | (refine m_call (ent_of Try.func109 (by kernel_rfl) rfl) rfl rfl (fun w c => has_ok (C := C) (c.rd hu) (c.rd hr) h1 hc (by omega) h2.2.2) ?_; rintro v H' ⟨rfl, rfl⟩) | refine st_y (y_len tabs rfl rfl) rfl ?_)
         | (show AT _ _ _ (wpList _ _ _ (⟨_, Op.pick _ _ _, _, _, _, _⟩ :: _)); refine st_y (y_pickt rfl (by assumption) rfl) rfl ?_)
         | (show AT _ _ _ (wpList _ _ _ (⟨_, Op.box _ _, _, _, _, _⟩ :: _)); refine m_box rfl rfl (fun bq hbq => ?_))
         | refine st_gdy rfl rfl (by assumption) ?_)
      | (show AT _ _ _ (wpList _ _ _ []); refine c_nil (x_then ?_))
      | (show AT _ _ _ (Code.wp _ _ _); first | refine c_seq ?_ | refine c_region ?_ | refine c_ret ?_))
    all_goals first | exact absurd h1 (by assumption) | exact absurd h2 (by assumption) | exact absurd h3 (by assumption) | skip
    refine x_ret1 Try.results48 (res_tmp rfl) (fun w' c' => ⟨_, _, rfl, ⟨congrArg Value.bool (decide_eq_decide.2 ?_), rfl⟩, c'.sub (List.nil_sublist _)⟩)
    have hcn : s.1.toNat = C := by omega
    simp [InsP, h1, h2, h3, hcn]
  · have hno : ¬ InsP p s xs := fun h => hA ⟨h.1, h.2.1, h.2.2.1⟩
    rw [decide_eq_false hno]
    have hcs : ¬ SpcP p s ∨ (SpcP p s ∧ ¬ VecP p xs) ∨ (SpcP p s ∧ VecP p xs ∧ ¬ (xs.length : Int) = s.1) := by grind
    refine fn_enter Try.func48 rfl Try.ntmps48 rfl ?_
    rcases hcs with h1 | ⟨h1, h2⟩ | ⟨h1, h2, h3⟩
    all_goals
      repeat' (first
        | (show AT _ _ _ (wpList _ _ _ (_ :: _)); first
           | (show AT _ _ _ (wpList _ _ _ (⟨_, Op.move _, _, _, _, _⟩ :: _)); refine st_y (y_move rfl) rfl ?_)
           | (show AT _ _ _ (wpList _ _ _ (⟨_, Op.assign _, _, _, _, _⟩ :: _)); refine st_y (y_assign rfl) rfl ?_)
           | (show AT _ _ _ (wpList _ _ _ (⟨_, Op.fieldAddr _ _ _, _, _, _, _⟩ :: _)); refine st_y (y_field tabs rfl rfl rfl) rfl ?_)
           | (show AT _ _ _ (wpList _ _ _ (⟨_, Op.load _ _, _, _, _, _⟩ :: _)); first | refine st_y (y_load tabs rfl rfl (hc_blk 0 rfl rfl)) rfl ?_ | refine st_y (y_loadb 0 tabs rfl rfl rfl rfl) rfl ?_)
           | (show AT _ _ _ (wpList _ _ _ (⟨_, Op.binOp _ _ _ _ _, _, _, _, _⟩ :: _)); refine st_y (y_eql rfl rfl) rfl ?_)
           | (show AT _ _ _ (wpList _ _ _ (⟨_, Op.call _, _, _, _, _⟩ :: _)); first | (refine m_call (ent_of Try.func31 (by kernel_rfl) rfl) rfl rfl (fun w c => impl_IsSpace_ok (s := s) (c.rd hu)) ?_; rintro v H' ⟨rfl, rfl⟩) | (refine m_call (ent_of Try.func108 (by kernel_rfl) rfl) rfl rfl (fun w c => impl_IsVector_ok (c.rd hr)) ?_; rintro v H' ⟨rfl, rfl⟩) | refine st_y (y_len tabs rfl rfl) rfl ?_)
           | (show AT _ _ _ (wpList _ _ _ (⟨_, Op.pick _ _ _, _, _, _, _⟩ :: _)); first | refine st_y (y_pickt rfl (by assumption) rfl) rfl ?_ | refine st_y (y_pickf rfl (by assumption) rfl) rfl ?_ | refine st_y (y_pick rfl rfl rfl) rfl ?_)
           | (show AT _ _ _ (wpList _ _ _ (⟨_, Op.box _ _, _, _, _, _⟩ :: _)); refine m_box rfl rfl (fun bq hbq => ?_))
           | refine st_gn rfl rfl rfl ?_ | refine st_gdy rfl rfl (by assumption) ?_ | refine st_gdn rfl rfl (by assumption) rfl ?_)
        | (show AT _ _ _ (wpList _ _ _ []); refine c_nil (x_then ?_))
        | (show AT _ _ _ (Code.wp _ _ _); first | refine c_seq ?_ | refine c_region ?_ | refine c_ret ?_))
    all_goals exact x_ret1 Try.results48 (res_tmp rfl) (fun w' c' => ⟨_, _, rfl, ⟨rfl, rfl⟩, c'.sub (List.nil_sublist _)⟩)
theorem rd_one {M : List Nat} {w0 w : World} {H : List HE} (i : Nat) {e e' m c : Nat} {A : List (List Int)} {xs : List Int} {us usa : List Value} {u : Value} {a : Option Addr} (hi : H[i]? = some (.own (.s e 1 (us.map T.c)) (.slice a m c))) (hus : us = usa ++ [u]) (cw : Hp M w0 H w) (hA : RdC w (A.map iT) usa) (hB : Rd w (iT xs) u) : Rd w (rowsT e' (A ++ [xs])) (.slice a m c) :=
  rd_two i hi hus cw hA (RdC.one hB)
theorem spec_InSpace_ok {w : World} {p : Int} {s : Sp} {xs : List Int} {u v : Value} (hu : Rd w (rowsT 38 s.2) u) (hr : Rd w (iT xs) v) : Does Try.prog 46 [iV p, .agg #[iV s.1, u], v] w (fun r H => r = .bool (decide (InsP p s xs)) ∧ H = []) := by
  obtain ⟨a, c, rfl, hsx, _⟩ := hr.ints
  by_cases hA : SpcP p s ∧ VecP p xs ∧ (xs.length : Int) = s.1
  · obtain ⟨h1, h2, h3⟩ := hA
    obtain ⟨C, hc, hC, hl, hF, hn, _⟩ := h1.rows
    have h3' : xs.length = C := by omega
    have hone : RowsP p C [xs] := fun x hx' => by simp at hx'; subst hx'; exact ⟨h3', h2.2.2⟩
    obtain ⟨n, A⟩ := s
    simp only at hc hu hl hn h3
    subst hc
    obtain ⟨usa, nA, rA, lA⟩ := rd_names hu (by omega)
    obtain ⟨aa, ca, rfl, _, hsa, hca, h1a⟩ := nA
    have hfin : decide ((((basL p C (A ++ [xs])).length : Nat) : Int) = (usa.length : Nat)) = decide (InsP p (↑C, A) xs) := decide_eq_decide.2 (by
      rw [basL_len, lA]
      simp only [InsP, Int.toNat_natCast]
      exact ⟨fun h => ⟨h1, h2, h3, by omega⟩, fun h => by have := h.2.2.2; omega⟩)
    refine fn_enter Try.func46 rfl Try.ntmps46 rfl ?_
    repeat' (first
      | (show AT _ _ _ (wpList _ _ _ (_ :: _)); first
         | (show AT _ _ _ (wpList _ _ _ (⟨_, Op.move _, _, _, _, _⟩ :: _)); refine st_y (y_move rfl) rfl ?_)
         | (show AT _ _ _ (wpList _ _ _ (⟨_, Op.assign _, _, _, _, _⟩ :: _)); refine st_y (y_assign rfl) rfl ?_)
         | (show AT _ _ _ (wpList _ _ _ (⟨_, Op.fieldAddr _ _ _, _, _, _, _⟩ :: _)); refine st_y (y_field tabs rfl rfl rfl) rfl ?_)
         | (show AT _ _ _ (wpList _ _ _ (⟨_, Op.load _ _, _, _, _, _⟩ :: _)); first | refine st_y (y_loadb 0 tabs rfl rfl rfl rfl) rfl ?_ | refine st_y (y_load tabs rfl rfl (hc_blk 0 rfl rfl)) rfl ?_)
         | (show AT _ _ _ (wpList _ _ _ (⟨_, Op.binOp _ _ _ _ _, _, _, _, _⟩ :: _)); refine st_y (y_neq rfl rfl) rfl ?_)
         | (show AT _ _ _ (wpList _ _ _ (⟨_, Op.unOp _ _ _, _, _, _, _⟩ :: _)); refine st_y (y_notd rfl) rfl ?_)
         | (show AT _ _ _ (wpList _ _ _ (⟨_, Op.call _, _, _, _, _⟩ :: _)); first | (refine m_call (ent_of Try.func29 (by kernel_rfl) rfl) rfl rfl (fun w c => spec_IsSpace_ok (s := (_, A)) (c.rd hu)) ?_; rintro v H' ⟨rfl, rfl⟩) | (refine m_call (ent_of Try.func107 (by kernel_rfl) rfl) rfl rfl (fun w c => spec_IsVector_ok (c.rd hr)) ?_; rintro v H' ⟨rfl, rfl⟩) | refine st_y (y_len tabs rfl rfl) rfl ?_)
         | (show AT _ _ _ (wpList _ _ _ (⟨_, Op.pick _ _ _, _, _, _, _⟩ :: _)); first | refine st_y (y_pickt rfl (by assumption) rfl) rfl ?_ | refine st_y (y_pickf rfl (by assumption) rfl) rfl ?_ | refine st_y (y_pick rfl rfl rfl) rfl ?_)
         | (show AT _ _ _ (wpList _ _ _ (⟨_, Op.box _ _, _, _, _, _⟩ :: _)); refine m_box rfl rfl (fun b4 hb4 => ?_))
         | refine st_gn rfl rfl rfl ?_ | refine st_gfy rfl rfl (by assumption) ?_ | refine st_gfn rfl rfl (by assumption) rfl ?_ | refine st_gd rfl rfl (fun h => ?_) (fun h => ?_))
      | (show AT _ _ _ (wpList _ _ _ []); refine c_nil (x_then ?_))
      | (show AT _ _ _ (Code.wp _ _ _); first | refine c_seq ?_ | refine c_region ?_ | refine c_skip (x_then ?_) | refine c_ret ?_ | refine c_true rfl ?_ | refine c_iff rfl (by first | assumption | exact not_not_intro (by assumption) | omega) ?_)
      | (show AT _ _ _ _; refine x_then_ret ?_))
    all_goals first | exact absurd h1 (by assumption) | exact absurd h2 (by assumption) | exact absurd h3 (by assumption) | skip
    refine c_all (Hp [] w [.blk b4 #[iV C, .slice aa usa.length ca] 25]) (by kernel_rfl) (fun _ c => Hp.drew c) ?_
    refine h_take 0 rfl (by kernel_rfl) (by kernel_rfl) (by kernel_rfl) (by exact y_move rfl) rfl (fun _ c => c) ?_
    refine h_take 1 rfl (by kernel_rfl) (by kernel_rfl) (by kernel_rfl) (by exact y_field tabs rfl rfl rfl) rfl (fun _ c => c) ?_
    refine h_take 2 rfl (by kernel_rfl) (by kernel_rfl) (by kernel_rfl) (by exact y_load tabs rfl rfl (hc_blk 0 rfl rfl)) rfl (fun _ c => c) ?_
    refine h_take 4 rfl (by kernel_rfl) (by kernel_rfl) (by kernel_rfl) (by exact y_field tabs rfl rfl rfl) rfl (fun _ c => c) ?_
    refine h_take 5 rfl (by kernel_rfl) (by kernel_rfl) (by kernel_rfl) (by exact y_load tabs rfl rfl (hc_blk 0 rfl rfl)) rfl (fun _ c => c) ?_
    refine h_take 7 rfl (by kernel_rfl) (by kernel_rfl) (by kernel_rfl) (by exact y_move rfl) rfl (fun _ c => c) ?_
    refine h_take 13 rfl (by kernel_rfl) (by kernel_rfl) (by kernel_rfl) (by exact y_field tabs rfl rfl rfl) rfl (fun _ c => c) ?_
    refine h_take 14 rfl (by kernel_rfl) (by kernel_rfl) (by kernel_rfl) (by exact y_load tabs rfl rfl (hc_blk 0 rfl rfl)) rfl (fun _ c => c) ?_
    refine h_take 15 rfl (by kernel_rfl) (by kernel_rfl) (by kernel_rfl) (by exact y_len tabs rfl rfl) rfl (fun _ c => c) ?_
    refine h_two 3 8 rfl rfl (by kernel_rfl) ?_ ?_
    · (refine m_build0 tabs rfl rfl (fun gb hgb => ?_))
      refine c_nil (x_one (h_keep (fun w c => by exact c.drop) ?_))
      refine h_two 6 8 rfl rfl (by kernel_rfl) ?_ ?_
      · (refine m_apps tabs (us := []) (us' := usa) (m' := 0 + usa.length) rfl rfl rfl rfl rfl h1a (by simp) (by simp; omega) (by decide) (fun w c => c) (named_src hsa hca) (fun a3 c3 => ?_))
        refine c_nil (x_one (h_keep (fun w c => by exact c.drop) ?_))
        refine h_only 8 rfl (by kernel_rfl) ?_
        first | (refine m_build1 tabs (us := [.slice a xs.length c]) rfl rfl rfl rfl (by decide) rfl (fun g2 hg2 => ?_)) | (refine m_apps tabs (us := [] ++ usa) (us' := [.slice a xs.length c]) (m' := 0 + usa.length + 1) rfl rfl rfl rfl rfl (by simp [Value.oneCell']) (by simp) (by simp; omega) (by decide) (fun w c => c.front (i := 1) rfl) (fun w c => .inr ⟨_, rfl, fun j u hj => by match j, hj with | 0, hj => (simp at hj; subst hj; exact hc_blk 0 rfl rfl w c) | j + 1, hj => simp at hj⟩) (fun a4 c4 => ?_)) | (refine m_call (ent_of Try.func86 (by kernel_rfl) rfl) rfl rfl (fun w c => l5Span_ok (rd_one (e' := 38) 0 rfl (by simp) c (c.rdC rA) (c.rd hr)) hF (hl.app hone) (by simp; omega) (by omega)) ?_; rintro v H' ⟨a', c', rfl, hs, rfl⟩)
        refine c_nil (x_one (h_keep (fun w c => by exact c.drop.drop) ?_))
        refine h_only 9 rfl (by kernel_rfl) ?_
        first | (refine m_build1 tabs (us := [.slice a xs.length c]) rfl rfl rfl rfl (by decide) rfl (fun g2 hg2 => ?_)) | (refine m_apps tabs (us := [] ++ usa) (us' := [.slice a xs.length c]) (m' := 0 + usa.length + 1) rfl rfl rfl rfl rfl (by simp [Value.oneCell']) (by simp) (by simp; omega) (by decide) (fun w c => c.front (i := 1) rfl) (fun w c => .inr ⟨_, rfl, fun j u hj => by match j, hj with | 0, hj => (simp at hj; subst hj; exact hc_blk 0 rfl rfl w c) | j + 1, hj => simp at hj⟩) (fun a4 c4 => ?_)) | (refine m_call (ent_of Try.func86 (by kernel_rfl) rfl) rfl rfl (fun w c => l5Span_ok (rd_one (e' := 38) 0 rfl (by simp) c (c.rdC rA) (c.rd hr)) hF (hl.app hone) (by simp; omega) (by omega)) ?_; rintro v H' ⟨a', c', rfl, hs, rfl⟩)
        refine c_nil (x_one (h_keep (fun w c => by exact c.drop.drop) ?_))
        refine h_only 10 rfl (by kernel_rfl) ?_
        first | (refine m_build1 tabs (us := [.slice a xs.length c]) rfl rfl rfl rfl (by decide) rfl (fun g2 hg2 => ?_)) | (refine m_apps tabs (us := [] ++ usa) (us' := [.slice a xs.length c]) (m' := 0 + usa.length + 1) rfl rfl rfl rfl rfl (by simp [Value.oneCell']) (by simp) (by simp; omega) (by decide) (fun w c => c.front (i := 1) rfl) (fun w c => .inr ⟨_, rfl, fun j u hj => by match j, hj with | 0, hj => (simp at hj; subst hj; exact hc_blk 0 rfl rfl w c) | j + 1, hj => simp at hj⟩) (fun a4 c4 => ?_)) | (refine m_call (ent_of Try.func86 (by kernel_rfl) rfl) rfl rfl (fun w c => l5Span_ok (rd_one (e' := 38) 0 rfl (by simp) c (c.rdC rA) (c.rd hr)) hF (hl.app hone) (by simp; omega) (by omega)) ?_; rintro v H' ⟨a', c', rfl, hs, rfl⟩)
        refine c_nil (x_one (h_keep (fun w c => by exact c.sub (by repeat' first | exact List.Sublist.refl _ | exact List.nil_sublist _ | apply List.Sublist.cons_cons | apply List.Sublist.cons)) ?_))
        refine h_take 11 rfl (by kernel_rfl) (by kernel_rfl) (by kernel_rfl) (by exact y_fld (fld_sp _ _ _ _) rfl) rfl (fun w c => by exact c.sub (by repeat' first | exact List.Sublist.refl _ | exact List.nil_sublist _ | apply List.Sublist.cons_cons | apply List.Sublist.cons)) ?_
        refine h_take 12 rfl (by kernel_rfl) (by kernel_rfl) (by kernel_rfl) (by exact y_len tabs rfl rfl) rfl (fun w c => by exact c.sub (by repeat' first | exact List.Sublist.refl _ | exact List.nil_sublist _ | apply List.Sublist.cons_cons | apply List.Sublist.cons)) ?_
        refine h_take 16 rfl (by kernel_rfl) (by kernel_rfl) (by kernel_rfl) (by exact y_eql rfl rfl) rfl (fun w c => by exact c.sub (by repeat' first | exact List.Sublist.refl _ | exact List.nil_sublist _ | apply List.Sublist.cons_cons | apply List.Sublist.cons)) ?_
        refine h_take 17 rfl (by kernel_rfl) (by kernel_rfl) (by kernel_rfl) (by exact y_assign rfl) rfl (fun w c => by exact c.sub (by repeat' first | exact List.Sublist.refl _ | exact List.nil_sublist _ | apply List.Sublist.cons_cons | apply List.Sublist.cons)) ?_
        refine h_end (by kernel_rfl) ?_
        repeat' (first
          | (show AT _ _ _ (Code.wp _ _ _); refine c_ret ?_)
          | (show AT _ _ _ _; refine x_then ?_))
        rw [hfin]
        exact x_ret1 Try.results46 (res_tmp rfl) (fun w' c' => ⟨_, _, rfl, ⟨rfl, rfl⟩, c'.sub (List.nil_sublist _)⟩)
      · (refine m_build1 tabs (us := [.slice a xs.length c]) rfl rfl rfl rfl (by decide) rfl (fun g2 hg2 => ?_))
        refine c_nil (x_one (h_keep (fun w c => by exact c.drop.drop) ?_))
        refine h_only 6 rfl (by kernel_rfl) ?_
        first | (refine m_apps tabs (us := []) (us' := usa) (m' := 0 + usa.length) rfl rfl rfl rfl rfl h1a (by simp) (by simp; omega) (by decide) (fun w c => c.front (i := 1) rfl) (named_src hsa hca) (fun a3 c3 => ?_)) | (refine m_apps tabs (us := [] ++ usa) (us' := [.slice a xs.length c]) (m' := 0 + usa.length + 1) rfl rfl rfl rfl rfl (by simp [Value.oneCell']) (by simp) (by simp; omega) (by decide) (fun w c => c) (fun w c => .inr ⟨_, rfl, fun j u hj => by match j, hj with | 0, hj => (simp at hj; subst hj; exact hc_blk 1 rfl rfl w c) | j + 1, hj => simp at hj⟩) (fun a4 c4 => ?_)) | (refine m_call (ent_of Try.func86 (by kernel_rfl) rfl) rfl rfl (fun w c => l5Span_ok (rd_one (e' := 38) 0 rfl (by simp) c (c.rdC rA) (c.rd hr)) hF (hl.app hone) (by simp; omega) (by omega)) ?_; rintro v H' ⟨a', c', rfl, hs, rfl⟩)
        refine c_nil (x_one (h_keep (fun w c => by exact c.drop.drop) ?_))
        refine h_only 9 rfl (by kernel_rfl) ?_
        first | (refine m_apps tabs (us := []) (us' := usa) (m' := 0 + usa.length) rfl rfl rfl rfl rfl h1a (by simp) (by simp; omega) (by decide) (fun w c => c.front (i := 1) rfl) (named_src hsa hca) (fun a3 c3 => ?_)) | (refine m_apps tabs (us := [] ++ usa) (us' := [.slice a xs.length c]) (m' := 0 + usa.length + 1) rfl rfl rfl rfl rfl (by simp [Value.oneCell']) (by simp) (by simp; omega) (by decide) (fun w c => c) (fun w c => .inr ⟨_, rfl, fun j u hj => by match j, hj with | 0, hj => (simp at hj; subst hj; exact hc_blk 1 rfl rfl w c) | j + 1, hj => simp at hj⟩) (fun a4 c4 => ?_)) | (refine m_call (ent_of Try.func86 (by kernel_rfl) rfl) rfl rfl (fun w c => l5Span_ok (rd_one (e' := 38) 0 rfl (by simp) c (c.rdC rA) (c.rd hr)) hF (hl.app hone) (by simp; omega) (by omega)) ?_; rintro v H' ⟨a', c', rfl, hs, rfl⟩)
        refine c_nil (x_one (h_keep (fun w c => by exact c.drop.drop) ?_))
        refine h_only 10 rfl (by kernel_rfl) ?_
        first | (refine m_apps tabs (us := []) (us' := usa) (m' := 0 + usa.length) rfl rfl rfl rfl rfl h1a (by simp) (by simp; omega) (by decide) (fun w c => c.front (i := 1) rfl) (named_src hsa hca) (fun a3 c3 => ?_)) | (refine m_apps tabs (us := [] ++ usa) (us' := [.slice a xs.length c]) (m' := 0 + usa.length + 1) rfl rfl rfl rfl rfl (by simp [Value.oneCell']) (by simp) (by simp; omega) (by decide) (fun w c => c) (fun w c => .inr ⟨_, rfl, fun j u hj => by match j, hj with | 0, hj => (simp at hj; subst hj; exact hc_blk 1 rfl rfl w c) | j + 1, hj => simp at hj⟩) (fun a4 c4 => ?_)) | (refine m_call (ent_of Try.func86 (by kernel_rfl) rfl) rfl rfl (fun w c => l5Span_ok (rd_one (e' := 38) 0 rfl (by simp) c (c.rdC rA) (c.rd hr)) hF (hl.app hone) (by simp; omega) (by omega)) ?_; rintro v H' ⟨a', c', rfl, hs, rfl⟩)
        refine c_nil (x_one (h_keep (fun w c => by exact c.sub (by repeat' first | exact List.Sublist.refl _ | exact List.nil_sublist _ | apply List.Sublist.cons_cons | apply List.Sublist.cons)) ?_))
        refine h_take 11 rfl (by kernel_rfl) (by kernel_rfl) (by kernel_rfl) (by exact y_fld (fld_sp _ _ _ _) rfl) rfl (fun w c => by exact c.sub (by repeat' first | exact List.Sublist.refl _ | exact List.nil_sublist _ | apply List.Sublist.cons_cons | apply List.Sublist.cons)) ?_
        refine h_take 12 rfl (by kernel_rfl) (by kernel_rfl) (by kernel_rfl) (by exact y_len tabs rfl rfl) rfl (fun w c => by exact c.sub (by repeat' first | exact List.Sublist.refl _ | exact List.nil_sublist _ | apply List.Sublist.cons_cons | apply List.Sublist.cons)) ?_
        refine h_take 16 rfl (by kernel_rfl) (by kernel_rfl) (by kernel_rfl) (by exact y_eql rfl rfl) rfl (fun w c => by exact c.sub (by repeat' first | exact List.Sublist.refl _ | exact List.nil_sublist _ | apply List.Sublist.cons_cons | apply List.Sublist.cons)) ?_
        refine h_take 17 rfl (by kernel_rfl) (by kernel_rfl) (by kernel_rfl) (by exact y_assign rfl) rfl (fun w c => by exact c.sub (by repeat' first | exact List.Sublist.refl _ | exact List.nil_sublist _ | apply List.Sublist.cons_cons | apply List.Sublist.cons)) ?_
        refine h_end (by kernel_rfl) ?_
        repeat' (first
          | (show AT _ _ _ (Code.wp _ _ _); refine c_ret ?_)
          | (show AT _ _ _ _; refine x_then ?_))
        rw [hfin]
        exact x_ret1 Try.results46 (res_tmp rfl) (fun w' c' => ⟨_, _, rfl, ⟨rfl, rfl⟩, c'.sub (List.nil_sublist _)⟩)
    · (refine m_build1 tabs (us := [.slice a xs.length c]) rfl rfl rfl rfl (by decide) rfl (fun g2 hg2 => ?_))
      refine c_nil (x_one (h_keep (fun w c => by exact c.drop) ?_))
      refine h_only 3 rfl (by kernel_rfl) ?_
      first | (refine m_build0 tabs rfl rfl (fun gb hgb => ?_)) | (refine m_apps tabs (us := []) (us' := usa) (m' := 0 + usa.length) rfl rfl rfl rfl rfl h1a (by simp) (by simp; omega) (by decide) (fun w c => c) (named_src hsa hca) (fun a3 c3 => ?_)) | (refine m_apps tabs (us := [] ++ usa) (us' := [.slice a xs.length c]) (m' := 0 + usa.length + 1) rfl rfl rfl rfl rfl (by simp [Value.oneCell']) (by simp) (by simp; omega) (by decide) (fun w c => c) (fun w c => .inr ⟨_, rfl, fun j u hj => by match j, hj with | 0, hj => (simp at hj; subst hj; exact hc_blk 1 rfl rfl w c) | j + 1, hj => simp at hj⟩) (fun a4 c4 => ?_)) | (refine m_call (ent_of Try.func86 (by kernel_rfl) rfl) rfl rfl (fun w c => l5Span_ok (rd_one (e' := 38) 0 rfl (by simp) c (c.rdC rA) (c.rd hr)) hF (hl.app hone) (by simp; omega) (by omega)) ?_; rintro v H' ⟨a', c', rfl, hs, rfl⟩)
      refine c_nil (x_one (h_keep (fun w c => by exact c.drop.drop) ?_))
      refine h_only 6 rfl (by kernel_rfl) ?_
      first | (refine m_build0 tabs rfl rfl (fun gb hgb => ?_)) | (refine m_apps tabs (us := []) (us' := usa) (m' := 0 + usa.length) rfl rfl rfl rfl rfl h1a (by simp) (by simp; omega) (by decide) (fun w c => c) (named_src hsa hca) (fun a3 c3 => ?_)) | (refine m_apps tabs (us := [] ++ usa) (us' := [.slice a xs.length c]) (m' := 0 + usa.length + 1) rfl rfl rfl rfl rfl (by simp [Value.oneCell']) (by simp) (by simp; omega) (by decide) (fun w c => c) (fun w c => .inr ⟨_, rfl, fun j u hj => by match j, hj with | 0, hj => (simp at hj; subst hj; exact hc_blk 1 rfl rfl w c) | j + 1, hj => simp at hj⟩) (fun a4 c4 => ?_)) | (refine m_call (ent_of Try.func86 (by kernel_rfl) rfl) rfl rfl (fun w c => l5Span_ok (rd_one (e' := 38) 0 rfl (by simp) c (c.rdC rA) (c.rd hr)) hF (hl.app hone) (by simp; omega) (by omega)) ?_; rintro v H' ⟨a', c', rfl, hs, rfl⟩)
      refine c_nil (x_one (h_keep (fun w c => by exact c.drop.drop) ?_))
      refine h_only 9 rfl (by kernel_rfl) ?_
      first | (refine m_build0 tabs rfl rfl (fun gb hgb => ?_)) | (refine m_apps tabs (us := []) (us' := usa) (m' := 0 + usa.length) rfl rfl rfl rfl rfl h1a (by simp) (by simp; omega) (by decide) (fun w c => c) (named_src hsa hca) (fun a3 c3 => ?_)) | (refine m_apps tabs (us := [] ++ usa) (us' := [.slice a xs.length c]) (m' := 0 + usa.length + 1) rfl rfl rfl rfl rfl (by simp [Value.oneCell']) (by simp) (by simp; omega) (by decide) (fun w c => c) (fun w c => .inr ⟨_, rfl, fun j u hj => by match j, hj with | 0, hj => (simp at hj; subst hj; exact hc_blk 1 rfl rfl w c) | j + 1, hj => simp at hj⟩) (fun a4 c4 => ?_)) | (refine m_call (ent_of Try.func86 (by kernel_rfl) rfl) rfl rfl (fun w c => l5Span_ok (rd_one (e' := 38) 0 rfl (by simp) c (c.rdC rA) (c.rd hr)) hF (hl.app hone) (by simp; omega) (by omega)) ?_; rintro v H' ⟨a', c', rfl, hs, rfl⟩)
      refine c_nil (x_one (h_keep (fun w c => by exact c.drop.drop) ?_))
      refine h_only 10 rfl (by kernel_rfl) ?_
      first | (refine m_build0 tabs rfl rfl (fun gb hgb => ?_)) | (refine m_apps tabs (us := []) (us' := usa) (m' := 0 + usa.length) rfl rfl rfl rfl rfl h1a (by simp) (by simp; omega) (by decide) (fun w c => c) (named_src hsa hca) (fun a3 c3 => ?_)) | (refine m_apps tabs (us := [] ++ usa) (us' := [.slice a xs.length c]) (m' := 0 + usa.length + 1) rfl rfl rfl rfl rfl (by simp [Value.oneCell']) (by simp) (by simp; omega) (by decide) (fun w c => c) (fun w c => .inr ⟨_, rfl, fun j u hj => by match j, hj with | 0, hj => (simp at hj; subst hj; exact hc_blk 1 rfl rfl w c) | j + 1, hj => simp at hj⟩) (fun a4 c4 => ?_)) | (refine m_call (ent_of Try.func86 (by kernel_rfl) rfl) rfl rfl (fun w c => l5Span_ok (rd_one (e' := 38) 0 rfl (by simp) c (c.rdC rA) (c.rd hr)) hF (hl.app hone) (by simp; omega) (by omega)) ?_; rintro v H' ⟨a', c', rfl, hs, rfl⟩)
      refine c_nil (x_one (h_keep (fun w c => by exact c.sub (by repeat' first | exact List.Sublist.refl _ | exact List.nil_sublist _ | apply List.Sublist.cons_cons | apply List.Sublist.cons)) ?_))
      refine h_take 11 rfl (by kernel_rfl) (by kernel_rfl) (by kernel_rfl) (by exact y_fld (fld_sp _ _ _ _) rfl) rfl (fun w c => by exact c.sub (by repeat' first | exact List.Sublist.refl _ | exact List.nil_sublist _ | apply List.Sublist.cons_cons | apply List.Sublist.cons)) ?_
      refine h_take 12 rfl (by kernel_rfl) (by kernel_rfl) (by kernel_rfl) (by exact y_len tabs rfl rfl) rfl (fun w c => by exact c.sub (by repeat' first | exact List.Sublist.refl _ | exact List.nil_sublist _ | apply List.Sublist.cons_cons | apply List.Sublist.cons)) ?_
      refine h_take 16 rfl (by kernel_rfl) (by kernel_rfl) (by kernel_rfl) (by exact y_eql rfl rfl) rfl (fun w c => by exact c.sub (by repeat' first | exact List.Sublist.refl _ | exact List.nil_sublist _ | apply List.Sublist.cons_cons | apply List.Sublist.cons)) ?_
      refine h_take 17 rfl (by kernel_rfl) (by kernel_rfl) (by kernel_rfl) (by exact y_assign rfl) rfl (fun w c => by exact c.sub (by repeat' first | exact List.Sublist.refl _ | exact List.nil_sublist _ | apply List.Sublist.cons_cons | apply List.Sublist.cons)) ?_
      refine h_end (by kernel_rfl) ?_
      repeat' (first
        | (show AT _ _ _ (Code.wp _ _ _); refine c_ret ?_)
        | (show AT _ _ _ _; refine x_then ?_))
      rw [hfin]
      exact x_ret1 Try.results46 (res_tmp rfl) (fun w' c' => ⟨_, _, rfl, ⟨rfl, rfl⟩, c'.sub (List.nil_sublist _)⟩)
  · have hno : ¬ InsP p s xs := fun h => hA ⟨h.1, h.2.1, h.2.2.1⟩
    rw [decide_eq_false hno]
    have hcs : ¬ SpcP p s ∨ (SpcP p s ∧ ¬ VecP p xs) ∨ (SpcP p s ∧ VecP p xs ∧ ¬ (xs.length : Int) = s.1) := by grind
    refine fn_enter Try.func46 rfl Try.ntmps46 rfl ?_
    rcases hcs with h1 | ⟨h1, h2⟩ | ⟨h1, h2, h3⟩
    all_goals
      repeat' (first
        | (show AT _ _ _ (wpList _ _ _ (_ :: _)); first
           | (show AT _ _ _ (wpList _ _ _ (⟨_, Op.move _, _, _, _, _⟩ :: _)); refine st_y (y_move rfl) rfl ?_)
           | (show AT _ _ _ (wpList _ _ _ (⟨_, Op.assign _, _, _, _, _⟩ :: _)); refine st_y (y_assign rfl) rfl ?_)
           | (show AT _ _ _ (wpList _ _ _ (⟨_, Op.fieldAddr _ _ _, _, _, _, _⟩ :: _)); refine st_y (y_field tabs rfl rfl rfl) rfl ?_)
           | (show AT _ _ _ (wpList _ _ _ (⟨_, Op.load _ _, _, _, _, _⟩ :: _)); first | refine st_y (y_load tabs rfl rfl (hc_blk 0 rfl rfl)) rfl ?_ | refine st_y (y_loadb 0 tabs rfl rfl rfl rfl) rfl ?_)
           | (show AT _ _ _ (wpList _ _ _ (⟨_, Op.binOp _ _ _ _ _, _, _, _, _⟩ :: _)); refine st_y (y_neq rfl rfl) rfl ?_)
           | (show AT _ _ _ (wpList _ _ _ (⟨_, Op.unOp _ _ _, _, _, _, _⟩ :: _)); refine st_y (y_notd rfl) rfl ?_)
           | (show AT _ _ _ (wpList _ _ _ (⟨_, Op.call _, _, _, _, _⟩ :: _)); first | (refine m_call (ent_of Try.func29 (by kernel_rfl) rfl) rfl rfl (fun w c => spec_IsSpace_ok (s := s) (c.rd hu)) ?_; rintro v H' ⟨rfl, rfl⟩) | (refine m_call (ent_of Try.func107 (by kernel_rfl) rfl) rfl rfl (fun w c => spec_IsVector_ok (c.rd hr)) ?_; rintro v H' ⟨rfl, rfl⟩) | refine st_y (y_len tabs rfl rfl) rfl ?_)
           | (show AT _ _ _ (wpList _ _ _ (⟨_, Op.pick _ _ _, _, _, _, _⟩ :: _)); first | refine st_y (y_pickt rfl (by assumption) rfl) rfl ?_ | refine st_y (y_pickf rfl (by assumption) rfl) rfl ?_ | refine st_y (y_pick rfl rfl rfl) rfl ?_)
           | (show AT _ _ _ (wpList _ _ _ (⟨_, Op.box _ _, _, _, _, _⟩ :: _)); refine m_box rfl rfl (fun bq hbq => ?_))
           | refine st_gn rfl rfl rfl ?_ | refine st_gfy rfl rfl (by assumption) ?_ | refine st_gfn rfl rfl (by assumption) rfl ?_ | refine st_gd rfl rfl (fun h => ?_) (fun h => ?_))
        | (show AT _ _ _ (wpList _ _ _ []); refine c_nil (x_then ?_))
        | (show AT _ _ _ (Code.wp _ _ _); first | refine c_seq ?_ | refine c_region ?_ | refine c_ret ?_ | refine c_true rfl ?_ | refine c_ift rfl (by first | assumption | omega) ?_)
        | (show AT _ _ _ _; refine x_then_ret ?_))
    all_goals exact x_ret1 Try.results46 (res_tmp rfl) (fun w' c' => ⟨_, _, rfl, ⟨rfl, rfl⟩, c'.sub (List.nil_sublist _)⟩)
theorem isWithin1_ok {w : World} {p : Int} {C : Nat} {s : Sp} {xs : List Int} {u v : Value} {bb bp : Nat} (hb0 : w.cell? ⟨bb, 0, none⟩ = some (iV s.1)) (hb1 : w.cell? ⟨bb, 0 + 1, none⟩ = some u) (hbp : w.cell? ⟨bp, 0, none⟩ = some (iV p)) (hu : Rd w (rowsT 38 s.2) u) (hr : Rd w (iT xs) v) (hs : SpcP p s) (hc : s.1 = C) (hx : xs.length = C) (hxi : InP 0 (p - 1) xs) :
    Does Try.prog 172 [v, .pointer (some ⟨bb, 0, none⟩), .pointer (some ⟨bp, 0, none⟩)] w (fun r H => r = .bool (decide (¬ rkL p C (s.2 ++ [xs]) = s.2.length)) ∧ H = []) := by
  refine fn_enter Try.func172 rfl Try.ntmps172 rfl ?_
  repeat' (first
    | (show AT _ _ _ (wpList _ _ _ (_ :: _)); first
       | (show AT _ _ _ (wpList _ _ _ (⟨_, Op.move _, _, _, _, _⟩ :: _)); refine st_y (y_move rfl) rfl ?_)
       | (show AT _ _ _ (wpList _ _ _ (⟨_, Op.assign _, _, _, _, _⟩ :: _)); refine st_y (y_assign rfl) rfl ?_)
       | (show AT _ _ _ (wpList _ _ _ (⟨_, Op.load _ _, _, _, _, _⟩ :: _)); first | refine st_y (y_load2 tabs rfl rfl (hc_w0 hb0) (hc_w0 hb1)) rfl ?_ | refine st_y (y_load tabs rfl rfl (hc_w0 hbp)) rfl ?_)
       | (show AT _ _ _ (wpList _ _ _ (⟨_, Op.unOp _ _ _, _, _, _, _⟩ :: _)); refine st_y (y_notd rfl) rfl ?_)
       | (show AT _ _ _ (wpList _ _ _ (⟨_, Op.call _, _, _, _, _⟩ :: _)); (refine m_call (ent_of Try.func109 (by kernel_rfl) rfl) rfl rfl (fun w c => has_ok (C := C) (c.rd hu) (c.rd hr) hs hc hx hxi) ?_; rintro v H' ⟨rfl, rfl⟩)))
    | (show AT _ _ _ (wpList _ _ _ []); refine c_nil (x_then ?_))
    | (show AT _ _ _ (Code.wp _ _ _); first | refine c_seq ?_ | refine c_region ?_ | refine c_ret ?_))
  refine x_ret1 Try.results172 (res_tmp rfl) (fun w' c' => ⟨_, _, rfl, ⟨?_, rfl⟩, c'⟩)
  rw [decide_not]
/-- all vectors of a belong to b -/
def WthP (p : Int) (a b : Sp) : Prop := SumP p a b ∧ rkL p a.1.toNat (a.2 ++ b.2) = b.2.length
instance (p : Int) (a b : Sp) : Decidable (WthP p a b) := by unfold WthP; infer_instance
theorem within_iff {p : Int} {C : Nat} {A : List (List Int)} {b : Sp} (hb : SpcP p b) (hc : b.1 = C) (hA : RowsP p C A) : (∀ x ∈ A, rkL p C (b.2 ++ [x]) = b.2.length) ↔ rkL p C (A ++ b.2) = b.2.length := by
  obtain ⟨C', hc', hC, hl, hF, hn8, hk, hg⟩ := hb.rows
  have : C' = C := by omega
  subst this
  have h1 := rk_join (p := p) (C := C') (A := A) (B := b.2) (M := A ++ b.2) hF (hA.app hl) hl (fun x h => List.mem_append.1 h) (fun x h => by simp [h]) (fun x h => by simp [h])
  rw [hk] at h1
  rw [h1]
  have h2 := fun x (hx : x ∈ A) => by
    have hone : RowsP p C' [x] := fun y hy => by simp at hy; subst hy; exact hA _ hx
    have := rk_join (p := p) (C := C') (A := [x]) (B := b.2) (M := b.2 ++ [x]) hF (hl.app hone) hl (fun x h => by simp at h ⊢; exact h.symm) (fun x h => by simp at h ⊢; exact .inr h) (fun x h => by simp [h])
    rw [hk] at this
    exact this
  refine ⟨fun h x hx => ?_, fun h x hx => ?_⟩
  · exact (h2 x hx).1 (h x hx) x (by simp)
  · exact (h2 x hx).2 (fun y hy => by simp at hy; subst hy; exact h _ hx)
theorem isWithin_ok {w : World} {p : Int} {C : Nat} {n : Int} {A : List (List Int)} {b : Sp} {u v : Value} (hu : Rd w (rowsT 38 A) u) (hv : Rd w (rowsT 38 b.2) v) (hA : RowsP p C A) (hb : SpcP p b) (hc : b.1 = C) : Does Try.prog 111 [iV p, .agg #[iV n, u], .agg #[iV b.1, v]] w (fun r H => r = .bool (decide (rkL p C (A ++ b.2) = b.2.length)) ∧ H = []) := by
  refine fn_enter Try.func111 rfl Try.ntmps111 rfl ?_
  repeat' (first
    | (show AT _ _ _ (wpList _ _ _ (_ :: _)); first
       | (show AT _ _ _ (wpList _ _ _ (⟨_, Op.assign _, _, _, _, _⟩ :: _)); refine st_y (y_assign rfl) rfl ?_)
       | (show AT _ _ _ (wpList _ _ _ (⟨_, Op.fieldAddr _ _ _, _, _, _, _⟩ :: _)); refine st_y (y_field tabs rfl rfl rfl) rfl ?_)
       | (show AT _ _ _ (wpList _ _ _ (⟨_, Op.load _ _, _, _, _, _⟩ :: _)); refine st_y (y_load tabs rfl rfl (hc_blk 1 rfl rfl)) rfl ?_)
       | (show AT _ _ _ (wpList _ _ _ (⟨_, Op.unOp _ _ _, _, _, _, _⟩ :: _)); refine st_y (y_notd rfl) rfl ?_)
       | (show AT _ _ _ (wpList _ _ _ (⟨_, Op.call _, _, _, _, _⟩ :: _)); (refine m_call (ent_of Try.func154 (by kernel_rfl) rfl) rfl rfl (fun w c => ContainsFuncR_ok (p := fun xs => ¬ rkL p C (b.2 ++ [xs]) = b.2.length) (c.rd hu) (ent_of Try.func172 (by kernel_rfl) rfl) (fun w' xs u hm hu' c' => isWithin1_ok (s := b) (C := C) (c'.cell (hc_blk 0 rfl rfl w c)) (c'.cell (hc_blk 0 rfl rfl w c)) (c'.cell (hc_blk 2 rfl rfl w c)) (c'.rd (c.rd hv)) hu' hb hc (hA xs hm).1 (hA xs hm).2)) ?_; rintro v H' ⟨rfl, rfl⟩))
       | (show AT _ _ _ (wpList _ _ _ (⟨_, Op.makeFunc _ _ _, _, _, _, _⟩ :: _)); refine st_y (y_fn rfl rfl) rfl ?_)
       | (show AT _ _ _ (wpList _ _ _ (⟨_, Op.box _ _, _, _, _, _⟩ :: _)); refine m_box rfl rfl (fun bq hbq => ?_)))
    | (show AT _ _ _ (wpList _ _ _ []); refine c_nil (x_then ?_))
    | (show AT _ _ _ (Code.wp _ _ _); first | refine c_seq ?_ | refine c_region ?_ | refine c_ret ?_))
  refine x_ret1 Try.results111 (res_tmp rfl) (fun w' c' => ⟨_, _, rfl, ⟨congrArg Value.bool ?_, rfl⟩, c'.sub (List.nil_sublist _)⟩)
  refine decide_eq_decide.2 ?_
  rw [← within_iff hb hc hA]
  simp
theorem impl_IsWithin_ok {w : World} {p : Int} {a b : Sp} {u v : Value} (hu : Rd w (rowsT 38 a.2) u) (hv : Rd w (rowsT 38 b.2) v) : Does Try.prog 51 [iV p, .agg #[iV a.1, u], .agg #[iV b.1, v]] w (fun r H => r = .bool (decide (WthP p a b)) ∧ H = []) := by
  by_cases hA : SumP p a b
  · have hA' : SpcP p a ∧ SpcP p b ∧ a.1 = b.1 := hA
    obtain ⟨C, hc, hC, hl, hF, hn, _⟩ := hA.1.rows
    have hcn : a.1.toNat = C := by omega
    refine fn_enter Try.func51 rfl Try.ntmps51 rfl ?_
    repeat' (first
      | (show AT _ _ _ (wpList _ _ _ (_ :: _)); first
         | (show AT _ _ _ (wpList _ _ _ (⟨_, Op.move _, _, _, _, _⟩ :: _)); refine st_y (y_move rfl) rfl ?_)
         | (show AT _ _ _ (wpList _ _ _ (⟨_, Op.assign _, _, _, _, _⟩ :: _)); refine st_y (y_assign rfl) rfl ?_)
         | (show AT _ _ _ (wpList _ _ _ (⟨_, Op.load _ _, _, _, _, _⟩ :: _)); first | refine st_y (y_loadb 0 tabs rfl rfl rfl rfl) rfl ?_ | refine st_y (y_loadb 1 tabs rfl rfl rfl rfl) rfl ?_)
         | (show AT _ _ _ (wpList _ _ _ (⟨_, Op.call _, _, _, _, _⟩ :: _)); first | (refine m_call (ent_of Try.func110 (by kernel_rfl) rfl) rfl rfl (fun w c => areSpaces_ok (a := a) (b := b) (c.rd hu) (c.rd hv)) ?_; rintro v H' ⟨rfl, rfl⟩) | (refine m_call (ent_of Try.func111 (by kernel_rfl) rfl) rfl rfl (fun w c => isWithin_ok (C := C) (b := b) (c.rd hu) (c.rd hv) hl hA.2.1 (by rw [← hA.2.2]; exact hc)) ?_; rintro v H' ⟨rfl, rfl⟩))
         | (show AT _ _ _ (wpList _ _ _ (⟨_, Op.pick _ _ _, _, _, _, _⟩ :: _)); refine st_y (y_pickt rfl (by assumption) rfl) rfl ?_)
         | (show AT _ _ _ (wpList _ _ _ (⟨_, Op.box _ _, _, _, _, _⟩ :: _)); refine m_box rfl rfl (fun bq hbq => ?_))
         | refine st_gdy rfl rfl (by assumption) ?_)
      | (show AT _ _ _ (wpList _ _ _ []); refine c_nil (x_then ?_))
      | (show AT _ _ _ (Code.wp _ _ _); first | refine c_seq ?_ | refine c_region ?_ | refine c_ret ?_))
    all_goals first | exact absurd hA' (by assumption) | skip
    refine x_ret1 Try.results51 (res_tmp rfl) (fun w' c' => ⟨_, _, rfl, ⟨congrArg Value.bool (decide_eq_decide.2 ?_), rfl⟩, c'.sub (List.nil_sublist _)⟩)
    simp [WthP, hA, hcn]
  · have hno : ¬ WthP p a b := fun h => hA h.1
    have hA' : ¬ (SpcP p a ∧ SpcP p b ∧ a.1 = b.1) := hA
    rw [decide_eq_false hno]
    refine fn_enter Try.func51 rfl Try.ntmps51 rfl ?_
    repeat' (first
      | (show AT _ _ _ (wpList _ _ _ (_ :: _)); first
         | (show AT _ _ _ (wpList _ _ _ (⟨_, Op.move _, _, _, _, _⟩ :: _)); refine st_y (y_move rfl) rfl ?_)
         | (show AT _ _ _ (wpList _ _ _ (⟨_, Op.assign _, _, _, _, _⟩ :: _)); refine st_y (y_assign rfl) rfl ?_)
         | (show AT _ _ _ (wpList _ _ _ (⟨_, Op.load _ _, _, _, _, _⟩ :: _)); first | refine st_y (y_loadb 0 tabs rfl rfl rfl rfl) rfl ?_ | refine st_y (y_loadb 1 tabs rfl rfl rfl rfl) rfl ?_)
         | (show AT _ _ _ (wpList _ _ _ (⟨_, Op.call _, _, _, _, _⟩ :: _)); (refine m_call (ent_of Try.func110 (by kernel_rfl) rfl) rfl rfl (fun w c => areSpaces_ok (a := a) (b := b) (c.rd hu) (c.rd hv)) ?_; rintro v H' ⟨rfl, rfl⟩))
         | (show AT _ _ _ (wpList _ _ _ (⟨_, Op.pick _ _ _, _, _, _, _⟩ :: _)); refine st_y (y_pickf rfl (by assumption) rfl) rfl ?_)
         | (show AT _ _ _ (wpList _ _ _ (⟨_, Op.box _ _, _, _, _, _⟩ :: _)); refine m_box rfl rfl (fun bq hbq => ?_))
         | refine st_gdn rfl rfl (by assumption) rfl ?_)
      | (show AT _ _ _ (wpList _ _ _ []); refine c_nil (x_then ?_))
      | (show AT _ _ _ (Code.wp _ _ _); first | refine c_seq ?_ | refine c_region ?_ | refine c_ret ?_))
    all_goals first | exact absurd (by assumption) hA' | skip
    exact x_ret1 Try.results51 (res_tmp rfl) (fun w' c' => ⟨_, _, rfl, ⟨rfl, rfl⟩, c'.sub (List.nil_sublist _)⟩)
theorem spec_IsWithin_ok {w : World} {p : Int} {a b : Sp} {u v : Value} (hu : Rd w (rowsT 38 a.2) u) (hv : Rd w (rowsT 38 b.2) v) : Does Try.prog 50 [iV p, .agg #[iV a.1, u], .agg #[iV b.1, v]] w (fun r H => r = .bool (decide (WthP p a b)) ∧ H = []) := by
  obtain ⟨av, cv, rfl, _⟩ := rd_rows hv
  refine fn_enter Try.func50 rfl Try.ntmps50 rfl ?_
  repeat' (first
    | (show AT _ _ _ (wpList _ _ _ (_ :: _)); first
       | (show AT _ _ _ (wpList _ _ _ (⟨_, Op.move _, _, _, _, _⟩ :: _)); refine st_y (y_move rfl) rfl ?_)
       | (show AT _ _ _ (wpList _ _ _ (⟨_, Op.assign _, _, _, _, _⟩ :: _)); refine st_y (y_assign rfl) rfl ?_)
       | (show AT _ _ _ (wpList _ _ _ (⟨_, Op.fieldAddr _ _ _, _, _, _, _⟩ :: _)); refine st_y (y_field tabs rfl rfl rfl) rfl ?_)
       | (show AT _ _ _ (wpList _ _ _ (⟨_, Op.load _ _, _, _, _, _⟩ :: _)); first | refine st_y (y_loadb 0 tabs rfl rfl rfl rfl) rfl ?_ | refine st_y (y_loadb 1 tabs rfl rfl rfl rfl) rfl ?_ | refine st_y (y_load tabs rfl rfl (hc_blk 0 rfl rfl)) rfl ?_ | refine st_y (y_load tabs rfl rfl (hc_blk 2 rfl rfl)) rfl ?_)
       | (show AT _ _ _ (wpList _ _ _ (⟨_, Op.binOp _ _ _ _ _, _, _, _, _⟩ :: _)); refine st_y (y_eql rfl rfl) rfl ?_)
       | (show AT _ _ _ (wpList _ _ _ (⟨_, Op.call _, _, _, _, _⟩ :: _)); first | (refine m_call (ent_of Try.func59 (by kernel_rfl) rfl) rfl rfl (fun w c => spec_AddSpaces_ok (a := a) (b := b) (c.rd hu) (c.rd hv)) ?_; rintro v H' ⟨a', c', rfl, hs, rfl⟩) | refine st_y (y_len tabs rfl rfl) rfl ?_)
       | (show AT _ _ _ (wpList _ _ _ (⟨_, Op.extract _ _, _, _, _, _⟩ :: _)); refine st_y (y_ext rfl rfl) rfl ?_)
       | (show AT _ _ _ (wpList _ _ _ (⟨_, Op.pick _ _ _, _, _, _, _⟩ :: _)); first | refine st_y (y_pickt rfl (by assumption) rfl) rfl ?_ | refine st_y (y_pickf rfl (by assumption) rfl) rfl ?_)
       | (show AT _ _ _ (wpList _ _ _ (⟨_, Op.store _ _ _, _, _, _, _⟩ :: _)); refine m_storeb 0 tabs rfl rfl rfl rfl rfl rfl rfl ?_)
       | (show AT _ _ _ (wpList _ _ _ (⟨_, Op.box _ _, _, _, _, _⟩ :: _)); refine m_box rfl rfl (fun bq hbq => ?_))
       | (show AT _ _ _ (wpList _ _ _ (⟨_, Op.alloc _, _, _, _, _⟩ :: _)); refine m_alloc tabs rfl rfl (fun b7 hb7 => ?_))
       | refine st_gdy rfl rfl (by assumption) ?_ | refine st_gdn rfl rfl (by assumption) rfl ?_ | refine st_gd rfl rfl (fun h => ?_) (fun h => ?_))
    | (show AT _ _ _ (wpList _ _ _ []); refine c_nil (x_then ?_))
    | (show AT _ _ _ (Code.wp _ _ _); first | refine c_seq ?_ | refine c_region ?_ | refine c_ret ?_))
  · refine x_ret1 Try.results50 (res_tmp rfl) (fun w' c' => ⟨_, _, rfl, ⟨congrArg Value.bool (decide_eq_decide.2 ?_), rfl⟩, c'.sub (List.nil_sublist _)⟩)
    have hA : SumP p a b := by assumption
    simp only [WthP, sumS, if_pos hA, basL_len]
    exact ⟨fun h => ⟨hA, by omega⟩, fun h => by have := h.2; omega⟩
  · refine x_ret1 Try.results50 (res_tmp rfl) (fun w' c' => ⟨_, _, rfl, ⟨congrArg Value.bool ?_, rfl⟩, c'.sub (List.nil_sublist _)⟩)
    have hA : ¬ SumP p a b := by assumption
    simp [WthP, hA]
end Go.Proofs.Ytooffimgfnacoaa
