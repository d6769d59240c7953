import Derived.Test.YtnmhdmkfhacdbaaMeeqC
namespace Go.Proofs.Ytnmhdmkfhacdbaa
open Go.Lg Go.Proofs Go.RowKit
attribute [local irreducible] Code.wp wpList bodyPost Exit.then Exit.inBlock Hp Again Calls Y AT ResV QT Qn QI wpAny wpAnyQ
set_option maxRecDepth 20000
set_option maxHeartbeats 4000000

def meeS (p : Int) (a b : Sp) : Sp := if SumP p a b then (a.1, basL p a.1.toNat (meeL p a.1.toNat a.2 b.2)) else (0, [])
theorem meeS_sz (p : Int) (a b : Sp) : szRows (meeS p a b).2 ≤ 128 := by
  unfold meeS
  split
  · rename_i h
    obtain ⟨C, hc, hC, _⟩ := h.1.rows
    rw [hc]
    simp only [Int.toNat_natCast]
    exact basL_sz hC
  · simp [szL]
theorem impl_MeetSpaces_ok {w : World} {p : Int} {a b : Sp} {u v : Value} (hu : Rd w (rowsT 22 a.2) u) (hv : Rd w (rowsT 22 b.2) v) : Does Try.prog 54 [iV p, .agg #[iV a.1, u], .agg #[iV b.1, v]] w (GivesSpB (meeS p a b) (decide (SumP p a b))) := by
  by_cases hA : SumP p a b
  · rw [meeS, if_pos hA, decide_eq_true hA]
    obtain ⟨C, hc, hC, hl, hF, hn, _⟩ := hA.1.rows
    obtain ⟨C', hc', hC', hl', _, hn', _⟩ := hA.2.1.rows
    have : C' = C := by have := hA.2.2; omega
    subst this
    have hA' : SpcP p a ∧ SpcP p b ∧ a.1 = b.1 := hA
    obtain ⟨n, A⟩ := a
    obtain ⟨n', B⟩ := b
    simp only at hc hc' hu hv hl hl' hn hn'
    subst hc; subst hc'
    simp only [Int.toNat_natCast]
    refine fn_enter Try.func54 rfl Try.ntmps54 rfl ?_
    repeat' (first
      | (show AT _ _ _ (wpList _ _ _ (_ :: _)); first
         | (show AT _ _ _ (wpList _ _ _ (⟨_, Op.move _, _, _, _, _⟩ :: _)); refine st_y (y_move rfl) rfl ?_)
         | (show AT _ _ _ (wpList _ _ _ (⟨_, Op.assign _, _, _, _, _⟩ :: _)); refine st_y (y_assign rfl) rfl ?_)
         | (show AT _ _ _ (wpList _ _ _ (⟨_, Op.load _ _, _, _, _, _⟩ :: _)); first | refine st_y (y_loadb 1 tabs rfl rfl rfl rfl) rfl ?_ | refine st_y (y_loadb 2 tabs rfl rfl rfl rfl) rfl ?_)
         | (show AT _ _ _ (wpList _ _ _ (⟨_, Op.unOp _ _ _, _, _, _, _⟩ :: _)); refine st_y (y_notd rfl) rfl ?_)
         | (show AT _ _ _ (wpList _ _ _ (⟨_, Op.call _, _, _, _, _⟩ :: _)); first | (refine m_call (ent_of Try.func111 (by kernel_rfl) rfl) rfl rfl (fun w c => areSpaces_ok (a := (_, A)) (b := (_, B)) (c.rd hu) (c.rd hv)) ?_; rintro v H' ⟨rfl, rfl⟩) | (refine m_call (ent_of Try.func112 (by kernel_rfl) rfl) rfl rfl (fun w c => meetSpace_ok (c.rd hu) (c.rd hv) hF hl hl' (by omega) (by omega)) ?_; rintro v H' ⟨a, c, rfl, hs, rfl⟩))
         | (show AT _ _ _ (wpList _ _ _ (⟨_, Op.store _ _ _, _, _, _, _⟩ :: _)); refine m_storeb 1 tabs rfl rfl rfl rfl rfl rfl rfl ?_)
         | (show AT _ _ _ (wpList _ _ _ (⟨_, Op.box _ _, _, _, _, _⟩ :: _)); refine m_box rfl rfl (fun b4 hb4 => ?_))
         | (show AT _ _ _ (wpList _ _ _ (⟨_, Op.alloc _, _, _, _, _⟩ :: _)); refine m_alloc tabs rfl rfl (fun b6 hb6 => ?_)))
      | (show AT _ _ _ (wpList _ _ _ []); refine c_nil (x_then ?_))
      | (show AT _ _ _ (Code.wp _ _ _); first | refine c_seq ?_ | refine c_region ?_ | refine c_skip (x_then ?_) | refine c_ret ?_ | refine c_iff rfl (by first | assumption | exact not_not_intro (by assumption) | omega) ?_))
    all_goals first | exact absurd hA' (by assumption) | skip
    exact x_ret2 Try.results54 (res_cellb 1 tabs rfl rfl rfl rfl) (res_tmp rfl) (fun w' c' => ⟨_, _, rfl, ⟨a, c, rfl, hs, rfl⟩, c'.sub (.cons_cons _ (List.nil_sublist _))⟩)
  · rw [meeS, if_neg hA, decide_eq_false hA]
    have hA' : ¬ (SpcP p a ∧ SpcP p b ∧ a.1 = b.1) := hA
    refine fn_enter Try.func54 rfl Try.ntmps54 rfl ?_
    repeat' (first
      | (show AT _ _ _ (wpList _ _ _ (_ :: _)); first
         | (show AT _ _ _ (wpList _ _ _ (⟨_, Op.move _, _, _, _, _⟩ :: _)); refine st_y (y_move rfl) rfl ?_)
         | (show AT _ _ _ (wpList _ _ _ (⟨_, Op.assign _, _, _, _, _⟩ :: _)); refine st_y (y_assign rfl) rfl ?_)
         | (show AT _ _ _ (wpList _ _ _ (⟨_, Op.load _ _, _, _, _, _⟩ :: _)); first | refine st_y (y_loadb 1 tabs rfl rfl rfl rfl) rfl ?_ | refine st_y (y_loadb 2 tabs rfl rfl rfl rfl) rfl ?_)
         | (show AT _ _ _ (wpList _ _ _ (⟨_, Op.unOp _ _ _, _, _, _, _⟩ :: _)); refine st_y (y_notd rfl) rfl ?_)
         | (show AT _ _ _ (wpList _ _ _ (⟨_, Op.call _, _, _, _, _⟩ :: _)); (refine m_call (ent_of Try.func111 (by kernel_rfl) rfl) rfl rfl (fun w c => areSpaces_ok (a := a) (b := b) (c.rd hu) (c.rd hv)) ?_; rintro v H' ⟨rfl, rfl⟩))
         | (show AT _ _ _ (wpList _ _ _ (⟨_, Op.store _ _ _, _, _, _, _⟩ :: _)); refine m_storeb 0 tabs rfl rfl rfl rfl rfl rfl rfl ?_)
         | (show AT _ _ _ (wpList _ _ _ (⟨_, Op.box _ _, _, _, _, _⟩ :: _)); refine m_box rfl rfl (fun b4 hb4 => ?_))
         | (show AT _ _ _ (wpList _ _ _ (⟨_, Op.alloc _, _, _, _, _⟩ :: _)); refine m_alloc tabs rfl rfl (fun b6 hb6 => ?_))
         | (show AT _ _ _ (wpList _ _ _ (⟨_, Op.build _ _, _, _, _, _⟩ :: _)); refine st_y (y_bld0 bld_sp0) rfl ?_))
      | (show AT _ _ _ (wpList _ _ _ []); refine c_nil (x_then ?_))
      | (show AT _ _ _ (Code.wp _ _ _); first | refine c_seq ?_ | refine c_region ?_ | refine c_ret ?_ | refine c_ift rfl (by first | assumption | omega) ?_)
      | (show AT _ _ _ _; refine x_then_ret ?_))
    all_goals first | exact absurd (by assumption) hA' | skip
    exact x_ret2 Try.results54 (res_cellb 0 tabs rfl rfl rfl rfl) (res_tmp rfl) (fun w' c' => ⟨_, _, rfl, ⟨none, 0, rfl, .inl rfl, rfl⟩, Hp.nilp _ _ (c'.sub (List.nil_sublist _))⟩)
theorem trF_from {M : List (List Int)} : trF (rowsF M) = fromF M := rfl
theorem spec_MeetSpaces_ok {w : World} {p : Int} {a b : Sp} {u v : Value} (hu : Rd w (rowsT 22 a.2) u) (hv : Rd w (rowsT 22 b.2) v) : Does Try.prog 53 [iV p, .agg #[iV a.1, u], .agg #[iV b.1, v]] w (GivesSpB (meeS p a b) (decide (SumP p a b))) := by
  by_cases hA : SumP p a b
  · rw [meeS, if_pos hA, decide_eq_true hA]
    obtain ⟨C, hc, hC, hl, hF, hn, _⟩ := hA.1.rows
    obtain ⟨C', hc', hC', hl', _, hn', _⟩ := hA.2.1.rows
    have : C' = C := by have := hA.2.2; omega
    subst this
    obtain ⟨h1, h2, h3⟩ := hA
    obtain ⟨n, A⟩ := a
    obtain ⟨n', B⟩ := b
    simp only at hc hc' hu hv hl hl' hn hn'
    subst hc; subst hc'
    simp only [Int.toNat_natCast]
    have hp := fieldP_pos hF
    obtain ⟨usa, nA, rA, lA⟩ := rd_names hu (by omega)
    obtain ⟨usb, nB, rB, lB⟩ := rd_names hv (by omega)
    obtain ⟨aa, ca, rfl, _, hsa, hca, h1a⟩ := nA
    obtain ⟨ab', cb, rfl, _, hsb, hcb, h1b⟩ := nB
    obtain ⟨_, _, ea, hsa2, _, _, hga⟩ := rd_rows hu
    rw [lA] at ea
    cases ea
    have hAB := hl.app hl'
    have hlen : (A ++ B).length = A.length + B.length := by simp
    have hl64 : (A ++ B).length ≤ 64 := by omega
    have hFK : inF p C' (A ++ B).length (fromF (A ++ B)) := fromF_in hAB
    refine fn_enter Try.func53 rfl Try.ntmps53 rfl ?_
    repeat' (first
      | (show AT _ _ _ (wpList _ _ _ (_ :: _)); first
         | (show AT _ _ _ (wpList _ _ _ (⟨_, Op.move _, _, _, _, _⟩ :: _)); refine st_y (y_move rfl) rfl ?_)
         | (show AT _ _ _ (wpList _ _ _ (⟨_, Op.assign _, _, _, _, _⟩ :: _)); refine st_y (y_assign rfl) rfl ?_)
         | (show AT _ _ _ (wpList _ _ _ (⟨_, Op.fieldAddr _ _ _, _, _, _, _⟩ :: _)); refine st_y (y_field tabs rfl rfl rfl) rfl ?_)
         | (show AT _ _ _ (wpList _ _ _ (⟨_, Op.load _ _, _, _, _, _⟩ :: _)); first | refine st_y (y_loadb 1 tabs rfl rfl rfl rfl) rfl ?_ | refine st_y (y_loadb 2 tabs rfl rfl rfl rfl) rfl ?_ | refine st_y (y_load tabs rfl rfl (hc_blk 1 rfl rfl)) rfl ?_ | refine st_y (y_load tabs rfl rfl (hc_blk 2 rfl rfl)) rfl ?_)
         | (show AT _ _ _ (wpList _ _ _ (⟨_, Op.binOp _ _ _ _ _, _, _, _, _⟩ :: _)); refine st_y (y_neq rfl rfl) rfl ?_)
         | (show AT _ _ _ (wpList _ _ _ (⟨_, Op.unOp _ _ _, _, _, _, _⟩ :: _)); refine st_y (y_notd rfl) rfl ?_)
         | (show AT _ _ _ (wpList _ _ _ (⟨_, Op.call _, _, _, _, _⟩ :: _)); first | (refine m_call (ent_of Try.func97 (by kernel_rfl) rfl) rfl rfl (fun w c => spec_IsSpace_ok (s := (_, A)) (c.rd hu)) ?_; rintro v H' ⟨rfl, rfl⟩) | (refine m_call (ent_of Try.func97 (by kernel_rfl) rfl) rfl rfl (fun w c => spec_IsSpace_ok (s := (_, B)) (c.rd hv)) ?_; rintro v H' ⟨rfl, rfl⟩))
         | (show AT _ _ _ (wpList _ _ _ (⟨_, Op.pick _ _ _, _, _, _, _⟩ :: _)); first | refine st_y (y_pickt rfl (by assumption) rfl) rfl ?_ | refine st_y (y_pickf rfl (by assumption) rfl) rfl ?_ | refine st_y (y_pick rfl rfl rfl) rfl ?_)
         | (show AT _ _ _ (wpList _ _ _ (⟨_, Op.box _ _, _, _, _, _⟩ :: _)); refine m_box rfl rfl (fun b4 hb4 => ?_))
         | (show AT _ _ _ (wpList _ _ _ (⟨_, Op.alloc _, _, _, _, _⟩ :: _)); refine m_alloc tabs rfl rfl (fun b6 hb6 => ?_))
         | refine st_gn rfl rfl rfl ?_ | refine st_gfy rfl rfl (by assumption) ?_ | refine st_gfn rfl rfl (by assumption) rfl ?_ | refine st_gd rfl rfl (fun h => ?_) (fun h => ?_))
      | (show AT _ _ _ (wpList _ _ _ []); refine c_nil (x_then ?_))
      | (show AT _ _ _ (Code.wp _ _ _); first | refine c_seq ?_ | refine c_region ?_ | refine c_skip (x_then ?_) | refine c_true rfl ?_ | refine c_iff rfl (by first | assumption | exact not_not_intro (by assumption) | omega) ?_))
    all_goals first | exact absurd h1 (by assumption) | exact absurd h2 (by assumption) | exact absurd rfl (by assumption) | skip
    rename_i b5 hb5 _
    refine c_all (Hp [] w [.blk b4 #[iV C', .slice ab' usb.length cb] 61, .blk b5 #[iV C', .slice aa usa.length ca] 61]) (by kernel_rfl) (fun _ c => Hp.drew c) ?_
    refine fl_begin 11 rfl tabs rfl rfl ?_
    refine fl_take 0 rfl (by kernel_rfl) (by kernel_rfl) (by kernel_rfl) (by kernel_rfl) (by kernel_rfl) (by kernel_rfl) (by exact y_field tabs rfl rfl rfl) rfl (fun w c => by exact c.drop) ?_
    refine fl_take 1 rfl (by kernel_rfl) (by kernel_rfl) (by kernel_rfl) (by kernel_rfl) (by kernel_rfl) (by kernel_rfl) (by exact y_load tabs rfl rfl (hc_blk 1 rfl rfl)) rfl (fun w c => by exact c.drop) ?_
    refine fl_take 3 rfl (by kernel_rfl) (by kernel_rfl) (by kernel_rfl) (by kernel_rfl) (by kernel_rfl) (by kernel_rfl) (by exact y_field tabs rfl rfl rfl) rfl (fun w c => by exact c.drop) ?_
    refine fl_take 4 rfl (by kernel_rfl) (by kernel_rfl) (by kernel_rfl) (by kernel_rfl) (by kernel_rfl) (by kernel_rfl) (by exact y_load tabs rfl rfl (hc_blk 1 rfl rfl)) rfl (fun w c => by exact c.drop) ?_
    refine fl_take 6 rfl (by kernel_rfl) (by kernel_rfl) (by kernel_rfl) (by kernel_rfl) (by kernel_rfl) (by kernel_rfl) (by exact y_field tabs rfl rfl rfl) rfl (fun w c => by exact c.drop) ?_
    refine fl_take 7 rfl (by kernel_rfl) (by kernel_rfl) (by kernel_rfl) (by kernel_rfl) (by kernel_rfl) (by kernel_rfl) (by exact y_load tabs rfl rfl (hc_blk 0 rfl rfl)) rfl (fun w c => by exact c.drop) ?_
    refine fl_many 1 [⟨2, _, _, _⟩] [2] [35] rfl tabs rfl rfl rfl rfl rfl rfl (by decide) rfl (by kernel_rfl) ⟨⟨⟨rfl, rfl, stf_b0 tabs rfl rfl⟩, rfl, rfl⟩, trivial⟩ (fun w c => by first | exact c | exact c.drop | exact c.drop.drop | exact Hp.sub (List.sublist_append_right _ _) c | exact c.sub (by repeat' first | exact List.Sublist.refl _ | exact List.nil_sublist _ | apply List.Sublist.cons_cons | apply List.Sublist.cons)) ?_
    rintro _ _ ⟨gb, hgb, rfl, rfl⟩
    refine seqF_nil ?_
    refine fl_step 5 rfl rfl rfl tabs rfl rfl rfl (by kernel_rfl) (by kernel_rfl) (by kernel_rfl) (stp_apps 0 tabs (us := []) (us' := usa) (m' := 0 + usa.length) rfl rfl rfl rfl rfl rfl h1a (by simp) (by simp; omega) (by decide) (named_src hsa hca)) (fun w c => by first | exact c | exact c.drop | exact c.drop.drop | exact Hp.sub (List.sublist_append_right _ _) c | exact c.sub (by repeat' first | exact List.Sublist.refl _ | exact List.nil_sublist _ | apply List.Sublist.cons_cons | apply List.Sublist.cons)) (by rintro v H1 ⟨a, cc, rfl, rfl⟩ w c; exact c.sub (by repeat' first | exact List.Sublist.refl _ | exact List.nil_sublist _ | apply List.Sublist.cons_cons | apply List.Sublist.cons)) ?_
    rintro _ _ ⟨a3, c3, rfl, rfl⟩
    refine fl_step 8 rfl rfl rfl tabs rfl rfl rfl (by kernel_rfl) (by kernel_rfl) (by kernel_rfl) (stp_apps 0 tabs (us := [] ++ usa) (us' := usb) (m' := 0 + usa.length + usb.length) rfl rfl rfl rfl rfl rfl h1b (by simp) (by simp; omega) (by decide) (named_src hsb hcb)) (fun w c => by first | exact c | exact c.drop | exact c.drop.drop | exact Hp.sub (List.sublist_append_right _ _) c | exact c.sub (by repeat' first | exact List.Sublist.refl _ | exact List.nil_sublist _ | apply List.Sublist.cons_cons | apply List.Sublist.cons)) (by rintro v H1 ⟨a, cc, rfl, rfl⟩ w c; exact c.sub (by repeat' first | exact List.Sublist.refl _ | exact List.nil_sublist _ | apply List.Sublist.cons_cons | apply List.Sublist.cons)) ?_
    rintro _ _ ⟨a4, c4, rfl, rfl⟩
    refine fl_many 1 [⟨9, _, _, _⟩] [9] [42] rfl tabs rfl rfl rfl rfl rfl rfl (by decide) rfl (by kernel_rfl) ⟨⟨⟨rfl, rfl, stf_call (ent_of Try.func108 (by kernel_rfl) rfl) rfl rfl (fun w c => l5Rows_ok (rd_two (e' := 22) 0 rfl (by simp) c (c.rdC rA) (c.rdC rB)) (fun xs h => (hAB xs h).1) (by omega) (by omega))⟩, rfl, rfl⟩, trivial⟩ (fun w c => by first | exact c | exact c.drop | exact c.drop.drop | exact Hp.sub (List.sublist_append_right _ _) c | exact c.sub (by repeat' first | exact List.Sublist.refl _ | exact List.nil_sublist _ | apply List.Sublist.cons_cons | apply List.Sublist.cons)) ?_
    rintro _ _ ⟨a5, c5, rfl, hs5, rfl⟩
    refine seqF_nil ?_
    refine fl_many 1 [⟨10, _, _, _⟩] [10] [43] rfl tabs rfl rfl rfl rfl rfl rfl (by decide) rfl (by kernel_rfl) ⟨⟨⟨rfl, rfl, stf_call (ent_of Try.func107 (by kernel_rfl) rfl) rfl rfl (fun w c => l3Transpose_ok (c.own_rd (i := 0) rfl) (by omega) (by omega))⟩, rfl, rfl⟩, trivial⟩ (fun w c => by first | exact c | exact c.drop | exact c.drop.drop | exact Hp.sub (List.sublist_append_right _ _) c | exact c.sub (by repeat' first | exact List.Sublist.refl _ | exact List.nil_sublist _ | apply List.Sublist.cons_cons | apply List.Sublist.cons)) ?_
    rintro _ _ ⟨am, cm, rfl, hsm, rfl⟩
    refine seqF_nil ?_
    refine fl_end rfl tabs rfl rfl rfl (by kernel_rfl) (fun w c => by exact c.sub (by repeat' first | exact List.Sublist.refl _ | exact List.nil_sublist _ | apply List.Sublist.cons_cons | apply List.Sublist.cons)) (fun bf hbf => ?_)
    refine h_only 12 rfl (by kernel_rfl) ?_
    (refine m_storeb 0 tabs rfl rfl rfl rfl rfl rfl rfl ?_)
    refine c_nil (x_one (h_keep (fun w c => by exact c.sub (by repeat' first | exact List.Sublist.refl _ | exact List.nil_sublist _ | apply List.Sublist.cons_cons | apply List.Sublist.cons)) ?_))
    refine h_end (by kernel_rfl) ?_
    rw [trF_from]
    repeat' (first
      | (show AT _ _ _ (wpList _ _ _ (_ :: _)); first
         | (show AT _ _ _ (wpList _ _ _ (⟨_, Op.move _, _, _, _, _⟩ :: _)); refine st_y (y_move rfl) rfl ?_)
         | (show AT _ _ _ (wpList _ _ _ (⟨_, Op.assign _, _, _, _, _⟩ :: _)); refine st_y (y_assign rfl) rfl ?_)
         | (show AT _ _ _ (wpList _ _ _ (⟨_, Op.load _ _, _, _, _, _⟩ :: _)); refine st_y (y_loadb 0 tabs rfl rfl rfl rfl) rfl ?_)
         | (show AT _ _ _ (wpList _ _ _ (⟨_, Op.call _, _, _, _, _⟩ :: _)); (refine m_call (ent_of Try.func109 (by kernel_rfl) rfl) rfl rfl (fun w c => l4Kernel_ok (R := C') (C := (A ++ B).length) (c.own_rd (i := 1) rfl) hF (by omega) (by omega) hFK) ?_; rintro v H' ⟨ak, ck, rfl, hsk, rfl⟩))
         | (show AT _ _ _ (wpList _ _ _ (⟨_, Op.buildSlice _ _ _, _, _, _, _⟩ :: _)); refine m_build0 tabs rfl rfl (fun go hgo => ?_)))
      | (show AT _ _ _ (wpList _ _ _ []); refine c_nil (x_then ?_))
      | (show AT _ _ _ (Code.wp _ _ _); first | refine c_seq ?_ | refine c_region ?_ | refine c_block ?_)
      | (show AT _ _ _ _; refine x_then ?_))
    have hKr : RowsP p (A ++ B).length (meeK p C' (A ++ B)) := kerL_rows (by omega)
    have hKl := meeK_len (p := p) (C := C') (M := A ++ B)
    have eK : kerL p (A ++ B).length (redTo p C' (fromF (A ++ B)) (A ++ B).length).1 (redTo p C' (fromF (A ++ B)) (A ++ B).length).2 (freeN (redTo p C' (fromF (A ++ B)) (A ++ B).length).2 (A ++ B).length) = meeK p C' (A ++ B) := rfl
    rw [eK] at hsk ⊢
    unfold meeL
    generalize meeK p C' (A ++ B) = K at *
    refine AT.opn 1 rfl (fun us hus => ?_)
    rw [rowT_map, List.length_map] at hus
    rw [rowT_map]
    refine c_loopH (α := Nat × Option Addr × Nat) [0, 4, 6, 9] (fun s => [(10, .slice s.2.1 s.1 s.2.2), (11, .int .i64 s.1)]) (fun s => s.1 ≤ K.length) (fun s => [.own (rowsT 22 (rowL C' (mulF p A.length (rowsF K) (rowsF A)) s.1)) (.slice s.2.1 s.1 s.2.2), .own (.s 22 1 (us.map T.c)) (.slice ak K.length ck), .ownL (K.map iT) us, .blk b6 #[.int .i64 0, .slice none 0 0] 61, .blk b5 #[iV C', .slice aa usa.length ca] 61]) (fun s => K.length - s.1) (0, some ⟨go, 0, none⟩, 0) rfl (by repeat' (first | exact Sub.nil | refine Sub.cons rfl ?_ | refine Sub.consi rfl (by omega) ?_)) ?_ ?_ ?_
    · exact Nat.zero_le _
    · exact fun w' c' => (c'.front (i := 2) rfl).sub (by repeat' first | exact List.Sublist.refl _ | exact List.nil_sublist _ | apply List.Sublist.cons_cons | apply List.Sublist.cons)
    · rintro ⟨i, al, cl⟩ hi
      simp only at hi ⊢
      by_cases hin : i < K.length
      · obtain ⟨ks, hks⟩ : ∃ ks, K[i]? = some ks := ⟨_, List.getElem?_eq_getElem hin⟩
        obtain ⟨uk, huk⟩ : ∃ uk, us[i]? = some uk := ⟨_, List.getElem?_eq_getElem (by omega)⟩
        obtain ⟨hkl, hki⟩ := hKr ks (List.mem_of_getElem? hks)
        have hki' : (K.map iT)[i]? = some (iT ks) := by rw [List.getElem?_map, hks]; rfl
        refine AT.fact (fun w' c' => rd_sl (Hp.ownL_rd 2 rfl hki' huk c')) (fun hsu => ?_)
        obtain ⟨a7, c7, rfl, hs7⟩ := hsu
        rw [hkl] at hs7 huk
        have hkF : ∀ k, rowsF K i k = ks.getD k 0 := fun k => by simp [rowsF, List.getD, hks]
        repeat' (first
          | (show AT _ _ _ (wpList _ _ _ (_ :: _)); first
             | (show AT _ _ _ (wpList _ _ _ (⟨_, Op.move _, _, _, _, _⟩ :: _)); refine st_y (y_move rfl) rfl ?_)
             | (show AT _ _ _ (wpList _ _ _ (⟨_, Op.assign _, _, _, _, _⟩ :: _)); refine st_y (y_assign rfl) rfl ?_)
             | (show AT _ _ _ (wpList _ _ _ (⟨_, Op.fieldAddr _ _ _, _, _, _, _⟩ :: _)); refine st_y (y_field tabs rfl rfl rfl) rfl ?_)
             | (show AT _ _ _ (wpList _ _ _ (⟨_, Op.load _ _, _, _, _, _⟩ :: _)); refine st_y (y_load tabs rfl rfl (hc_blk 4 rfl rfl)) rfl ?_)
             | (show AT _ _ _ (wpList _ _ _ (⟨_, Op.binOp _ _ _ _ _, _, _, _, _⟩ :: _)); refine st_y (y_lss rfl rfl) rfl ?_)
             | (show AT _ _ _ (wpList _ _ _ (⟨_, Op.call _, _, _, _, _⟩ :: _)); refine st_y (y_len tabs rfl rfl) rfl ?_)
             | (show AT _ _ _ (wpList _ _ _ (⟨_, Op.makeSlice _ _ _, _, _, _, _⟩ :: _)); refine m_maken tabs (m := C') rfl rfl rfl rfl (by omega) rfl (fun g3 hg3 => ?_)))
          | (show AT _ _ _ (wpList _ _ _ []); refine c_nil (x_then ?_))
          | (show AT _ _ _ (Code.wp _ _ _); first | refine c_seq ?_ | refine c_region ?_ | refine c_skip (x_then ?_) | refine c_block ?_ | refine c_ift rfl (by first | assumption | omega) ?_))
        rw [mkv_zero]
        refine c_loopH (α := Nat) [0, 4, 6, 9, 10, 11, 12] (fun k => [(13, .int .i64 k)]) (fun k => k ≤ A.length) (fun k => [.own (iT (mkv C' (fun j => accF p (rowsF K) (rowsF A) i j k))) (.slice (some ⟨g3, 0, none⟩) C' C'), .own (rowsT 22 (rowL C' (mulF p A.length (rowsF K) (rowsF A)) i)) (.slice al i cl), .own (.s 22 1 (us.map T.c)) (.slice ak K.length ck), .ownL (K.map iT) us, .blk b6 #[.int .i64 0, .slice none 0 0] 61, .blk b5 #[iV C', .slice aa usa.length ca] 61]) (fun k => A.length - k) 0 rfl (by repeat' (first | exact Sub.nil | refine Sub.cons rfl ?_ | refine Sub.consi rfl (by omega) ?_)) ?_ ?_ ?_
        · exact Nat.zero_le _
        · exact fun w' c' => c'
        · intro k hk
          by_cases hkA : k < A.length
          · obtain ⟨ys, hy⟩ : ∃ ys, A[k]? = some ys := ⟨_, List.getElem?_eq_getElem hkA⟩
            obtain ⟨a2, c2, g1, g2⟩ := hga k ys hy
            obtain ⟨hyl, hyi⟩ := hl _ (List.mem_of_getElem? hy)
            have hyF : ∀ j, rowsF A k j = ys.getD j 0 := fun j => by simp [rowsF, List.getD, hy]
            rw [hyl] at g1 g2
            obtain ⟨_, _, e2, hs2, _, _, hg2⟩ := g2.ints
            rw [hyl] at hs2 e2 hg2
            cases e2
            have hkl2 : k < ks.length := by omega
            have hk7 : k < (A ++ B).length := by omega
            have hkb := inP_get hki hkl2
            have hacc := fun j => accF_in (p := p) (f := rowsF K) (g := rowsF A) (i := i) (j := j) (by omega) k
            repeat' (first
              | (show AT _ _ _ (wpList _ _ _ (_ :: _)); first
                 | (show AT _ _ _ (wpList _ _ _ (⟨_, Op.move _, _, _, _, _⟩ :: _)); refine st_y (y_move rfl) rfl ?_)
                 | (show AT _ _ _ (wpList _ _ _ (⟨_, Op.assign _, _, _, _, _⟩ :: _)); refine st_y (y_assign rfl) rfl ?_)
                 | (show AT _ _ _ (wpList _ _ _ (⟨_, Op.fieldAddr _ _ _, _, _, _, _⟩ :: _)); refine st_y (y_field tabs rfl rfl rfl) rfl ?_)
                 | (show AT _ _ _ (wpList _ _ _ (⟨_, Op.load _ _, _, _, _, _⟩ :: _)); refine st_y (y_load tabs rfl rfl (hc_blk 5 rfl rfl)) rfl ?_)
                 | (show AT _ _ _ (wpList _ _ _ (⟨_, Op.binOp _ _ _ _ _, _, _, _, _⟩ :: _)); refine st_y (y_lss rfl rfl) rfl ?_)
                 | (show AT _ _ _ (wpList _ _ _ (⟨_, Op.call _, _, _, _, _⟩ :: _)); refine st_y (y_len tabs rfl rfl) rfl ?_))
              | (show AT _ _ _ (wpList _ _ _ []); refine c_nil (x_then ?_))
              | (show AT _ _ _ (Code.wp _ _ _); first | refine c_seq ?_ | refine c_region ?_ | refine c_skip (x_then ?_) | refine c_block ?_ | refine c_ift rfl (by first | assumption | omega) ?_))
            refine c_loopH (α := Nat) [0, 4, 6, 9, 10, 11, 12, 13] (fun x => [(14, .int .i64 x)]) (fun x => x ≤ C') (fun x => [.own (iT (mkv C' (fun j => if j < x then accF p (rowsF K) (rowsF A) i j (k + 1) else accF p (rowsF K) (rowsF A) i j k))) (.slice (some ⟨g3, 0, none⟩) C' C'), .own (rowsT 22 (rowL C' (mulF p A.length (rowsF K) (rowsF A)) i)) (.slice al i cl), .own (.s 22 1 (us.map T.c)) (.slice ak K.length ck), .ownL (K.map iT) us, .blk b6 #[.int .i64 0, .slice none 0 0] 61, .blk b5 #[iV C', .slice aa usa.length ca] 61]) (fun x => C' - x) 0 rfl (by repeat' (first | exact Sub.nil | refine Sub.cons rfl ?_ | refine Sub.consi rfl (by omega) ?_)) ?_ ?_ ?_
            · exact Nat.zero_le _
            · intro w' c'
              have e0 : mkv C' (fun j => if j < 0 then accF p (rowsF K) (rowsF A) i j (k + 1) else accF p (rowsF K) (rowsF A) i j k) = mkv C' (fun j => accF p (rowsF K) (rowsF A) i j k) := mkv_ext (fun j _ => by simp)
              rw [e0]
              exact c'
            · intro x hx
              by_cases hxC : x < C'
              · have hxb := inP_get hyi (i := x) (by omega)
                have hmm : 0 ≤ ks.getD k 0 * ys.getD x 0 ∧ ks.getD k 0 * ys.getD x 0 ≤ 25 := mul_small (by omega) (by omega)
                have hax := hacc x
                have hgx : (mkv C' (fun j => if j < x then accF p (rowsF K) (rowsF A) i j (k + 1) else accF p (rowsF K) (rowsF A) i j k)).getD x 0 = accF p (rowsF K) (rowsF A) i x k := by rw [mkv_get hxC, if_neg (by omega)]
                repeat' (first
                  | (show AT _ _ _ (wpList _ _ _ (_ :: _)); first
                     | (show AT _ _ _ (wpList _ _ _ (⟨_, Op.move _, _, _, _, _⟩ :: _)); refine st_y (y_move rfl) rfl ?_)
                     | (show AT _ _ _ (wpList _ _ _ (⟨_, Op.assign _, _, _, _, _⟩ :: _)); refine st_y (y_assign rfl) rfl ?_)
                     | (show AT _ _ _ (wpList _ _ _ (⟨_, Op.fieldAddr _ _ _, _, _, _, _⟩ :: _)); refine st_y (y_field tabs rfl rfl rfl) rfl ?_)
                     | (show AT _ _ _ (wpList _ _ _ (⟨_, Op.load _ _, _, _, _, _⟩ :: _)); refine st_y (y_load tabs rfl rfl (hc_blk 5 rfl rfl)) rfl ?_)
                     | (show AT _ _ _ (wpList _ _ _ (⟨_, Op.indexAddr _ _ _, _, _, _, _⟩ :: _)); refine st_y (y_ix1 tabs (j := x) rfl rfl rfl .mk rfl hxC) rfl ?_)
                     | (show AT _ _ _ (wpList _ _ _ (⟨_, Op.binOp _ _ _ _ _, _, _, _, _⟩ :: _)); first | refine st_y (y_add rfl rfl (by omega)) rfl ?_ | refine st_y (y_lss rfl rfl) rfl ?_)
                     | (show AT _ _ _ (wpList _ _ _ (⟨_, Op.store _ _ _, _, _, _, _⟩ :: _)); refine m_storeo 0 tabs rfl rfl rfl rfl (by rw [mkv_length]; exact hxC) ?_))
                  | (show AT _ _ _ (wpList _ _ _ []); first | refine c_nil (x_then ?_) | refine c_nil ?_)
                  | (show AT _ _ _ (Code.wp _ _ _); first | refine c_tailR 25 (by kernel_rfl) (by kernel_rfl) (by kernel_rfl) (by kernel_rfl) (by kernel_rfl) (by kernel_rfl) (fun _ c => Hp.drew c) ?_ | refine c_seq ?_ | refine c_region ?_ | refine c_skip (x_then ?_) | refine c_block ?_ | refine c_ift rfl (by first | assumption | omega) ?_)
                  | (show QT _ _ _ _ _ _ (_ :: _); first
                     | (show QT _ _ _ _ _ _ (⟨_, Op.move _, _, _, _, _⟩ :: _); refine q_y (y_move rfl) rfl ?_)
                     | (show QT _ _ _ _ _ _ (⟨_, Op.fieldAddr _ _ _, _, _, _, _⟩ :: _); refine q_y (y_field tabs rfl rfl rfl) rfl ?_)
                     | (show QT _ _ _ _ _ _ (⟨_, Op.load _ _, _, _, _, _⟩ :: _); first | refine q_y (y_load tabs rfl rfl (hc_blk 5 rfl rfl)) rfl ?_ | refine q_y (y_load tabs rfl rfl (hc_own 0 rfl (by rw [mkv_length]; exact hxC))) rfl ?_ | refine q_y (y_load tabs rfl rfl (hc_nm 2 rfl huk)) rfl ?_ | refine q_y (y_load tabs rfl rfl (fun w c => (hc_row (Hp.ownL_rd 3 rfl hki' huk c) hkl2))) rfl ?_ | refine q_y (y_load tabs rfl rfl (hc_w0 g1)) rfl ?_ | refine q_y (y_load tabs rfl rfl (hc_w0 (hg2 x hxC))) rfl ?_)
                     | (show QT _ _ _ _ _ _ (⟨_, Op.indexAddr _ _ _, _, _, _, _⟩ :: _); first | refine q_y (y_ix1 tabs (j := x) rfl rfl rfl .mk rfl hxC) rfl ?_ | refine q_y (y_ix1 tabs (j := i) rfl rfl rfl hsk rfl hin) rfl ?_ | refine q_y (y_ix1 tabs (j := k) rfl rfl rfl hs7 rfl hk7) rfl ?_ | refine q_y (y_ix1 tabs (j := x) rfl rfl rfl hs2 rfl hxC) rfl ?_ | refine q_y (y_ix1 tabs rfl rfl rfl (by first | assumption | exact .mk) rfl (by omega)) rfl ?_)
                     | (show QT _ _ _ _ _ _ (⟨_, Op.binOp _ _ _ _ _, _, _, _, _⟩ :: _); first | refine q_y (y_mul rfl rfl (by omega)) rfl ?_ | refine q_y (y_add rfl rfl (by rw [hgx]; omega)) rfl ?_)
                     | (show QT _ _ _ _ _ _ (⟨_, Op.call _, _, _, _, _⟩ :: _); refine q_call (ent_of Try.func110 (by kernel_rfl) rfl) rfl rfl (fun w c => l2Mod_ok (by omega) (by omega)) (fun u H' h => h.1) ?_))
                  | (show QT _ _ _ _ _ _ []; refine q_nil ?_)
                  | (show AT _ _ _ _; first | refine x_then ?_ | refine x_blk ?_))
                refine x_nx (x + 1) (by repeat' (first | exact Sub.nil | refine Sub.cons rfl ?_ | refine Sub.consi rfl (by omega) ?_)) (by omega) (fun w' c' => ?_) (by omega)
                simp only [List.set_cons_zero, mkv_set, hgx] at c'
                have e0 : mkv C' (fun q => if q = x then (accF p (rowsF K) (rowsF A) i x k + ks.getD k 0 * ys.getD x 0) % p else if q < x then accF p (rowsF K) (rowsF A) i q (k + 1) else accF p (rowsF K) (rowsF A) i q k) = mkv C' (fun j => if j < x + 1 then accF p (rowsF K) (rowsF A) i j (k + 1) else accF p (rowsF K) (rowsF A) i j k) := mkv_ext (fun q _ => by
                  by_cases hq : q = x
                  · subst hq
                    rw [if_pos rfl, if_pos (by omega), accF, hyF, hkF]
                  · rw [if_neg hq]
                    by_cases hq2 : q < x
                    · rw [if_pos hq2, if_pos (by omega)]
                    · rw [if_neg hq2, if_neg (by omega)])
                rw [e0] at c'
                exact c'
              · have : x = C' := by omega
                subst this
                repeat' (first
                  | (show AT _ _ _ (wpList _ _ _ (_ :: _)); first
                     | (show AT _ _ _ (wpList _ _ _ (⟨_, Op.move _, _, _, _, _⟩ :: _)); refine st_y (y_move rfl) rfl ?_)
                     | (show AT _ _ _ (wpList _ _ _ (⟨_, Op.assign _, _, _, _, _⟩ :: _)); refine st_y (y_assign rfl) rfl ?_)
                     | (show AT _ _ _ (wpList _ _ _ (⟨_, Op.fieldAddr _ _ _, _, _, _, _⟩ :: _)); refine st_y (y_field tabs rfl rfl rfl) rfl ?_)
                     | (show AT _ _ _ (wpList _ _ _ (⟨_, Op.load _ _, _, _, _, _⟩ :: _)); refine st_y (y_load tabs rfl rfl (hc_blk 5 rfl rfl)) rfl ?_)
                     | (show AT _ _ _ (wpList _ _ _ (⟨_, Op.binOp _ _ _ _ _, _, _, _, _⟩ :: _)); first | refine st_y (y_add rfl rfl (by omega)) rfl ?_ | refine st_y (y_lss rfl rfl) rfl ?_))
                  | (show AT _ _ _ (wpList _ _ _ []); refine c_nil (x_then ?_))
                  | (show AT _ _ _ (Code.wp _ _ _); first | refine c_seq ?_ | refine c_region ?_ | refine c_exit ?_ | refine c_iff rfl (by first | assumption | exact not_not_intro (by assumption) | omega) ?_)
                  | (show AT _ _ _ _; first | refine x_then ?_ | refine x_then_exit ?_ | refine x_blk_exit rfl ?_ | refine x_blk ?_))
                refine x_nx (k + 1) (by repeat' (first | exact Sub.nil | refine Sub.cons rfl ?_ | refine Sub.consi rfl (by omega) ?_)) (by omega) (fun w' c' => ?_) (by omega)
                have e0 : mkv x (fun j => if j < x then accF p (rowsF K) (rowsF A) i j (k + 1) else accF p (rowsF K) (rowsF A) i j k) = mkv x (fun j => accF p (rowsF K) (rowsF A) i j (k + 1)) := mkv_ext (fun j hj => by rw [if_pos hj])
                rw [e0] at c'
                exact c'
          · have : k = A.length := by omega
            subst this
            repeat' (first
              | (show AT _ _ _ (wpList _ _ _ (_ :: _)); first
                 | (show AT _ _ _ (wpList _ _ _ (⟨_, Op.move _, _, _, _, _⟩ :: _)); refine st_y (y_move rfl) rfl ?_)
                 | (show AT _ _ _ (wpList _ _ _ (⟨_, Op.assign _, _, _, _, _⟩ :: _)); refine st_y (y_assign rfl) rfl ?_)
                 | (show AT _ _ _ (wpList _ _ _ (⟨_, Op.fieldAddr _ _ _, _, _, _, _⟩ :: _)); refine st_y (y_field tabs rfl rfl rfl) rfl ?_)
                 | (show AT _ _ _ (wpList _ _ _ (⟨_, Op.load _ _, _, _, _, _⟩ :: _)); refine st_y (y_load tabs rfl rfl (hc_blk 5 rfl rfl)) rfl ?_)
                 | (show AT _ _ _ (wpList _ _ _ (⟨_, Op.binOp _ _ _ _ _, _, _, _, _⟩ :: _)); first | refine st_y (y_add rfl rfl (by omega)) rfl ?_ | refine st_y (y_lss rfl rfl) rfl ?_)
                 | (show AT _ _ _ (wpList _ _ _ (⟨_, Op.call _, _, _, _, _⟩ :: _)); first | refine m_push1 [] 0 0 tabs (m' := i) rfl rfl rfl rfl rfl rfl rfl (by simp [rowT_map]) (by simp [rowT_map]; omega) (by decide) rfl rfl (fun a10 c10 => ?_) | refine st_y (y_len tabs rfl rfl) rfl ?_)
                 | (show AT _ _ _ (wpList _ _ _ (⟨_, Op.buildSlice _ _ _, _, _, _, _⟩ :: _)); refine m_build1 tabs (us := [.slice (some ⟨g3, 0, none⟩) C' C']) rfl rfl rfl rfl (by decide) rfl (fun g5 hg5 => ?_)))
              | (show AT _ _ _ (wpList _ _ _ []); first | refine c_nil (x_then ?_) | refine c_nil ?_)
              | (show AT _ _ _ (Code.wp _ _ _); first | refine c_seq ?_ | refine c_region ?_ | refine c_exit ?_ | refine c_iff rfl (by first | assumption | exact not_not_intro (by assumption) | omega) ?_)
              | (show AT _ _ _ _; first | refine x_then ?_ | refine x_then_exit ?_ | refine x_blk_exit rfl ?_ | refine x_blk ?_))
            refine x_nx (i + 1, a10, c10) (by repeat' (first | exact Sub.nil | refine Sub.cons rfl ?_ | refine Sub.consi rfl (by omega) ?_)) (by simp only; omega) (fun w' c' => ?_) (by simp only; omega)
            have e0 : mkv C' (fun j => accF p (rowsF K) (rowsF A) i j A.length) = mkv C' (mulF p A.length (rowsF K) (rowsF A) i) := rfl
            rw [e0, rowL_nextT] at c'
            exact c'
      · have : i = K.length := by omega
        subst this
        have hml : (rowL C' (mulF p A.length (rowsF K) (rowsF A)) K.length).length ≤ 64 := by rw [rowL_length]; omega
        have hmr : RowsP p C' (rowL C' (mulF p A.length (rowsF K) (rowsF A)) K.length) := fun xs h => by
          simp only [rowL, List.mem_map] at h
          obtain ⟨i, _, rfl⟩ := h
          refine ⟨by simp, fun x hx => ?_⟩
          obtain ⟨q, _, rfl⟩ := List.mem_map.1 hx
          have := accF_in (p := p) (f := rowsF K) (g := rowsF A) (i := i) (j := q) (by omega) A.length
          unfold mulF
          omega
        repeat' (first
          | (show AT _ _ _ (wpList _ _ _ (_ :: _)); first
             | (show AT _ _ _ (wpList _ _ _ (⟨_, Op.move _, _, _, _, _⟩ :: _)); refine st_y (y_move rfl) rfl ?_)
             | (show AT _ _ _ (wpList _ _ _ (⟨_, Op.assign _, _, _, _, _⟩ :: _)); refine st_y (y_assign rfl) rfl ?_)
             | (show AT _ _ _ (wpList _ _ _ (⟨_, Op.fieldAddr _ _ _, _, _, _, _⟩ :: _)); refine st_y (y_field tabs rfl rfl rfl) rfl ?_)
             | (show AT _ _ _ (wpList _ _ _ (⟨_, Op.load _ _, _, _, _, _⟩ :: _)); refine st_y (y_load tabs rfl rfl (hc_blk 4 rfl rfl)) rfl ?_)
             | (show AT _ _ _ (wpList _ _ _ (⟨_, Op.binOp _ _ _ _ _, _, _, _, _⟩ :: _)); refine st_y (y_lss rfl rfl) rfl ?_)
             | (show AT _ _ _ (wpList _ _ _ (⟨_, Op.call _, _, _, _, _⟩ :: _)); first | (refine m_call (ent_of Try.func99 (by kernel_rfl) rfl) rfl rfl (fun w c => by have h := l5Span_ok (rs := rowL C' (mulF p A.length (rowsF K) (rowsF A)) K.length) (c.own_rd (i := 0) rfl) hF hmr hml (by omega); exact h) ?_; rintro v H' ⟨a9, c9, rfl, hs9, rfl⟩) | refine st_y (y_len tabs rfl rfl) rfl ?_)
             | (show AT _ _ _ (wpList _ _ _ (⟨_, Op.store _ _ _, _, _, _, _⟩ :: _)); refine m_storeb 4 tabs rfl rfl rfl rfl rfl rfl rfl ?_))
          | (show AT _ _ _ (wpList _ _ _ []); refine c_nil (x_then ?_))
          | (show AT _ _ _ (Code.wp _ _ _); first | refine c_seq ?_ | refine c_region ?_ | refine c_ret ?_ | refine c_exit ?_ | refine c_iff rfl (by first | assumption | exact not_not_intro (by assumption) | omega) ?_)
          | (show AT _ _ _ _; first | refine x_then ?_ | refine x_then_exit ?_ | refine x_blk_exit rfl ?_))
        exact x_ret2 Try.results53 (res_cellb 4 tabs rfl rfl rfl rfl) (res_tmp rfl) (fun w' c' => ⟨_, _, rfl, ⟨a9, c9, rfl, hs9, rfl⟩, c'.sub (.cons_cons _ (List.nil_sublist _))⟩)
  · rw [meeS, if_neg hA, decide_eq_false hA]
    refine fn_enter Try.func53 rfl Try.ntmps53 rfl ?_
    repeat' (first
      | (show AT _ _ _ (wpList _ _ _ (_ :: _)); first
         | (show AT _ _ _ (wpList _ _ _ (⟨_, Op.move _, _, _, _, _⟩ :: _)); refine st_y (y_move rfl) rfl ?_)
         | (show AT _ _ _ (wpList _ _ _ (⟨_, Op.assign _, _, _, _, _⟩ :: _)); refine st_y (y_assign rfl) rfl ?_)
         | (show AT _ _ _ (wpList _ _ _ (⟨_, Op.fieldAddr _ _ _, _, _, _, _⟩ :: _)); refine st_y (y_field tabs rfl rfl rfl) rfl ?_)
         | (show AT _ _ _ (wpList _ _ _ (⟨_, Op.load _ _, _, _, _, _⟩ :: _)); first | refine st_y (y_loadb 1 tabs rfl rfl rfl rfl) rfl ?_ | refine st_y (y_loadb 2 tabs rfl rfl rfl rfl) rfl ?_ | refine st_y (y_load tabs rfl rfl (hc_blk 1 rfl rfl)) rfl ?_ | refine st_y (y_load tabs rfl rfl (hc_blk 2 rfl rfl)) rfl ?_)
         | (show AT _ _ _ (wpList _ _ _ (⟨_, Op.binOp _ _ _ _ _, _, _, _, _⟩ :: _)); refine st_y (y_neq rfl rfl) rfl ?_)
         | (show AT _ _ _ (wpList _ _ _ (⟨_, Op.unOp _ _ _, _, _, _, _⟩ :: _)); refine st_y (y_notd rfl) rfl ?_)
         | (show AT _ _ _ (wpList _ _ _ (⟨_, Op.call _, _, _, _, _⟩ :: _)); first | (refine m_call (ent_of Try.func97 (by kernel_rfl) rfl) rfl rfl (fun w c => spec_IsSpace_ok (s := a) (c.rd hu)) ?_; rintro v H' ⟨rfl, rfl⟩) | (refine m_call (ent_of Try.func97 (by kernel_rfl) rfl) rfl rfl (fun w c => spec_IsSpace_ok (s := b) (c.rd hv)) ?_; rintro v H' ⟨rfl, rfl⟩))
         | (show AT _ _ _ (wpList _ _ _ (⟨_, Op.pick _ _ _, _, _, _, _⟩ :: _)); first | refine st_y (y_pickt rfl (by assumption) rfl) rfl ?_ | refine st_y (y_pickf rfl (by assumption) rfl) rfl ?_ | refine st_y (y_pick rfl rfl rfl) rfl ?_)
         | (show AT _ _ _ (wpList _ _ _ (⟨_, Op.store _ _ _, _, _, _, _⟩ :: _)); refine m_storeb 0 tabs rfl rfl rfl rfl rfl rfl rfl ?_)
         | (show AT _ _ _ (wpList _ _ _ (⟨_, Op.box _ _, _, _, _, _⟩ :: _)); refine m_box rfl rfl (fun b4 hb4 => ?_))
         | (show AT _ _ _ (wpList _ _ _ (⟨_, Op.alloc _, _, _, _, _⟩ :: _)); refine m_alloc tabs rfl rfl (fun b6 hb6 => ?_))
         | (show AT _ _ _ (wpList _ _ _ (⟨_, Op.build _ _, _, _, _, _⟩ :: _)); refine st_y (y_bld0 bld_sp0) rfl ?_)
         | refine st_gn rfl rfl rfl ?_ | refine st_gfy rfl rfl (by assumption) ?_ | refine st_gfn rfl rfl (by assumption) rfl ?_ | refine st_gd rfl rfl (fun h => ?_) (fun h => ?_))
      | (show AT _ _ _ (wpList _ _ _ []); refine c_nil (x_then ?_))
      | (show AT _ _ _ (Code.wp _ _ _); first | refine c_seq ?_ | refine c_region ?_ | refine c_skip (x_then ?_) | refine c_ret ?_ | refine c_true rfl ?_ | refine c_ifnd rfl (fun h => ?_) (fun h => ?_))
      | (show AT _ _ _ _; refine x_then_ret ?_))
    all_goals first
      | exact absurd ⟨by first | assumption | exact Decidable.not_not.1 (by assumption), by first | assumption | exact Decidable.not_not.1 (by assumption), by first | assumption | exact Decidable.not_not.1 (by assumption)⟩ hA
      | exact x_ret2 Try.results53 (res_cellb 0 tabs rfl rfl rfl rfl) (res_tmp rfl) (fun w' c' => ⟨_, _, rfl, ⟨none, 0, rfl, .inl rfl, rfl⟩, Hp.nilp _ _ (c'.sub (List.nil_sublist _))⟩)
end Go.Proofs.Ytnmhdmkfhacdbaa
