import Derived.Test.YtljgmmmgnfgbhaaCobqel
import Derived.Test.YtljgmmmgnfgbhaaElmqel
import Derived.Test.YtljgmmmgnfgbhaaInvqel
import Derived.Test.YtljgmmmgnfgbhaaLinqel
namespace Go.Proofs.Ytljgmmmgnfgbhaa
open Go.Lg Go.Proofs Go.RowKit
attribute [local irreducible] Code.wp wpList bodyPost Exit.then Exit.inBlock Hp Again Calls Y AT ResV QT Qn QI wpAny wpAnyQ
set_option maxRecDepth 20000
set_option maxHeartbeats 4000000

/-! ### a matrix applied to a vector; powers -/
def AppP (p : Int) (m : Mat) (v : List Int) : Prop := MatP p m ∧ VecP p v ∧ (v.length : Int) = m.2.1
instance (p : Int) (m : Mat) (v : List Int) : Decidable (AppP p m v) := by unfold AppP; infer_instance
def appX (p : Int) (m : Mat) (v : List Int) : List Int := if AppP p m v then mkv m.1.toNat (imv p m.2.1.toNat (matF m) v) else []
theorem imv_mk {p : Int} {R C : Nat} {f : Nat → Nat → Int} {xs : List Int} : mkv R (imv p C (matF ((R : Int), (C : Int), mk R C f)) xs) = mkv R (imv p C f xs) := mkv_ext (fun _ hi => accF_congr C (fun _ hk => ⟨matF_mk hi hk, rfl⟩))
theorem appX_len (p : Int) (m : Mat) (v : List Int) : (appX p m v).length ≤ 8 := by
  unfold appX
  split
  · rename_i h
    have := h.1.1
    rw [mkv_length]; omega
  · simp
theorem impl_ApplyMatrix_ok {w : World} {p : Int} {m : Mat} {v : List Int} {u u' : Value} (hr : Rd w (iT m.2.2) u) (hr' : Rd w (iT v) u') :
    Does Try.prog 25 [iV p, .agg #[iV m.1, iV m.2.1, u], u'] w (GivesIB (appX p m v) (decide (AppP p m v))) := by
  obtain ⟨av, cv, rfl, hsv, hv1, hv2, _⟩ := hr'.ints
  unfold maxLen at hv2
  by_cases hA : AppP p m v
  · rw [appX, if_pos hA, decide_eq_true hA]
    obtain ⟨hM, hV, hvl⟩ := hA
    obtain ⟨R, C, f, rfl, hR, hC, hF, hin⟩ := matP_mk hM
    have hvl' : v.length = C := by simp only at hvl; omega
    simp only [Int.toNat_natCast] at hr hvl ⊢
    rw [imv_mk]
    refine fn_enter Try.func25 rfl Try.ntmps25 rfl ?_
    repeat' (first
      | (show AT _ _ _ (wpList _ _ _ (_ :: _)); first
         | (show AT _ _ _ (wpList _ _ _ (⟨_, Op.move _, _, _, _, _⟩ :: _)); refine st_y (y_move rfl) rfl ?_)
         | (show AT _ _ _ (wpList _ _ _ (⟨_, Op.assign _, _, _, _, _⟩ :: _)); refine st_y (y_assign rfl) rfl ?_)
         | (show AT _ _ _ (wpList _ _ _ (⟨_, Op.fieldAddr _ _ _, _, _, _, _⟩ :: _)); refine st_y (y_field tabs rfl rfl rfl) rfl ?_)
         | (show AT _ _ _ (wpList _ _ _ (⟨_, Op.load _ _, _, _, _, _⟩ :: _)); first | refine st_y (y_load tabs rfl rfl (hc_blk 0 rfl rfl)) rfl ?_ | refine st_y (y_loadb 0 tabs rfl rfl rfl rfl) rfl ?_)
         | (show AT _ _ _ (wpList _ _ _ (⟨_, Op.binOp _ _ _ _ _, _, _, _, _⟩ :: _)); refine st_y (y_neq rfl rfl) rfl ?_)
         | (show AT _ _ _ (wpList _ _ _ (⟨_, Op.unOp _ _ _, _, _, _, _⟩ :: _)); refine st_y (y_notd rfl) rfl ?_)
         | (show AT _ _ _ (wpList _ _ _ (⟨_, Op.call _, _, _, _, _⟩ :: _)); first | (refine m_call (ent_of Try.func63 (by kernel_rfl) rfl) rfl rfl (fun w c => impl_IsMatrix_ok (m := (↑R, ↑C, mk R C f)) (c.rd hr)) ?_; rintro v H' ⟨rfl, rfl⟩) | (refine m_call (ent_of Try.func71 (by kernel_rfl) rfl) rfl rfl (fun w c => impl_IsVector_ok (c.rd hr')) ?_; rintro v H' ⟨rfl, rfl⟩) | (refine m_call (ent_of Try.func72 (by kernel_rfl) rfl) rfl rfl (fun w c => apply_ok (c.rd hr) (c.rd hr') hF (by omega) (by omega) hin hvl' hV.2.2) ?_; rintro v H' ⟨a2, c2, rfl, hs2, rfl⟩) | refine st_y (y_len tabs rfl rfl) rfl ?_)
         | (show AT _ _ _ (wpList _ _ _ (⟨_, Op.pick _ _ _, _, _, _, _⟩ :: _)); first | refine st_y (y_pickt rfl (by first | assumption | omega) rfl) rfl ?_ | refine st_y (y_pickf rfl (by first | assumption | omega) rfl) rfl ?_ | refine st_y (y_pick rfl rfl rfl) rfl ?_)
         | (show AT _ _ _ (wpList _ _ _ (⟨_, Op.box _ _, _, _, _, _⟩ :: _)); refine m_box rfl rfl (fun b hb => ?_))
         | refine st_gn rfl rfl rfl ?_ | refine st_gfy rfl rfl (by first | assumption | omega) ?_ | refine st_gfn rfl rfl (by first | assumption | omega) rfl ?_ | refine st_gd rfl rfl (fun h => ?_) (fun h => ?_))
      | (show AT _ _ _ (wpList _ _ _ []); refine c_nil (x_then ?_))
      | (show AT _ _ _ (Code.wp _ _ _); first | refine c_seq ?_ | refine c_region ?_ | refine c_skip (x_then ?_) | refine c_ret ?_ | refine c_true rfl ?_ | refine c_iff rfl (by first | assumption | exact not_not_intro (by assumption) | omega) ?_)
      | (show AT _ _ _ _; refine x_then_ret ?_))
    all_goals first
      | exact x_ret2 Try.results25 (res_tmp rfl) (res_tmp rfl) (fun w' c' => ⟨_, _, rfl, ⟨a2, c2, by rw [mkv_length], by rw [mkv_length]; exact hs2, by rw [mkv_length]⟩, c'.sub (.cons_cons _ (List.nil_sublist _))⟩)
      | exact absurd hM (by assumption)
      | exact absurd hV (by assumption)
  · rw [appX, if_neg hA, decide_eq_false hA]
    refine fn_enter Try.func25 rfl Try.ntmps25 rfl ?_
    repeat' (first
      | (show AT _ _ _ (wpList _ _ _ (_ :: _)); first
         | (show AT _ _ _ (wpList _ _ _ (⟨_, Op.move _, _, _, _, _⟩ :: _)); refine st_y (y_move rfl) rfl ?_)
         | (show AT _ _ _ (wpList _ _ _ (⟨_, Op.assign _, _, _, _, _⟩ :: _)); refine st_y (y_assign rfl) rfl ?_)
         | (show AT _ _ _ (wpList _ _ _ (⟨_, Op.fieldAddr _ _ _, _, _, _, _⟩ :: _)); refine st_y (y_field tabs rfl rfl rfl) rfl ?_)
         | (show AT _ _ _ (wpList _ _ _ (⟨_, Op.load _ _, _, _, _, _⟩ :: _)); first | refine st_y (y_load tabs rfl rfl (hc_blk 0 rfl rfl)) rfl ?_ | refine st_y (y_loadb 0 tabs rfl rfl rfl rfl) rfl ?_)
         | (show AT _ _ _ (wpList _ _ _ (⟨_, Op.binOp _ _ _ _ _, _, _, _, _⟩ :: _)); refine st_y (y_neq rfl rfl) rfl ?_)
         | (show AT _ _ _ (wpList _ _ _ (⟨_, Op.unOp _ _ _, _, _, _, _⟩ :: _)); refine st_y (y_notd rfl) rfl ?_)
         | (show AT _ _ _ (wpList _ _ _ (⟨_, Op.call _, _, _, _, _⟩ :: _)); first | (refine m_call (ent_of Try.func63 (by kernel_rfl) rfl) rfl rfl (fun w c => impl_IsMatrix_ok (m := m) (c.rd hr)) ?_; rintro v H' ⟨rfl, rfl⟩) | (refine m_call (ent_of Try.func71 (by kernel_rfl) rfl) rfl rfl (fun w c => impl_IsVector_ok (c.rd hr')) ?_; rintro v H' ⟨rfl, rfl⟩) | refine st_y (y_len tabs rfl rfl) rfl ?_)
         | (show AT _ _ _ (wpList _ _ _ (⟨_, Op.pick _ _ _, _, _, _, _⟩ :: _)); first | refine st_y (y_pickt rfl (by assumption) rfl) rfl ?_ | refine st_y (y_pickf rfl (by assumption) rfl) rfl ?_ | refine st_y (y_pick rfl rfl rfl) rfl ?_)
         | (show AT _ _ _ (wpList _ _ _ (⟨_, Op.box _ _, _, _, _, _⟩ :: _)); refine m_box rfl rfl (fun b hb => ?_))
         | refine st_gn rfl rfl rfl ?_ | refine st_gfy rfl rfl (by assumption) ?_ | refine st_gfn rfl rfl (by assumption) rfl ?_ | refine st_gd rfl rfl (fun h => ?_) (fun h => ?_))
      | (show AT _ _ _ (wpList _ _ _ []); refine c_nil (x_then ?_))
      | (show AT _ _ _ (Code.wp _ _ _); first | refine c_seq ?_ | refine c_region ?_ | refine c_skip (x_then ?_) | refine c_ret ?_ | refine c_true rfl ?_ | refine c_ifnd rfl (fun h => ?_) (fun h => ?_))
      | (show AT _ _ _ _; refine x_then_ret ?_))
    all_goals first
      | exact absurd ⟨Decidable.not_not.1 (by assumption), Decidable.not_not.1 (by assumption), by omega⟩ hA
      | exact absurd ⟨by first | assumption | exact Decidable.not_not.1 (by assumption), by first | assumption | exact Decidable.not_not.1 (by assumption), by omega⟩ hA
      | exact x_ret2 Try.results25 (res_tmp rfl) (res_tmp rfl) (fun w' c' => ⟨_, _, rfl, ⟨none, 0, rfl, .inl rfl, rfl⟩, Hp.nilp _ _ (c'.sub (List.nil_sublist _))⟩)
theorem spec_ApplyMatrix_ok {w : World} {p : Int} {m : Mat} {v : List Int} {u u' : Value} (hr : Rd w (iT m.2.2) u) (hr' : Rd w (iT v) u') :
    Does Try.prog 77 [iV p, .agg #[iV m.1, iV m.2.1, u], u'] w (GivesIB (appX p m v) (decide (AppP p m v))) := by
  by_cases hA : AppP p m v
  · rw [appX, if_pos hA, decide_eq_true hA]
    obtain ⟨hM, hV, hvl⟩ := hA
    obtain ⟨R, C, f, rfl, hR, hC, hF, hin⟩ := matP_mk hM
    have hvl' : v.length = C := by simp only at hvl; omega
    simp only [Int.toNat_natCast] at hr hvl ⊢
    rw [imv_mk]
    refine (spec_ApplyMatrix_yes hr hr' hM (by omega) (by omega) hin hvl' hV).mono ?_
    rintro e w' ⟨r, H, rfl, ⟨a, c, rfl, hs, rfl⟩, hp⟩
    exact ⟨_, _, rfl, ⟨a, c, by rw [mkv_length], by rw [mkv_length]; exact hs, by rw [mkv_length]⟩, hp⟩
  · rw [appX, if_neg hA, decide_eq_false hA]
    obtain ⟨av, cv, rfl, hsv, hv1, hv2, _⟩ := hr'.ints
    unfold maxLen at hv2
    refine fn_enter Try.func77 rfl Try.ntmps77 rfl ?_
    repeat' (first
      | (show AT _ _ _ (wpList _ _ _ (_ :: _)); first
         | (show AT _ _ _ (wpList _ _ _ (⟨_, Op.move _, _, _, _, _⟩ :: _)); refine st_y (y_move rfl) rfl ?_)
         | (show AT _ _ _ (wpList _ _ _ (⟨_, Op.assign _, _, _, _, _⟩ :: _)); refine st_y (y_assign rfl) rfl ?_)
         | (show AT _ _ _ (wpList _ _ _ (⟨_, Op.fieldAddr _ _ _, _, _, _, _⟩ :: _)); refine st_y (y_field tabs rfl rfl rfl) rfl ?_)
         | (show AT _ _ _ (wpList _ _ _ (⟨_, Op.load _ _, _, _, _, _⟩ :: _)); first | refine st_y (y_load tabs rfl rfl (hc_blk 0 rfl rfl)) rfl ?_ | refine st_y (y_loadb 0 tabs rfl rfl rfl rfl) rfl ?_)
         | (show AT _ _ _ (wpList _ _ _ (⟨_, Op.binOp _ _ _ _ _, _, _, _, _⟩ :: _)); refine st_y (y_neq rfl rfl) rfl ?_)
         | (show AT _ _ _ (wpList _ _ _ (⟨_, Op.unOp _ _ _, _, _, _, _⟩ :: _)); refine st_y (y_notd rfl) rfl ?_)
         | (show AT _ _ _ (wpList _ _ _ (⟨_, Op.call _, _, _, _, _⟩ :: _)); first | (refine m_call (ent_of Try.func65 (by kernel_rfl) rfl) rfl rfl (fun w c => spec_IsMatrix_ok (m := m) (c.rd hr)) ?_; rintro v H' ⟨rfl, rfl⟩) | (refine m_call (ent_of Try.func80 (by kernel_rfl) rfl) rfl rfl (fun w c => spec_IsVector_ok (c.rd hr')) ?_; rintro v H' ⟨rfl, rfl⟩) | refine st_y (y_len tabs rfl rfl) rfl ?_)
         | (show AT _ _ _ (wpList _ _ _ (⟨_, Op.pick _ _ _, _, _, _, _⟩ :: _)); first | refine st_y (y_pickt rfl (by assumption) rfl) rfl ?_ | refine st_y (y_pickf rfl (by assumption) rfl) rfl ?_ | refine st_y (y_pick rfl rfl rfl) rfl ?_)
         | (show AT _ _ _ (wpList _ _ _ (⟨_, Op.box _ _, _, _, _, _⟩ :: _)); refine m_box rfl rfl (fun b hb => ?_))
         | (show AT _ _ _ (wpList _ _ _ (⟨_, Op.buildSlice _ _ _, _, _, _, _⟩ :: _)); refine m_build0 tabs rfl rfl (fun g hg => ?_))
         | refine st_gn rfl rfl rfl ?_ | refine st_gfy rfl rfl (by assumption) ?_ | refine st_gfn rfl rfl (by assumption) rfl ?_ | refine st_gd rfl rfl (fun h => ?_) (fun h => ?_))
      | (show AT _ _ _ (wpList _ _ _ []); refine c_nil (x_then ?_))
      | (show AT _ _ _ (Code.wp _ _ _); first | refine c_seq ?_ | refine c_region ?_ | refine c_skip (x_then ?_) | refine c_ret ?_ | refine c_true rfl ?_ | refine c_ifnd rfl (fun h => ?_) (fun h => ?_))
      | (show AT _ _ _ _; refine x_then_ret ?_))
    all_goals first
      | exact absurd ⟨Decidable.not_not.1 (by assumption), Decidable.not_not.1 (by assumption), by omega⟩ hA
      | exact absurd ⟨by first | assumption | exact Decidable.not_not.1 (by assumption), by first | assumption | exact Decidable.not_not.1 (by assumption), by omega⟩ hA
      | exact x_ret2 Try.results77 (res_tmp rfl) (res_tmp rfl) (fun w' c' => ⟨_, _, rfl, ⟨some ⟨g, 0, none⟩, 0, rfl, .inl rfl, rfl⟩, c'.sub (.cons_cons _ (List.nil_sublist _))⟩)
def PowP (p : Int) (m : Mat) (n : Int) : Prop := MatP p m ∧ m.1 = m.2.1 ∧ 0 ≤ n ∧ n ≤ 100
instance (p : Int) (m : Mat) (n : Int) : Decidable (PowP p m n) := by unfold PowP; infer_instance
def pwM (p : Int) (m : Mat) (n : Int) : Mat := if PowP p m n then (m.1, m.1, mk m.1.toNat m.1.toNat (powF p m.1.toNat (matF m) n.toNat)) else mat0
theorem powF_congr {p : Int} {n : Nat} {f g : Nat → Nat → Int} (h : ∀ i j, i < n → j < n → f i j = g i j) : ∀ k i j, i < n → j < n → powF p n f k i j = powF p n g k i j
  | 0, _, _, _, _ => rfl
  | k + 1, i, j, hi, hj => mulF_ext (fun q hq => powF_congr h k i q hi hq) (fun q hq => h q j hq hj)
theorem pwM_mk {p : Int} {R : Nat} {f : Nat → Nat → Int} {k : Nat} : mk R R (powF p R (matF ((R : Int), (R : Int), mk R R f)) k) = mk R R (powF p R f k) := mk_ext (fun i j hi hj => powF_congr (fun _ _ hi hj => matF_mk hi hj) k i j hi hj)
theorem powerOf_ok {w : World} {p : Int} {R k : Nat} {f : Nat → Nat → Int} {u : Value} (hr : Rd w (iT (mk R R f)) u) (hF : FieldP p) (hR : R ≤ 64) (hin : inF p R R f) (hk : k ≤ 1000) :
    Does Try.prog 85 [iV p, .agg #[iV R, iV R, u], iV k] w (GivesK R R (powF p R f k)) := by
  have hp := fieldP_pos hF
  obtain ⟨a, c, rfl, hs, hc1⟩ := rd_mk hr
  refine fn_enter Try.func85 rfl Try.ntmps85 rfl ?_
  repeat' (first
    | (show AT _ _ _ (wpList _ _ _ (_ :: _)); first
       | (show AT _ _ _ (wpList _ _ _ (⟨_, Op.move _, _, _, _, _⟩ :: _)); refine st_y (y_move rfl) rfl ?_)
       | (show AT _ _ _ (wpList _ _ _ (⟨_, Op.fieldAddr _ _ _, _, _, _, _⟩ :: _)); refine st_y (y_field tabs rfl rfl rfl) rfl ?_)
       | (show AT _ _ _ (wpList _ _ _ (⟨_, Op.load _ _, _, _, _, _⟩ :: _)); refine st_y (y_load tabs rfl rfl (hc_blk 1 rfl rfl)) rfl ?_)
       | (show AT _ _ _ (wpList _ _ _ (⟨_, Op.call _, _, _, _, _⟩ :: _)); (refine m_call (ent_of Try.func115 (by kernel_rfl) rfl) rfl rfl (fun w c => identity_ok (n := R) (by omega)) ?_; rintro v H' ⟨ai, ci, rfl, hsi, rfl⟩))
       | (show AT _ _ _ (wpList _ _ _ (⟨_, Op.store _ _ _, _, _, _, _⟩ :: _)); refine m_storeb 0 tabs rfl rfl rfl rfl rfl rfl rfl ?_)
       | (show AT _ _ _ (wpList _ _ _ (⟨_, Op.box _ _, _, _, _, _⟩ :: _)); refine m_box rfl rfl (fun b4 hb4 => ?_))
       | (show AT _ _ _ (wpList _ _ _ (⟨_, Op.alloc _, _, _, _, _⟩ :: _)); refine m_alloc tabs rfl rfl (fun b6 hb6 => ?_)))
    | (show AT _ _ _ (wpList _ _ _ []); refine c_nil (x_then ?_))
    | (show AT _ _ _ (Code.wp _ _ _); first | refine c_seq ?_ | refine c_region ?_ | refine c_block ?_))
  rename_i b7 hb7
  refine c_loopH (α := Nat × Option Addr × Nat) [0, 4, 6, 7, 11] (fun s => [(12, iV s.1)]) (fun s => s.1 ≤ k) (fun s => [.own (iT (mk R R (powF p R f s.1))) (.slice s.2.1 (R * R) s.2.2), .blk b6 #[iV R, iV R, .slice s.2.1 (R * R) s.2.2] 46, .blk b7 #[iV 0, iV 0, .slice none 0 0] 46, .blk b4 #[iV R, iV R, .slice a (R * R) c] 46]) (fun s => k - s.1) (0, ai, ci) rfl (by repeat' (first | exact Sub.nil | refine Sub.cons rfl ?_ | refine Sub.consi rfl (by omega) ?_)) ?_ ?_ ?_
  · exact Nat.zero_le _
  · exact fun w' c' => c'.swap
  · rintro ⟨i, al, cl⟩ hi
    simp only at hi ⊢
    by_cases hik : i < k
    · repeat' (first
        | (show AT _ _ _ (wpList _ _ _ (_ :: _)); first
           | (show AT _ _ _ (wpList _ _ _ (⟨_, Op.move _, _, _, _, _⟩ :: _)); refine st_y (y_move rfl) rfl ?_)
           | (show AT _ _ _ (wpList _ _ _ (⟨_, Op.load _ _, _, _, _, _⟩ :: _)); first | refine st_y (y_loadb 1 tabs rfl rfl rfl rfl) rfl ?_ | refine st_y (y_loadb 3 tabs rfl rfl rfl rfl) rfl ?_)
           | (show AT _ _ _ (wpList _ _ _ (⟨_, Op.binOp _ _ _ _ _, _, _, _, _⟩ :: _)); first | refine st_y (y_add rfl rfl (by omega)) rfl ?_ | refine st_y (y_lss rfl rfl) rfl ?_)
           | (show AT _ _ _ (wpList _ _ _ (⟨_, Op.call _, _, _, _, _⟩ :: _)); (refine m_call (ent_of Try.func87 (by kernel_rfl) rfl) rfl rfl (fun w c => times_ok (c.own_rd (i := 0) rfl) (c.rd hr) hF (by omega) (by omega) (by omega) (powF_in (by omega) i) hin) ?_; rintro v H' ⟨a9, c9, rfl, hs9, rfl⟩))
           | (show AT _ _ _ (wpList _ _ _ (⟨_, Op.store _ _ _, _, _, _, _⟩ :: _)); refine m_storeb 2 tabs rfl rfl rfl rfl rfl rfl rfl ?_))
        | (show AT _ _ _ (wpList _ _ _ []); first | refine c_nil (x_then ?_) | refine c_nil ?_)
        | (show AT _ _ _ (Code.wp _ _ _); first | refine c_seq ?_ | refine c_region ?_ | refine c_skip (x_then ?_) | refine c_block ?_ | refine c_ift rfl (by first | assumption | omega) ?_)
        | (show AT _ _ _ _; first | refine x_then ?_ | refine x_blk ?_))
      exact x_nx (i + 1, a9, c9) (by repeat' (first | exact Sub.nil | refine Sub.cons rfl ?_ | refine Sub.consi rfl (by omega) ?_)) (by simp only; omega) (fun w' c' => c'.sub (.cons_cons _ (.cons _ (List.Sublist.refl _)))) (by simp only; omega)
    · have : i = k := by omega
      subst this
      refine AT.fact (own_sl 0 rfl) (fun hsl => ?_)
      obtain ⟨_, _, e, hsl⟩ := hsl
      rw [mk_length] at e hsl
      cases e
      repeat' (first
        | (show AT _ _ _ (wpList _ _ _ (_ :: _)); first
           | (show AT _ _ _ (wpList _ _ _ (⟨_, Op.load _ _, _, _, _, _⟩ :: _)); refine st_y (y_loadb 1 tabs rfl rfl rfl rfl) rfl ?_)
           | (show AT _ _ _ (wpList _ _ _ (⟨_, Op.binOp _ _ _ _ _, _, _, _, _⟩ :: _)); refine st_y (y_lss rfl rfl) rfl ?_)
           | (show AT _ _ _ (wpList _ _ _ (⟨_, Op.store _ _ _, _, _, _, _⟩ :: _)); refine m_storeb 2 tabs rfl rfl rfl rfl rfl rfl rfl ?_))
        | (show AT _ _ _ (wpList _ _ _ []); refine c_nil (x_then ?_))
        | (show AT _ _ _ (Code.wp _ _ _); first | refine c_seq ?_ | refine c_region ?_ | refine c_ret ?_ | refine c_exit ?_ | refine c_iff rfl (by first | assumption | exact not_not_intro (by assumption) | omega) ?_)
        | (show AT _ _ _ _; first | refine x_then ?_ | refine x_then_exit ?_ | refine x_blk_exit rfl ?_))
      exact x_ret1 Try.results85 (res_cellb 2 tabs rfl rfl rfl rfl) (fun w' c' => ⟨_, _, rfl, ⟨al, cl, rfl, hsl, rfl⟩, c'.sub (.cons_cons _ (List.nil_sublist _))⟩)
theorem l4Power_ok {w : World} {p : Int} {R k : Nat} {f : Nat → Nat → Int} {u : Value} (hr : Rd w (iT (mk R R f)) u) (hF : FieldP p) (hR : R ≤ 64) (hin : inF p R R f) (hk : k ≤ 1000) :
    Does Try.prog 92 [iV p, .agg #[iV R, iV R, u], iV k] w (GivesK R R (powF p R f k)) := by
  have hp := fieldP_pos hF
  obtain ⟨a, c, rfl, hs, hc1⟩ := rd_mk hr
  refine fn_enter Try.func92 rfl Try.ntmps92 rfl ?_
  repeat' (first
    | (show AT _ _ _ (wpList _ _ _ (_ :: _)); first
       | (show AT _ _ _ (wpList _ _ _ (⟨_, Op.assign _, _, _, _, _⟩ :: _)); refine st_y (y_assign rfl) rfl ?_)
       | (show AT _ _ _ (wpList _ _ _ (⟨_, Op.fieldAddr _ _ _, _, _, _, _⟩ :: _)); refine st_y (y_field tabs rfl rfl rfl) rfl ?_)
       | (show AT _ _ _ (wpList _ _ _ (⟨_, Op.load _ _, _, _, _, _⟩ :: _)); refine st_y (y_load tabs rfl rfl (hc_blk 1 rfl rfl)) rfl ?_)
       | (show AT _ _ _ (wpList _ _ _ (⟨_, Op.call _, _, _, _, _⟩ :: _)); (refine m_call (ent_of Try.func89 (by kernel_rfl) rfl) rfl rfl (fun w c => l3Identity_ok (n := R) (by omega)) ?_; rintro v H' ⟨ai, ci, rfl, hsi, rfl⟩))
       | (show AT _ _ _ (wpList _ _ _ (⟨_, Op.store _ _ _, _, _, _, _⟩ :: _)); refine m_storeb 0 tabs rfl rfl rfl rfl rfl rfl rfl ?_)
       | (show AT _ _ _ (wpList _ _ _ (⟨_, Op.box _ _, _, _, _, _⟩ :: _)); refine m_box rfl rfl (fun b4 hb4 => ?_))
       | (show AT _ _ _ (wpList _ _ _ (⟨_, Op.alloc _, _, _, _, _⟩ :: _)); refine m_alloc tabs rfl rfl (fun b6 hb6 => ?_)))
    | (show AT _ _ _ (wpList _ _ _ []); refine c_nil (x_then ?_))
    | (show AT _ _ _ (Code.wp _ _ _); first | refine c_seq ?_ | refine c_region ?_ | refine c_block ?_))
  rename_i b7 hb7
  refine c_loopH (α := Nat × Option Addr × Nat) [0, 2, 4, 6, 7] (fun s => [(8, iV s.1)]) (fun s => s.1 ≤ k) (fun s => [.own (iT (mk R R (powF p R f s.1))) (.slice s.2.1 (R * R) s.2.2), .blk b6 #[iV R, iV R, .slice s.2.1 (R * R) s.2.2] 46, .blk b7 #[iV 0, iV 0, .slice none 0 0] 46, .blk b4 #[iV R, iV R, .slice a (R * R) c] 46]) (fun s => k - s.1) (0, ai, ci) rfl (by repeat' (first | exact Sub.nil | refine Sub.cons rfl ?_ | refine Sub.consi rfl (by omega) ?_)) ?_ ?_ ?_
  · exact Nat.zero_le _
  · exact fun w' c' => c'.swap
  · rintro ⟨i, al, cl⟩ hi
    simp only at hi ⊢
    by_cases hik : i < k
    · repeat' (first
        | (show AT _ _ _ (wpList _ _ _ (_ :: _)); first
           | (show AT _ _ _ (wpList _ _ _ (⟨_, Op.move _, _, _, _, _⟩ :: _)); refine st_y (y_move rfl) rfl ?_)
           | (show AT _ _ _ (wpList _ _ _ (⟨_, Op.assign _, _, _, _, _⟩ :: _)); refine st_y (y_assign rfl) rfl ?_)
           | (show AT _ _ _ (wpList _ _ _ (⟨_, Op.load _ _, _, _, _, _⟩ :: _)); first | refine st_y (y_loadb 1 tabs rfl rfl rfl rfl) rfl ?_ | refine st_y (y_loadb 3 tabs rfl rfl rfl rfl) rfl ?_)
           | (show AT _ _ _ (wpList _ _ _ (⟨_, Op.binOp _ _ _ _ _, _, _, _, _⟩ :: _)); first | refine st_y (y_add rfl rfl (by omega)) rfl ?_ | refine st_y (y_lss rfl rfl) rfl ?_)
           | (show AT _ _ _ (wpList _ _ _ (⟨_, Op.call _, _, _, _, _⟩ :: _)); (refine m_call (ent_of Try.func50 (by kernel_rfl) rfl) rfl rfl (fun w c => l3Multiply_ok (c.own_rd (i := 0) rfl) (c.rd hr) hF (by omega) (by omega) (by omega) (powF_in (by omega) i) hin) ?_; rintro v H' ⟨a9, c9, rfl, hs9, rfl⟩))
           | (show AT _ _ _ (wpList _ _ _ (⟨_, Op.store _ _ _, _, _, _, _⟩ :: _)); refine m_storeb 2 tabs rfl rfl rfl rfl rfl rfl rfl ?_))
        | (show AT _ _ _ (wpList _ _ _ []); first | refine c_nil (x_then ?_) | refine c_nil ?_)
        | (show AT _ _ _ (Code.wp _ _ _); first | refine c_seq ?_ | refine c_region ?_ | refine c_skip (x_then ?_) | refine c_block ?_ | refine c_ift rfl (by first | assumption | omega) ?_)
        | (show AT _ _ _ _; first | refine x_then ?_ | refine x_blk ?_))
      exact x_nx (i + 1, a9, c9) (by repeat' (first | exact Sub.nil | refine Sub.cons rfl ?_ | refine Sub.consi rfl (by omega) ?_)) (by simp only; omega) (fun w' c' => c'.sub (.cons_cons _ (.cons _ (List.Sublist.refl _)))) (by simp only; omega)
    · have : i = k := by omega
      subst this
      refine AT.fact (own_sl 0 rfl) (fun hsl => ?_)
      obtain ⟨_, _, e, hsl⟩ := hsl
      rw [mk_length] at e hsl
      cases e
      repeat' (first
        | (show AT _ _ _ (wpList _ _ _ (_ :: _)); first
           | (show AT _ _ _ (wpList _ _ _ (⟨_, Op.move _, _, _, _, _⟩ :: _)); refine st_y (y_move rfl) rfl ?_)
           | (show AT _ _ _ (wpList _ _ _ (⟨_, Op.load _ _, _, _, _, _⟩ :: _)); refine st_y (y_loadb 1 tabs rfl rfl rfl rfl) rfl ?_)
           | (show AT _ _ _ (wpList _ _ _ (⟨_, Op.binOp _ _ _ _ _, _, _, _, _⟩ :: _)); refine st_y (y_lss rfl rfl) rfl ?_)
           | (show AT _ _ _ (wpList _ _ _ (⟨_, Op.store _ _ _, _, _, _, _⟩ :: _)); refine m_storeb 2 tabs rfl rfl rfl rfl rfl rfl rfl ?_))
        | (show AT _ _ _ (wpList _ _ _ []); refine c_nil (x_then ?_))
        | (show AT _ _ _ (Code.wp _ _ _); first | refine c_seq ?_ | refine c_region ?_ | refine c_ret ?_ | refine c_exit ?_ | refine c_iff rfl (by first | assumption | exact not_not_intro (by assumption) | omega) ?_)
        | (show AT _ _ _ _; first | refine x_then ?_ | refine x_then_exit ?_ | refine x_blk_exit rfl ?_))
      exact x_ret1 Try.results92 (res_cellb 2 tabs rfl rfl rfl rfl) (fun w' c' => ⟨_, _, rfl, ⟨al, cl, rfl, hsl, rfl⟩, c'.sub (.cons_cons _ (List.nil_sublist _))⟩)
theorem pwM_of {p : Int} {m : Mat} (h : MatP p m) (hq : m.1 = m.2.1) : ∃ (R : Nat) (f : Nat → Nat → Int), m = ((R : Int), (R : Int), mk R R f) ∧ R ≤ 8 ∧ FieldP p ∧ inF p R R f := by
  obtain ⟨R, C, f, rfl, hR, hC, hF, hin⟩ := matP_mk h
  have : R = C := by simp only at hq; omega
  subst this
  exact ⟨R, f, rfl, hR, hF, hin⟩
theorem impl_PowerOf_ok {w : World} {p n : Int} {m : Mat} {u : Value} (hr : Rd w (iT m.2.2) u) : Does Try.prog 44 [iV p, .agg #[iV m.1, iV m.2.1, u], iV n] w (GivesMB (pwM p m n) (decide (PowP p m n))) := by
  by_cases hA : PowP p m n
  · rw [pwM, if_pos hA, decide_eq_true hA]
    obtain ⟨hM, hq, hn⟩ := hA
    obtain ⟨R, f, rfl, hR, hF, hin⟩ := pwM_of hM hq
    obtain ⟨k, rfl⟩ : ∃ k : Nat, n = k := ⟨n.toNat, by omega⟩
    simp only [Int.toNat_natCast] at hr ⊢
    rw [pwM_mk]
    refine fn_enter Try.func44 rfl Try.ntmps44 rfl ?_
    repeat' (first
      | (show AT _ _ _ (wpList _ _ _ (_ :: _)); first
         | (show AT _ _ _ (wpList _ _ _ (⟨_, Op.move _, _, _, _, _⟩ :: _)); refine st_y (y_move rfl) rfl ?_)
         | (show AT _ _ _ (wpList _ _ _ (⟨_, Op.assign _, _, _, _, _⟩ :: _)); refine st_y (y_assign rfl) rfl ?_)
         | (show AT _ _ _ (wpList _ _ _ (⟨_, Op.fieldAddr _ _ _, _, _, _, _⟩ :: _)); refine st_y (y_field tabs rfl rfl rfl) rfl ?_)
         | (show AT _ _ _ (wpList _ _ _ (⟨_, Op.load _ _, _, _, _, _⟩ :: _)); first | refine st_y (y_load tabs rfl rfl (hc_blk 1 rfl rfl)) rfl ?_ | refine st_y (y_loadb 1 tabs rfl rfl rfl rfl) rfl ?_)
         | (show AT _ _ _ (wpList _ _ _ (⟨_, Op.binOp _ _ _ _ _, _, _, _, _⟩ :: _)); refine st_y (y_neq rfl rfl) rfl ?_)
         | (show AT _ _ _ (wpList _ _ _ (⟨_, Op.unOp _ _ _, _, _, _, _⟩ :: _)); refine st_y (y_notd rfl) rfl ?_)
         | (show AT _ _ _ (wpList _ _ _ (⟨_, Op.call _, _, _, _, _⟩ :: _)); first | (refine m_call (ent_of Try.func63 (by kernel_rfl) rfl) rfl rfl (fun w c => impl_IsMatrix_ok (m := (↑R, ↑R, mk R R f)) (c.rd hr)) ?_; rintro v H' ⟨rfl, rfl⟩) | (refine m_call (ent_of Try.func91 (by kernel_rfl) rfl) rfl rfl (fun w c => within_ok _ _ _) ?_; rintro v H' ⟨rfl, rfl⟩) | (refine m_call (ent_of Try.func85 (by kernel_rfl) rfl) rfl rfl (fun w c => powerOf_ok (k := k) (c.rd hr) hF (by omega) hin (by omega)) ?_; rintro v H' ⟨a2, c2, rfl, hs2, rfl⟩))
         | (show AT _ _ _ (wpList _ _ _ (⟨_, Op.pick _ _ _, _, _, _, _⟩ :: _)); first | refine st_y (y_pickt rfl (by first | assumption | omega) rfl) rfl ?_ | refine st_y (y_pickf rfl (by first | assumption | omega) rfl) rfl ?_ | refine st_y (y_pick rfl rfl rfl) rfl ?_)
         | (show AT _ _ _ (wpList _ _ _ (⟨_, Op.store _ _ _, _, _, _, _⟩ :: _)); refine m_storeb 1 tabs rfl rfl rfl rfl rfl rfl rfl ?_)
         | (show AT _ _ _ (wpList _ _ _ (⟨_, Op.box _ _, _, _, _, _⟩ :: _)); refine m_box rfl rfl (fun b hb => ?_))
         | (show AT _ _ _ (wpList _ _ _ (⟨_, Op.alloc _, _, _, _, _⟩ :: _)); refine m_alloc tabs rfl rfl (fun bq hbq => ?_))
         | refine st_gn rfl rfl rfl ?_ | refine st_gfy rfl rfl (by first | assumption | omega) ?_ | refine st_gfn rfl rfl (by first | assumption | omega) rfl ?_ | refine st_gd rfl rfl (fun h => ?_) (fun h => ?_))
      | (show AT _ _ _ (wpList _ _ _ []); refine c_nil (x_then ?_))
      | (show AT _ _ _ (Code.wp _ _ _); first | refine c_seq ?_ | refine c_region ?_ | refine c_skip (x_then ?_) | refine c_ret ?_ | refine c_true rfl ?_ | refine c_iff rfl (by first | assumption | exact not_not_intro (by assumption) | omega) ?_))
    all_goals first
      | exact x_ret2 Try.results44 (res_cellb 1 tabs rfl rfl rfl rfl) (res_tmp rfl) (fun w' c' => ⟨_, _, rfl, ⟨a2, c2, by rw [mk_length], by rw [mk_length]; exact hs2, by rw [mk_length]⟩, c'.sub (.cons_cons _ (List.nil_sublist _))⟩)
      | exact absurd hM (by assumption)
      | exact absurd hn (by assumption)
  · rw [pwM, if_neg hA, decide_eq_false hA]
    refine fn_enter Try.func44 rfl Try.ntmps44 rfl ?_
    repeat' (first
      | (show AT _ _ _ (wpList _ _ _ (_ :: _)); first
         | (show AT _ _ _ (wpList _ _ _ (⟨_, Op.move _, _, _, _, _⟩ :: _)); refine st_y (y_move rfl) rfl ?_)
         | (show AT _ _ _ (wpList _ _ _ (⟨_, Op.assign _, _, _, _, _⟩ :: _)); refine st_y (y_assign rfl) rfl ?_)
         | (show AT _ _ _ (wpList _ _ _ (⟨_, Op.fieldAddr _ _ _, _, _, _, _⟩ :: _)); refine st_y (y_field tabs rfl rfl rfl) rfl ?_)
         | (show AT _ _ _ (wpList _ _ _ (⟨_, Op.load _ _, _, _, _, _⟩ :: _)); first | refine st_y (y_load tabs rfl rfl (hc_blk 1 rfl rfl)) rfl ?_ | refine st_y (y_loadb 1 tabs rfl rfl rfl rfl) rfl ?_)
         | (show AT _ _ _ (wpList _ _ _ (⟨_, Op.binOp _ _ _ _ _, _, _, _, _⟩ :: _)); refine st_y (y_neq rfl rfl) rfl ?_)
         | (show AT _ _ _ (wpList _ _ _ (⟨_, Op.unOp _ _ _, _, _, _, _⟩ :: _)); refine st_y (y_notd rfl) rfl ?_)
         | (show AT _ _ _ (wpList _ _ _ (⟨_, Op.call _, _, _, _, _⟩ :: _)); first | (refine m_call (ent_of Try.func63 (by kernel_rfl) rfl) rfl rfl (fun w c => impl_IsMatrix_ok (m := m) (c.rd hr)) ?_; rintro v H' ⟨rfl, rfl⟩) | (refine m_call (ent_of Try.func91 (by kernel_rfl) rfl) rfl rfl (fun w c => within_ok _ _ _) ?_; rintro v H' ⟨rfl, rfl⟩))
         | (show AT _ _ _ (wpList _ _ _ (⟨_, Op.pick _ _ _, _, _, _, _⟩ :: _)); first | refine st_y (y_pickt rfl (by assumption) rfl) rfl ?_ | refine st_y (y_pickf rfl (by assumption) rfl) rfl ?_ | refine st_y (y_pick rfl rfl rfl) rfl ?_)
         | (show AT _ _ _ (wpList _ _ _ (⟨_, Op.store _ _ _, _, _, _, _⟩ :: _)); refine m_storeb 0 tabs rfl rfl rfl rfl rfl rfl rfl ?_)
         | (show AT _ _ _ (wpList _ _ _ (⟨_, Op.box _ _, _, _, _, _⟩ :: _)); refine m_box rfl rfl (fun b hb => ?_))
         | (show AT _ _ _ (wpList _ _ _ (⟨_, Op.alloc _, _, _, _, _⟩ :: _)); refine m_alloc tabs rfl rfl (fun bq hbq => ?_))
         | (show AT _ _ _ (wpList _ _ _ (⟨_, Op.build _ _, _, _, _, _⟩ :: _)); refine st_y (y_bld0 bld_mat0) rfl ?_)
         | refine st_gn rfl rfl rfl ?_ | refine st_gfy rfl rfl (by assumption) ?_ | refine st_gfn rfl rfl (by assumption) rfl ?_ | refine st_gd rfl rfl (fun h => ?_) (fun h => ?_))
      | (show AT _ _ _ (wpList _ _ _ []); refine c_nil (x_then ?_))
      | (show AT _ _ _ (Code.wp _ _ _); first | refine c_seq ?_ | refine c_region ?_ | refine c_skip (x_then ?_) | refine c_ret ?_ | refine c_true rfl ?_ | refine c_ifnd rfl (fun h => ?_) (fun h => ?_))
      | (show AT _ _ _ _; refine x_then_ret ?_))
    all_goals first
      | exact absurd ⟨Decidable.not_not.1 (by assumption), Decidable.not_not.1 (by assumption), Decidable.not_not.1 (by assumption)⟩ hA
      | exact absurd ⟨by first | assumption | exact Decidable.not_not.1 (by assumption), by omega, by first | assumption | exact Decidable.not_not.1 (by assumption)⟩ hA
      | exact x_ret2 Try.results44 (res_cellb 0 tabs rfl rfl rfl rfl) (res_tmp rfl) (fun w' c' => ⟨_, _, rfl, ⟨none, 0, rfl, .inl rfl, rfl⟩, Hp.nilp _ _ (c'.sub (List.nil_sublist _))⟩)
theorem spec_PowerOf_ok {w : World} {p n : Int} {m : Mat} {u : Value} (hr : Rd w (iT m.2.2) u) : Does Try.prog 45 [iV p, .agg #[iV m.1, iV m.2.1, u], iV n] w (GivesMB (pwM p m n) (decide (PowP p m n))) := by
  by_cases hA : PowP p m n
  · rw [pwM, if_pos hA, decide_eq_true hA]
    obtain ⟨hM, hq, hn⟩ := hA
    obtain ⟨R, f, rfl, hR, hF, hin⟩ := pwM_of hM hq
    obtain ⟨k, rfl⟩ : ∃ k : Nat, n = k := ⟨n.toNat, by omega⟩
    simp only [Int.toNat_natCast] at hr ⊢
    rw [pwM_mk]
    refine fn_enter Try.func45 rfl Try.ntmps45 rfl ?_
    repeat' (first
      | (show AT _ _ _ (wpList _ _ _ (_ :: _)); first
         | (show AT _ _ _ (wpList _ _ _ (⟨_, Op.move _, _, _, _, _⟩ :: _)); refine st_y (y_move rfl) rfl ?_)
         | (show AT _ _ _ (wpList _ _ _ (⟨_, Op.assign _, _, _, _, _⟩ :: _)); refine st_y (y_assign rfl) rfl ?_)
         | (show AT _ _ _ (wpList _ _ _ (⟨_, Op.fieldAddr _ _ _, _, _, _, _⟩ :: _)); refine st_y (y_field tabs rfl rfl rfl) rfl ?_)
         | (show AT _ _ _ (wpList _ _ _ (⟨_, Op.load _ _, _, _, _, _⟩ :: _)); first | refine st_y (y_load tabs rfl rfl (hc_blk 1 rfl rfl)) rfl ?_ | refine st_y (y_loadb 1 tabs rfl rfl rfl rfl) rfl ?_)
         | (show AT _ _ _ (wpList _ _ _ (⟨_, Op.binOp _ _ _ _ _, _, _, _, _⟩ :: _)); refine st_y (y_neq rfl rfl) rfl ?_)
         | (show AT _ _ _ (wpList _ _ _ (⟨_, Op.unOp _ _ _, _, _, _, _⟩ :: _)); refine st_y (y_notd rfl) rfl ?_)
         | (show AT _ _ _ (wpList _ _ _ (⟨_, Op.call _, _, _, _, _⟩ :: _)); first | (refine m_call (ent_of Try.func65 (by kernel_rfl) rfl) rfl rfl (fun w c => spec_IsMatrix_ok (m := (↑R, ↑R, mk R R f)) (c.rd hr)) ?_; rintro v H' ⟨rfl, rfl⟩) | (refine m_call (ent_of Try.func88 (by kernel_rfl) rfl) rfl rfl (fun w c => l1In_ok _ _ _) ?_; rintro v H' ⟨rfl, rfl⟩) | (refine m_call (ent_of Try.func92 (by kernel_rfl) rfl) rfl rfl (fun w c => l4Power_ok (k := k) (c.rd hr) hF (by omega) hin (by omega)) ?_; rintro v H' ⟨a2, c2, rfl, hs2, rfl⟩))
         | (show AT _ _ _ (wpList _ _ _ (⟨_, Op.pick _ _ _, _, _, _, _⟩ :: _)); first | refine st_y (y_pickt rfl (by first | assumption | omega) rfl) rfl ?_ | refine st_y (y_pickf rfl (by first | assumption | omega) rfl) rfl ?_ | refine st_y (y_pick rfl rfl rfl) rfl ?_)
         | (show AT _ _ _ (wpList _ _ _ (⟨_, Op.store _ _ _, _, _, _, _⟩ :: _)); refine m_storeb 1 tabs rfl rfl rfl rfl rfl rfl rfl ?_)
         | (show AT _ _ _ (wpList _ _ _ (⟨_, Op.box _ _, _, _, _, _⟩ :: _)); refine m_box rfl rfl (fun b hb => ?_))
         | (show AT _ _ _ (wpList _ _ _ (⟨_, Op.alloc _, _, _, _, _⟩ :: _)); refine m_alloc tabs rfl rfl (fun bq hbq => ?_))
         | refine st_gn rfl rfl rfl ?_ | refine st_gfy rfl rfl (by first | assumption | omega) ?_ | refine st_gfn rfl rfl (by first | assumption | omega) rfl ?_ | refine st_gd rfl rfl (fun h => ?_) (fun h => ?_))
      | (show AT _ _ _ (wpList _ _ _ []); refine c_nil (x_then ?_))
      | (show AT _ _ _ (Code.wp _ _ _); first | refine c_seq ?_ | refine c_region ?_ | refine c_skip (x_then ?_) | refine c_ret ?_ | refine c_true rfl ?_ | refine c_iff rfl (by first | assumption | exact not_not_intro (by assumption) | omega) ?_))
    all_goals first
      | exact x_ret2 Try.results45 (res_cellb 1 tabs rfl rfl rfl rfl) (res_tmp rfl) (fun w' c' => ⟨_, _, rfl, ⟨a2, c2, by rw [mk_length], by rw [mk_length]; exact hs2, by rw [mk_length]⟩, c'.sub (.cons_cons _ (List.nil_sublist _))⟩)
      | exact absurd hM (by assumption)
      | exact absurd hn (by assumption)
  · rw [pwM, if_neg hA, decide_eq_false hA]
    refine fn_enter Try.func45 rfl Try.ntmps45 rfl ?_
    repeat' (first
      | (show AT _ _ _ (wpList _ _ _ (_ :: _)); first
         | (show AT _ _ _ (wpList _ _ _ (⟨_, Op.move _, _, _, _, _⟩ :: _)); refine st_y (y_move rfl) rfl ?_)
         | (show AT _ _ _ (wpList _ _ _ (⟨_, Op.assign _, _, _, _, _⟩ :: _)); refine st_y (y_assign rfl) rfl ?_)
         | (show AT _ _ _ (wpList _ _ _ (⟨_, Op.fieldAddr _ _ _, _, _, _, _⟩ :: _)); refine st_y (y_field tabs rfl rfl rfl) rfl ?_)
         | (show AT _ _ _ (wpList _ _ _ (⟨_, Op.load _ _, _, _, _, _⟩ :: _)); first | refine st_y (y_load tabs rfl rfl (hc_blk 1 rfl rfl)) rfl ?_ | refine st_y (y_loadb 1 tabs rfl rfl rfl rfl) rfl ?_)
         | (show AT _ _ _ (wpList _ _ _ (⟨_, Op.binOp _ _ _ _ _, _, _, _, _⟩ :: _)); refine st_y (y_neq rfl rfl) rfl ?_)
         | (show AT _ _ _ (wpList _ _ _ (⟨_, Op.unOp _ _ _, _, _, _, _⟩ :: _)); refine st_y (y_notd rfl) rfl ?_)
         | (show AT _ _ _ (wpList _ _ _ (⟨_, Op.call _, _, _, _, _⟩ :: _)); first | (refine m_call (ent_of Try.func65 (by kernel_rfl) rfl) rfl rfl (fun w c => spec_IsMatrix_ok (m := m) (c.rd hr)) ?_; rintro v H' ⟨rfl, rfl⟩) | (refine m_call (ent_of Try.func88 (by kernel_rfl) rfl) rfl rfl (fun w c => l1In_ok _ _ _) ?_; rintro v H' ⟨rfl, rfl⟩))
         | (show AT _ _ _ (wpList _ _ _ (⟨_, Op.pick _ _ _, _, _, _, _⟩ :: _)); first | refine st_y (y_pickt rfl (by assumption) rfl) rfl ?_ | refine st_y (y_pickf rfl (by assumption) rfl) rfl ?_ | refine st_y (y_pick rfl rfl rfl) rfl ?_)
         | (show AT _ _ _ (wpList _ _ _ (⟨_, Op.store _ _ _, _, _, _, _⟩ :: _)); refine m_storeb 0 tabs rfl rfl rfl rfl rfl rfl rfl ?_)
         | (show AT _ _ _ (wpList _ _ _ (⟨_, Op.box _ _, _, _, _, _⟩ :: _)); refine m_box rfl rfl (fun b hb => ?_))
         | (show AT _ _ _ (wpList _ _ _ (⟨_, Op.alloc _, _, _, _, _⟩ :: _)); refine m_alloc tabs rfl rfl (fun bq hbq => ?_))
         | (show AT _ _ _ (wpList _ _ _ (⟨_, Op.build _ _, _, _, _, _⟩ :: _)); refine st_y (y_bld0 bld_mat0) rfl ?_)
         | refine st_gn rfl rfl rfl ?_ | refine st_gfy rfl rfl (by assumption) ?_ | refine st_gfn rfl rfl (by assumption) rfl ?_ | refine st_gd rfl rfl (fun h => ?_) (fun h => ?_))
      | (show AT _ _ _ (wpList _ _ _ []); refine c_nil (x_then ?_))
      | (show AT _ _ _ (Code.wp _ _ _); first | refine c_seq ?_ | refine c_region ?_ | refine c_skip (x_then ?_) | refine c_ret ?_ | refine c_true rfl ?_ | refine c_ifnd rfl (fun h => ?_) (fun h => ?_))
      | (show AT _ _ _ _; refine x_then_ret ?_))
    all_goals first
      | exact absurd ⟨Decidable.not_not.1 (by assumption), Decidable.not_not.1 (by assumption), Decidable.not_not.1 (by assumption)⟩ hA
      | exact absurd ⟨by first | assumption | exact Decidable.not_not.1 (by assumption), by omega, by first | assumption | exact Decidable.not_not.1 (by assumption)⟩ hA
      | exact x_ret2 Try.results45 (res_cellb 0 tabs rfl rfl rfl rfl) (res_tmp rfl) (fun w' c' => ⟨_, _, rfl, ⟨none, 0, rfl, .inl rfl, rfl⟩, Hp.nilp _ _ (c'.sub (List.nil_sublist _))⟩)
def nilB (p : Int) (m : Mat) : Bool := decide (MatP p m ∧ m.1 = m.2.1) && decide (∀ x ∈ mk m.1.toNat m.1.toNat (powF p m.1.toNat (matF m) 8), x = 0)
theorem all0_mk {R C : Nat} {f : Nat → Nat → Int} : (∀ x ∈ mk R C f, x = 0) ↔ ∀ i j, i < R → j < C → f i j = 0 := by
  constructor
  · intro h i j hi hj
    have hl : i * C + j < (mk R C f).length := by rw [mk_length]; exact cell_lt hi hj
    have := h ((mk R C f).getD (i * C + j) 0) (by rw [getD_ix hl]; exact List.getElem_mem _)
    rwa [mk_get hi hj] at this
  · intro h x hx
    simp only [mk, List.mem_map, List.mem_range] at hx
    obtain ⟨q, hq, rfl⟩ := hx
    have hC : 0 < C := Nat.pos_of_ne_zero (fun e => by subst e; simp at hq)
    exact h _ _ (Nat.div_lt_of_lt_mul (by rw [Nat.mul_comm]; exact hq)) (Nat.mod_lt _ hC)
theorem nil_mk {p : Int} {R : Nat} {f : Nat → Nat → Int} : decide (∀ x ∈ mk R R (powF p R (matF ((R : Int), (R : Int), mk R R f)) 8), x = 0) = decide (∀ x ∈ mk R R (powF p R f 8), x = 0) := decide_eq_decide.2 (by rw [pwM_mk])
theorem matP_of {p : Int} {R C : Nat} {f : Nat → Nat → Int} (hF : FieldP p) (hR : R ≤ 8) (hC : C ≤ 8) (h : inF p R C f) : MatP p ((R : Int), (C : Int), mk R C f) := by
  have hRC : R * C ≤ 64 := Nat.mul_le_mul hR hC
  refine ⟨⟨by simp only; omega, by simp only; omega⟩, ⟨by simp only; omega, by simp only; omega⟩, by simp, hF, ?_, inP_mk h⟩
  rw [mk_length]; exact hRC
theorem impl_IsNilpotent_ok {w : World} {p : Int} {m : Mat} {u : Value} (hr : Rd w (iT m.2.2) u) : Does Try.prog 36 [iV p, .agg #[iV m.1, iV m.2.1, u]] w (fun r H => r = .bool (nilB p m) ∧ H = []) := by
  by_cases hA : MatP p m ∧ m.1 = m.2.1
  · rw [nilB, decide_eq_true hA, Bool.true_and]
    obtain ⟨hM, hq⟩ := hA
    obtain ⟨R, f, rfl, hR, hF, hin⟩ := pwM_of hM hq
    simp only [Int.toNat_natCast] at hr ⊢
    rw [nil_mk]
    refine fn_enter Try.func36 rfl Try.ntmps36 rfl ?_
    repeat' (first
      | (show AT _ _ _ (wpList _ _ _ (_ :: _)); first
         | (show AT _ _ _ (wpList _ _ _ (⟨_, Op.move _, _, _, _, _⟩ :: _)); refine st_y (y_move rfl) rfl ?_)
         | (show AT _ _ _ (wpList _ _ _ (⟨_, Op.assign _, _, _, _, _⟩ :: _)); refine st_y (y_assign rfl) rfl ?_)
         | (show AT _ _ _ (wpList _ _ _ (⟨_, Op.fieldAddr _ _ _, _, _, _, _⟩ :: _)); refine st_y (y_field tabs rfl rfl rfl) rfl ?_)
         | (show AT _ _ _ (wpList _ _ _ (⟨_, Op.load _ _, _, _, _, _⟩ :: _)); first | refine st_y (y_load tabs rfl rfl (hc_blk 0 rfl rfl)) rfl ?_ | refine st_y (y_loadb 0 tabs rfl rfl rfl rfl) rfl ?_)
         | (show AT _ _ _ (wpList _ _ _ (⟨_, Op.binOp _ _ _ _ _, _, _, _, _⟩ :: _)); refine st_y (y_eql rfl rfl) rfl ?_)
         | (show AT _ _ _ (wpList _ _ _ (⟨_, Op.call _, _, _, _, _⟩ :: _)); first | (refine m_call (ent_of Try.func63 (by kernel_rfl) rfl) rfl rfl (fun w c => impl_IsMatrix_ok (m := (↑R, ↑R, mk R R f)) (c.rd hr)) ?_; rintro v H' ⟨rfl, rfl⟩) | (refine m_call (ent_of Try.func85 (by kernel_rfl) rfl) rfl rfl (fun w c => powerOf_ok (k := 8) (c.rd hr) hF (by omega) hin (by omega)) ?_; rintro v H' ⟨a2, c2, rfl, hs2, rfl⟩) | (refine m_call (ent_of Try.func86 (by kernel_rfl) rfl) rfl rfl (fun w c => isZero_ok (m := (↑R, ↑R, mk R R (powF p R f 8))) (c.own_rd (i := 0) rfl)) ?_; rintro v H' ⟨rfl, rfl⟩))
         | (show AT _ _ _ (wpList _ _ _ (⟨_, Op.pick _ _ _, _, _, _, _⟩ :: _)); refine st_y (y_pickt rfl (by first | assumption | omega) rfl) rfl ?_)
         | (show AT _ _ _ (wpList _ _ _ (⟨_, Op.box _ _, _, _, _, _⟩ :: _)); refine m_box rfl rfl (fun b hb => ?_))
         | refine st_gdy rfl rfl (by first | assumption | omega) ?_)
      | (show AT _ _ _ (wpList _ _ _ []); refine c_nil (x_then ?_))
      | (show AT _ _ _ (Code.wp _ _ _); first | refine c_seq ?_ | refine c_region ?_ | refine c_ret ?_))
    all_goals first
      | exact x_ret1 Try.results36 (res_tmp rfl) (fun w' c' => ⟨_, _, rfl, ⟨rfl, rfl⟩, c'.sub (List.nil_sublist _)⟩)
      | exact absurd hM (by assumption)
  · rw [nilB, decide_eq_false hA, Bool.false_and]
    refine fn_enter Try.func36 rfl Try.ntmps36 rfl ?_
    repeat' (first
      | (show AT _ _ _ (wpList _ _ _ (_ :: _)); first
         | (show AT _ _ _ (wpList _ _ _ (⟨_, Op.move _, _, _, _, _⟩ :: _)); refine st_y (y_move rfl) rfl ?_)
         | (show AT _ _ _ (wpList _ _ _ (⟨_, Op.assign _, _, _, _, _⟩ :: _)); refine st_y (y_assign rfl) rfl ?_)
         | (show AT _ _ _ (wpList _ _ _ (⟨_, Op.fieldAddr _ _ _, _, _, _, _⟩ :: _)); refine st_y (y_field tabs rfl rfl rfl) rfl ?_)
         | (show AT _ _ _ (wpList _ _ _ (⟨_, Op.load _ _, _, _, _, _⟩ :: _)); first | refine st_y (y_load tabs rfl rfl (hc_blk 0 rfl rfl)) rfl ?_ | refine st_y (y_loadb 0 tabs rfl rfl rfl rfl) rfl ?_)
         | (show AT _ _ _ (wpList _ _ _ (⟨_, Op.binOp _ _ _ _ _, _, _, _, _⟩ :: _)); refine st_y (y_eql rfl rfl) rfl ?_)
         | (show AT _ _ _ (wpList _ _ _ (⟨_, Op.call _, _, _, _, _⟩ :: _)); (refine m_call (ent_of Try.func63 (by kernel_rfl) rfl) rfl rfl (fun w c => impl_IsMatrix_ok (m := m) (c.rd hr)) ?_; rintro v H' ⟨rfl, rfl⟩))
         | (show AT _ _ _ (wpList _ _ _ (⟨_, Op.pick _ _ _, _, _, _, _⟩ :: _)); first | refine st_y (y_pickt rfl (by first | assumption | omega) rfl) rfl ?_ | refine st_y (y_pickf rfl (by first | assumption | omega) rfl) rfl ?_ | refine st_y (y_pick rfl rfl rfl) rfl ?_)
         | (show AT _ _ _ (wpList _ _ _ (⟨_, Op.box _ _, _, _, _, _⟩ :: _)); refine m_box rfl rfl (fun b hb => ?_))
         | refine st_gn rfl rfl rfl ?_ | refine st_gdy rfl rfl (by first | assumption | omega) ?_ | refine st_gdn rfl rfl (by first | assumption | omega) rfl ?_ | refine st_gd rfl rfl (fun h => ?_) (fun h => ?_))
      | (show AT _ _ _ (wpList _ _ _ []); refine c_nil (x_then ?_))
      | (show AT _ _ _ (Code.wp _ _ _); first | refine c_seq ?_ | refine c_region ?_ | refine c_ret ?_))
    all_goals first
      | exact absurd ⟨by assumption, by assumption⟩ hA
      | exact x_ret1 Try.results36 (res_tmp rfl) (fun w' c' => ⟨_, _, rfl, ⟨rfl, rfl⟩, c'.sub (List.nil_sublist _)⟩)
theorem rank_nil {p : Int} {R : Nat} {f : Nat → Nat → Int} (hR : R ≤ 8) (hF : FieldP p) : decide (rankF p ((R : Int), (R : Int), mk R R (powF p R f 8)) = 0) = decide (∀ x ∈ mk R R (powF p R f 8), x = 0) := by
  have hp := fieldP_pos hF
  have hin := powF_in (p := p) (n := R) (f := f) (by omega) 8
  have hM : MatP p ((R : Int), (R : Int), mk R R (powF p R f 8)) := matP_of hF hR hR hin
  refine decide_eq_decide.2 ?_
  rw [rankF, if_pos hM, redL_mk, all0_mk, ← rank_zero hF hin]
  omega
theorem spec_IsNilpotent_ok {w : World} {p : Int} {m : Mat} {u : Value} (hr : Rd w (iT m.2.2) u) : Does Try.prog 37 [iV p, .agg #[iV m.1, iV m.2.1, u]] w (fun r H => r = .bool (nilB p m) ∧ H = []) := by
  by_cases hA : MatP p m ∧ m.1 = m.2.1
  · rw [nilB, decide_eq_true hA, Bool.true_and]
    have hP : PowP p m 8 := ⟨hA.1, hA.2, by decide, by decide⟩
    obtain ⟨hM, hq⟩ := hA
    obtain ⟨R, f, rfl, hR, hF, hin⟩ := pwM_of hM hq
    have e1 : pwM p (↑R, ↑R, mk R R f) 8 = (↑R, ↑R, mk R R (powF p R f 8)) := by
      rw [pwM, if_pos hP]
      simp only [Int.toNat_natCast]
      rw [show (8 : Int).toNat = 8 from rfl, pwM_mk]
    have hrk := rank_nil (f := f) hR hF
    simp only [Int.toNat_natCast] at hr ⊢
    rw [nil_mk, ← hrk]
    refine fn_enter Try.func37 rfl Try.ntmps37 rfl ?_
    repeat' (first
      | (show AT _ _ _ (wpList _ _ _ (_ :: _)); first
         | (show AT _ _ _ (wpList _ _ _ (⟨_, Op.move _, _, _, _, _⟩ :: _)); refine st_y (y_move rfl) rfl ?_)
         | (show AT _ _ _ (wpList _ _ _ (⟨_, Op.assign _, _, _, _, _⟩ :: _)); refine st_y (y_assign rfl) rfl ?_)
         | (show AT _ _ _ (wpList _ _ _ (⟨_, Op.load _ _, _, _, _, _⟩ :: _)); refine st_y (y_loadb 0 tabs rfl rfl rfl rfl) rfl ?_)
         | (show AT _ _ _ (wpList _ _ _ (⟨_, Op.binOp _ _ _ _ _, _, _, _, _⟩ :: _)); refine st_y (y_eql rfl rfl) rfl ?_)
         | (show AT _ _ _ (wpList _ _ _ (⟨_, Op.call _, _, _, _, _⟩ :: _)); first | (refine m_call (ent_of Try.func45 (by kernel_rfl) rfl) rfl rfl (fun w c => spec_PowerOf_ok (n := 8) (m := (↑R, ↑R, mk R R f)) (c.rd hr)) ?_; rw [e1, decide_eq_true hP]; rintro v H' ⟨a2, c2, rfl, hs2, rfl⟩) | (refine m_call (ent_of Try.func24 (by kernel_rfl) rfl) rfl rfl (fun w c => spec_RankOf_ok (m := (↑R, ↑R, mk R R (powF p R f 8))) (c.own_rd (i := 1) rfl)) ?_; rintro v H' ⟨rfl, rfl⟩))
         | (show AT _ _ _ (wpList _ _ _ (⟨_, Op.extract _ _, _, _, _, _⟩ :: _)); refine st_y (y_ext rfl rfl) rfl ?_)
         | (show AT _ _ _ (wpList _ _ _ (⟨_, Op.pick _ _ _, _, _, _, _⟩ :: _)); refine st_y (y_pick rfl rfl rfl) rfl ?_)
         | (show AT _ _ _ (wpList _ _ _ (⟨_, Op.store _ _ _, _, _, _, _⟩ :: _)); refine m_storeb 0 tabs rfl rfl rfl rfl rfl rfl rfl ?_)
         | (show AT _ _ _ (wpList _ _ _ (⟨_, Op.box _ _, _, _, _, _⟩ :: _)); refine m_box rfl rfl (fun b hb => ?_))
         | (show AT _ _ _ (wpList _ _ _ (⟨_, Op.alloc _, _, _, _, _⟩ :: _)); refine m_alloc tabs rfl rfl (fun b7 hb7 => ?_))
         | refine st_gy rfl rfl ?_)
      | (show AT _ _ _ (wpList _ _ _ []); refine c_nil (x_then ?_))
      | (show AT _ _ _ (Code.wp _ _ _); first | refine c_seq ?_ | refine c_region ?_ | refine c_ret ?_))
    exact x_ret1 Try.results37 (res_tmp rfl) (fun w' c' => ⟨_, _, rfl, ⟨rfl, rfl⟩, c'.sub (List.nil_sublist _)⟩)
  · rw [nilB, decide_eq_false hA, Bool.false_and]
    have hP : ¬ PowP p m 8 := fun h => hA ⟨h.1, h.2.1⟩
    refine fn_enter Try.func37 rfl Try.ntmps37 rfl ?_
    repeat' (first
      | (show AT _ _ _ (wpList _ _ _ (_ :: _)); first
         | (show AT _ _ _ (wpList _ _ _ (⟨_, Op.move _, _, _, _, _⟩ :: _)); refine st_y (y_move rfl) rfl ?_)
         | (show AT _ _ _ (wpList _ _ _ (⟨_, Op.assign _, _, _, _, _⟩ :: _)); refine st_y (y_assign rfl) rfl ?_)
         | (show AT _ _ _ (wpList _ _ _ (⟨_, Op.load _ _, _, _, _, _⟩ :: _)); refine st_y (y_loadb 0 tabs rfl rfl rfl rfl) rfl ?_)
         | (show AT _ _ _ (wpList _ _ _ (⟨_, Op.call _, _, _, _, _⟩ :: _)); (refine m_call (ent_of Try.func45 (by kernel_rfl) rfl) rfl rfl (fun w c => spec_PowerOf_ok (n := 8) (m := m) (c.rd hr)) ?_; rw [decide_eq_false hP]; rintro v H' ⟨a2, c2, rfl, hs2, rfl⟩))
         | (show AT _ _ _ (wpList _ _ _ (⟨_, Op.extract _ _, _, _, _, _⟩ :: _)); refine st_y (y_ext rfl rfl) rfl ?_)
         | (show AT _ _ _ (wpList _ _ _ (⟨_, Op.pick _ _ _, _, _, _, _⟩ :: _)); refine st_y (y_pick rfl rfl rfl) rfl ?_)
         | (show AT _ _ _ (wpList _ _ _ (⟨_, Op.store _ _ _, _, _, _, _⟩ :: _)); refine m_storeb 0 tabs rfl rfl rfl rfl rfl rfl rfl ?_)
         | (show AT _ _ _ (wpList _ _ _ (⟨_, Op.box _ _, _, _, _, _⟩ :: _)); refine m_box rfl rfl (fun b hb => ?_))
         | (show AT _ _ _ (wpList _ _ _ (⟨_, Op.alloc _, _, _, _, _⟩ :: _)); refine m_alloc tabs rfl rfl (fun b7 hb7 => ?_))
         | refine st_gn rfl rfl rfl ?_)
      | (show AT _ _ _ (wpList _ _ _ []); refine c_nil (x_then ?_))
      | (show AT _ _ _ (Code.wp _ _ _); first | refine c_seq ?_ | refine c_region ?_ | refine c_ret ?_))
    exact x_ret1 Try.results37 (res_tmp rfl) (fun w' c' => ⟨_, _, rfl, ⟨rfl, rfl⟩, c'.sub (List.nil_sublist _)⟩)
end Go.Proofs.Ytljgmmmgnfgbhaa
