import Derived.Test.YtljgmmmgnfgbhaaMxfqel
namespace Go.Proofs.Ytljgmmmgnfgbhaa
open Go.Lg Go.Proofs Go.RowKit
attribute [local irreducible] Code.wp wpList bodyPost Exit.then Exit.inBlock Hp Again Calls Y AT ResV QT Qn QI wpAny wpAnyQ
set_option maxRecDepth 20000
set_option maxHeartbeats 4000000

theorem matP_mk {p : Int} {m : Mat} (h : MatP p m) : ∃ (R C : Nat) (f : Nat → Nat → Int), m = (((R : Nat) : Int), ((C : Nat) : Int), mk R C f) ∧ R ≤ 8 ∧ C ≤ 8 ∧ FieldP p ∧ inF p R C f := by
  obtain ⟨r, c, xs⟩ := m
  obtain ⟨⟨hR0, hR8⟩, ⟨hC0, hC8⟩, hlen, hF, _, hin⟩ := h
  simp only at *
  obtain ⟨R, rfl⟩ := Int.eq_ofNat_of_zero_le hR0
  obtain ⟨C, rfl⟩ := Int.eq_ofNat_of_zero_le hC0
  have hlen' : xs.length = R * C := by rw [← Int.natCast_mul] at hlen; omega
  refine ⟨R, C, fun i j => xs.getD (i * C + j) 0, by rw [← mk_of hlen'], by omega, by omega, hF, fun i j hi hj => ?_⟩
  have := inP_get hin (i := i * C + j) (by rw [hlen']; exact cell_lt hi hj)
  simp only
  omega
theorem rd_rows_drop {w : World} {e m c lo : Nat} {rs : List (List Int)} {a : Option Addr} (hr : Rd w (rowsT e rs) (.slice a m c)) (hm : rs.length = m) (h : lo ≤ m) : Rd w (rowsT e (rs.drop lo)) (.slice (subA a 1 lo c) (m - lo) (c - lo)) := by
  have := Rd.part (lo := lo) (hi := m) hr h (Nat.le_refl _)
  rw [rowT_map] at this
  unfold rowsT
  rw [rowT_map]
  have e1 : ((rs.map iT).drop (lo * 1)).take ((m - lo) * 1) = (rs.drop lo).map iT := by
    rw [Nat.mul_one, Nat.mul_one, List.take_of_length_le (by simp; omega), List.map_drop]
  rwa [e1] at this
theorem drop_len {R k0 : Nat} {a : List (List Int)} (ha : ∀ (k : Nat) (xs : List Int), a[k]? = some xs → xs.length = R) : ∀ (k : Nat) (xs : List Int), (a.drop k0)[k]? = some xs → xs.length = R := fun k xs h => by
  rw [List.getElem?_drop] at h
  exact ha _ _ h
theorem inv_eq {p : Int} {n : Nat} {f : Nat → Nat → Int} : mk n n (fromF ((colsF n (n + n) (redTo p n (augF n f) (n + n)).1).drop n)) = mk n n (invF p n f) := mk_ext (fun i j hi hj => by
  have : ((colsF n (n + n) (redTo p n (augF n f) (n + n)).1).drop n).getD j [] = mkv n (fun i => (redTo p n (augF n f) (n + n)).1 i (n + j)) := by
    rw [List.getD, List.getElem?_drop]
    simp [colsF, hj]
  unfold fromF invF
  rw [this, mkv_get hi])
theorem inverse_ok {w : World} {p : Int} {n : Nat} {f : Nat → Nat → Int} {u : Value} (hr : Rd w (iT (mk n n f)) u) (hF : FieldP p) (hn : n ≤ 512) (h : inF p n n f) :
    Does Try.prog 83 [iV p, .agg #[iV n, iV n, u]] w (GivesK n n (invF p n f)) := by
  have ⟨hp1, hp2⟩ := fieldP_pos hF
  have hau : inF p n (n + n) (besF n f idF) := inF_bes h (inF_id hp1)
  refine fn_enter Try.func83 rfl Try.ntmps83 rfl ?_
  repeat' (first
    | (show AT _ _ _ (wpList _ _ _ (_ :: _)); first
       | (show AT _ _ _ (wpList _ _ _ (⟨_, Op.box _ _, _, _, _, _⟩ :: _)); refine m_box rfl rfl (fun b3 hb3 => ?_))
       | (show AT _ _ _ (wpList _ _ _ (⟨_, Op.alloc _, _, _, _, _⟩ :: _)); refine m_alloc tabs rfl rfl (fun b4 hb4 => ?_)))
    | (show AT _ _ _ (wpList _ _ _ []); refine c_nil (x_then ?_))
    | (show AT _ _ _ (Code.wp _ _ _); first | refine c_seq ?_ | refine c_region ?_))
  refine c_all (Hp [] w [.blk b4 #[iV 0, iV 0, .slice none 0 0] 46, .blk b3 #[iV n, iV n, u] 46]) (by kernel_rfl) (fun _ c => Hp.drew c) ?_
  refine fl_begin 10 rfl tabs rfl rfl ?_
  refine fl_take 0 rfl (by kernel_rfl) (by kernel_rfl) (by kernel_rfl) (by kernel_rfl) (by kernel_rfl) (by kernel_rfl) (by exact y_move rfl) rfl (fun _ c => c) ?_
  refine fl_take 2 rfl (by kernel_rfl) (by kernel_rfl) (by kernel_rfl) (by kernel_rfl) (by kernel_rfl) (by kernel_rfl) (by exact y_field tabs rfl rfl rfl) rfl (fun _ c => c) ?_
  refine fl_take 1 rfl (by kernel_rfl) (by kernel_rfl) (by kernel_rfl) (by kernel_rfl) (by kernel_rfl) (by kernel_rfl) (by exact y_loadb 1 tabs rfl rfl rfl rfl) rfl (fun _ c => c) ?_
  refine fl_take 3 rfl (by kernel_rfl) (by kernel_rfl) (by kernel_rfl) (by kernel_rfl) (by kernel_rfl) (by kernel_rfl) (by exact y_load tabs rfl rfl (hc_blk 1 rfl rfl)) rfl (fun _ c => c) ?_
  (refine fl_call 4 rfl rfl (by kernel_rfl) tabs rfl rfl rfl (by kernel_rfl) (by kernel_rfl) (by kernel_rfl) (ent_of Try.func115 (by kernel_rfl) rfl) rfl rfl (fun w c => identity_ok (n := n) (by omega)) (fun w c => by first | exact c | exact c.drop | exact c.drop.drop | exact Hp.sub (List.sublist_append_right _ _) c | exact c.sub (by repeat' first | exact List.Sublist.refl _ | exact List.nil_sublist _ | apply List.Sublist.cons_cons | apply List.Sublist.cons)) ?_; rintro v H' ⟨ai, ci, rfl, hsi, rfl⟩)
  (refine fl_call 5 rfl rfl (by kernel_rfl) tabs rfl rfl rfl (by kernel_rfl) (by kernel_rfl) (by kernel_rfl) (ent_of Try.func112 (by kernel_rfl) rfl) rfl rfl (fun w c => beside_ok (c.rd hr) (c.own_rd (i := 0) rfl) (by omega) (by omega)) (fun w c => by first | exact c | exact c.drop | exact c.drop.drop | exact Hp.sub (List.sublist_append_right _ _) c | exact c.sub (by repeat' first | exact List.Sublist.refl _ | exact List.nil_sublist _ | apply List.Sublist.cons_cons | apply List.Sublist.cons)) ?_; rintro v H' ⟨ab1, cb1, rfl, hsb, rfl⟩)
  (refine fl_call 6 rfl rfl (by kernel_rfl) tabs rfl rfl rfl (by kernel_rfl) (by kernel_rfl) (by kernel_rfl) (ent_of Try.func68 (by kernel_rfl) rfl) rfl rfl (fun w c => reduceK_ok (c.own_rd (i := 0) rfl) hF (by omega) (by omega) hau) (fun w c => by first | exact c | exact c.drop | exact c.drop.drop | exact Hp.sub (List.sublist_append_right _ _) c | exact c.sub (by repeat' first | exact List.Sublist.refl _ | exact List.nil_sublist _ | apply List.Sublist.cons_cons | apply List.Sublist.cons)) ?_; rintro v H' ⟨a, c, a', c', rfl, hs, hs', rfl⟩)
  refine fl_take 7 rfl (by kernel_rfl) (by kernel_rfl) (by kernel_rfl) (by kernel_rfl) (by kernel_rfl) (by kernel_rfl) (by exact y_move rfl) rfl (fun w c => by exact c.sub (by repeat' first | exact List.Sublist.refl _ | exact List.nil_sublist _ | apply List.Sublist.cons_cons | apply List.Sublist.cons)) ?_
  refine fl_take 8 rfl (by kernel_rfl) (by kernel_rfl) (by kernel_rfl) (by kernel_rfl) (by kernel_rfl) (by kernel_rfl) (by exact y_ext rfl rfl) rfl (fun w c => by exact c.sub (by repeat' first | exact List.Sublist.refl _ | exact List.nil_sublist _ | apply List.Sublist.cons_cons | apply List.Sublist.cons)) ?_
  refine fl_take 9 rfl (by kernel_rfl) (by kernel_rfl) (by kernel_rfl) (by kernel_rfl) (by kernel_rfl) (by kernel_rfl) (by exact y_ext rfl rfl) rfl (fun w c => by exact c.sub (by repeat' first | exact List.Sublist.refl _ | exact List.nil_sublist _ | apply List.Sublist.cons_cons | apply List.Sublist.cons)) ?_
  refine fl_end rfl tabs rfl rfl rfl (by kernel_rfl) (fun w c => by exact c.sub (by repeat' first | exact List.Sublist.refl _ | exact List.nil_sublist _ | apply List.Sublist.cons_cons | apply List.Sublist.cons)) (fun bf hbf => ?_)
  refine h_only 11 rfl (by kernel_rfl) ?_
  (refine m_storeb 0 tabs rfl rfl rfl rfl rfl rfl rfl ?_)
  refine c_nil (x_one (h_keep (fun w c => by exact c.sub (by repeat' first | exact List.Sublist.refl _ | exact List.nil_sublist _ | apply List.Sublist.cons_cons | apply List.Sublist.cons)) ?_))
  refine h_take 12 rfl (by kernel_rfl) (by kernel_rfl) (by kernel_rfl) (by exact y_assign rfl) rfl (fun w c => by exact c.sub (by repeat' first | exact List.Sublist.refl _ | exact List.nil_sublist _ | apply List.Sublist.cons_cons | apply List.Sublist.cons)) ?_
  refine h_end (by kernel_rfl) ?_
  repeat' (first
    | (show AT _ _ _ (Code.wp _ _ _); refine c_seq ?_)
    | (show AT _ _ _ _; refine x_then ?_))
  refine c_mixR (Hp [] w [.blk bf #[iV n, iV (n + n : Nat), .slice a (n * (n + n)) c] 46, .blk b4 #[iV 0, iV 0, .slice none 0 0] 46, .blk b3 #[iV n, iV n, u] 46]) 8 (by kernel_rfl) (by kernel_rfl) (by kernel_rfl) (by kernel_rfl) (by kernel_rfl) (fun _ c => Hp.drew c) ?_
  refine h_take 0 rfl (by kernel_rfl) (by kernel_rfl) (by kernel_rfl) (by exact y_field tabs rfl rfl rfl) rfl (fun w c => by exact c.sub (by repeat' first | exact List.Sublist.refl _ | exact List.nil_sublist _ | apply List.Sublist.cons_cons | apply List.Sublist.cons)) ?_
  refine h_take 1 rfl (by kernel_rfl) (by kernel_rfl) (by kernel_rfl) (by exact y_load tabs rfl rfl (hc_blk 2 rfl rfl)) rfl (fun w c => by exact c.sub (by repeat' first | exact List.Sublist.refl _ | exact List.nil_sublist _ | apply List.Sublist.cons_cons | apply List.Sublist.cons)) ?_
  refine h_take 2 rfl (by kernel_rfl) (by kernel_rfl) (by kernel_rfl) (by exact y_loadb 0 tabs rfl rfl rfl rfl) rfl (fun w c => by exact c.sub (by repeat' first | exact List.Sublist.refl _ | exact List.nil_sublist _ | apply List.Sublist.cons_cons | apply List.Sublist.cons)) ?_
  refine h_take 4 rfl (by kernel_rfl) (by kernel_rfl) (by kernel_rfl) (by exact y_field tabs rfl rfl rfl) rfl (fun w c => by exact c.sub (by repeat' first | exact List.Sublist.refl _ | exact List.nil_sublist _ | apply List.Sublist.cons_cons | apply List.Sublist.cons)) ?_
  refine h_take 5 rfl (by kernel_rfl) (by kernel_rfl) (by kernel_rfl) (by exact y_load tabs rfl rfl (hc_blk 2 rfl rfl)) rfl (fun w c => by exact c.sub (by repeat' first | exact List.Sublist.refl _ | exact List.nil_sublist _ | apply List.Sublist.cons_cons | apply List.Sublist.cons)) ?_
  refine h_only 3 rfl (by kernel_rfl) ?_
  first | (refine m_call (ent_of Try.func116 (by kernel_rfl) rfl) rfl rfl (fun w c => columns_ok (c.own_rd (i := 2) rfl) (by omega) (by omega)) ?_; rintro v H' ⟨a1, c1, rfl, hs1, rfl⟩) | (refine m_call (ent_of Try.func108 (by kernel_rfl) rfl) rfl rfl (fun w c => fromColumns_ok (C := n) (rd_rows_drop (c.own_rd (i := 0) rfl) (by simp) (by omega)) (by simp) (by omega) (by omega) (drop_len colsF_len)) ?_; rintro v H' ⟨a3, c3, rfl, hs3, rfl⟩)
  refine c_nil (x_one (h_keep (fun w c => by exact c.sub (by repeat' first | exact List.Sublist.refl _ | exact List.nil_sublist _ | apply List.Sublist.cons_cons | apply List.Sublist.cons)) ?_))
  refine h_take 6 rfl (by kernel_rfl) (by kernel_rfl) (by kernel_rfl) (by exact y_slo tabs (lo := n) rfl rfl rfl rfl (by omega)) rfl (fun w c => by exact c.sub (by repeat' first | exact List.Sublist.refl _ | exact List.nil_sublist _ | apply List.Sublist.cons_cons | apply List.Sublist.cons)) ?_
  refine h_only 7 rfl (by kernel_rfl) ?_
  first | (refine m_call (ent_of Try.func116 (by kernel_rfl) rfl) rfl rfl (fun w c => columns_ok (c.own_rd (i := 2) rfl) (by omega) (by omega)) ?_; rintro v H' ⟨a1, c1, rfl, hs1, rfl⟩) | (refine m_call (ent_of Try.func108 (by kernel_rfl) rfl) rfl rfl (fun w c => fromColumns_ok (C := n) (rd_rows_drop (c.own_rd (i := 0) rfl) (by simp) (by omega)) (by simp) (by omega) (by omega) (drop_len colsF_len)) ?_; rintro v H' ⟨a3, c3, rfl, hs3, rfl⟩)
  refine c_nil (x_one (h_keep (fun w c => by exact c.sub (by repeat' first | exact List.Sublist.refl _ | exact List.nil_sublist _ | apply List.Sublist.cons_cons | apply List.Sublist.cons)) ?_))
  refine h_end (by kernel_rfl) ?_
  rw [show n + n - n = n by omega, inv_eq]
  repeat' (first
    | (show AT _ _ _ (wpList _ _ _ (_ :: _)); first
       | (show AT _ _ _ (wpList _ _ _ (⟨_, Op.store _ _ _, _, _, _, _⟩ :: _)); refine m_storeb 7 tabs rfl rfl rfl rfl rfl rfl rfl ?_))
    | (show AT _ _ _ (wpList _ _ _ []); refine c_nil (x_then ?_))
    | (show AT _ _ _ (Code.wp _ _ _); refine c_ret ?_))
  exact x_ret1 Try.results83 (res_cellb 7 tabs rfl rfl rfl rfl) (fun w' c' => ⟨_, _, rfl, ⟨a3, c3, rfl, hs3, rfl⟩, c'.sub (.cons_cons _ (List.nil_sublist _))⟩)
theorem invF_congr {p : Int} {n : Nat} {f : Nat → Nat → Int} : mk n n (invF p n (matF (↑n, ↑n, mk n n f))) = mk n n (invF p n f) := mk_ext (fun i j hi hj => by
  unfold invF
  refine (redTo_congr (C := n + n) (fun a b ha hb => ?_) (n + n) (Nat.le_refl _)).1 i (n + j) hi (by omega)
  unfold augF besF
  split
  · exact matF_mk ha (by assumption)
  · rfl)
/-- which matrices have an inverse -/
def InvP (p : Int) (m : Mat) : Prop := MatP p m ∧ m.1 = m.2.1 ∧ ((redL p m).length : Int) = m.1
instance (p : Int) (m : Mat) : Decidable (InvP p m) := by unfold InvP; infer_instance
def invM2 (p : Int) (m : Mat) : Mat := if InvP p m then (m.1, m.1, mk m.1.toNat m.1.toNat (invF p m.1.toNat (matF m))) else mat0
theorem redL_rows {p : Int} {m : Mat} (h : MatP p m) : ((redL p m).length : Int) ≤ m.1 := by
  obtain ⟨R, C, f, rfl, hR, hC, hF, hin⟩ := matP_mk h
  rw [redL_mk]
  have := (redTo_congr (p := p) (R := R) (C := C) (f := f) (g := f) (fun _ _ _ _ => rfl) C (Nat.le_refl _)).2.2
  simp only
  omega
abbrev GivesMB (m : Mat) (b : Bool) (v : Value) (H : List HE) : Prop := ∃ a c, v = .tuple #[.agg #[iV m.1, iV m.2.1, .slice a m.2.2.length c], .bool b] ∧ SA a m.2.2.length ∧ H = [.own (iT m.2.2) (.slice a m.2.2.length c)]
theorem impl_InverseOf_ok {w : World} {p : Int} {m : Mat} {u : Value} (hr : Rd w (iT m.2.2) u) :
    Does Try.prog 32 [iV p, .agg #[iV m.1, iV m.2.1, u]] w (GivesMB (invM2 p m) (decide (InvP p m))) := by
  by_cases hI : InvP p m
  · obtain ⟨hM, hsq, hrk⟩ := hI
    obtain ⟨R, C, f, rfl, hR, hC, hF, hin⟩ := matP_mk hM
    simp only at hsq hrk hr ⊢
    have hRC : R = C := by omega
    subst hRC
    have hI : InvP p (↑R, ↑R, mk R R f) := ⟨hM, rfl, hrk⟩
    have hnl : ¬ (((redL p (↑R, ↑R, mk R R f)).length : Int) < R) := by omega
    refine fn_enter Try.func32 rfl Try.ntmps32 rfl ?_
    repeat' (first
      | (show AT _ _ _ (wpList _ _ _ (_ :: _)); first
         | (show AT _ _ _ (wpList _ _ _ (⟨_, Op.move _, _, _, _, _⟩ :: _)); refine st_y (y_move rfl) rfl ?_)
         | (show AT _ _ _ (wpList _ _ _ (⟨_, Op.assign _, _, _, _, _⟩ :: _)); refine st_y (y_assign rfl) rfl ?_)
         | (show AT _ _ _ (wpList _ _ _ (⟨_, Op.load _ _, _, _, _, _⟩ :: _)); refine st_y (y_loadb 1 tabs rfl rfl rfl rfl) rfl ?_)
         | (show AT _ _ _ (wpList _ _ _ (⟨_, Op.call _, _, _, _, _⟩ :: _)); (refine m_call (ent_of Try.func83 (by kernel_rfl) rfl) rfl rfl (fun w c => inverse_ok (c.rd hr) hF (by omega) hin) ?_; rintro v H' ⟨a3, c3, rfl, hs3, rfl⟩))
         | (show AT _ _ _ (wpList _ _ _ (⟨_, Op.store _ _ _, _, _, _, _⟩ :: _)); refine m_storeb 1 tabs rfl rfl rfl rfl rfl rfl rfl ?_)
         | (show AT _ _ _ (wpList _ _ _ (⟨_, Op.box _ _, _, _, _, _⟩ :: _)); refine m_box rfl rfl (fun bq hbq => ?_))
         | (show AT _ _ _ (wpList _ _ _ (⟨_, Op.alloc _, _, _, _, _⟩ :: _)); refine m_alloc tabs rfl rfl (fun bq hbq => ?_)))
      | (show AT _ _ _ (wpList _ _ _ []); refine c_nil (x_then ?_))
      | (show AT _ _ _ (Code.wp _ _ _); first | refine c_seq ?_ | refine c_region ?_ | refine c_skip (x_then ?_) | refine c_ret ?_ | refine c_draw (by kernel_rfl) (by kernel_rfl) (fun _ c => Hp.drew c) ?_ | refine c_true rfl ?_ | refine c_iff rfl (by first | assumption | exact not_not_intro (by assumption) | omega) ?_)
      | (show QT _ _ _ _ _ _ (_ :: _); first
         | (show QT _ _ _ _ _ _ (⟨_, Op.move _, _, _, _, _⟩ :: _); refine q_y (y_move rfl) rfl ?_)
         | (show QT _ _ _ _ _ _ (⟨_, Op.fieldAddr _ _ _, _, _, _, _⟩ :: _); refine q_y (y_field tabs rfl rfl rfl) rfl ?_)
         | (show QT _ _ _ _ _ _ (⟨_, Op.load _ _, _, _, _, _⟩ :: _); first | refine q_y (y_loadb 1 tabs rfl rfl rfl rfl) rfl ?_ | refine q_y (y_load tabs rfl rfl (hc_blk 1 rfl rfl)) rfl ?_)
         | (show QT _ _ _ _ _ _ (⟨_, Op.binOp _ _ _ _ _, _, _, _, _⟩ :: _); first | refine q_y (y_lss rfl rfl) rfl ?_ | refine q_y (y_neq rfl rfl) rfl ?_)
         | (show QT _ _ _ _ _ _ (⟨_, Op.unOp _ _ _, _, _, _, _⟩ :: _); refine q_y (y_notd rfl) rfl ?_)
         | (show QT _ _ _ _ _ _ (⟨_, Op.call _, _, _, _, _⟩ :: _); first | refine q_call (ent_of Try.func63 (by kernel_rfl) rfl) rfl rfl (fun w c => impl_IsMatrix_ok (m := (↑R, ↑R, mk R R f)) (c.rd hr)) (fun u H' h => h.1) ?_ | refine q_call (ent_of Try.func67 (by kernel_rfl) rfl) rfl rfl (fun w c => rank_ok (m := (↑R, ↑R, mk R R f)) (c.rd hr) (MatP.g (by first | assumption | exact Decidable.not_not.1 (by assumption)))) (fun u H' h => h.1) ?_)
         | (show QT _ _ _ _ _ _ (⟨_, Op.pick _ _ _, _, _, _, _⟩ :: _); first | refine q_y (y_pickt rfl (by first | assumption | omega) rfl) rfl ?_ | refine q_y (y_pickf rfl (by first | assumption | omega) rfl) rfl ?_ | refine q_y (y_pick rfl rfl rfl) rfl ?_)
         | refine q_gn rfl rfl rfl ?_ | refine q_gfy rfl rfl (by first | assumption | omega) ?_ | refine q_gfn rfl rfl (by first | assumption | omega) rfl ?_ | refine q_gd rfl rfl (fun h => ?_) (fun h => ?_))
      | (show QT _ _ _ _ _ _ []; refine q_nil (x_then ?_)))
    · exact absurd hM (by assumption)
    · have e1 : invM2 p (↑R, ↑R, mk R R f) = (↑R, ↑R, mk R R (invF p R f)) := by
        rw [invM2, if_pos hI]
        simp only [Int.toNat_natCast]
        rw [invF_congr]
      rw [e1, decide_eq_true hI]
      refine x_ret2 Try.results32 (res_cellb 1 tabs rfl rfl rfl rfl) (res_tmp rfl) (fun w' c' => ⟨.tuple #[.agg #[iV R, iV R, .slice a3 (R * R) c3], .bool true], [.own (iT (mk R R (invF p R f))) (.slice a3 (R * R) c3)], rfl, ⟨a3, c3, by simp, by simpa using hs3, by simp⟩, c'.sub (.cons_cons _ (List.nil_sublist _))⟩)
  refine fn_enter Try.func32 rfl Try.ntmps32 rfl ?_
  repeat' (first
    | (show AT _ _ _ (wpList _ _ _ (_ :: _)); first
       | (show AT _ _ _ (wpList _ _ _ (⟨_, Op.move _, _, _, _, _⟩ :: _)); refine st_y (y_move rfl) rfl ?_)
       | (show AT _ _ _ (wpList _ _ _ (⟨_, Op.assign _, _, _, _, _⟩ :: _)); refine st_y (y_assign rfl) rfl ?_)
       | (show AT _ _ _ (wpList _ _ _ (⟨_, Op.load _ _, _, _, _, _⟩ :: _)); refine st_y (y_loadb 1 tabs rfl rfl rfl rfl) rfl ?_)
       | (show AT _ _ _ (wpList _ _ _ (⟨_, Op.store _ _ _, _, _, _, _⟩ :: _)); refine m_storeb 0 tabs rfl rfl rfl rfl rfl rfl rfl ?_)
       | (show AT _ _ _ (wpList _ _ _ (⟨_, Op.box _ _, _, _, _, _⟩ :: _)); refine m_box rfl rfl (fun bq hbq => ?_))
       | (show AT _ _ _ (wpList _ _ _ (⟨_, Op.alloc _, _, _, _, _⟩ :: _)); refine m_alloc tabs rfl rfl (fun bq hbq => ?_))
       | (show AT _ _ _ (wpList _ _ _ (⟨_, Op.build _ _, _, _, _, _⟩ :: _)); refine st_y (y_bld0 bld_mat0) rfl ?_))
    | (show AT _ _ _ (wpList _ _ _ []); refine c_nil (x_then ?_))
    | (show AT _ _ _ (Code.wp _ _ _); first | refine c_seq ?_ | refine c_region ?_ | refine c_skip (x_then ?_) | refine c_ret ?_ | refine c_draw (by kernel_rfl) (by kernel_rfl) (fun _ c => Hp.drew c) ?_ | refine c_true rfl ?_ | refine c_if rfl (fun h => ?_) (fun h => ?_))
    | (show QT _ _ _ _ _ _ (_ :: _); first
       | (show QT _ _ _ _ _ _ (⟨_, Op.move _, _, _, _, _⟩ :: _); refine q_y (y_move rfl) rfl ?_)
       | (show QT _ _ _ _ _ _ (⟨_, Op.fieldAddr _ _ _, _, _, _, _⟩ :: _); refine q_y (y_field tabs rfl rfl rfl) rfl ?_)
       | (show QT _ _ _ _ _ _ (⟨_, Op.load _ _, _, _, _, _⟩ :: _); first | refine q_y (y_loadb 1 tabs rfl rfl rfl rfl) rfl ?_ | refine q_y (y_load tabs rfl rfl (hc_blk 1 rfl rfl)) rfl ?_)
       | (show QT _ _ _ _ _ _ (⟨_, Op.binOp _ _ _ _ _, _, _, _, _⟩ :: _); first | refine q_y (y_lss rfl rfl) rfl ?_ | refine q_y (y_neq rfl rfl) rfl ?_)
       | (show QT _ _ _ _ _ _ (⟨_, Op.unOp _ _ _, _, _, _, _⟩ :: _); refine q_y (y_notd rfl) rfl ?_)
       | (show QT _ _ _ _ _ _ (⟨_, Op.call _, _, _, _, _⟩ :: _); first | refine q_call (ent_of Try.func63 (by kernel_rfl) rfl) rfl rfl (fun w c => impl_IsMatrix_ok (m := m) (c.rd hr)) (fun u H' h => h.1) ?_ | refine q_call (ent_of Try.func67 (by kernel_rfl) rfl) rfl rfl (fun w c => rank_ok (m := m) (c.rd hr) (MatP.g (by first | assumption | exact Decidable.not_not.1 (by assumption)))) (fun u H' h => h.1) ?_)
       | (show QT _ _ _ _ _ _ (⟨_, Op.pick _ _ _, _, _, _, _⟩ :: _); first | refine q_y (y_pickt rfl (by first | assumption | omega) rfl) rfl ?_ | refine q_y (y_pickf rfl (by first | assumption | omega) rfl) rfl ?_ | refine q_y (y_pick rfl rfl rfl) rfl ?_)
       | refine q_gn rfl rfl rfl ?_ | refine q_gfy rfl rfl (by first | assumption | omega) ?_ | refine q_gfn rfl rfl (by first | assumption | omega) rfl ?_ | refine q_gd rfl rfl (fun h => ?_) (fun h => ?_))
    | (show QT _ _ _ _ _ _ []; refine q_nil (x_then ?_))
    | (show AT _ _ _ _; refine x_then_ret ?_))
  all_goals first
    | exact absurd ⟨Decidable.not_not.1 (by assumption), by omega, by have := redL_rows (Decidable.not_not.1 (by assumption) : MatP p m); omega⟩ hI
    | exact absurd ⟨by assumption, by omega, by have := redL_rows (by assumption : MatP p m); omega⟩ hI
    | (rw [invM2, if_neg hI, decide_eq_false hI]
       refine x_ret2 Try.results32 (res_cellb 0 tabs rfl rfl rfl rfl) (res_tmp rfl) (fun w' c' => ⟨_, _, rfl, ⟨none, 0, rfl, .inl rfl, rfl⟩, Hp.nilp _ _ (c'.sub (List.nil_sublist _))⟩))
theorem impl_IsInvertible_ok {w : World} {p : Int} {m : Mat} {u : Value} (hr : Rd w (iT m.2.2) u) :
    Does Try.prog 35 [iV p, .agg #[iV m.1, iV m.2.1, u]] w (fun v H => v = .bool (decide (InvP p m)) ∧ H = []) := by
  refine fn_enter Try.func35 rfl Try.ntmps35 rfl ?_
  repeat' (first
    | (show AT _ _ _ (wpList _ _ _ (_ :: _)); first
       | (show AT _ _ _ (wpList _ _ _ (⟨_, Op.move _, _, _, _, _⟩ :: _)); refine st_y (y_move rfl) rfl ?_)
       | (show AT _ _ _ (wpList _ _ _ (⟨_, Op.assign _, _, _, _, _⟩ :: _)); refine st_y (y_assign rfl) rfl ?_)
       | (show AT _ _ _ (wpList _ _ _ (⟨_, Op.load _ _, _, _, _, _⟩ :: _)); refine st_y (y_loadb 0 tabs rfl rfl rfl rfl) rfl ?_)
       | (show AT _ _ _ (wpList _ _ _ (⟨_, Op.call _, _, _, _, _⟩ :: _)); (refine m_call (ent_of Try.func32 (by kernel_rfl) rfl) rfl rfl (fun w c => impl_InverseOf_ok (m := m) (c.rd hr)) ?_; rintro v H' ⟨a3, c3, rfl, hs3, rfl⟩))
       | (show AT _ _ _ (wpList _ _ _ (⟨_, Op.extract _ _, _, _, _, _⟩ :: _)); refine st_y (y_ext rfl rfl) rfl ?_)
       | (show AT _ _ _ (wpList _ _ _ (⟨_, Op.store _ _ _, _, _, _, _⟩ :: _)); refine m_storeb 0 tabs rfl rfl rfl rfl rfl rfl rfl ?_)
       | (show AT _ _ _ (wpList _ _ _ (⟨_, Op.box _ _, _, _, _, _⟩ :: _)); refine m_box rfl rfl (fun bq hbq => ?_))
       | (show AT _ _ _ (wpList _ _ _ (⟨_, Op.alloc _, _, _, _, _⟩ :: _)); refine m_alloc tabs rfl rfl (fun bq hbq => ?_)))
    | (show AT _ _ _ (wpList _ _ _ []); refine c_nil (x_then ?_))
    | (show AT _ _ _ (Code.wp _ _ _); first | refine c_seq ?_ | refine c_region ?_ | refine c_ret ?_))
  exact x_ret1 Try.results35 (res_tmp rfl) (fun w' c' => ⟨_, _, rfl, ⟨rfl, rfl⟩, c'.sub (List.nil_sublist _)⟩)
theorem l4Has_ok {w : World} {xs : List Int} {x : Int} {v : Value} (hr : Rd w (iT xs) v) :
    Does Try.prog 102 [v, iV x] w (fun v H => v = .bool (decide (x ∈ xs)) ∧ H = []) := by
  obtain ⟨a, c, rfl, hs, hc1, hc2, hget⟩ := hr.ints
  unfold maxLen at hc2
  refine fn_enter Try.func102 rfl Try.ntmps102 rfl ?_
  repeat' (first
    | (show AT _ _ _ (wpList _ _ _ (_ :: _)); first
       | (show AT _ _ _ (wpList _ _ _ (⟨_, Op.assign _, _, _, _, _⟩ :: _)); refine st_y (y_assign rfl) rfl ?_))
    | (show AT _ _ _ (wpList _ _ _ []); refine c_nil (x_then ?_))
    | (show AT _ _ _ (Code.wp _ _ _); first | refine c_seq ?_ | refine c_region ?_ | refine c_block ?_))
  refine c_loopH (α := Nat) [0, 1] (fun i => [(5, .int .i64 i)]) (fun i => i ≤ xs.length ∧ x ∉ xs.take i) (fun i => []) (fun i => xs.length - i) 0 rfl (by repeat' (first | exact Sub.nil | refine Sub.cons rfl ?_ | refine Sub.consi rfl (by omega) ?_)) ?_ ?_ ?_
  · exact ⟨by omega, by simp⟩
  · exact fun w' c' => c'
  · rintro i ⟨hi, hn⟩
    by_cases hin : i < xs.length
    · have hx : xs[i]? = some (xs.getD i 0) := getD_some hin
      repeat' (first
        | (show AT _ _ _ (wpList _ _ _ (_ :: _)); first
           | (show AT _ _ _ (wpList _ _ _ (⟨_, Op.move _, _, _, _, _⟩ :: _)); refine st_y (y_move rfl) rfl ?_)
           | (show AT _ _ _ (wpList _ _ _ (⟨_, Op.assign _, _, _, _, _⟩ :: _)); refine st_y (y_assign rfl) rfl ?_)
           | (show AT _ _ _ (wpList _ _ _ (⟨_, Op.load _ _, _, _, _, _⟩ :: _)); refine st_y (y_load tabs rfl rfl (hc_w0 (hget i hin))) rfl ?_)
           | (show AT _ _ _ (wpList _ _ _ (⟨_, Op.indexAddr _ _ _, _, _, _, _⟩ :: _)); refine st_y (y_ix1 tabs (j := i) rfl rfl rfl hs rfl hin) rfl ?_)
           | (show AT _ _ _ (wpList _ _ _ (⟨_, Op.binOp _ _ _ _ _, _, _, _, _⟩ :: _)); first | refine st_y (y_add rfl rfl (by omega)) rfl ?_ | refine st_y (y_lss rfl rfl) rfl ?_ | refine st_y (y_eql rfl rfl) rfl ?_)
           | (show AT _ _ _ (wpList _ _ _ (⟨_, Op.call _, _, _, _, _⟩ :: _)); refine st_y (y_len tabs rfl rfl) rfl ?_))
        | (show AT _ _ _ (wpList _ _ _ []); refine c_nil (x_then ?_))
        | (show AT _ _ _ (Code.wp _ _ _); first | refine c_seq ?_ | refine c_region ?_ | refine c_skip (x_then ?_) | refine c_skip (x_blk ?_) | refine c_block ?_ | refine c_ret ?_ | refine c_ift rfl (by first | assumption | omega) ?_ | refine c_if rfl (fun h => ?_) (fun h => ?_))
        | (show AT _ _ _ _; first | refine x_then ?_ | refine x_then_ret ?_ | refine x_blk_ret ?_))
      · refine x_ret1 Try.results102 (res_tmp rfl) (fun w c => ⟨_, _, rfl, ⟨congrArg Value.bool ?_, rfl⟩, c⟩)
        have : x ∈ xs := by rw [← h]; exact List.mem_of_getElem? hx
        simp [this]
      · refine x_nx (i + 1) (by repeat' (first | exact Sub.nil | refine Sub.cons rfl ?_ | refine Sub.consi rfl (by omega) ?_)) ⟨by omega, ?_⟩ (fun w' c' => c') (by omega)
        rw [List.take_add_one, hx]
        simp only [Option.toList_some, List.mem_append, List.mem_singleton, not_or]
        exact ⟨hn, fun e => h e.symm⟩
    · repeat' (first
        | (show AT _ _ _ (wpList _ _ _ (_ :: _)); first
           | (show AT _ _ _ (wpList _ _ _ (⟨_, Op.move _, _, _, _, _⟩ :: _)); refine st_y (y_move rfl) rfl ?_)
           | (show AT _ _ _ (wpList _ _ _ (⟨_, Op.assign _, _, _, _, _⟩ :: _)); refine st_y (y_assign rfl) rfl ?_)
           | (show AT _ _ _ (wpList _ _ _ (⟨_, Op.binOp _ _ _ _ _, _, _, _, _⟩ :: _)); refine st_y (y_lss rfl rfl) rfl ?_)
           | (show AT _ _ _ (wpList _ _ _ (⟨_, Op.call _, _, _, _, _⟩ :: _)); refine st_y (y_len tabs rfl rfl) rfl ?_))
        | (show AT _ _ _ (wpList _ _ _ []); refine c_nil (x_then ?_))
        | (show AT _ _ _ (Code.wp _ _ _); first | refine c_seq ?_ | refine c_region ?_ | refine c_ret ?_ | refine c_exit ?_ | refine c_iff rfl (by first | assumption | exact not_not_intro (by assumption) | omega) ?_)
        | (show AT _ _ _ _; first | refine x_then ?_ | refine x_then_exit ?_ | refine x_blk_exit rfl ?_))
      refine x_ret1 Try.results102 (res_tmp rfl) (fun w c => ⟨_, _, rfl, ⟨congrArg Value.bool ?_, rfl⟩, c⟩)
      rw [take_end (by omega)] at hn
      simp [hn]
end Go.Proofs.Ytljgmmmgnfgbhaa
