import Derived.Test.YtijjkfbkihgfgaaGreatCopqsu
import Derived.Test.YtijjkfbkihgfgaaGreatMxfqsu
import Derived.Test.YtijjkfbkihgfgaaGreatPrmqsu
import Derived.Test.YtijjkfbkihgfgaaGreatShrqsu
namespace Go.Proofs.YtijjkfbkihgfgaaGreat
open Go.Lg Go.Proofs Go.RowKit
attribute [local irreducible] Code.wp wpList bodyPost Exit.then Exit.inBlock Hp Again Calls Y AT ResV QT Qn QI wpAny wpAnyQ
set_option maxRecDepth 20000
set_option maxHeartbeats 4000000

theorem matP_mk {p : Int} {m : Mat} (h : MatP p m) : ∃ (R C : Nat) (f : Nat → Nat → Int), m = (((R : Nat) : Int), ((C : Nat) : Int), mk R C f) ∧ R ≤ 8 ∧ C ≤ 8 ∧ FieldP p ∧ inF p R C f := by
  obtain ⟨r, c, xs⟩ := m
  obtain ⟨⟨hR0, hR8⟩, ⟨hC0, hC8⟩, hlen, hF, _, hin⟩ := h
  simp only at *
  obtain ⟨R, rfl⟩ := Int.eq_ofNat_of_zero_le hR0
  obtain ⟨C, rfl⟩ := Int.eq_ofNat_of_zero_le hC0
  have hlen' : xs.length = R * C := by rw [← Int.natCast_mul] at hlen; omega
  refine ⟨R, C, fun i j => xs.getD (i * C + j) 0, by rw [← mk_of hlen'], by omega, by omega, hF, fun i j hi hj => ?_⟩
  have := inP_get hin (i := i * C + j) (by rw [hlen']; exact cell_lt hi hj)
  simp only
  omega
theorem rd_rows_drop {w : World} {e m c lo : Nat} {rs : List (List Int)} {a : Option Addr} (hr : Rd w (rowsT e rs) (.slice a m c)) (hm : rs.length = m) (h : lo ≤ m) : Rd w (rowsT e (rs.drop lo)) (.slice (subA a 1 lo c) (m - lo) (c - lo)) := by
  have := Rd.part (lo := lo) (hi := m) hr h (Nat.le_refl _)
  rw [rowT_map] at this
  unfold rowsT
  rw [rowT_map]
  have e1 : ((rs.map iT).drop (lo * 1)).take ((m - lo) * 1) = (rs.drop lo).map iT := by
    rw [Nat.mul_one, Nat.mul_one, List.take_of_length_le (by simp; omega), List.map_drop]
  rwa [e1] at this
theorem drop_len {R k0 : Nat} {a : List (List Int)} (ha : ∀ (k : Nat) (xs : List Int), a[k]? = some xs → xs.length = R) : ∀ (k : Nat) (xs : List Int), (a.drop k0)[k]? = some xs → xs.length = R := fun k xs h => by
  rw [List.getElem?_drop] at h
  exact ha _ _ h
theorem inv_eq {p : Int} {n : Nat} {f : Nat → Nat → Int} : mk n n (fromF ((colsF n (n + n) (redTo p n (augF n f) (n + n)).1).drop n)) = mk n n (invF p n f) := mk_ext (fun i j hi hj => by
  have : ((colsF n (n + n) (redTo p n (augF n f) (n + n)).1).drop n).getD j [] = mkv n (fun i => (redTo p n (augF n f) (n + n)).1 i (n + j)) := by
    rw [List.getD, List.getElem?_drop]
    simp [colsF, hj]
  unfold fromF invF
  rw [this, mkv_get hi])
theorem inverse_ok {w : World} {p : Int} {n : Nat} {f : Nat → Nat → Int} {u : Value} (hr : Rd w (iT (mk n n f)) u) (hF : FieldP p) (hn : n ≤ 512) (h : inF p n n f) :
    Does Tryz.prog 158 [iV p, .agg #[iV n, iV n, u]] w (GivesK n n (invF p n f)) := by
  have ⟨hp1, hp2⟩ := fieldP_pos hF
  have hau : inF p n (n + n) (besF n f idF) := inF_bes h (inF_id hp1)
  refine fn_enter Tryz.func158 rfl Tryz.ntmps158 rfl ?_
  repeat' (first | (show oL; first | (show oA (.box _ _); refine m_box rfl rfl (fun b3 hb3 => ?_)) | (show oA (.alloc _); refine m_alloc tabs rfl rfl (fun b4 hb4 => ?_))) | refine xNt ?_ | (show oC; first | refine c_seq ?_ | refine c_region ?_))
  refine c_all (Hp [] w [.blk b4 #[iV 0, iV 0, .slice none 0 0] 47, .blk b3 #[iV n, iV n, u] 47]) kr (fun _ c => Hp.drew c) ?_
  refine fl_begin 10 rfl tabs rfl rfl ?_
  refine fl_take 0 rfl kr kr kr kr kr kr (by exact y_move rfl) rfl (fun _ c => c) ?_
  refine fl_take 2 rfl kr kr kr kr kr kr (by exact y_field tabs rfl rfl rfl) rfl (fun _ c => c) ?_
  refine fl_take 1 rfl kr kr kr kr kr kr (by exact y_loadb 1 tabs rfl rfl rfl rfl) rfl (fun _ c => c) ?_
  refine fl_take 3 rfl kr kr kr kr kr kr (by exact y_load tabs rfl rfl (hc_blk 1 rfl rfl)) rfl (fun _ c => c) ?_
  (refine fl_call 4 rfl rfl kr tabs rfl rfl rfl kr kr kr (ent_of Tryz.func250 kr rfl) rfl rfl (fun w c => identity_ok (n := n) om) sC ?_; rintro v H' ⟨ai, ci, rfl, hsi, rfl⟩)
  (refine fl_call 5 rfl rfl kr tabs rfl rfl rfl kr kr kr (ent_of Tryz.func249 kr rfl) rfl rfl (fun w c => beside_ok (c.rd hr) (c.own_rd (i := 0) rfl) om om) sC ?_; rintro v H' ⟨ab1, cb1, rfl, hsb, rfl⟩)
  (refine fl_call 6 rfl rfl kr tabs rfl rfl rfl kr kr kr (ent_of Tryz.func207 kr rfl) rfl rfl (fun w c => reduceK_ok (c.own_rd (i := 0) rfl) hF om om hau) sC ?_; rintro v H' ⟨a, c, a', c', rfl, hs, hs', rfl⟩)
  refine fl_take 7 rfl kr kr kr kr kr kr (by exact y_move rfl) rfl sS ?_
  refine fl_take 8 rfl kr kr kr kr kr kr (by exact y_ext rfl rfl) rfl sS ?_
  refine fl_take 9 rfl kr kr kr kr kr kr (by exact y_ext rfl rfl) rfl sS ?_
  refine fl_end rfl tabs rfl rfl rfl kr sS (fun bf hbf => ?_)
  refine h_only 11 rfl kr ?_
  (refine m_storeb 0 tabs rfl rfl rfl rfl rfl rfl rfl ?_)
  refine c_nil (x_one (h_keep sS ?_))
  refine h_take 12 rfl kr kr kr (by exact y_assign rfl) rfl sS ?_
  refine h_end kr ?_
  repeat' (first | (show oC; refine c_seq ?_) | (show AT _ _ _ _; refine x_then ?_))
  refine c_mixR (Hp [] w [.blk bf #[iV n, iV (n + n : Nat), .slice a (n * (n + n)) c] 47, .blk b4 #[iV 0, iV 0, .slice none 0 0] 47, .blk b3 #[iV n, iV n, u] 47]) 8 kr kr kr kr kr (fun _ c => Hp.drew c) ?_
  refine h_take 0 rfl kr kr kr (by exact y_field tabs rfl rfl rfl) rfl sS ?_
  refine h_take 1 rfl kr kr kr (by exact y_load tabs rfl rfl (hc_blk 2 rfl rfl)) rfl sS ?_
  refine h_take 2 rfl kr kr kr (by exact y_loadb 0 tabs rfl rfl rfl rfl) rfl sS ?_
  refine h_take 4 rfl kr kr kr (by exact y_field tabs rfl rfl rfl) rfl sS ?_
  refine h_take 5 rfl kr kr kr (by exact y_load tabs rfl rfl (hc_blk 2 rfl rfl)) rfl sS ?_
  refine h_only 3 rfl kr ?_
  first | (refine m_call (ent_of Tryz.func251 kr rfl) rfl rfl (fun w c => columns_ok (c.own_rd (i := 2) rfl) om om) ?_; rintro v H' ⟨a1, c1, rfl, hs1, rfl⟩) | (refine m_call (ent_of Tryz.func218 kr rfl) rfl rfl (fun w c => fromColumns_ok (C := n) (rd_rows_drop (c.own_rd (i := 0) rfl) (by simp) om) (by simp) om om (drop_len colsF_len)) ?_; rintro v H' ⟨a3, c3, rfl, hs3, rfl⟩)
  refine c_nil (x_one (h_keep sS ?_))
  refine h_take 6 rfl kr kr kr (by exact y_slo tabs (lo := n) rfl rfl rfl rfl om) rfl sS ?_
  refine h_only 7 rfl kr ?_
  first | (refine m_call (ent_of Tryz.func251 kr rfl) rfl rfl (fun w c => columns_ok (c.own_rd (i := 2) rfl) om om) ?_; rintro v H' ⟨a1, c1, rfl, hs1, rfl⟩) | (refine m_call (ent_of Tryz.func218 kr rfl) rfl rfl (fun w c => fromColumns_ok (C := n) (rd_rows_drop (c.own_rd (i := 0) rfl) (by simp) om) (by simp) om om (drop_len colsF_len)) ?_; rintro v H' ⟨a3, c3, rfl, hs3, rfl⟩)
  refine c_nil (x_one (h_keep sS ?_))
  refine h_end kr ?_
  rw [show n + n - n = n by omega, inv_eq]
  repeat' (first | (show oL; first | (show oA (.store _ _ _); refine m_storeb 7 tabs rfl rfl rfl rfl rfl rfl rfl ?_)) | refine xNt ?_ | (show oC; refine c_ret ?_))
  exact x_ret1 Tryz.results158 (res_cellb 7 tabs rfl rfl rfl rfl) (fun w' c' => ⟨_, _, rfl, ⟨a3, c3, rfl, hs3, rfl⟩, c'.sub (.cons_cons _ (List.nil_sublist _))⟩)
theorem invF_congr {p : Int} {n : Nat} {f : Nat → Nat → Int} : mk n n (invF p n (matF (↑n, ↑n, mk n n f))) = mk n n (invF p n f) := mk_ext (fun i j hi hj => by
  unfold invF
  refine (redTo_congr (C := n + n) (fun a b ha hb => ?_) (n + n) (Nat.le_refl _)).1 i (n + j) hi om
  unfold augF besF
  split
  · exact matF_mk ha aS
  · rfl)
def InvP (p : Int) (m : Mat) : Prop := MatP p m ∧ m.1 = m.2.1 ∧ ((redL p m).length : Int) = m.1
instance (p : Int) (m : Mat) : Decidable (InvP p m) := by unfold InvP; infer_instance
def invM2 (p : Int) (m : Mat) : Mat := if InvP p m then (m.1, m.1, mk m.1.toNat m.1.toNat (invF p m.1.toNat (matF m))) else mat0
theorem redL_rows {p : Int} {m : Mat} (h : MatP p m) : ((redL p m).length : Int) ≤ m.1 := by
  obtain ⟨R, C, f, rfl, hR, hC, hF, hin⟩ := matP_mk h
  rw [redL_mk]
  have := (redTo_congr (p := p) (R := R) (C := C) (f := f) (g := f) (fun _ _ _ _ => rfl) C (Nat.le_refl _)).2.2
  simp only
  omega
abbrev GivesMB (m : Mat) (b : Bool) (v : Value) (H : List HE) : Prop := ∃ a c, v = .tuple #[.agg #[iV m.1, iV m.2.1, .slice a m.2.2.length c], .bool b] ∧ SA a m.2.2.length ∧ H = [.own (iT m.2.2) (.slice a m.2.2.length c)]
theorem impl_InverseOf_ok {w : World} {p : Int} {m : Mat} {u : Value} (hr : Rd w (iT m.2.2) u) :
    Does Tryz.prog 261 [iV p, .agg #[iV m.1, iV m.2.1, u]] w (GivesMB (invM2 p m) (decide (InvP p m))) := by
  by_cases hI : InvP p m
  · obtain ⟨hM, hsq, hrk⟩ := hI
    obtain ⟨R, C, f, rfl, hR, hC, hF, hin⟩ := matP_mk hM
    simp only at hsq hrk hr ⊢
    have hRC : R = C := by omega
    subst hRC
    have hI : InvP p (↑R, ↑R, mk R R f) := ⟨hM, rfl, hrk⟩
    have hnl : ¬ (((redL p (↑R, ↑R, mk R R f)).length : Int) < R) := by omega
    refine fn_enter Tryz.func261 rfl Tryz.ntmps261 rfl ?_
    repeat' (first | (show oL; first | refine sMv rfl rfl ?_ | refine sAs rfl rfl ?_ | refine sLb 1 tabs rfl rfl rfl rfl rfl ?_ | (show oA (.call _); (refine m_call (ent_of Tryz.func158 kr rfl) rfl rfl (fun w c => inverse_ok (c.rd hr) hF om hin) ?_; rintro v H' ⟨a3, c3, rfl, hs3, rfl⟩)) | (show oA (.store _ _ _); refine m_storeb 1 tabs rfl rfl rfl rfl rfl rfl rfl ?_) | (show oA (.box _ _); refine m_box rfl rfl (fun bq hbq => ?_)) | (show oA (.alloc _); refine m_alloc tabs rfl rfl (fun bq hbq => ?_))) | refine xNt ?_ | (show oC; first | refine c_seq ?_ | refine c_region ?_ | refine c_skip (x_then ?_) | refine c_ret ?_ | refine c_draw kr kr (fun _ c => Hp.drew c) ?_ | refine c_true rfl ?_ | refine c_iff rfl nN ?_) | (show QT _ _ _ _ _ _ (_ :: _); first | refine qMv rfl rfl ?_ | refine qFd tabs rfl rfl rfl rfl ?_ | (show qA (.load _ _); first | refine qLb 1 tabs rfl rfl rfl rfl rfl ?_ | refine qLd 1 tabs rfl rfl rfl rfl rfl ?_) | (show qA (.binOp _ _ _ _ _); first | refine qLs rfl rfl rfl ?_ | refine q_y (y_neq rfl rfl) rfl ?_) | (show qA (.unOp _ _ _); refine q_y (y_notd rfl) rfl ?_) | (show qA (.call _); first | refine q_call (ent_of Tryz.func132 kr rfl) rfl rfl (fun w c => impl_IsMatrix_ok (m := (↑R, ↑R, mk R R f)) (c.rd hr)) (fun u H' h => h.1) ?_ | refine q_call (ent_of Tryz.func252 kr rfl) rfl rfl (fun w c => rank_ok (m := (↑R, ↑R, mk R R f)) (c.rd hr) (MatP.g (by first | assumption | exact Decidable.not_not.1 aS))) (fun u H' h => h.1) ?_) | (show qA (.pick _ _ _); first | refine q_y (y_pickt rfl aO rfl) rfl ?_ | refine q_y (y_pickf rfl aO rfl) rfl ?_ | refine q_y (y_pick rfl rfl rfl) rfl ?_) | refine q_gn rfl rfl rfl ?_ | refine q_gfy rfl rfl aO ?_ | refine q_gfn rfl rfl aO rfl ?_ | refine q_gd rfl rfl (fun h => ?_) (fun h => ?_)) | (show QT _ _ _ _ _ _ []; refine q_nil (x_then ?_)))
    · exact absurd hM aS
    · have e1 : invM2 p (↑R, ↑R, mk R R f) = (↑R, ↑R, mk R R (invF p R f)) := by
        rw [invM2, if_pos hI]
        simp only [Int.toNat_natCast]
        rw [invF_congr]
      rw [e1, decide_eq_true hI]
      refine x_ret2 Tryz.results261 (res_cellb 1 tabs rfl rfl rfl rfl) (res_tmp rfl) (fun w' c' => ⟨.tuple #[.agg #[iV R, iV R, .slice a3 (R * R) c3], .bool true], [.own (iT (mk R R (invF p R f))) (.slice a3 (R * R) c3)], rfl, ⟨a3, c3, by simp, by simpa using hs3, by simp⟩, c'.sub (.cons_cons _ (List.nil_sublist _))⟩)
  refine fn_enter Tryz.func261 rfl Tryz.ntmps261 rfl ?_
  repeat' (first | (show oL; first | refine sMv rfl rfl ?_ | refine sAs rfl rfl ?_ | refine sLb 1 tabs rfl rfl rfl rfl rfl ?_ | (show oA (.store _ _ _); refine m_storeb 0 tabs rfl rfl rfl rfl rfl rfl rfl ?_) | (show oA (.box _ _); refine m_box rfl rfl (fun bq hbq => ?_)) | (show oA (.alloc _); refine m_alloc tabs rfl rfl (fun bq hbq => ?_)) | (show oA (.build _ _); refine st_y (y_bld0 bld_mat0) rfl ?_)) | refine xNt ?_ | (show oC; first | refine c_seq ?_ | refine c_region ?_ | refine c_skip (x_then ?_) | refine c_ret ?_ | refine c_draw kr kr (fun _ c => Hp.drew c) ?_ | refine c_true rfl ?_ | refine c_if rfl (fun h => ?_) (fun h => ?_)) | (show QT _ _ _ _ _ _ (_ :: _); first | refine qMv rfl rfl ?_ | refine qFd tabs rfl rfl rfl rfl ?_ | (show qA (.load _ _); first | refine qLb 1 tabs rfl rfl rfl rfl rfl ?_ | refine qLd 1 tabs rfl rfl rfl rfl rfl ?_) | (show qA (.binOp _ _ _ _ _); first | refine qLs rfl rfl rfl ?_ | refine q_y (y_neq rfl rfl) rfl ?_) | (show qA (.unOp _ _ _); refine q_y (y_notd rfl) rfl ?_) | (show qA (.call _); first | refine q_call (ent_of Tryz.func132 kr rfl) rfl rfl (fun w c => impl_IsMatrix_ok (m := m) (c.rd hr)) (fun u H' h => h.1) ?_ | refine q_call (ent_of Tryz.func252 kr rfl) rfl rfl (fun w c => rank_ok (m := m) (c.rd hr) (MatP.g (by first | assumption | exact Decidable.not_not.1 aS))) (fun u H' h => h.1) ?_) | (show qA (.pick _ _ _); first | refine q_y (y_pickt rfl aO rfl) rfl ?_ | refine q_y (y_pickf rfl aO rfl) rfl ?_ | refine q_y (y_pick rfl rfl rfl) rfl ?_) | refine q_gn rfl rfl rfl ?_ | refine q_gfy rfl rfl aO ?_ | refine q_gfn rfl rfl aO rfl ?_ | refine q_gd rfl rfl (fun h => ?_) (fun h => ?_)) | (show QT _ _ _ _ _ _ []; refine q_nil (x_then ?_)) | (show AT _ _ _ _; refine x_then_ret ?_))
  all_goals first
    | exact absurd ⟨Decidable.not_not.1 aS, by omega, by have := redL_rows (Decidable.not_not.1 aS : MatP p m); omega⟩ hI
    | exact absurd ⟨by assumption, by omega, by have := redL_rows (by assumption : MatP p m); omega⟩ hI
    | (rw [invM2, if_neg hI, decide_eq_false hI]
       refine x_ret2 Tryz.results261 (res_cellb 0 tabs rfl rfl rfl rfl) (res_tmp rfl) (fun w' c' => ⟨_, _, rfl, ⟨none, 0, rfl, .inl rfl, rfl⟩, Hp.nilp _ _ (c'.sub (List.nil_sublist _))⟩))
theorem impl_IsInvertible_ok {w : World} {p : Int} {m : Mat} {u : Value} (hr : Rd w (iT m.2.2) u) :
    Does Tryz.prog 186 [iV p, .agg #[iV m.1, iV m.2.1, u]] w (fun v H => v = .bool (decide (InvP p m)) ∧ H = []) := by
  refine fn_enter Tryz.func186 rfl Tryz.ntmps186 rfl ?_
  repeat' (first | (show oL; first | refine sMv rfl rfl ?_ | refine sAs rfl rfl ?_ | refine sLb 0 tabs rfl rfl rfl rfl rfl ?_ | (show oA (.call _); (refine m_call (ent_of Tryz.func261 kr rfl) rfl rfl (fun w c => impl_InverseOf_ok (m := m) (c.rd hr)) ?_; rintro v H' ⟨a3, c3, rfl, hs3, rfl⟩)) | (show oA (.extract _ _); refine st_y (y_ext rfl rfl) rfl ?_) | (show oA (.store _ _ _); refine m_storeb 0 tabs rfl rfl rfl rfl rfl rfl rfl ?_) | (show oA (.box _ _); refine m_box rfl rfl (fun bq hbq => ?_)) | (show oA (.alloc _); refine m_alloc tabs rfl rfl (fun bq hbq => ?_))) | refine xNt ?_ | (show oC; first | refine c_seq ?_ | refine c_region ?_ | refine c_ret ?_))
  exact x_ret1 Tryz.results186 (res_tmp rfl) (fun w' c' => ⟨_, _, rfl, ⟨rfl, rfl⟩, c'.sub (List.nil_sublist _)⟩)
theorem spec_IsInvertible_ok {w : World} {p : Int} {m : Mat} {u : Value} (hr : Rd w (iT m.2.2) u) :
    Does Tryz.prog 244 [iV p, .agg #[iV m.1, iV m.2.1, u]] w (fun v H => v = .bool (decide (InvP p m)) ∧ H = []) := by
  have hk : MatP p m → rankF p m = (redL p m).length := fun h => by rw [rankF, if_pos h]
  refine fn_enter Tryz.func244 rfl Tryz.ntmps244 rfl ?_
  repeat' (first | (show oL; first | refine sAs rfl rfl ?_ | (show oA (.box _ _); refine m_box rfl rfl (fun bq hbq => ?_))) | refine xNt ?_ | (show oC; first | refine c_seq ?_ | refine c_region ?_ | refine c_ret ?_ | refine c_draw kr kr (fun _ c => Hp.drew c) ?_) | (show QT _ _ _ _ _ _ (_ :: _); first | refine qMv rfl rfl ?_ | refine qAs rfl rfl ?_ | refine qFd tabs rfl rfl rfl rfl ?_ | (show qA (.load _ _); first | refine qLb 0 tabs rfl rfl rfl rfl rfl ?_ | refine qLd 0 tabs rfl rfl rfl rfl rfl ?_) | (show qA (.binOp _ _ _ _ _); refine q_y (y_eql rfl rfl) rfl ?_) | (show qA (.call _); first | refine q_call (ent_of Tryz.func134 kr rfl) rfl rfl (fun w c => spec_IsMatrix_ok (m := m) (c.rd hr)) (fun u H' h => h.1) ?_ | refine q_call (ent_of Tryz.func163 kr rfl) rfl rfl (fun w c => spec_RankOf_ok (m := m) (c.rd hr)) (fun u H' h => h.1) ?_) | (show qA (.pick _ _ _); first | refine q_y (y_pickt rfl aS rfl) rfl ?_ | refine q_y (y_pickf rfl aS rfl) rfl ?_ | refine q_y (y_pick rfl rfl rfl) rfl ?_) | refine q_gn rfl rfl rfl ?_ | refine q_gdy rfl rfl aS ?_ | refine q_gdn rfl rfl aS rfl ?_ | refine q_gd rfl rfl (fun h => ?_) (fun h => ?_)) | (show QT _ _ _ _ _ _ []; refine q_nil (x_then ?_)))
  all_goals refine x_ret1 Tryz.results244 (res_tmp rfl) (fun w c => ⟨_, _, rfl, ⟨congrArg Value.bool ?_, rfl⟩, c.sub (List.nil_sublist _)⟩)
  all_goals first
    | (have hn : ¬ InvP p m := fun hi => by first | exact absurd hi.1 aS | exact absurd hi.2.1 aS
       simp [hn])
    | (have hM : MatP p m := by first | assumption | exact Decidable.not_not.1 aS
       rw [hk hM]
       have hsq : m.1 = m.2.1 := by omega
       simp [InvP, hM, hsq])
theorem l4Has_ok {w : World} {xs : List Int} {x : Int} {v : Value} (hr : Rd w (iT xs) v) :
    Does Tryz.prog 197 [v, iV x] w (fun v H => v = .bool (decide (x ∈ xs)) ∧ H = []) := by
  obtain ⟨a, c, rfl, hs, hc1, hc2, hget⟩ := hr.ints
  unfold maxLen at hc2
  refine fn_enter Tryz.func197 rfl Tryz.ntmps197 rfl ?_
  repeat' (first | (show oL; first | refine sAs rfl rfl ?_) | refine xNt ?_ | (show oC; first | refine c_seq ?_ | refine c_region ?_ | refine c_block ?_))
  refine c_loopH (α := Nat) [0, 1] (fun i => [(5, .int .i64 i)]) (fun i => i ≤ xs.length ∧ x ∉ xs.take i) (fun i => []) (fun i => xs.length - i) 0 rfl sB ?_ ?_ ?_
  · exact ⟨by omega, by simp⟩
  · exact fun w' c' => c'
  · rintro i ⟨hi, hn⟩
    by_cases hin : i < xs.length
    · have hx : xs[i]? = some (xs.getD i 0) := getD_some hin
      repeat' (first | (show oL; first | refine sMv rfl rfl ?_ | refine sAs rfl rfl ?_ | (show oA (.load _ _); refine st_y (y_load tabs rfl rfl (hc_w0 (hget i hin))) rfl ?_) | (show oA (.indexAddr _ _ _); refine st_y (y_ix1 tabs (j := i) rfl rfl rfl hs rfl hin) rfl ?_) | (show oA (.binOp _ _ _ _ _); first | refine sAd rfl rfl om rfl ?_ | refine sLs rfl rfl rfl ?_ | refine st_y (y_eql rfl rfl) rfl ?_) | refine sLn tabs rfl rfl rfl ?_) | refine xNt ?_ | (show oC; first | refine c_seq ?_ | refine c_region ?_ | refine c_skip (x_then ?_) | refine c_skip (x_blk ?_) | refine c_block ?_ | refine c_ret ?_ | refine c_ift rfl aO ?_ | refine c_if rfl (fun h => ?_) (fun h => ?_)) | (show AT _ _ _ _; first | refine x_then ?_ | refine x_then_ret ?_ | refine x_blk_ret ?_))
      · refine x_ret1 Tryz.results197 (res_tmp rfl) (fun w c => ⟨_, _, rfl, ⟨congrArg Value.bool ?_, rfl⟩, c⟩)
        have : x ∈ xs := by rw [← h]; exact List.mem_of_getElem? hx
        simp [this]
      · refine x_nx (i + 1) sB ⟨by omega, ?_⟩ (fun w' c' => c') om
        rw [List.take_add_one, hx]
        simp only [Option.toList_some, List.mem_append, List.mem_singleton, not_or]
        exact ⟨hn, fun e => h e.symm⟩
    · repeat' (first | (show oL; first | refine sMv rfl rfl ?_ | refine sAs rfl rfl ?_ | refine sLs rfl rfl rfl ?_ | refine sLn tabs rfl rfl rfl ?_) | refine xNt ?_ | (show oC; first | refine c_seq ?_ | refine c_region ?_ | refine c_ret ?_ | refine c_exit ?_ | refine c_iff rfl nN ?_) | (show AT _ _ _ _; first | refine x_then ?_ | refine x_then_exit ?_ | refine x_blk_exit rfl ?_))
      refine x_ret1 Tryz.results197 (res_tmp rfl) (fun w c => ⟨_, _, rfl, ⟨congrArg Value.bool ?_, rfl⟩, c⟩)
      rw [take_end om] at hn
      simp [hn]
end Go.Proofs.YtijjkfbkihgfgaaGreat

namespace Go.Proofs.YtijjkfbkihgfgaaGreat
open Go.Lg Go.Proofs Go.RowKit
attribute [local irreducible] Code.wp wpList bodyPost Exit.then Exit.inBlock Hp Again Calls Y AT ResV QT Qn QI wpAny wpAnyQ
set_option maxRecDepth 20000
set_option maxHeartbeats 4000000

theorem redTo_piv {p : Int} {R : Nat} {f : Nat → Nat → Int} : ∀ k, ∀ x ∈ (redTo p R f k).2, 0 ≤ x ∧ x < (k : Int)
  | 0, x, h => by simp [redTo] at h
  | k + 1, x, h => by
    simp only [redTo, colStep] at h
    split at h
    · rcases List.mem_append.1 h with h | h
      · have := redTo_piv k x h; omega
      · simp at h; omega
    · have := redTo_piv k x h; omega
abbrev GivesRows (l : List (List Int)) (v : Value) (H : List HE) : Prop := ∃ a c, v = .slice a l.length c ∧ SA a l.length ∧ H = [.own (rowsT 43 l) (.slice a l.length c)]
end Go.Proofs.YtijjkfbkihgfgaaGreat

namespace Go.Proofs.YtijjkfbkihgfgaaGreat
open Go.Lg Go.Proofs Go.RowKit
attribute [local irreducible] Code.wp wpList bodyPost Exit.then Exit.inBlock Hp Again Calls Y AT ResV QT Qn QI wpAny wpAnyQ
set_option maxRecDepth 20000
set_option maxHeartbeats 4000000

def FineP (p n : Int) (l : List (List Int)) : Prop := FieldP p ∧ (0 ≤ n ∧ n ≤ 8) ∧ l.length ≤ 16 ∧ ∀ v ∈ l, (v.length : Int) = n ∧ VecP p v
instance (p n : Int) (l : List (List Int)) : Decidable (FineP p n l) := by unfold FineP; infer_instance
end Go.Proofs.YtijjkfbkihgfgaaGreat

namespace Go.Proofs.YtijjkfbkihgfgaaGreat
open Go.Lg Go.Proofs Go.RowKit
attribute [local irreducible] Code.wp wpList bodyPost Exit.then Exit.inBlock Hp Again Calls Y AT ResV QT Qn QI wpAny wpAnyQ
set_option maxRecDepth 20000
set_option maxHeartbeats 4000000

def rowL (C : Nat) (g : Nat → Nat → Int) (k : Nat) : List (List Int) := (List.range k).map (fun i => mkv C (g i))
@[simp] theorem rowL_length {C : Nat} {g : Nat → Nat → Int} {k : Nat} : (rowL C g k).length = k := by simp [rowL]
theorem rowL_next {C : Nat} {g : Nat → Nat → Int} {k : Nat} : rowL C g (k + 1) = rowL C g k ++ [mkv C (g k)] := by simp [rowL, List.range_succ]
def basL (p : Int) (C : Nat) (rs : List (List Int)) : List (List Int) := rowL C (redTo p rs.length (rowsF rs) C).1 (redTo p rs.length (rowsF rs) C).2.length
def RowsP (p : Int) (C : Nat) (rs : List (List Int)) : Prop := ∀ xs ∈ rs, xs.length = C ∧ InP 0 (p - 1) xs
theorem RowsP.inF {p : Int} {C : Nat} {rs : List (List Int)} (h : RowsP p C rs) : inF p rs.length C (rowsF rs) := fun i j hi hj => by
  have hx : rs[i]? = some (rs.getD i []) := getD_some hi
  obtain ⟨h1, h2⟩ := h _ (List.mem_of_getElem? hx)
  have := inP_get h2 (i := j) om
  unfold rowsF
  omega
theorem RowsP.len {p : Int} {C : Nat} {rs : List (List Int)} (h : RowsP p C rs) : ∀ xs ∈ rs, xs.length = C := fun xs hx => (h xs hx).1
theorem FineP.rows {p n : Int} {l : List (List Int)} (h : FineP p n l) : ∃ C : Nat, n = C ∧ C ≤ 8 ∧ RowsP p C l := by
  obtain ⟨_, h1, _, h2⟩ := h
  refine ⟨n.toNat, by omega, by omega, fun xs hx => ?_⟩
  obtain ⟨h3, h4⟩ := h2 xs hx
  exact ⟨by omega, h4.2.2⟩
theorem mk_row {R C i : Nat} {g : Nat → Nat → Int} (hi : i < R) : ((mk R C g).drop (i * C)).take C = mkv C (g i) := by
  apply List.ext_getElem?
  intro q
  rw [List.getElem?_take]
  by_cases hq : q < C
  · have hc := cell_lt (R := R) hi hq
    have h1 := mk_get (f := g) hi hq
    rw [if_pos hq, List.getElem?_drop, getD_some (z := 0) (by rw [mk_length]; exact hc), h1]
    simp [mkv, hq]
  · rw [if_neg hq, List.getElem?_eq_none (by simp; omega)]
theorem row_rds {w : World} {R C i cap : Nat} {g : Nat → Nat → Int} {a : Option Addr} (hr : Rd w (iT (mk R C g)) (.slice a (R * C) cap)) (hi : i < R) : Rd w (iT (mkv C (g i))) (.slice (subA a 1 (i * C) cap) C (cap - i * C)) := by
  have h1 : (i + 1) * C ≤ R * C := Nat.mul_le_mul_right C hi
  rw [Nat.succ_mul] at h1
  have h := Rd.part (lo := i * C) (hi := i * C + C) hr om h1
  rw [show i * C + C - i * C = C by omega] at h
  have e : ((it (mk R C g)).drop (i * C * 1)).take (C * 1) = it (mkv C (g i)) := by
    rw [Nat.mul_one, Nat.mul_one, ← mk_row hi]
    simp [it, List.map_take, List.map_drop]
  rw [e] at h
  exact h
end Go.Proofs.YtijjkfbkihgfgaaGreat
