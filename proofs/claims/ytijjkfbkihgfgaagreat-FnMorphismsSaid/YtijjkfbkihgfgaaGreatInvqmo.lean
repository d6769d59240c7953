import Derived.Test.YtijjkfbkihgfgaaGreatMxfqmo
namespace Go.Proofs.YtijjkfbkihgfgaaGreat
open Go.Lg Go.Proofs Go.RowKit
attribute [local irreducible] Code.wp wpList bodyPost Exit.then Exit.inBlock Hp Again Calls Y AT ResV QT Qn QI wpAny wpAnyQ
set_option maxRecDepth 20000
set_option maxHeartbeats 4000000

theorem matP_mk {p : Int} {m : Mat} (h : MatP p m) : ∃ (R C : Nat) (f : Nat → Nat → Int), m = (((R : Nat) : Int), ((C : Nat) : Int), mk R C f) ∧ R ≤ 8 ∧ C ≤ 8 ∧ FieldP p ∧ inF p R C f := by
  obtain ⟨r, c, xs⟩ := m
  obtain ⟨⟨hR0, hR8⟩, ⟨hC0, hC8⟩, hlen, hF, _, hin⟩ := h
  simp only at *
  obtain ⟨R, rfl⟩ := Int.eq_ofNat_of_zero_le hR0
  obtain ⟨C, rfl⟩ := Int.eq_ofNat_of_zero_le hC0
  have hlen' : xs.length = R * C := by rw [← Int.natCast_mul] at hlen; omega
  refine ⟨R, C, fun i j => xs.getD (i * C + j) 0, by rw [← mk_of hlen'], by omega, by omega, hF, fun i j hi hj => ?_⟩
  have := inP_get hin (i := i * C + j) (by rw [hlen']; exact cell_lt hi hj)
  simp only
  omega
theorem rd_rows_drop {w : World} {e m c lo : Nat} {rs : List (List Int)} {a : Option Addr} (hr : Rd w (rowsT e rs) (.slice a m c)) (hm : rs.length = m) (h : lo ≤ m) : Rd w (rowsT e (rs.drop lo)) (.slice (subA a 1 lo c) (m - lo) (c - lo)) := by
  have := Rd.part (lo := lo) (hi := m) hr h (Nat.le_refl _)
  rw [rowT_map] at this
  unfold rowsT
  rw [rowT_map]
  have e1 : ((rs.map iT).drop (lo * 1)).take ((m - lo) * 1) = (rs.drop lo).map iT := by
    rw [Nat.mul_one, Nat.mul_one, List.take_of_length_le (by simp; omega), List.map_drop]
  rwa [e1] at this
theorem drop_len {R k0 : Nat} {a : List (List Int)} (ha : ∀ (k : Nat) (xs : List Int), a[k]? = some xs → xs.length = R) : ∀ (k : Nat) (xs : List Int), (a.drop k0)[k]? = some xs → xs.length = R := fun k xs h => by
  rw [List.getElem?_drop] at h
  exact ha _ _ h
theorem inv_eq {p : Int} {n : Nat} {f : Nat → Nat → Int} : mk n n (fromF ((colsF n (n + n) (redTo p n (augF n f) (n + n)).1).drop n)) = mk n n (invF p n f) := mk_ext (fun i j hi hj => by
  have : ((colsF n (n + n) (redTo p n (augF n f) (n + n)).1).drop n).getD j [] = mkv n (fun i => (redTo p n (augF n f) (n + n)).1 i (n + j)) := by
    rw [List.getD, List.getElem?_drop]
    simp [colsF, hj]
  unfold fromF invF
  rw [this, mkv_get hi])
theorem inverse_ok {w : World} {p : Int} {n : Nat} {f : Nat → Nat → Int} {u : Value} (hr : Rd w (iT (mk n n f)) u) (hF : FieldP p) (hn : n ≤ 512) (h : inF p n n f) :
    Does Tryz.prog 158 [iV p, .agg #[iV n, iV n, u]] w (GivesK n n (invF p n f)) := by
  have ⟨hp1, hp2⟩ := fieldP_pos hF
  have hau : inF p n (n + n) (besF n f idF) := inF_bes h (inF_id hp1)
  refine fn_enter Tryz.func158 rfl Tryz.ntmps158 rfl ?_
  repeat' (first | (show oL; first | (show oA (.box _ _); refine m_box rfl rfl (fun b3 hb3 => ?_)) | (show oA (.alloc _); refine m_alloc tabs rfl rfl (fun b4 hb4 => ?_))) | (show oN; refine c_nil (x_then ?_)) | (show oC; first | refine c_seq ?_ | refine c_region ?_))
  refine c_all (Hp [] w [.blk b4 #[iV 0, iV 0, .slice none 0 0] 47, .blk b3 #[iV n, iV n, u] 47]) kr (fun _ c => Hp.drew c) ?_
  refine fl_begin 10 rfl tabs rfl rfl ?_
  refine fl_take 0 rfl kr kr kr kr kr kr (by exact y_move rfl) rfl (fun _ c => c) ?_
  refine fl_take 2 rfl kr kr kr kr kr kr (by exact y_field tabs rfl rfl rfl) rfl (fun _ c => c) ?_
  refine fl_take 1 rfl kr kr kr kr kr kr (by exact y_loadb 1 tabs rfl rfl rfl rfl) rfl (fun _ c => c) ?_
  refine fl_take 3 rfl kr kr kr kr kr kr (by exact y_load tabs rfl rfl (hc_blk 1 rfl rfl)) rfl (fun _ c => c) ?_
  (refine fl_call 4 rfl rfl kr tabs rfl rfl rfl kr kr kr (ent_of Tryz.func250 kr rfl) rfl rfl (fun w c => identity_ok (n := n) om) (fun w c => by first | exact c | exact c.drop | exact c.drop.drop | exact Hp.sub (List.sublist_append_right _ _) c | exact c.sub sL) ?_; rintro v H' ⟨ai, ci, rfl, hsi, rfl⟩)
  (refine fl_call 5 rfl rfl kr tabs rfl rfl rfl kr kr kr (ent_of Tryz.func249 kr rfl) rfl rfl (fun w c => beside_ok (c.rd hr) (c.own_rd (i := 0) rfl) om om) (fun w c => by first | exact c | exact c.drop | exact c.drop.drop | exact Hp.sub (List.sublist_append_right _ _) c | exact c.sub sL) ?_; rintro v H' ⟨ab1, cb1, rfl, hsb, rfl⟩)
  (refine fl_call 6 rfl rfl kr tabs rfl rfl rfl kr kr kr (ent_of Tryz.func207 kr rfl) rfl rfl (fun w c => reduceK_ok (c.own_rd (i := 0) rfl) hF om om hau) (fun w c => by first | exact c | exact c.drop | exact c.drop.drop | exact Hp.sub (List.sublist_append_right _ _) c | exact c.sub sL) ?_; rintro v H' ⟨a, c, a', c', rfl, hs, hs', rfl⟩)
  refine fl_take 7 rfl kr kr kr kr kr kr (by exact y_move rfl) rfl (fun w c => by exact c.sub sL) ?_
  refine fl_take 8 rfl kr kr kr kr kr kr (by exact y_ext rfl rfl) rfl (fun w c => by exact c.sub sL) ?_
  refine fl_take 9 rfl kr kr kr kr kr kr (by exact y_ext rfl rfl) rfl (fun w c => by exact c.sub sL) ?_
  refine fl_end rfl tabs rfl rfl rfl kr (fun w c => by exact c.sub sL) (fun bf hbf => ?_)
  refine h_only 11 rfl kr ?_
  (refine m_storeb 0 tabs rfl rfl rfl rfl rfl rfl rfl ?_)
  refine c_nil (x_one (h_keep (fun w c => by exact c.sub sL) ?_))
  refine h_take 12 rfl kr kr kr (by exact y_assign rfl) rfl (fun w c => by exact c.sub sL) ?_
  refine h_end kr ?_
  repeat' (first | (show oC; refine c_seq ?_) | (show AT _ _ _ _; refine x_then ?_))
  refine c_mixR (Hp [] w [.blk bf #[iV n, iV (n + n : Nat), .slice a (n * (n + n)) c] 47, .blk b4 #[iV 0, iV 0, .slice none 0 0] 47, .blk b3 #[iV n, iV n, u] 47]) 8 kr kr kr kr kr (fun _ c => Hp.drew c) ?_
  refine h_take 0 rfl kr kr kr (by exact y_field tabs rfl rfl rfl) rfl (fun w c => by exact c.sub sL) ?_
  refine h_take 1 rfl kr kr kr (by exact y_load tabs rfl rfl (hc_blk 2 rfl rfl)) rfl (fun w c => by exact c.sub sL) ?_
  refine h_take 2 rfl kr kr kr (by exact y_loadb 0 tabs rfl rfl rfl rfl) rfl (fun w c => by exact c.sub sL) ?_
  refine h_take 4 rfl kr kr kr (by exact y_field tabs rfl rfl rfl) rfl (fun w c => by exact c.sub sL) ?_
  refine h_take 5 rfl kr kr kr (by exact y_load tabs rfl rfl (hc_blk 2 rfl rfl)) rfl (fun w c => by exact c.sub sL) ?_
  refine h_only 3 rfl kr ?_
  first | (refine m_call (ent_of Tryz.func251 kr rfl) rfl rfl (fun w c => columns_ok (c.own_rd (i := 2) rfl) om om) ?_; rintro v H' ⟨a1, c1, rfl, hs1, rfl⟩) | (refine m_call (ent_of Tryz.func218 kr rfl) rfl rfl (fun w c => fromColumns_ok (C := n) (rd_rows_drop (c.own_rd (i := 0) rfl) (by simp) om) (by simp) om om (drop_len colsF_len)) ?_; rintro v H' ⟨a3, c3, rfl, hs3, rfl⟩)
  refine c_nil (x_one (h_keep (fun w c => by exact c.sub sL) ?_))
  refine h_take 6 rfl kr kr kr (by exact y_slo tabs (lo := n) rfl rfl rfl rfl om) rfl (fun w c => by exact c.sub sL) ?_
  refine h_only 7 rfl kr ?_
  first | (refine m_call (ent_of Tryz.func251 kr rfl) rfl rfl (fun w c => columns_ok (c.own_rd (i := 2) rfl) om om) ?_; rintro v H' ⟨a1, c1, rfl, hs1, rfl⟩) | (refine m_call (ent_of Tryz.func218 kr rfl) rfl rfl (fun w c => fromColumns_ok (C := n) (rd_rows_drop (c.own_rd (i := 0) rfl) (by simp) om) (by simp) om om (drop_len colsF_len)) ?_; rintro v H' ⟨a3, c3, rfl, hs3, rfl⟩)
  refine c_nil (x_one (h_keep (fun w c => by exact c.sub sL) ?_))
  refine h_end kr ?_
  rw [show n + n - n = n by omega, inv_eq]
  repeat' (first | (show oL; first | (show oA (.store _ _ _); refine m_storeb 7 tabs rfl rfl rfl rfl rfl rfl rfl ?_)) | (show oN; refine c_nil (x_then ?_)) | (show oC; refine c_ret ?_))
  exact x_ret1 Tryz.results158 (res_cellb 7 tabs rfl rfl rfl rfl) (fun w' c' => ⟨_, _, rfl, ⟨a3, c3, rfl, hs3, rfl⟩, c'.sub (.cons_cons _ (List.nil_sublist _))⟩)
/-- which matrices have an inverse -/
def InvP (p : Int) (m : Mat) : Prop := MatP p m ∧ m.1 = m.2.1 ∧ ((redL p m).length : Int) = m.1
instance (p : Int) (m : Mat) : Decidable (InvP p m) := by unfold InvP; infer_instance
abbrev GivesMB (m : Mat) (b : Bool) (v : Value) (H : List HE) : Prop := ∃ a c, v = .tuple #[.agg #[iV m.1, iV m.2.1, .slice a m.2.2.length c], .bool b] ∧ SA a m.2.2.length ∧ H = [.own (iT m.2.2) (.slice a m.2.2.length c)]
theorem spec_IsInvertible_ok {w : World} {p : Int} {m : Mat} {u : Value} (hr : Rd w (iT m.2.2) u) :
    Does Tryz.prog 244 [iV p, .agg #[iV m.1, iV m.2.1, u]] w (fun v H => v = .bool (decide (InvP p m)) ∧ H = []) := by
  have hk : MatP p m → rankF p m = (redL p m).length := fun h => by rw [rankF, if_pos h]
  refine fn_enter Tryz.func244 rfl Tryz.ntmps244 rfl ?_
  repeat' (first | (show oL; first | (show oA (.assign _); refine st_y (y_assign rfl) rfl ?_) | (show oA (.box _ _); refine m_box rfl rfl (fun bq hbq => ?_))) | (show oN; refine c_nil (x_then ?_)) | (show oC; first | refine c_seq ?_ | refine c_region ?_ | refine c_ret ?_ | refine c_draw kr kr (fun _ c => Hp.drew c) ?_) | (show QT _ _ _ _ _ _ (_ :: _); first | (show qA (.move _); refine q_y (y_move rfl) rfl ?_) | (show qA (.assign _); refine q_y (y_assign rfl) rfl ?_) | (show qA (.fieldAddr _ _ _); refine q_y (y_field tabs rfl rfl rfl) rfl ?_) | (show qA (.load _ _); first | refine q_y (y_loadb 0 tabs rfl rfl rfl rfl) rfl ?_ | refine q_y (y_load tabs rfl rfl (hc_blk 0 rfl rfl)) rfl ?_) | (show qA (.binOp _ _ _ _ _); refine q_y (y_eql rfl rfl) rfl ?_) | (show qA (.call _); first | refine q_call (ent_of Tryz.func134 kr rfl) rfl rfl (fun w c => spec_IsMatrix_ok (m := m) (c.rd hr)) (fun u H' h => h.1) ?_ | refine q_call (ent_of Tryz.func163 kr rfl) rfl rfl (fun w c => spec_RankOf_ok (m := m) (c.rd hr)) (fun u H' h => h.1) ?_) | (show qA (.pick _ _ _); first | refine q_y (y_pickt rfl aS rfl) rfl ?_ | refine q_y (y_pickf rfl aS rfl) rfl ?_ | refine q_y (y_pick rfl rfl rfl) rfl ?_) | refine q_gn rfl rfl rfl ?_ | refine q_gdy rfl rfl aS ?_ | refine q_gdn rfl rfl aS rfl ?_ | refine q_gd rfl rfl (fun h => ?_) (fun h => ?_)) | (show QT _ _ _ _ _ _ []; refine q_nil (x_then ?_)))
  all_goals refine x_ret1 Tryz.results244 (res_tmp rfl) (fun w c => ⟨_, _, rfl, ⟨congrArg Value.bool ?_, rfl⟩, c.sub (List.nil_sublist _)⟩)
  all_goals first
    | (have hn : ¬ InvP p m := fun hi => by first | exact absurd hi.1 aS | exact absurd hi.2.1 aS
       simp [hn])
    | (have hM : MatP p m := by first | assumption | exact Decidable.not_not.1 aS
       rw [hk hM]
       have hsq : m.1 = m.2.1 := by omega
       simp [InvP, hM, hsq])
theorem l4Has_ok {w : World} {xs : List Int} {x : Int} {v : Value} (hr : Rd w (iT xs) v) :
    Does Tryz.prog 197 [v, iV x] w (fun v H => v = .bool (decide (x ∈ xs)) ∧ H = []) := by
  obtain ⟨a, c, rfl, hs, hc1, hc2, hget⟩ := hr.ints
  unfold maxLen at hc2
  refine fn_enter Tryz.func197 rfl Tryz.ntmps197 rfl ?_
  repeat' (first | (show oL; first | (show oA (.assign _); refine st_y (y_assign rfl) rfl ?_)) | (show oN; refine c_nil (x_then ?_)) | (show oC; first | refine c_seq ?_ | refine c_region ?_ | refine c_block ?_))
  refine c_loopH (α := Nat) [0, 1] (fun i => [(5, .int .i64 i)]) (fun i => i ≤ xs.length ∧ x ∉ xs.take i) (fun i => []) (fun i => xs.length - i) 0 rfl sB ?_ ?_ ?_
  · exact ⟨by omega, by simp⟩
  · exact fun w' c' => c'
  · rintro i ⟨hi, hn⟩
    by_cases hin : i < xs.length
    · have hx : xs[i]? = some (xs.getD i 0) := getD_some hin
      repeat' (first | (show oL; first | (show oA (.move _); refine st_y (y_move rfl) rfl ?_) | (show oA (.assign _); refine st_y (y_assign rfl) rfl ?_) | (show oA (.load _ _); refine st_y (y_load tabs rfl rfl (hc_w0 (hget i hin))) rfl ?_) | (show oA (.indexAddr _ _ _); refine st_y (y_ix1 tabs (j := i) rfl rfl rfl hs rfl hin) rfl ?_) | (show oA (.binOp _ _ _ _ _); first | refine st_y (y_add rfl rfl om) rfl ?_ | refine st_y (y_lss rfl rfl) rfl ?_ | refine st_y (y_eql rfl rfl) rfl ?_) | (show oA (.call _); refine st_y (y_len tabs rfl rfl) rfl ?_)) | (show oN; refine c_nil (x_then ?_)) | (show oC; first | refine c_seq ?_ | refine c_region ?_ | refine c_skip (x_then ?_) | refine c_skip (x_blk ?_) | refine c_block ?_ | refine c_ret ?_ | refine c_ift rfl aO ?_ | refine c_if rfl (fun h => ?_) (fun h => ?_)) | (show AT _ _ _ _; first | refine x_then ?_ | refine x_then_ret ?_ | refine x_blk_ret ?_))
      · refine x_ret1 Tryz.results197 (res_tmp rfl) (fun w c => ⟨_, _, rfl, ⟨congrArg Value.bool ?_, rfl⟩, c⟩)
        have : x ∈ xs := by rw [← h]; exact List.mem_of_getElem? hx
        simp [this]
      · refine x_nx (i + 1) sB ⟨by omega, ?_⟩ (fun w' c' => c') om
        rw [List.take_add_one, hx]
        simp only [Option.toList_some, List.mem_append, List.mem_singleton, not_or]
        exact ⟨hn, fun e => h e.symm⟩
    · repeat' (first | (show oL; first | (show oA (.move _); refine st_y (y_move rfl) rfl ?_) | (show oA (.assign _); refine st_y (y_assign rfl) rfl ?_) | (show oA (.binOp _ _ _ _ _); refine st_y (y_lss rfl rfl) rfl ?_) | (show oA (.call _); refine st_y (y_len tabs rfl rfl) rfl ?_)) | (show oN; refine c_nil (x_then ?_)) | (show oC; first | refine c_seq ?_ | refine c_region ?_ | refine c_ret ?_ | refine c_exit ?_ | refine c_iff rfl nN ?_) | (show AT _ _ _ _; first | refine x_then ?_ | refine x_then_exit ?_ | refine x_blk_exit rfl ?_))
      refine x_ret1 Tryz.results197 (res_tmp rfl) (fun w c => ⟨_, _, rfl, ⟨congrArg Value.bool ?_, rfl⟩, c⟩)
      rw [take_end om] at hn
      simp [hn]
end Go.Proofs.YtijjkfbkihgfgaaGreat
