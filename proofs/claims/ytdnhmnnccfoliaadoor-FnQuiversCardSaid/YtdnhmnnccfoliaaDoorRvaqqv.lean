import Derived.Test.YtdnhmnnccfoliaaDoorOriqqv
import Derived.Test.YtdnhmnnccfoliaaDoorSrcqqv
namespace Go.Proofs.YtdnhmnnccfoliaaDoor
open Go.Lg Go.Proofs Go.RowKit
attribute [local irreducible] Code.wp wpList bodyPost Exit.then Exit.inBlock Hp Again Calls Y AT ResV QT Qn QI wpAny wpAnyQ
set_option maxRecDepth 20000
set_option maxHeartbeats 4000000

def RevP (q : Qv) (v : Int) : Prop := QuivP q ∧ (0 ≤ v ∧ v ≤ q.1 - 1) ∧ (v ∉ q.2.2 ∨ v ∉ q.2.1)
instance (q : Qv) (v : Int) : Decidable (RevP q v) := by unfold RevP; infer_instance
def rvG (v : Int) (F T : List Int) (k : Nat) (j : Nat) : Int := if j < k ∧ (F.getD j 0 = v ∨ T.getD j 0 = v) then T.getD j 0 else F.getD j 0
def revQ (q : Qv) (v : Int) : Qv := (q.1, mkv q.2.1.length (rvG v q.2.1 q.2.2 q.2.1.length), mkv q.2.1.length (rvG v q.2.2 q.2.1 q.2.1.length))
def revR (q : Qv) (v : Int) : Qv := if RevP q v then revQ q v else (0, [], [])
theorem rvg_zero {v : Int} {F T : List Int} {n : Nat} (h : F.length = n) : mkv n (rvG v F T 0) = F := by
  refine Eq.trans (mkv_ext (fun i hi => ?_)) (mkv_of h).symm
  unfold rvG
  rw [if_neg (fun k => absurd k.1 (Nat.not_lt_zero _))]
theorem rvg_yes {v : Int} {F T : List Int} {n i : Nat} (h : F.getD i 0 = v ∨ T.getD i 0 = v) : (mkv n (rvG v F T i)).set i (T.getD i 0) = mkv n (rvG v F T (i + 1)) := by
  rw [mkv_set]
  refine mkv_ext (fun j hj => ?_)
  unfold rvG
  by_cases e : j = i
  · subst e
    rw [if_pos rfl, if_pos ⟨by omega, h⟩]
  · rw [if_neg e]
    by_cases hl : j < i ∧ (F.getD j 0 = v ∨ T.getD j 0 = v)
    · rw [if_pos hl, if_pos ⟨by omega, hl.2⟩]
    · rw [if_neg hl, if_neg (fun k => hl ⟨by omega, k.2⟩)]
theorem rvg_no {v : Int} {F T : List Int} {n i : Nat} (h : ¬ (F.getD i 0 = v ∨ T.getD i 0 = v)) : mkv n (rvG v F T i) = mkv n (rvG v F T (i + 1)) := by
  refine mkv_ext (fun j hj => ?_)
  unfold rvG
  by_cases e : j = i
  · subst e
    rw [if_neg (fun k => h k.2), if_neg (fun k => h k.2)]
  · by_cases hl : j < i ∧ (F.getD j 0 = v ∨ T.getD j 0 = v)
    · rw [if_pos hl, if_pos ⟨by omega, hl.2⟩]
    · rw [if_neg hl, if_neg (fun k => hl ⟨by omega, k.2⟩)]
theorem rvg_all {v : Int} {F T : List Int} {n j : Nat} (h : j < n) : (mkv n (rvG v F T n)).getD j 0 = if F.getD j 0 = v ∨ T.getD j 0 = v then T.getD j 0 else F.getD j 0 := by
  rw [mkv_get h]
  unfold rvG
  by_cases e : F.getD j 0 = v ∨ T.getD j 0 = v
  · rw [if_pos ⟨h, e⟩, if_pos e]
  · rw [if_neg (fun k => e k.2), if_neg e]
theorem get_mem {l : List Int} {i : Nat} (h : i < l.length) : l.getD i 0 ∈ l := by
  rw [List.getD, List.getElem?_eq_getElem h]; exact List.getElem_mem h
theorem rev_mem {v : Int} {F T : List Int} (hl : T.length = F.length) {x : Int} (hx : x ∈ mkv F.length (rvG v F T F.length)) : x ∈ F ∨ x ∈ T := by
  simp only [mkv, List.mem_map, List.mem_range] at hx
  obtain ⟨j, hj, rfl⟩ := hx
  unfold rvG
  split
  · exact .inr (get_mem om)
  · exact .inl (get_mem hj)
theorem rev_quiv {q : Qv} (hQ : QuivP q) (v : Int) : QuivP (revQ q v) := by
  obtain ⟨h1, h6, hl, hF, hT⟩ := hQ
  refine ⟨h1, by simpa [revQ] using h6, by simp [revQ], fun x hx => ?_, fun x hx => ?_⟩
  · rcases rev_mem hl hx with h | h
    · exact hF x h
    · exact hT x h
  · have hx' : x ∈ mkv q.2.2.length (rvG v q.2.2 q.2.1 q.2.2.length) := by rw [hl]; exact hx
    rcases rev_mem hl.symm hx' with h | h
    · exact hT x h
    · exact hF x h
theorem rev_no {v : Int} {F T : List Int} (hl : T.length = F.length) (h : v ∉ T) : v ∉ mkv F.length (rvG v F T F.length) := by
  intro hx
  simp only [mkv, List.mem_map, List.mem_range] at hx
  obtain ⟨j, hj, e⟩ := hx
  unfold rvG at e
  split at e
  · exact h (e ▸ get_mem om)
  · rename_i hn
    exact hn ⟨hj, .inl e⟩
theorem rev_revP {q : Qv} {v : Int} (h : RevP q v) : RevP (revQ q v) v := by
  have hl := h.1.2.2.1
  refine ⟨rev_quiv h.1 v, h.2.1, ?_⟩
  rcases h.2.2 with h | h
  · exact .inr (rev_no hl h)
  · refine .inl ?_
    have := rev_no (v := v) (F := q.2.2) (T := q.2.1) hl.symm h
    rwa [hl] at this
theorem rev_back {F T : List Int} {v : Int} (hl : T.length = F.length) : mkv (mkv F.length (rvG v F T F.length)).length (rvG v (mkv F.length (rvG v F T F.length)) (mkv F.length (rvG v T F F.length)) (mkv F.length (rvG v F T F.length)).length) = F := by
  rw [mkv_length]
  refine Eq.trans (mkv_ext (fun i hi => ?_)) (mkv_of rfl).symm
  unfold rvG
  have e1 := rvg_all (v := v) (F := F) (T := T) hi
  have e2 := rvg_all (v := v) (F := T) (T := F) hi
  unfold rvG at e1 e2
  rw [e1, e2]
  by_cases h : F.getD i 0 = v ∨ T.getD i 0 = v
  · rw [if_pos h, if_pos h.symm, if_pos ⟨hi, h.symm⟩]
  · have h' : ¬ (T.getD i 0 = v ∨ F.getD i 0 = v) := fun k => h (Or.symm k)
    simp only [if_neg h, if_neg h']
    split
    · rename_i k
      exact absurd k.2 h
    · rfl
theorem rev_rev {q : Qv} {v : Int} (hQ : QuivP q) : revQ (revQ q v) v = q := by
  have hl := hQ.2.2.1
  obtain ⟨n, F, T⟩ := q
  simp only at hl
  have e1 := rev_back (F := F) (T := T) (v := v) hl
  have e2 := rev_back (F := T) (T := F) (v := v) hl.symm
  rw [hl] at e2
  simp only [revQ]
  rw [e1]
  rw [mkv_length] at e2 ⊢
  rw [e2]
theorem isSource_ok {w : World} {q : Qv} {v : Int} {u0 u1 : Value} (h0 : Rd w (iT q.2.1) u0) (h1 : Rd w (iT q.2.2) u1) : Does Tryd.prog 52 [.agg #[iV q.1, u0, u1], iV v] w (fun r H => r = .bool (decide (QuivP q ∧ (0 ≤ v ∧ v ≤ q.1 - 1) ∧ v ∉ q.2.2)) ∧ H = []) := by
  by_cases hQ : QuivP q
  · have hq := hQ.1
    by_cases hv : 0 ≤ v ∧ v ≤ q.1 - 1
    · by_cases hm : v ∈ q.2.2
      · rw [show decide (QuivP q ∧ (0 ≤ v ∧ v ≤ q.1 - 1) ∧ v ∉ q.2.2) = false from decide_eq_false (fun k => k.2.2 hm)]
        refine fn_enter Tryd.func52 rfl Tryd.ntmps52 rfl ?_
        repeat' (first | (show oL; first | refine sMv rfl rfl ?_ | refine sAs rfl rfl ?_ | refine sFd tabs rfl rfl rfl rfl ?_ | (show oA (.load _ _); first | refine sLd 0 tabs rfl rfl rfl rfl rfl ?_ | refine sLb 0 tabs rfl rfl rfl rfl rfl ?_) | (show oA (.unOp _ _ _); refine st_y (y_not rfl) rfl ?_) | (show oA (.call _); first | (refine m_call (ent_of Tryd.func13 kr rfl) rfl rfl (fun w c => impl_IsQuiver_ok (q := q) (c.rd h0) (c.rd h1)) ?_; rw [decide_eq_true hQ]; rintro v H' ⟨rfl, rfl⟩) | (refine m_call (ent_of Tryd.func67 kr rfl) rfl rfl (fun w c => hasVertex_ok (q := q) (v := v) om) ?_; rw [decide_eq_true hv]; rintro v H' ⟨rfl, rfl⟩) | (refine m_call (ent_of Tryd.func49 kr rfl) rfl rfl (fun w c => Contains_ok (x := v) (c.rd h1)) ?_; rw [decide_eq_true hm]; rintro v H' ⟨rfl, rfl⟩)) | (show oA (.pick _ _ _); refine st_y (y_pick rfl rfl rfl) rfl ?_) | (show oA (.box _ _); refine m_box rfl rfl (fun b1 hb1 => ?_)) | refine st_gy rfl rfl ?_) | refine xNt ?_ | (show oC; first | refine c_seq ?_ | refine c_region ?_ | refine c_ret ?_))
        exact x_ret1 Tryd.results52 (res_tmp rfl) (fun w' c' => ⟨_, _, rfl, ⟨rfl, rfl⟩, c'.sub (List.nil_sublist _)⟩)
      · rw [show decide (QuivP q ∧ (0 ≤ v ∧ v ≤ q.1 - 1) ∧ v ∉ q.2.2) = true from decide_eq_true ⟨hQ, hv, hm⟩]
        refine fn_enter Tryd.func52 rfl Tryd.ntmps52 rfl ?_
        repeat' (first | (show oL; first | refine sMv rfl rfl ?_ | refine sAs rfl rfl ?_ | refine sFd tabs rfl rfl rfl rfl ?_ | (show oA (.load _ _); first | refine sLd 0 tabs rfl rfl rfl rfl rfl ?_ | refine sLb 0 tabs rfl rfl rfl rfl rfl ?_) | (show oA (.unOp _ _ _); refine st_y (y_not rfl) rfl ?_) | (show oA (.call _); first | (refine m_call (ent_of Tryd.func13 kr rfl) rfl rfl (fun w c => impl_IsQuiver_ok (q := q) (c.rd h0) (c.rd h1)) ?_; rw [decide_eq_true hQ]; rintro v H' ⟨rfl, rfl⟩) | (refine m_call (ent_of Tryd.func67 kr rfl) rfl rfl (fun w c => hasVertex_ok (q := q) (v := v) om) ?_; rw [decide_eq_true hv]; rintro v H' ⟨rfl, rfl⟩) | (refine m_call (ent_of Tryd.func49 kr rfl) rfl rfl (fun w c => Contains_ok (x := v) (c.rd h1)) ?_; rw [decide_eq_false hm]; rintro v H' ⟨rfl, rfl⟩)) | (show oA (.pick _ _ _); refine st_y (y_pick rfl rfl rfl) rfl ?_) | (show oA (.box _ _); refine m_box rfl rfl (fun b1 hb1 => ?_)) | refine st_gy rfl rfl ?_) | refine xNt ?_ | (show oC; first | refine c_seq ?_ | refine c_region ?_ | refine c_ret ?_))
        exact x_ret1 Tryd.results52 (res_tmp rfl) (fun w' c' => ⟨_, _, rfl, ⟨rfl, rfl⟩, c'.sub (List.nil_sublist _)⟩)
    · rw [show decide (QuivP q ∧ (0 ≤ v ∧ v ≤ q.1 - 1) ∧ v ∉ q.2.2) = false from decide_eq_false (fun k => hv k.2.1)]
      refine fn_enter Tryd.func52 rfl Tryd.ntmps52 rfl ?_
      repeat' (first | (show oL; first | refine sMv rfl rfl ?_ | refine sAs rfl rfl ?_ | refine sLb 0 tabs rfl rfl rfl rfl rfl ?_ | (show oA (.call _); first | (refine m_call (ent_of Tryd.func13 kr rfl) rfl rfl (fun w c => impl_IsQuiver_ok (q := q) (c.rd h0) (c.rd h1)) ?_; rw [decide_eq_true hQ]; rintro v H' ⟨rfl, rfl⟩) | (refine m_call (ent_of Tryd.func67 kr rfl) rfl rfl (fun w c => hasVertex_ok (q := q) (v := v) om) ?_; rw [decide_eq_false hv]; rintro v H' ⟨rfl, rfl⟩)) | (show oA (.pick _ _ _); refine st_y (y_pick rfl rfl rfl) rfl ?_) | (show oA (.box _ _); refine m_box rfl rfl (fun b1 hb1 => ?_)) | refine st_gy rfl rfl ?_ | refine st_gn rfl rfl rfl ?_) | refine xNt ?_ | (show oC; first | refine c_seq ?_ | refine c_region ?_ | refine c_ret ?_))
      exact x_ret1 Tryd.results52 (res_tmp rfl) (fun w' c' => ⟨_, _, rfl, ⟨rfl, rfl⟩, c'.sub (List.nil_sublist _)⟩)
  · rw [show decide (QuivP q ∧ (0 ≤ v ∧ v ≤ q.1 - 1) ∧ v ∉ q.2.2) = false from decide_eq_false (fun k => hQ k.1)]
    refine fn_enter Tryd.func52 rfl Tryd.ntmps52 rfl ?_
    repeat' (first | (show oL; first | refine sMv rfl rfl ?_ | refine sAs rfl rfl ?_ | refine sLb 0 tabs rfl rfl rfl rfl rfl ?_ | (show oA (.call _); (refine m_call (ent_of Tryd.func13 kr rfl) rfl rfl (fun w c => impl_IsQuiver_ok (q := q) (c.rd h0) (c.rd h1)) ?_; rw [decide_eq_false hQ]; rintro v H' ⟨rfl, rfl⟩)) | (show oA (.pick _ _ _); refine st_y (y_pick rfl rfl rfl) rfl ?_) | (show oA (.box _ _); refine m_box rfl rfl (fun b1 hb1 => ?_)) | refine st_gn rfl rfl rfl ?_) | refine xNt ?_ | (show oC; first | refine c_seq ?_ | refine c_region ?_ | refine c_ret ?_))
    exact x_ret1 Tryd.results52 (res_tmp rfl) (fun w' c' => ⟨_, _, rfl, ⟨rfl, rfl⟩, c'.sub (List.nil_sublist _)⟩)
theorem isSink_ok {w : World} {q : Qv} {v : Int} {u0 u1 : Value} (h0 : Rd w (iT q.2.1) u0) (h1 : Rd w (iT q.2.2) u1) : Does Tryd.prog 53 [.agg #[iV q.1, u0, u1], iV v] w (fun r H => r = .bool (decide (QuivP q ∧ (0 ≤ v ∧ v ≤ q.1 - 1) ∧ v ∉ q.2.1)) ∧ H = []) := by
  by_cases hQ : QuivP q
  · have hq := hQ.1
    by_cases hv : 0 ≤ v ∧ v ≤ q.1 - 1
    · by_cases hm : v ∈ q.2.1
      · rw [show decide (QuivP q ∧ (0 ≤ v ∧ v ≤ q.1 - 1) ∧ v ∉ q.2.1) = false from decide_eq_false (fun k => k.2.2 hm)]
        refine fn_enter Tryd.func53 rfl Tryd.ntmps53 rfl ?_
        repeat' (first | (show oL; first | refine sMv rfl rfl ?_ | refine sAs rfl rfl ?_ | refine sFd tabs rfl rfl rfl rfl ?_ | (show oA (.load _ _); first | refine sLd 0 tabs rfl rfl rfl rfl rfl ?_ | refine sLb 0 tabs rfl rfl rfl rfl rfl ?_) | (show oA (.unOp _ _ _); refine st_y (y_not rfl) rfl ?_) | (show oA (.call _); first | (refine m_call (ent_of Tryd.func13 kr rfl) rfl rfl (fun w c => impl_IsQuiver_ok (q := q) (c.rd h0) (c.rd h1)) ?_; rw [decide_eq_true hQ]; rintro v H' ⟨rfl, rfl⟩) | (refine m_call (ent_of Tryd.func67 kr rfl) rfl rfl (fun w c => hasVertex_ok (q := q) (v := v) om) ?_; rw [decide_eq_true hv]; rintro v H' ⟨rfl, rfl⟩) | (refine m_call (ent_of Tryd.func49 kr rfl) rfl rfl (fun w c => Contains_ok (x := v) (c.rd h0)) ?_; rw [decide_eq_true hm]; rintro v H' ⟨rfl, rfl⟩)) | (show oA (.pick _ _ _); refine st_y (y_pick rfl rfl rfl) rfl ?_) | (show oA (.box _ _); refine m_box rfl rfl (fun b1 hb1 => ?_)) | refine st_gy rfl rfl ?_) | refine xNt ?_ | (show oC; first | refine c_seq ?_ | refine c_region ?_ | refine c_ret ?_))
        exact x_ret1 Tryd.results53 (res_tmp rfl) (fun w' c' => ⟨_, _, rfl, ⟨rfl, rfl⟩, c'.sub (List.nil_sublist _)⟩)
      · rw [show decide (QuivP q ∧ (0 ≤ v ∧ v ≤ q.1 - 1) ∧ v ∉ q.2.1) = true from decide_eq_true ⟨hQ, hv, hm⟩]
        refine fn_enter Tryd.func53 rfl Tryd.ntmps53 rfl ?_
        repeat' (first | (show oL; first | refine sMv rfl rfl ?_ | refine sAs rfl rfl ?_ | refine sFd tabs rfl rfl rfl rfl ?_ | (show oA (.load _ _); first | refine sLd 0 tabs rfl rfl rfl rfl rfl ?_ | refine sLb 0 tabs rfl rfl rfl rfl rfl ?_) | (show oA (.unOp _ _ _); refine st_y (y_not rfl) rfl ?_) | (show oA (.call _); first | (refine m_call (ent_of Tryd.func13 kr rfl) rfl rfl (fun w c => impl_IsQuiver_ok (q := q) (c.rd h0) (c.rd h1)) ?_; rw [decide_eq_true hQ]; rintro v H' ⟨rfl, rfl⟩) | (refine m_call (ent_of Tryd.func67 kr rfl) rfl rfl (fun w c => hasVertex_ok (q := q) (v := v) om) ?_; rw [decide_eq_true hv]; rintro v H' ⟨rfl, rfl⟩) | (refine m_call (ent_of Tryd.func49 kr rfl) rfl rfl (fun w c => Contains_ok (x := v) (c.rd h0)) ?_; rw [decide_eq_false hm]; rintro v H' ⟨rfl, rfl⟩)) | (show oA (.pick _ _ _); refine st_y (y_pick rfl rfl rfl) rfl ?_) | (show oA (.box _ _); refine m_box rfl rfl (fun b1 hb1 => ?_)) | refine st_gy rfl rfl ?_) | refine xNt ?_ | (show oC; first | refine c_seq ?_ | refine c_region ?_ | refine c_ret ?_))
        exact x_ret1 Tryd.results53 (res_tmp rfl) (fun w' c' => ⟨_, _, rfl, ⟨rfl, rfl⟩, c'.sub (List.nil_sublist _)⟩)
    · rw [show decide (QuivP q ∧ (0 ≤ v ∧ v ≤ q.1 - 1) ∧ v ∉ q.2.1) = false from decide_eq_false (fun k => hv k.2.1)]
      refine fn_enter Tryd.func53 rfl Tryd.ntmps53 rfl ?_
      repeat' (first | (show oL; first | refine sMv rfl rfl ?_ | refine sAs rfl rfl ?_ | refine sLb 0 tabs rfl rfl rfl rfl rfl ?_ | (show oA (.call _); first | (refine m_call (ent_of Tryd.func13 kr rfl) rfl rfl (fun w c => impl_IsQuiver_ok (q := q) (c.rd h0) (c.rd h1)) ?_; rw [decide_eq_true hQ]; rintro v H' ⟨rfl, rfl⟩) | (refine m_call (ent_of Tryd.func67 kr rfl) rfl rfl (fun w c => hasVertex_ok (q := q) (v := v) om) ?_; rw [decide_eq_false hv]; rintro v H' ⟨rfl, rfl⟩)) | (show oA (.pick _ _ _); refine st_y (y_pick rfl rfl rfl) rfl ?_) | (show oA (.box _ _); refine m_box rfl rfl (fun b1 hb1 => ?_)) | refine st_gy rfl rfl ?_ | refine st_gn rfl rfl rfl ?_) | refine xNt ?_ | (show oC; first | refine c_seq ?_ | refine c_region ?_ | refine c_ret ?_))
      exact x_ret1 Tryd.results53 (res_tmp rfl) (fun w' c' => ⟨_, _, rfl, ⟨rfl, rfl⟩, c'.sub (List.nil_sublist _)⟩)
  · rw [show decide (QuivP q ∧ (0 ≤ v ∧ v ≤ q.1 - 1) ∧ v ∉ q.2.1) = false from decide_eq_false (fun k => hQ k.1)]
    refine fn_enter Tryd.func53 rfl Tryd.ntmps53 rfl ?_
    repeat' (first | (show oL; first | refine sMv rfl rfl ?_ | refine sAs rfl rfl ?_ | refine sLb 0 tabs rfl rfl rfl rfl rfl ?_ | (show oA (.call _); (refine m_call (ent_of Tryd.func13 kr rfl) rfl rfl (fun w c => impl_IsQuiver_ok (q := q) (c.rd h0) (c.rd h1)) ?_; rw [decide_eq_false hQ]; rintro v H' ⟨rfl, rfl⟩)) | (show oA (.pick _ _ _); refine st_y (y_pick rfl rfl rfl) rfl ?_) | (show oA (.box _ _); refine m_box rfl rfl (fun b1 hb1 => ?_)) | refine st_gn rfl rfl rfl ?_) | refine xNt ?_ | (show oC; first | refine c_seq ?_ | refine c_region ?_ | refine c_ret ?_))
    exact x_ret1 Tryd.results53 (res_tmp rfl) (fun w' c' => ⟨_, _, rfl, ⟨rfl, rfl⟩, c'.sub (List.nil_sublist _)⟩)
end Go.Proofs.YtdnhmnnccfoliaaDoor
