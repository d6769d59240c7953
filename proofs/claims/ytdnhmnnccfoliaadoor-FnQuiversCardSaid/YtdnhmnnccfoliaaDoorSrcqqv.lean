import Derived.Test.YtdnhmnnccfoliaaDoorDuaqqv
import Derived.Test.YtdnhmnnccfoliaaDoorKerqqv
import Derived.Test.YtdnhmnnccfoliaaDoorOrsqqv
import Derived.Test.YtdnhmnnccfoliaaDoorPatqqv
import Derived.Test.YtdnhmnnccfoliaaDoorQscqqv
import Derived.Test.YtdnhmnnccfoliaaDoorZerqqv
namespace Go.Proofs.YtdnhmnnccfoliaaDoor
open Go.Lg Go.Proofs Go.RowKit
attribute [local irreducible] Code.wp wpList bodyPost Exit.then Exit.inBlock Hp Again Calls Y AT ResV QT Qn QI wpAny wpAnyQ
set_option maxRecDepth 20000
set_option maxHeartbeats 4000000

def oppR (q : Qv) : Qv := if QuivP q then opQ q else (0, [], [])
theorem impl_OppositeOf_ok {w : World} {q : Qv} {u u' : Value} (hu : Rd w (iT q.2.1) u) (hu' : Rd w (iT q.2.2) u') : Does Tryd.prog 14 [.agg #[iV q.1, u, u']] w (GivesQB (oppR q) (decide (QuivP q))) := by
  by_cases hQ : QuivP q
  · rw [oppR, if_pos hQ, decide_eq_true hQ]
    exact impl_OppositeOf_yes hu hu' hQ
  · rw [oppR, if_neg hQ, decide_eq_false hQ]
    refine fn_enter Tryd.func14 rfl Tryd.ntmps14 rfl ?_
    repeat' (first | (show oL; first | refine sAs rfl rfl ?_ | refine sLb 1 tabs rfl rfl rfl rfl rfl ?_ | (show oA (.unOp _ _ _); refine st_y (y_not rfl) rfl ?_) | (show oA (.call _); (refine m_call (ent_of Tryd.func13 kr rfl) rfl rfl (fun w c => impl_IsQuiver_ok (q := q) (c.rd hu) (c.rd hu')) ?_; rw [decide_eq_false hQ]; rintro v H' ⟨rfl, rfl⟩)) | (show oA (.store _ _ _); refine m_storeb 0 tabs rfl rfl rfl rfl rfl rfl rfl ?_) | (show oA (.box _ _); refine m_box rfl rfl (fun b1 hb1 => ?_)) | (show oA (.alloc _); refine m_alloc tabs rfl rfl (fun b2 hb2 => ?_)) | (show oA (.build _ _); refine st_y (y_bld0 bld_q0) rfl ?_)) | refine xNt ?_ | (show oC; first | refine c_seq ?_ | refine c_region ?_ | refine c_ret ?_ | refine c_true rfl ?_) | (show AT _ _ _ _; refine x_then_ret ?_))
    exact x_ret2 Tryd.results14 (res_cellb 0 tabs rfl rfl rfl rfl) (res_tmp rfl) (fun w' c' => ⟨_, _, rfl, ⟨none, 0, none, 0, rfl, .inl rfl, .inl rfl, rfl⟩, Hp.nilp _ _ (Hp.nilp _ _ (c'.sub (List.nil_sublist _)))⟩)
theorem spec_OppositeOf_ok {w : World} {q : Qv} {u u' : Value} (hu : Rd w (iT q.2.1) u) (hu' : Rd w (iT q.2.2) u') : Does Tryd.prog 15 [.agg #[iV q.1, u, u']] w (GivesQB (oppR q) (decide (QuivP q))) := by
  by_cases hQ : QuivP q
  · rw [oppR, if_pos hQ, decide_eq_true hQ]
    exact spec_OppositeOf_yes hu hu' hQ
  · rw [oppR, if_neg hQ, decide_eq_false hQ]
    refine fn_enter Tryd.func15 rfl Tryd.ntmps15 rfl ?_
    repeat' (first | (show oL; first | refine sAs rfl rfl ?_ | refine sLb 1 tabs rfl rfl rfl rfl rfl ?_ | (show oA (.unOp _ _ _); refine st_y (y_not rfl) rfl ?_) | (show oA (.call _); (refine m_call (ent_of Tryd.func11 kr rfl) rfl rfl (fun w c => spec_IsQuiver_ok (q := q) (c.rd hu) (c.rd hu')) ?_; rw [decide_eq_false hQ]; rintro v H' ⟨rfl, rfl⟩)) | (show oA (.store _ _ _); refine m_storeb 0 tabs rfl rfl rfl rfl rfl rfl rfl ?_) | (show oA (.box _ _); refine m_box rfl rfl (fun b1 hb1 => ?_)) | (show oA (.alloc _); refine m_alloc tabs rfl rfl (fun b2 hb2 => ?_)) | (show oA (.build _ _); refine st_y (y_bld0 bld_q0) rfl ?_)) | refine xNt ?_ | (show oC; first | refine c_seq ?_ | refine c_region ?_ | refine c_ret ?_ | refine c_true rfl ?_) | (show AT _ _ _ _; refine x_then_ret ?_))
    exact x_ret2 Tryd.results15 (res_cellb 0 tabs rfl rfl rfl rfl) (res_tmp rfl) (fun w' c' => ⟨_, _, rfl, ⟨none, 0, none, 0, rfl, .inl rfl, .inl rfl, rfl⟩, Hp.nilp _ _ (Hp.nilp _ _ (c'.sub (List.nil_sublist _)))⟩)
def srcL (q : Qv) : List Int := if QuivP q then freeN q.2.2 q.1.toNat else []
def snkL (q : Qv) : List Int := if QuivP q then freeN q.2.1 q.1.toNat else []
def GivesLq (l : List Int) (r : Value) (H : List HE) : Prop := ∃ a c, r = .slice a l.length c ∧ SA a l.length ∧ H = [.own (iT l) (.slice a l.length c)]
theorem src_iff {q : Qv} (hQ : QuivP q) {v : Int} : v ∈ srcL q ↔ (0 ≤ v ∧ v ≤ q.1 - 1) ∧ v ∉ q.2.2 := by
  have := hQ.1
  have h : ∀ (piv : List Int) (k : Nat), v ∈ freeN piv k ↔ (0 ≤ v ∧ v < k) ∧ v ∉ piv := by
    intro piv k
    induction k with
    | zero => simp only [freeN, List.not_mem_nil, false_iff]; omega
    | succ k ih =>
      rw [freeN]
      split
      · rename_i hk
        rw [ih]
        constructor
        · rintro ⟨h1, h2⟩; exact ⟨by omega, h2⟩
        · rintro ⟨h1, h2⟩
          exact ⟨⟨h1.1, by
            have : v ≠ (k : Int) := fun e => h2 (e ▸ hk)
            omega⟩, h2⟩
      · rename_i hk
        rw [List.mem_append, ih, List.mem_singleton]
        constructor
        · rintro (⟨h1, h2⟩ | rfl)
          · exact ⟨by omega, h2⟩
          · exact ⟨by omega, hk⟩
        · rintro ⟨h1, h2⟩
          by_cases e : v = (k : Int)
          · exact .inr e
          · exact .inl ⟨by omega, h2⟩
  rw [srcL, if_pos hQ, h]
  have e : ((q.1.toNat : Nat) : Int) = q.1 := Int.toNat_of_nonneg om
  constructor
  · rintro ⟨h1, h2⟩; exact ⟨by omega, h2⟩
  · rintro ⟨h1, h2⟩; exact ⟨by omega, h2⟩
theorem op_quiv {q : Qv} (h : QuivP q) : QuivP (opQ q) := ⟨h.1, by have := h.2.1; have := h.2.2.1; simp only [opQ]; omega, by have := h.2.2.1; simp only [opQ]; omega, h.2.2.2.2, h.2.2.2.1⟩
theorem snk_op {q : Qv} (h : QuivP q) : snkL (opQ q) = srcL q := by rw [snkL, if_pos (op_quiv h), srcL, if_pos h]; rfl
theorem src_op {q : Qv} (h : QuivP q) : srcL (opQ q) = snkL q := by rw [srcL, if_pos (op_quiv h), snkL, if_pos h]; rfl
theorem snk_iff {q : Qv} (hQ : QuivP q) {v : Int} : v ∈ snkL q ↔ (0 ≤ v ∧ v ≤ q.1 - 1) ∧ v ∉ q.2.1 := by
  rw [← src_op hQ, src_iff (op_quiv hQ)]; rfl
theorem impl_SourcesOf_ok {w : World} {q : Qv} {u0 u1 : Value} (h0 : Rd w (iT q.2.1) u0) (h1 : Rd w (iT q.2.2) u1) : Does Tryd.prog 17 [.agg #[iV q.1, u0, u1]] w (GivesLq (srcL q)) := by
  by_cases hQ : QuivP q
  · rw [srcL, if_pos hQ]
    obtain ⟨q1, F, T⟩ := q
    obtain ⟨n, rfl⟩ : ∃ n : Nat, q1 = n := ⟨q1.toNat, by have := hQ.1; omega⟩
    have hn5 : n ≤ 5 := by have := hQ.1; omega
    refine fn_enter Tryd.func17 rfl Tryd.ntmps17 rfl ?_
    repeat' (first | (show oL; first | refine sAs rfl rfl ?_ | refine sFd tabs rfl rfl rfl rfl ?_ | (show oA (.load _ _); first | refine sLd 0 tabs rfl rfl rfl rfl rfl ?_ | refine sLb 0 tabs rfl rfl rfl rfl rfl ?_) | (show oA (.unOp _ _ _); refine st_y (y_not rfl) rfl ?_) | (show oA (.call _); first | (refine m_call (ent_of Tryd.func13 kr rfl) rfl rfl (fun w c => impl_IsQuiver_ok (q := ((n : Int), F, T)) (c.rd h0) (c.rd h1)) ?_; rw [decide_eq_true hQ]; rintro v H' ⟨rfl, rfl⟩) | (refine m_call (ent_of Tryd.func48 kr rfl) rfl rfl (fun w c => freeColumns_ok (C := n) (piv := T) (c.rd h1) om) ?_; rintro v H' ⟨a, c, rfl, hs, rfl⟩)) | (show oA (.box _ _); refine m_box rfl rfl (fun b1 hb1 => ?_))) | refine xNt ?_ | (show oC; first | refine c_seq ?_ | refine c_region ?_ | refine c_skip (x_then ?_) | refine c_ret ?_ | refine c_false rfl ?_))
    exact x_ret1 Tryd.results17 (res_tmp rfl) (fun w' c' => ⟨_, _, rfl, ⟨a, c, rfl, hs, rfl⟩, c'.sub (.cons_cons _ (List.nil_sublist _))⟩)
  · rw [srcL, if_neg hQ]
    refine fn_enter Tryd.func17 rfl Tryd.ntmps17 rfl ?_
    repeat' (first | (show oL; first | refine sAs rfl rfl ?_ | refine sLb 0 tabs rfl rfl rfl rfl rfl ?_ | (show oA (.unOp _ _ _); refine st_y (y_not rfl) rfl ?_) | (show oA (.call _); (refine m_call (ent_of Tryd.func13 kr rfl) rfl rfl (fun w c => impl_IsQuiver_ok (q := q) (c.rd h0) (c.rd h1)) ?_; rw [decide_eq_false hQ]; rintro v H' ⟨rfl, rfl⟩)) | (show oA (.box _ _); refine m_box rfl rfl (fun b1 hb1 => ?_))) | refine xNt ?_ | (show oC; first | refine c_seq ?_ | refine c_region ?_ | refine c_ret ?_ | refine c_true rfl ?_) | (show AT _ _ _ _; refine x_then_ret ?_))
    exact x_ret1 Tryd.results17 (res_tmp rfl) (fun w' c' => ⟨_, _, rfl, ⟨none, 0, rfl, .inl rfl, rfl⟩, Hp.nilp _ _ (c'.sub (List.nil_sublist _))⟩)
theorem spec_SourcesOf_ok {w : World} {q : Qv} {u0 u1 : Value} (h0 : Rd w (iT q.2.1) u0) (h1 : Rd w (iT q.2.2) u1) : Does Tryd.prog 30 [.agg #[iV q.1, u0, u1]] w (GivesLq (srcL q)) := by
  by_cases hQ : QuivP q
  · rw [srcL, if_pos hQ]
    obtain ⟨q1, F, T⟩ := q
    obtain ⟨n, rfl⟩ : ∃ n : Nat, q1 = n := ⟨q1.toNat, by have := hQ.1; omega⟩
    have hn5 : n ≤ 5 := by have := hQ.1; omega
    simp only [Int.toNat_natCast] at h0 h1 ⊢
    refine fn_enter Tryd.func30 rfl Tryd.ntmps30 rfl ?_
    repeat' (first | (show oL; first | refine sAs rfl rfl ?_ | (show oA (.box _ _); refine m_box rfl rfl (fun b1 hb1 => ?_)) | (show oA (.buildSlice _ _ _); refine m_build0 tabs rfl rfl (fun gb hgb => ?_))) | refine xNt ?_ | (show oC; first | refine c_seq ?_ | refine c_region ?_ | refine c_block ?_))
    refine c_loopH (α := Nat × Option Addr × Nat) [1] (fun s => [(3, .slice s.2.1 (freeN T s.1).length s.2.2), (4, iV s.1)]) (fun s => s.1 ≤ n) (fun s => [.own (iT (freeN T s.1)) (.slice s.2.1 (freeN T s.1).length s.2.2), .blk b1 #[iV n, u0, u1] 26]) (fun s => n - s.1) (0, some ⟨gb, 0, none⟩, 0) rfl sB ?_ ?_ ?_
    · exact Nat.zero_le _
    · exact fun w' c' => c'
    · rintro ⟨t, ao, co⟩ ht
      simp only at ht ⊢
      have hfl := freeN_le T t
      by_cases htn : t < n
      · by_cases hm : (t : Int) ∈ T
        · repeat' (first | (show oL; first | refine sMv rfl rfl ?_ | refine sAs rfl rfl ?_ | refine sFd tabs rfl rfl rfl rfl ?_ | (show oA (.load _ _); first | refine sLd 1 tabs rfl rfl rfl rfl rfl ?_ | refine sLb 1 tabs rfl rfl rfl rfl rfl ?_) | (show oA (.binOp _ _ _ _ _); first | refine sAd rfl rfl om rfl ?_ | refine sLs rfl rfl rfl ?_) | (show oA (.unOp _ _ _); refine st_y (y_not rfl) rfl ?_) | (show oA (.call _); first | (refine m_call (ent_of Tryd.func11 kr rfl) rfl rfl (fun w c => spec_IsQuiver_ok (q := ((n : Int), F, T)) (c.rd h0) (c.rd h1)) ?_; rw [decide_eq_true hQ]; rintro v H' ⟨rfl, rfl⟩) | (refine m_call (ent_of Tryd.func51 kr rfl) rfl rfl (fun w c => l4Has_ok (xs := T) (x := (t : Int)) (c.rd h1)) ?_; rw [decide_eq_true hm]; rintro v H' ⟨rfl, rfl⟩)) | (show oA (.pick _ _ _); refine st_y (y_pickt rfl aO rfl) rfl ?_) | refine st_gdy rfl rfl aO ?_) | refine xNt ?_ | (show oC; first | refine c_seq ?_ | refine c_region ?_ | refine c_skip (x_then ?_) | refine c_skip (x_blk ?_) | refine c_block ?_ | refine c_true rfl ?_ | refine c_false rfl ?_) | (show AT _ _ _ _; refine x_then ?_))
          exact x_nx (t + 1, ao, co) (by rw [freeN_yes hm]; exact sB) (by simp only; omega) (fun w' c' => by simp only [freeN_yes hm]; exact c') (by simp only; omega)
        · repeat' (first | (show oL; first | refine sMv rfl rfl ?_ | refine sAs rfl rfl ?_ | refine sFd tabs rfl rfl rfl rfl ?_ | (show oA (.load _ _); first | refine sLd 1 tabs rfl rfl rfl rfl rfl ?_ | refine sLb 1 tabs rfl rfl rfl rfl rfl ?_) | (show oA (.binOp _ _ _ _ _); first | refine sAd rfl rfl om rfl ?_ | refine sLs rfl rfl rfl ?_) | (show oA (.unOp _ _ _); refine st_y (y_not rfl) rfl ?_) | (show oA (.call _); first | (refine m_call (ent_of Tryd.func11 kr rfl) rfl rfl (fun w c => spec_IsQuiver_ok (q := ((n : Int), F, T)) (c.rd h0) (c.rd h1)) ?_; rw [decide_eq_true hQ]; rintro v H' ⟨rfl, rfl⟩) | (refine m_call (ent_of Tryd.func51 kr rfl) rfl rfl (fun w c => l4Has_ok (xs := T) (x := (t : Int)) (c.rd h1)) ?_; rw [decide_eq_false hm]; rintro v H' ⟨rfl, rfl⟩) | refine m_pushi 0 tabs rfl rfl rfl rfl rfl om (fun a9 c9 => ?_)) | (show oA (.pick _ _ _); refine st_y (y_pickt rfl aO rfl) rfl ?_) | (show oA (.buildSlice _ _ _); refine m_build1 tabs (us := [iV t]) rfl rfl rfl rfl (by decide) rfl (fun g5 hg5 => ?_)) | refine st_gdy rfl rfl aO ?_) | (show oN; first | refine c_nil (x_then ?_) | refine c_nil ?_) | (show oC; first | refine c_seq ?_ | refine c_region ?_ | refine c_skip (x_then ?_) | refine c_block ?_ | refine c_true rfl ?_) | (show AT _ _ _ _; first | refine x_then ?_ | refine x_blk ?_))
          have el : (freeN T t).length + 1 = (freeN T (t + 1)).length := by rw [freeN_no hm, List.length_append, List.length_singleton]
          rw [el]
          exact x_nx (t + 1, a9, c9) sB (by simp only; omega) (fun w' c' => by simp only [freeN_no hm]; rw [freeN_no hm] at c'; exact c') (by simp only; omega)
      · have : t = n := by omega
        subst this
        refine AT.fact (own_sl 0 rfl) (fun hsl => ?_)
        obtain ⟨a4, c4, e4, hs4⟩ := hsl
        cases e4
        repeat' (first | (show oL; first | refine sMv rfl rfl ?_ | refine sAs rfl rfl ?_ | refine sFd tabs rfl rfl rfl rfl ?_ | refine sLd 1 tabs rfl rfl rfl rfl rfl ?_ | refine sLs rfl rfl rfl ?_ | (show oA (.pick _ _ _); refine st_y (y_pickf rfl aO rfl) rfl ?_) | refine st_gdn rfl rfl aO rfl ?_) | refine xNt ?_ | (show oC; first | refine c_seq ?_ | refine c_region ?_ | refine c_ret ?_ | refine c_exit ?_ | refine c_false rfl ?_) | (show AT _ _ _ _; first | refine x_then ?_ | refine x_then_exit ?_ | refine x_blk_exit rfl ?_))
        exact x_ret1 Tryd.results30 (res_tmp rfl) (fun w' c' => ⟨_, _, rfl, ⟨ao, co, rfl, hs4, rfl⟩, c'.sub (.cons_cons _ (List.nil_sublist _))⟩)
  · rw [srcL, if_neg hQ]
    refine fn_enter Tryd.func30 rfl Tryd.ntmps30 rfl ?_
    repeat' (first | (show oL; first | refine sAs rfl rfl ?_ | (show oA (.box _ _); refine m_box rfl rfl (fun b1 hb1 => ?_)) | (show oA (.buildSlice _ _ _); refine m_build0 tabs rfl rfl (fun gb hgb => ?_))) | refine xNt ?_ | (show oC; first | refine c_seq ?_ | refine c_region ?_ | refine c_block ?_))
    refine c_loopH (α := Nat) [1] (fun t => [(3, .slice (some ⟨gb, 0, none⟩) 0 0), (4, iV t)]) (fun t => t = 0) (fun t => [.own (iT []) (.slice (some ⟨gb, 0, none⟩) 0 0), .blk b1 #[iV q.1, u0, u1] 26]) (fun t => 0) 0 rfl sB ?_ ?_ ?_
    · rfl
    · exact fun w' c' => c'
    · rintro t rfl
      repeat' (first | (show oL; first | refine sMv rfl rfl ?_ | refine sAs rfl rfl ?_ | refine sFd tabs rfl rfl rfl rfl ?_ | (show oA (.load _ _); first | refine sLd 1 tabs rfl rfl rfl rfl rfl ?_ | refine sLb 1 tabs rfl rfl rfl rfl rfl ?_) | refine sLs rfl rfl rfl ?_ | (show oA (.call _); (refine m_call (ent_of Tryd.func11 kr rfl) rfl rfl (fun w c => spec_IsQuiver_ok (q := q) (c.rd h0) (c.rd h1)) ?_; rw [decide_eq_false hQ]; rintro v H' ⟨rfl, rfl⟩)) | (show oA (.pick _ _ _); first | refine st_y (y_pickt rfl aO rfl) rfl ?_ | refine st_y (y_pickf rfl aO rfl) rfl ?_) | refine st_gdy rfl rfl aO ?_ | refine st_gdn rfl rfl aO rfl ?_ | refine st_gd rfl rfl (fun h => ?_) (fun h => ?_)) | refine xNt ?_ | (show oC; first | refine c_seq ?_ | refine c_region ?_ | refine c_ret ?_ | refine c_exit ?_ | refine c_false rfl ?_) | (show AT _ _ _ _; first | refine x_then ?_ | refine x_then_exit ?_ | refine x_blk_exit rfl ?_))
      all_goals exact x_ret1 Tryd.results30 (res_tmp rfl) (fun w' c' => ⟨_, _, rfl, ⟨_, _, rfl, .inl rfl, rfl⟩, c'.sub (.cons_cons _ (List.nil_sublist _))⟩)
theorem impl_SinksOf_ok {w : World} {q : Qv} {u0 u1 : Value} (h0 : Rd w (iT q.2.1) u0) (h1 : Rd w (iT q.2.2) u1) : Does Tryd.prog 18 [.agg #[iV q.1, u0, u1]] w (GivesLq (snkL q)) := by
  by_cases hQ : QuivP q
  · rw [snkL, if_pos hQ]
    obtain ⟨q1, F, T⟩ := q
    obtain ⟨n, rfl⟩ : ∃ n : Nat, q1 = n := ⟨q1.toNat, by have := hQ.1; omega⟩
    have hn5 : n ≤ 5 := by have := hQ.1; omega
    refine fn_enter Tryd.func18 rfl Tryd.ntmps18 rfl ?_
    repeat' (first | (show oL; first | refine sAs rfl rfl ?_ | refine sFd tabs rfl rfl rfl rfl ?_ | (show oA (.load _ _); first | refine sLd 0 tabs rfl rfl rfl rfl rfl ?_ | refine sLb 0 tabs rfl rfl rfl rfl rfl ?_) | (show oA (.unOp _ _ _); refine st_y (y_not rfl) rfl ?_) | (show oA (.call _); first | (refine m_call (ent_of Tryd.func13 kr rfl) rfl rfl (fun w c => impl_IsQuiver_ok (q := ((n : Int), F, T)) (c.rd h0) (c.rd h1)) ?_; rw [decide_eq_true hQ]; rintro v H' ⟨rfl, rfl⟩) | (refine m_call (ent_of Tryd.func48 kr rfl) rfl rfl (fun w c => freeColumns_ok (C := n) (piv := F) (c.rd h0) om) ?_; rintro v H' ⟨a, c, rfl, hs, rfl⟩)) | (show oA (.box _ _); refine m_box rfl rfl (fun b1 hb1 => ?_))) | refine xNt ?_ | (show oC; first | refine c_seq ?_ | refine c_region ?_ | refine c_skip (x_then ?_) | refine c_ret ?_ | refine c_false rfl ?_))
    exact x_ret1 Tryd.results18 (res_tmp rfl) (fun w' c' => ⟨_, _, rfl, ⟨a, c, rfl, hs, rfl⟩, c'.sub (.cons_cons _ (List.nil_sublist _))⟩)
  · rw [snkL, if_neg hQ]
    refine fn_enter Tryd.func18 rfl Tryd.ntmps18 rfl ?_
    repeat' (first | (show oL; first | refine sAs rfl rfl ?_ | refine sLb 0 tabs rfl rfl rfl rfl rfl ?_ | (show oA (.unOp _ _ _); refine st_y (y_not rfl) rfl ?_) | (show oA (.call _); (refine m_call (ent_of Tryd.func13 kr rfl) rfl rfl (fun w c => impl_IsQuiver_ok (q := q) (c.rd h0) (c.rd h1)) ?_; rw [decide_eq_false hQ]; rintro v H' ⟨rfl, rfl⟩)) | (show oA (.box _ _); refine m_box rfl rfl (fun b1 hb1 => ?_))) | refine xNt ?_ | (show oC; first | refine c_seq ?_ | refine c_region ?_ | refine c_ret ?_ | refine c_true rfl ?_) | (show AT _ _ _ _; refine x_then_ret ?_))
    exact x_ret1 Tryd.results18 (res_tmp rfl) (fun w' c' => ⟨_, _, rfl, ⟨none, 0, rfl, .inl rfl, rfl⟩, Hp.nilp _ _ (c'.sub (List.nil_sublist _))⟩)
theorem spec_SinksOf_ok {w : World} {q : Qv} {u0 u1 : Value} (h0 : Rd w (iT q.2.1) u0) (h1 : Rd w (iT q.2.2) u1) : Does Tryd.prog 31 [.agg #[iV q.1, u0, u1]] w (GivesLq (snkL q)) := by
  by_cases hQ : QuivP q
  · rw [snkL, if_pos hQ]
    obtain ⟨q1, F, T⟩ := q
    obtain ⟨n, rfl⟩ : ∃ n : Nat, q1 = n := ⟨q1.toNat, by have := hQ.1; omega⟩
    have hn5 : n ≤ 5 := by have := hQ.1; omega
    simp only [Int.toNat_natCast] at h0 h1 ⊢
    refine fn_enter Tryd.func31 rfl Tryd.ntmps31 rfl ?_
    repeat' (first | (show oL; first | refine sAs rfl rfl ?_ | (show oA (.box _ _); refine m_box rfl rfl (fun b1 hb1 => ?_)) | (show oA (.buildSlice _ _ _); refine m_build0 tabs rfl rfl (fun gb hgb => ?_))) | refine xNt ?_ | (show oC; first | refine c_seq ?_ | refine c_region ?_ | refine c_block ?_))
    refine c_loopH (α := Nat × Option Addr × Nat) [1] (fun s => [(3, .slice s.2.1 (freeN F s.1).length s.2.2), (4, iV s.1)]) (fun s => s.1 ≤ n) (fun s => [.own (iT (freeN F s.1)) (.slice s.2.1 (freeN F s.1).length s.2.2), .blk b1 #[iV n, u0, u1] 26]) (fun s => n - s.1) (0, some ⟨gb, 0, none⟩, 0) rfl sB ?_ ?_ ?_
    · exact Nat.zero_le _
    · exact fun w' c' => c'
    · rintro ⟨t, ao, co⟩ ht
      simp only at ht ⊢
      have hfl := freeN_le F t
      by_cases htn : t < n
      · by_cases hm : (t : Int) ∈ F
        · repeat' (first | (show oL; first | refine sMv rfl rfl ?_ | refine sAs rfl rfl ?_ | refine sFd tabs rfl rfl rfl rfl ?_ | (show oA (.load _ _); first | refine sLd 1 tabs rfl rfl rfl rfl rfl ?_ | refine sLb 1 tabs rfl rfl rfl rfl rfl ?_) | (show oA (.binOp _ _ _ _ _); first | refine sAd rfl rfl om rfl ?_ | refine sLs rfl rfl rfl ?_) | (show oA (.unOp _ _ _); refine st_y (y_not rfl) rfl ?_) | (show oA (.call _); first | (refine m_call (ent_of Tryd.func11 kr rfl) rfl rfl (fun w c => spec_IsQuiver_ok (q := ((n : Int), F, T)) (c.rd h0) (c.rd h1)) ?_; rw [decide_eq_true hQ]; rintro v H' ⟨rfl, rfl⟩) | (refine m_call (ent_of Tryd.func51 kr rfl) rfl rfl (fun w c => l4Has_ok (xs := F) (x := (t : Int)) (c.rd h0)) ?_; rw [decide_eq_true hm]; rintro v H' ⟨rfl, rfl⟩)) | (show oA (.pick _ _ _); refine st_y (y_pickt rfl aO rfl) rfl ?_) | refine st_gdy rfl rfl aO ?_) | refine xNt ?_ | (show oC; first | refine c_seq ?_ | refine c_region ?_ | refine c_skip (x_then ?_) | refine c_skip (x_blk ?_) | refine c_block ?_ | refine c_true rfl ?_ | refine c_false rfl ?_) | (show AT _ _ _ _; refine x_then ?_))
          exact x_nx (t + 1, ao, co) (by rw [freeN_yes hm]; exact sB) (by simp only; omega) (fun w' c' => by simp only [freeN_yes hm]; exact c') (by simp only; omega)
        · repeat' (first | (show oL; first | refine sMv rfl rfl ?_ | refine sAs rfl rfl ?_ | refine sFd tabs rfl rfl rfl rfl ?_ | (show oA (.load _ _); first | refine sLd 1 tabs rfl rfl rfl rfl rfl ?_ | refine sLb 1 tabs rfl rfl rfl rfl rfl ?_) | (show oA (.binOp _ _ _ _ _); first | refine sAd rfl rfl om rfl ?_ | refine sLs rfl rfl rfl ?_) | (show oA (.unOp _ _ _); refine st_y (y_not rfl) rfl ?_) | (show oA (.call _); first | (refine m_call (ent_of Tryd.func11 kr rfl) rfl rfl (fun w c => spec_IsQuiver_ok (q := ((n : Int), F, T)) (c.rd h0) (c.rd h1)) ?_; rw [decide_eq_true hQ]; rintro v H' ⟨rfl, rfl⟩) | (refine m_call (ent_of Tryd.func51 kr rfl) rfl rfl (fun w c => l4Has_ok (xs := F) (x := (t : Int)) (c.rd h0)) ?_; rw [decide_eq_false hm]; rintro v H' ⟨rfl, rfl⟩) | refine m_pushi 0 tabs rfl rfl rfl rfl rfl om (fun a9 c9 => ?_)) | (show oA (.pick _ _ _); refine st_y (y_pickt rfl aO rfl) rfl ?_) | (show oA (.buildSlice _ _ _); refine m_build1 tabs (us := [iV t]) rfl rfl rfl rfl (by decide) rfl (fun g5 hg5 => ?_)) | refine st_gdy rfl rfl aO ?_) | (show oN; first | refine c_nil (x_then ?_) | refine c_nil ?_) | (show oC; first | refine c_seq ?_ | refine c_region ?_ | refine c_skip (x_then ?_) | refine c_block ?_ | refine c_true rfl ?_) | (show AT _ _ _ _; first | refine x_then ?_ | refine x_blk ?_))
          have el : (freeN F t).length + 1 = (freeN F (t + 1)).length := by rw [freeN_no hm, List.length_append, List.length_singleton]
          rw [el]
          exact x_nx (t + 1, a9, c9) sB (by simp only; omega) (fun w' c' => by simp only [freeN_no hm]; rw [freeN_no hm] at c'; exact c') (by simp only; omega)
      · have : t = n := by omega
        subst this
        refine AT.fact (own_sl 0 rfl) (fun hsl => ?_)
        obtain ⟨a4, c4, e4, hs4⟩ := hsl
        cases e4
        repeat' (first | (show oL; first | refine sMv rfl rfl ?_ | refine sAs rfl rfl ?_ | refine sFd tabs rfl rfl rfl rfl ?_ | refine sLd 1 tabs rfl rfl rfl rfl rfl ?_ | refine sLs rfl rfl rfl ?_ | (show oA (.pick _ _ _); refine st_y (y_pickf rfl aO rfl) rfl ?_) | refine st_gdn rfl rfl aO rfl ?_) | refine xNt ?_ | (show oC; first | refine c_seq ?_ | refine c_region ?_ | refine c_ret ?_ | refine c_exit ?_ | refine c_false rfl ?_) | (show AT _ _ _ _; first | refine x_then ?_ | refine x_then_exit ?_ | refine x_blk_exit rfl ?_))
        exact x_ret1 Tryd.results31 (res_tmp rfl) (fun w' c' => ⟨_, _, rfl, ⟨ao, co, rfl, hs4, rfl⟩, c'.sub (.cons_cons _ (List.nil_sublist _))⟩)
  · rw [snkL, if_neg hQ]
    refine fn_enter Tryd.func31 rfl Tryd.ntmps31 rfl ?_
    repeat' (first | (show oL; first | refine sAs rfl rfl ?_ | (show oA (.box _ _); refine m_box rfl rfl (fun b1 hb1 => ?_)) | (show oA (.buildSlice _ _ _); refine m_build0 tabs rfl rfl (fun gb hgb => ?_))) | refine xNt ?_ | (show oC; first | refine c_seq ?_ | refine c_region ?_ | refine c_block ?_))
    refine c_loopH (α := Nat) [1] (fun t => [(3, .slice (some ⟨gb, 0, none⟩) 0 0), (4, iV t)]) (fun t => t = 0) (fun t => [.own (iT []) (.slice (some ⟨gb, 0, none⟩) 0 0), .blk b1 #[iV q.1, u0, u1] 26]) (fun t => 0) 0 rfl sB ?_ ?_ ?_
    · rfl
    · exact fun w' c' => c'
    · rintro t rfl
      repeat' (first | (show oL; first | refine sMv rfl rfl ?_ | refine sAs rfl rfl ?_ | refine sFd tabs rfl rfl rfl rfl ?_ | (show oA (.load _ _); first | refine sLd 1 tabs rfl rfl rfl rfl rfl ?_ | refine sLb 1 tabs rfl rfl rfl rfl rfl ?_) | refine sLs rfl rfl rfl ?_ | (show oA (.call _); (refine m_call (ent_of Tryd.func11 kr rfl) rfl rfl (fun w c => spec_IsQuiver_ok (q := q) (c.rd h0) (c.rd h1)) ?_; rw [decide_eq_false hQ]; rintro v H' ⟨rfl, rfl⟩)) | (show oA (.pick _ _ _); first | refine st_y (y_pickt rfl aO rfl) rfl ?_ | refine st_y (y_pickf rfl aO rfl) rfl ?_) | refine st_gdy rfl rfl aO ?_ | refine st_gdn rfl rfl aO rfl ?_ | refine st_gd rfl rfl (fun h => ?_) (fun h => ?_)) | refine xNt ?_ | (show oC; first | refine c_seq ?_ | refine c_region ?_ | refine c_ret ?_ | refine c_exit ?_ | refine c_false rfl ?_) | (show AT _ _ _ _; first | refine x_then ?_ | refine x_then_exit ?_ | refine x_blk_exit rfl ?_))
      all_goals exact x_ret1 Tryd.results31 (res_tmp rfl) (fun w' c' => ⟨_, _, rfl, ⟨_, _, rfl, .inl rfl, rfl⟩, c'.sub (.cons_cons _ (List.nil_sublist _))⟩)
end Go.Proofs.YtdnhmnnccfoliaaDoor
