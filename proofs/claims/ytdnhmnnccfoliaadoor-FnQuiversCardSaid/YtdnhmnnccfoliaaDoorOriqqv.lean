import Derived.Test.YtdnhmnnccfoliaaDoorDuaqqv
import Derived.Test.YtdnhmnnccfoliaaDoorKerqqv
import Derived.Test.YtdnhmnnccfoliaaDoorOrsqqv
namespace Go.Lg
open Go.RowKit
theorem y_eqlin {P : Program} {n : Nat} {C : World → Prop} {s : List (Nat × Value)} {x y : Operand} {p q : Int} {t t' ty : Nat} (hx : ev s x = some (.int .i64 p)) (hy : ev s y = some (.int .i64 q)) (h : ¬ p = q) : Y P n C s (.binOp .eql t x y t') ty (.bool false) := by
  have := y_eql (P := P) (n := n) (C := C) (s := s) (t := t) (t' := t') (ty := ty) hx hy
  rwa [decide_eq_false h] at this
theorem y_eqlie {P : Program} {n : Nat} {C : World → Prop} {s : List (Nat × Value)} {x y : Operand} {p q : Int} {t t' ty : Nat} (hx : ev s x = some (.int .i64 p)) (hy : ev s y = some (.int .i64 q)) (h : p = q) : Y P n C s (.binOp .eql t x y t') ty (.bool true) := by
  have := y_eql (P := P) (n := n) (C := C) (s := s) (t := t) (t' := t') (ty := ty) hx hy
  rwa [decide_eq_true h] at this
end Go.Lg
namespace Go.Proofs.YtdnhmnnccfoliaaDoor
open Go.Lg Go.Proofs Go.RowKit
attribute [local irreducible] Code.wp wpList bodyPost Exit.then Exit.inBlock Hp Again Calls Y AT ResV QT Qn QI wpAny wpAnyQ
set_option maxRecDepth 20000
set_option maxHeartbeats 4000000

theorem isReady_ok {w : World} {q : Qv} {ts : List Int} {v : Int} {u0 u1 ut : Value} (h0 : Rd w (iT q.2.1) u0) (h1 : Rd w (iT q.2.2) u1) (ht : Rd w (iT ts) ut) (hFT : q.2.2.length = q.2.1.length) :
    Does Tryd.prog 50 [.agg #[iV q.1, u0, u1], iV v, ut] w (fun r H => r = .bool (decide (∀ i, i < q.2.2.length → q.2.2.getD i 0 = v → q.2.1.getD i 0 ∈ ts)) ∧ H = []) := by
  obtain ⟨n, F, T⟩ := q
  simp only at h0 h1 hFT ⊢
  obtain ⟨a0, c0, rfl, hs0, _, hm0, hg0⟩ := h0.ints
  obtain ⟨a1, c1, rfl, hs1, hc1, hm1, hg1⟩ := h1.ints
  have hT6 : T.length ≤ 9223372036854775807 := by unfold maxLen at hm1; omega
  refine fn_enter Tryd.func50 rfl Tryd.ntmps50 rfl ?_
  repeat' (first | (show oL; first | refine sMv rfl rfl ?_ | refine sAs rfl rfl ?_ | refine sFd tabs rfl rfl rfl rfl ?_ | refine sLd 0 tabs rfl rfl rfl rfl rfl ?_ | refine sLn tabs rfl rfl rfl ?_ | (show oA (.box _ _); refine m_box rfl rfl (fun b hb => ?_))) | refine xNt ?_ | (show oC; first | refine c_seq ?_ | refine c_region ?_ | refine c_block ?_))
  refine c_loopH (α := Nat) [1, 2, 3, 10, 11] (fun i => [(12, iV i)]) (fun i => i ≤ T.length ∧ (∀ j, j < i → T.getD j 0 = v → F.getD j 0 ∈ ts)) (fun i => [.blk b #[iV n, .slice a0 F.length c0, .slice a1 T.length c1] 26]) (fun i => T.length - i) 0 rfl sB ?_ ?_ ?_
  · exact ⟨Nat.zero_le _, fun j hj => absurd hj (Nat.not_lt_zero _)⟩
  · exact fun w' c' => c'
  · rintro i ⟨hi, ha⟩
    by_cases hin : i < T.length
    · have hif : i < F.length := by omega
      by_cases hv : T.getD i 0 = v
      · by_cases hf : F.getD i 0 ∈ ts
        · repeat' (first | (show oL; first | refine sMv rfl rfl ?_ | refine sAs rfl rfl ?_ | refine sFd tabs rfl rfl rfl rfl ?_ | (show oA (.load _ _); first | refine st_y (y_load tabs rfl rfl (hc_w0 (hg1 i hin))) rfl ?_ | refine st_y (y_load tabs rfl rfl (hc_w0 (hg0 i hif))) rfl ?_ | refine sLd 0 tabs rfl rfl rfl rfl rfl ?_) | (show oA (.indexAddr _ _ _); first | refine st_y (y_ix1 tabs (j := i) rfl rfl rfl hs1 rfl hin) rfl ?_ | refine st_y (y_ix1 tabs (j := i) rfl rfl rfl hs0 rfl hif) rfl ?_) | (show oA (.binOp _ _ _ _ _); first | refine st_y (y_eqlie rfl rfl hv) rfl ?_ | refine sAd rfl rfl om rfl ?_ | refine sLs rfl rfl rfl ?_) | (show oA (.unOp _ _ _); refine st_y (y_not rfl) rfl ?_) | (show oA (.call _); (refine m_call (ent_of Tryd.func49 kr rfl) rfl rfl (fun w c => Contains_ok (xs := ts) (x := F.getD i 0) (c.rd ht)) ?_; rw [decide_eq_true hf]; rintro v H' ⟨rfl, rfl⟩)) | (show oA (.pick _ _ _); refine st_y (y_pick rfl rfl rfl) rfl ?_) | refine st_gy rfl rfl ?_) | refine xNt ?_ | (show oC; first | refine c_seq ?_ | refine c_region ?_ | refine c_skip (x_then ?_) | refine c_skip (x_blk ?_) | refine c_block ?_ | refine c_false rfl ?_ | refine c_ift rfl aO ?_) | (show AT _ _ _ _; refine x_then ?_))
          exact x_nx (i + 1) sB ⟨by omega, fun j hj e => by
            by_cases hji : j = i
            · subst hji; exact hf
            · exact ha j om e⟩ (fun w' c' => c') om
        · repeat' (first | (show oL; first | refine sMv rfl rfl ?_ | refine sAs rfl rfl ?_ | refine sFd tabs rfl rfl rfl rfl ?_ | (show oA (.load _ _); first | refine st_y (y_load tabs rfl rfl (hc_w0 (hg1 i hin))) rfl ?_ | refine st_y (y_load tabs rfl rfl (hc_w0 (hg0 i hif))) rfl ?_ | refine sLd 0 tabs rfl rfl rfl rfl rfl ?_) | (show oA (.indexAddr _ _ _); first | refine st_y (y_ix1 tabs (j := i) rfl rfl rfl hs1 rfl hin) rfl ?_ | refine st_y (y_ix1 tabs (j := i) rfl rfl rfl hs0 rfl hif) rfl ?_) | (show oA (.binOp _ _ _ _ _); first | refine st_y (y_eqlie rfl rfl hv) rfl ?_ | refine sLs rfl rfl rfl ?_) | (show oA (.unOp _ _ _); refine st_y (y_not rfl) rfl ?_) | (show oA (.call _); (refine m_call (ent_of Tryd.func49 kr rfl) rfl rfl (fun w c => Contains_ok (xs := ts) (x := F.getD i 0) (c.rd ht)) ?_; rw [decide_eq_false hf]; rintro v H' ⟨rfl, rfl⟩)) | (show oA (.pick _ _ _); refine st_y (y_pick rfl rfl rfl) rfl ?_) | refine st_gy rfl rfl ?_) | refine xNt ?_ | (show oC; first | refine c_seq ?_ | refine c_region ?_ | refine c_skip (x_then ?_) | refine c_block ?_ | refine c_ret ?_ | refine c_true rfl ?_ | refine c_ift rfl aO ?_) | (show AT _ _ _ _; first | refine x_then_ret ?_ | refine x_blk_ret ?_))
          have eN : decide (∀ i, i < T.length → T.getD i 0 = v → F.getD i 0 ∈ ts) = false := decide_eq_false (fun k => hf (k i hin hv))
          rw [eN]
          exact x_ret1 Tryd.results50 (res_tmp rfl) (fun w' c' => ⟨_, _, rfl, ⟨rfl, rfl⟩, c'.sub (List.nil_sublist _)⟩)
      · repeat' (first | (show oL; first | refine sMv rfl rfl ?_ | refine sAs rfl rfl ?_ | (show oA (.load _ _); refine st_y (y_load tabs rfl rfl (hc_w0 (hg1 i hin))) rfl ?_) | (show oA (.indexAddr _ _ _); refine st_y (y_ix1 tabs (j := i) rfl rfl rfl hs1 rfl hin) rfl ?_) | (show oA (.binOp _ _ _ _ _); first | refine st_y (y_eqlin rfl rfl hv) rfl ?_ | refine sAd rfl rfl om rfl ?_ | refine sLs rfl rfl rfl ?_) | (show oA (.pick _ _ _); refine st_y (y_pick rfl rfl rfl) rfl ?_) | refine st_gn rfl rfl rfl ?_) | refine xNt ?_ | (show oC; first | refine c_seq ?_ | refine c_region ?_ | refine c_skip (x_then ?_) | refine c_skip (x_blk ?_) | refine c_block ?_ | refine c_false rfl ?_ | refine c_ift rfl aO ?_) | (show AT _ _ _ _; refine x_then ?_))
        exact x_nx (i + 1) sB ⟨by omega, fun j hj e => by
          by_cases hji : j = i
          · subst hji; exact absurd e hv
          · exact ha j om e⟩ (fun w' c' => c') om
    · have : i = T.length := by omega
      subst this
      repeat' (first | (show oL; first | refine sAs rfl rfl ?_ | refine sLs rfl rfl rfl ?_) | refine xNt ?_ | (show oC; first | refine c_seq ?_ | refine c_region ?_ | refine c_ret ?_ | refine c_exit ?_ | refine c_iff rfl nN ?_) | (show AT _ _ _ _; first | refine x_then ?_ | refine x_then_exit ?_ | refine x_blk_exit rfl ?_))
      rw [decide_eq_true ha]
      exact x_ret1 Tryd.results50 (res_tmp rfl) (fun w' c' => ⟨_, _, rfl, ⟨rfl, rfl⟩, c'.sub (List.nil_sublist _)⟩)
theorem impl_OrderOf_ok {w : World} {q : Qv} {u0 u1 : Value} (h0 : Rd w (iT q.2.1) u0) (h1 : Rd w (iT q.2.2) u1) : Does Tryd.prog 19 [.agg #[iV q.1, u0, u1]] w (GivesIB (ordL q) (decide (OrdP q))) := by
  by_cases hQ : QuivP q
  · obtain ⟨q1, F, T⟩ := q
    obtain ⟨n, rfl⟩ : ∃ n : Nat, q1 = n := ⟨q1.toNat, by have := hQ.1; omega⟩
    have hn5 : n ≤ 5 := by have := hQ.1; omega
    have hn1 : 1 ≤ n := by have := hQ.1; omega
    have hFT : T.length = F.length := hQ.2.2.1
    have eO : ordL ((n : Int), F, T) = (ordN ((n : Int), F, T) n n).getD [] := by rw [ordL, if_pos hQ]; rfl
    have eP : decide (OrdP ((n : Int), F, T)) = (ordN ((n : Int), F, T) n n).isSome := by
      cases h : (ordN ((n : Int), F, T) n n).isSome with
      | true => exact decide_eq_true ⟨hQ, h⟩
      | false => exact decide_eq_false (fun k => by have := k.2; rw [show ((n : Int), F, T).1.toNat = n from rfl, h] at this; cases this)
    rw [eO, eP]
    simp only at h0 h1
    obtain ⟨a0, c0, rfl, hs0, _, hm0, hg0⟩ := h0.ints
    obtain ⟨a1, c1, rfl, hs1, _, hm1, hg1⟩ := h1.ints
    refine fn_enter Tryd.func19 rfl Tryd.ntmps19 rfl ?_
    repeat' (first | (show oL; first | refine sAs rfl rfl ?_ | refine sLb 0 tabs rfl rfl rfl rfl rfl ?_ | (show oA (.unOp _ _ _); refine st_y (y_not rfl) rfl ?_) | (show oA (.call _); (refine m_call (ent_of Tryd.func13 kr rfl) rfl rfl (fun w c => impl_IsQuiver_ok (q := ((n : Int), F, T)) (c.rd h0) (c.rd h1)) ?_; rw [decide_eq_true hQ]; rintro v H' ⟨rfl, rfl⟩)) | (show oA (.box _ _); refine m_box rfl rfl (fun b hb => ?_))) | refine xNt ?_ | (show oC; first | refine c_seq ?_ | refine c_region ?_ | refine c_skip (x_then ?_) | refine c_block ?_ | refine c_false rfl ?_))
    refine c_loopH (α := Nat × List Int × Option Addr × Nat) [1] (fun s => [(4, .slice s.2.2.1 s.1 s.2.2.2)]) (fun s => (s.1 ≤ n ∧ s.2.1.length = s.1) ∧ ordN ((n : Int), F, T) n s.1 = some s.2.1) (fun s => [.own (iT s.2.1) (.slice s.2.2.1 s.1 s.2.2.2), .blk b #[iV n, .slice a0 F.length c0, .slice a1 T.length c1] 26]) (fun s => n - s.1) (0, [], none, 0) rfl sB ?_ ?_ ?_
    · exact ⟨⟨Nat.zero_le _, rfl⟩, rfl⟩
    · exact fun w' c' => Hp.nilp _ _ c'
    · rintro ⟨t, out, ao, co⟩ ⟨⟨ht, hol⟩, hor⟩
      simp only at ht hol hor ⊢
      by_cases htn : t < n
      · repeat' (first | (show oL; first | refine sMv rfl rfl ?_ | refine sAs rfl rfl ?_ | refine sFd tabs rfl rfl rfl rfl ?_ | refine sLd 1 tabs rfl rfl rfl rfl rfl ?_ | (show oA (.binOp _ _ _ _ _); first | refine st_y (y_sub rfl rfl om) rfl ?_ | refine sLs rfl rfl rfl ?_) | refine sLn tabs rfl rfl rfl ?_) | refine xNt ?_ | (show oC; first | refine c_seq ?_ | refine c_region ?_ | refine c_skip (x_then ?_) | refine c_block ?_ | refine c_ift rfl aO ?_))
        refine c_loopH (α := Nat) [1, 4] (fun j => [(5, iV (bst ((n : Int), F, T) out n j)), (6, iV ((n : Int) - 1 - j))]) (fun j => j ≤ n) (fun j => [.own (iT out) (.slice ao t co), .blk b #[iV n, .slice a0 F.length c0, .slice a1 T.length c1] 26]) (fun j => n - j) 0 rfl sB ?_ ?_ ?_
        · exact Nat.zero_le _
        · exact fun w' c' => c'
        · intro j hj
          by_cases hjn : j < n
          · by_cases hm : (n : Int) - 1 - j ∈ out
            · have hr : ¬ Rdy ((n : Int), F, T) out ((n : Int) - 1 - j) := fun k => k.1 hm
              repeat' (first | (show oL; first | refine sMv rfl rfl ?_ | refine sAs rfl rfl ?_ | (show oA (.binOp _ _ _ _ _); first | refine st_y (y_sub rfl rfl om) rfl ?_ | refine st_y (y_geq rfl rfl) rfl ?_) | (show oA (.unOp _ _ _); refine st_y (y_not rfl) rfl ?_) | (show oA (.call _); (refine m_call (ent_of Tryd.func49 kr rfl) rfl rfl (fun w c => Contains_ok (xs := out) (x := (n : Int) - 1 - j) (c.own_rd (i := 0) rfl)) ?_; rw [decide_eq_true hm]; rintro v H' ⟨rfl, rfl⟩)) | (show oA (.pick _ _ _); refine st_y (y_pick rfl rfl rfl) rfl ?_) | refine st_gn rfl rfl rfl ?_) | refine xNt ?_ | (show oC; first | refine c_seq ?_ | refine c_region ?_ | refine c_skip (x_then ?_) | refine c_skip (x_blk ?_) | refine c_block ?_ | refine c_false rfl ?_ | refine c_ift rfl aO ?_) | (show AT _ _ _ _; refine x_then ?_))
              exact x_nx (j + 1) (by rw [bst, if_neg hr]; exact sB) om (fun w' c' => c') om
            · by_cases hR : ∀ i, i < T.length → T.getD i 0 = (n : Int) - 1 - j → F.getD i 0 ∈ out
              · have hr : Rdy ((n : Int), F, T) out ((n : Int) - 1 - j) := ⟨hm, hR⟩
                repeat' (first | (show oL; first | refine sMv rfl rfl ?_ | refine sAs rfl rfl ?_ | refine sLb 1 tabs rfl rfl rfl rfl rfl ?_ | (show oA (.binOp _ _ _ _ _); first | refine st_y (y_sub rfl rfl om) rfl ?_ | refine st_y (y_geq rfl rfl) rfl ?_) | (show oA (.unOp _ _ _); refine st_y (y_not rfl) rfl ?_) | (show oA (.call _); first | (refine m_call (ent_of Tryd.func49 kr rfl) rfl rfl (fun w c => Contains_ok (xs := out) (x := (n : Int) - 1 - j) (c.own_rd (i := 0) rfl)) ?_; rw [decide_eq_false hm]; rintro v H' ⟨rfl, rfl⟩) | (refine m_call (ent_of Tryd.func50 kr rfl) rfl rfl (fun w c => isReady_ok (q := ((n : Int), F, T)) (ts := out) (v := (n : Int) - 1 - j) (c.rd h0) (c.rd h1) (c.own_rd (i := 0) rfl) hFT) ?_; rw [decide_eq_true hR]; rintro v H' ⟨rfl, rfl⟩)) | (show oA (.pick _ _ _); refine st_y (y_pick rfl rfl rfl) rfl ?_) | refine st_gy rfl rfl ?_) | (show oN; first | refine c_nil (x_then ?_) | refine c_nil ?_) | (show oC; first | refine c_seq ?_ | refine c_region ?_ | refine c_skip (x_then ?_) | refine c_block ?_ | refine c_true rfl ?_ | refine c_ift rfl aO ?_) | (show AT _ _ _ _; first | refine x_then ?_ | refine x_blk ?_))
                exact x_nx (j + 1) (by rw [bst, if_pos hr]; exact sB) om (fun w' c' => c') om
              · have hr : ¬ Rdy ((n : Int), F, T) out ((n : Int) - 1 - j) := fun k => hR k.2
                repeat' (first | (show oL; first | refine sMv rfl rfl ?_ | refine sAs rfl rfl ?_ | refine sLb 1 tabs rfl rfl rfl rfl rfl ?_ | (show oA (.binOp _ _ _ _ _); first | refine st_y (y_sub rfl rfl om) rfl ?_ | refine st_y (y_geq rfl rfl) rfl ?_) | (show oA (.unOp _ _ _); refine st_y (y_not rfl) rfl ?_) | (show oA (.call _); first | (refine m_call (ent_of Tryd.func49 kr rfl) rfl rfl (fun w c => Contains_ok (xs := out) (x := (n : Int) - 1 - j) (c.own_rd (i := 0) rfl)) ?_; rw [decide_eq_false hm]; rintro v H' ⟨rfl, rfl⟩) | (refine m_call (ent_of Tryd.func50 kr rfl) rfl rfl (fun w c => isReady_ok (q := ((n : Int), F, T)) (ts := out) (v := (n : Int) - 1 - j) (c.rd h0) (c.rd h1) (c.own_rd (i := 0) rfl) hFT) ?_; rw [decide_eq_false hR]; rintro v H' ⟨rfl, rfl⟩)) | (show oA (.pick _ _ _); refine st_y (y_pick rfl rfl rfl) rfl ?_) | refine st_gy rfl rfl ?_) | refine xNt ?_ | (show oC; first | refine c_seq ?_ | refine c_region ?_ | refine c_skip (x_then ?_) | refine c_skip (x_blk ?_) | refine c_block ?_ | refine c_false rfl ?_ | refine c_ift rfl aO ?_) | (show AT _ _ _ _; refine x_then ?_))
                exact x_nx (j + 1) (by rw [bst, if_neg hr]; exact sB) om (fun w' c' => c') om
          · have : j = n := by omega
            subst this
            have hbd := bst_is (q := ((j : Int), F, T)) (out := out) (n := j) j (Nat.le_refl j)
            have hN : ordN ((j : Int), F, T) j (t + 1) = if bst ((j : Int), F, T) out j j < 0 then none else some (out ++ [bst ((j : Int), F, T) out j j]) := by rw [ordN, hor]; rfl
            repeat' (first | (show oL; first | refine sMv rfl rfl ?_ | refine sAs rfl rfl ?_ | (show oA (.binOp _ _ _ _ _); first | refine sLs rfl rfl rfl ?_ | refine st_y (y_geq rfl rfl) rfl ?_) | (show oA (.call _); refine m_pushn 0 tabs rfl rfl rfl rfl rfl hol om (fun a9 c9 => ?_)) | (show oA (.buildSlice _ _ _); refine m_build1 tabs (us := [iV (bst ((j : Int), F, T) out j j)]) rfl rfl rfl rfl (by decide) rfl (fun g5 hg5 => ?_))) | (show oN; first | refine c_nil (x_then ?_) | refine c_nil ?_) | (show oC; first | refine c_seq ?_ | refine c_region ?_ | refine c_skip (x_then ?_) | refine c_ret ?_ | refine c_exit ?_ | refine c_iff rfl nN ?_ | refine c_if rfl (fun h => ?_) (fun h => ?_)) | (show AT _ _ _ _; first | refine x_then ?_ | refine x_then_ret ?_ | refine x_blk_ret ?_ | refine x_then_exit ?_ | refine x_blk_exit rfl ?_ | refine x_blk ?_))
            · have hb : bst ((j : Int), F, T) out j j < 0 := by assumption
              have hno : ordN ((j : Int), F, T) j j = none := by
                have := ordN_none (q := ((j : Int), F, T)) (n := j) (t := t + 1) (by rw [hN, if_pos hb]) (j - (t + 1))
                rwa [show t + 1 + (j - (t + 1)) = j by omega] at this
              rw [hno]
              exact x_ret2 Tryd.results19 (res_tmp rfl) (res_tmp rfl) (fun w' c' => ⟨_, _, rfl, ⟨none, 0, rfl, .inl rfl, rfl⟩, Hp.nilp _ _ (c'.sub (List.nil_sublist _))⟩)
            · have hb : ¬ bst ((j : Int), F, T) out j j < 0 := by assumption
              exact x_nx (t + 1, out ++ [bst ((j : Int), F, T) out j j], a9, c9) sB ⟨⟨by simp only; omega, by simp only [List.length_append, List.length_singleton]; omega⟩, by simp only; rw [hN, if_neg hb]⟩ (fun w' c' => c') (by simp only; omega)
      · have : t = n := by omega
        subst this
        refine AT.fact (own_sl 0 rfl) (fun hsl => ?_)
        obtain ⟨a4, c4, e4, hs4⟩ := hsl
        rw [hol] at e4 hs4
        cases e4
        rw [hor]
        repeat' (first | (show oL; first | refine sMv rfl rfl ?_ | refine sAs rfl rfl ?_ | refine sFd tabs rfl rfl rfl rfl ?_ | refine sLd 1 tabs rfl rfl rfl rfl rfl ?_ | refine sLs rfl rfl rfl ?_ | refine sLn tabs rfl rfl rfl ?_) | refine xNt ?_ | (show oC; first | refine c_seq ?_ | refine c_region ?_ | refine c_ret ?_ | refine c_exit ?_ | refine c_iff rfl nN ?_) | (show AT _ _ _ _; first | refine x_then ?_ | refine x_then_exit ?_ | refine x_blk_exit rfl ?_))
        exact x_ret2 Tryd.results19 (res_tmp rfl) (res_tmp rfl) (fun w' c' => ⟨_, _, rfl, ⟨ao, co, by show _ = Value.tuple #[.slice ao out.length co, _]; rw [hol]; rfl, by show SA ao out.length; rw [hol]; exact hs4, by show _ = [HE.own (iT out) (.slice ao out.length co)]; rw [hol]⟩, c'.sub (.cons_cons _ (List.nil_sublist _))⟩)
  · have eO : ordL q = [] := by rw [ordL, if_neg hQ]
    have eP : decide (OrdP q) = false := decide_eq_false (fun k => hQ k.1)
    rw [eO, eP]
    refine fn_enter Tryd.func19 rfl Tryd.ntmps19 rfl ?_
    repeat' (first | (show oL; first | refine sAs rfl rfl ?_ | refine sLb 0 tabs rfl rfl rfl rfl rfl ?_ | (show oA (.unOp _ _ _); refine st_y (y_not rfl) rfl ?_) | (show oA (.call _); (refine m_call (ent_of Tryd.func13 kr rfl) rfl rfl (fun w c => impl_IsQuiver_ok (q := q) (c.rd h0) (c.rd h1)) ?_; rw [decide_eq_false hQ]; rintro v H' ⟨rfl, rfl⟩)) | (show oA (.box _ _); refine m_box rfl rfl (fun b hb => ?_))) | refine xNt ?_ | (show oC; first | refine c_seq ?_ | refine c_region ?_ | refine c_ret ?_ | refine c_true rfl ?_) | (show AT _ _ _ _; refine x_then_ret ?_))
    exact x_ret2 Tryd.results19 (res_tmp rfl) (res_tmp rfl) (fun w' c' => ⟨_, _, rfl, ⟨none, 0, rfl, .inl rfl, rfl⟩, Hp.nilp _ _ (c'.sub (List.nil_sublist _))⟩)
theorem impl_IsAcyclic_ok {w : World} {q : Qv} {u0 u1 : Value} (h0 : Rd w (iT q.2.1) u0) (h1 : Rd w (iT q.2.2) u1) : Does Tryd.prog 21 [.agg #[iV q.1, u0, u1]] w (fun r H => r = .bool (decide (OrdP q)) ∧ H = []) := by
  refine fn_enter Tryd.func21 rfl Tryd.ntmps21 rfl ?_
  repeat' (first | (show oL; first | refine sMv rfl rfl ?_ | refine sAs rfl rfl ?_ | refine sLb 0 tabs rfl rfl rfl rfl rfl ?_ | (show oA (.call _); (refine m_call (ent_of Tryd.func19 kr rfl) rfl rfl (fun w c => impl_OrderOf_ok (c.rd h0) (c.rd h1)) ?_; rintro v H' ⟨a2, c2, rfl, hs2, rfl⟩)) | (show oA (.extract _ _); refine st_y (y_ext rfl rfl) rfl ?_) | (show oA (.box _ _); refine m_box rfl rfl (fun b hb => ?_))) | refine xNt ?_ | (show oC; first | refine c_seq ?_ | refine c_region ?_ | refine c_ret ?_))
  exact x_ret1 Tryd.results21 (res_tmp rfl) (fun w' c' => ⟨_, _, rfl, ⟨rfl, rfl⟩, c'.sub (List.nil_sublist _)⟩)
end Go.Proofs.YtdnhmnnccfoliaaDoor
