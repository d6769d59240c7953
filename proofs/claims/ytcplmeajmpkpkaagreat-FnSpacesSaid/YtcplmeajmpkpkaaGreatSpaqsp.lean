import Derived.Test.YtcplmeajmpkpkaaGreatEqmqsp
import Derived.Test.YtcplmeajmpkpkaaGreatQuiqsp
namespace Go.Proofs.YtcplmeajmpkpkaaGreat
open Go.Lg Go.Proofs Go.RowKit
attribute [local irreducible] Code.wp wpList bodyPost Exit.then Exit.inBlock Hp Again Calls Y AT ResV QT
set_option maxRecDepth 20000
set_option maxHeartbeats 4000000

theorem l5Same_ok (w : World) (e e' : Nat) (ms ms' : List (List Int)) (v u : Value) (hr : Rd w (rowsT e ms) v) (hr' : Rd w (rowsT e' ms') u) :
    Does Tryz.prog 43 [v, u] w (fun r H => r = .bool (decide (ms = ms')) ∧ H = []) := by
  obtain ⟨a, c, rfl, hs, hc1, hc2, hget⟩ := rd_rows hr
  obtain ⟨a', c', rfl, hs', hc1', hc2', hget'⟩ := rd_rows hr'
  unfold maxLen at hc2 hc2'
  refine fn_enter Tryz.func43 rfl Tryz.ntmps43 rfl ?_
  repeat' (first | (show oL; first | refine sMv rfl rfl ?_ | refine sAs rfl rfl ?_ | (show oA (.binOp _ _ _ _ _); refine st_y (y_neq rfl rfl) rfl ?_) | refine sLn tabs rfl rfl rfl ?_) | refine xNt ?_ | (show oC; first | refine c_seq ?_ | refine c_region ?_ | refine c_skip (x_then ?_) | refine c_block ?_ | refine c_ret ?_ | refine c_ifnd rfl (fun h => ?_) (fun h => ?_)) | (show AT _ _ _ _; refine x_then_ret ?_))
  · refine x_ret1 Tryz.results43 (res_tmp rfl) (fun w' c' => ⟨_, _, rfl, ⟨?_, rfl⟩, c'⟩)
    have : ¬ ms = ms' := fun e => h (by rw [e])
    simp [this]
  · have hl : ms.length = ms'.length := by omega
    refine c_loop (fun i : Nat => [(0, .slice a ms.length c), (1, .slice a' ms'.length c'), (5, .int .i64 i)])
      (fun i w' => (i ≤ ms.length ∧ ms.take i = ms'.take i) ∧ Hp [] w [] w') (fun i => ms.length - i) 0 ?_ ?_ ?_
    · exact sB
    · intro w' c'
      exact ⟨⟨by omega, rfl⟩, c'⟩
    · intro i
      refine AT.pr (fun ⟨hi, he⟩ => ?_)
      repeat' (first | (show oL; first | refine sMv rfl rfl ?_ | refine sAs rfl rfl ?_ | refine sLs rfl rfl rfl ?_ | refine sLn tabs rfl rfl rfl ?_) | refine xNt ?_ | (show oC; first | refine c_seq ?_ | refine c_region ?_ | refine c_skip (x_then ?_) | refine c_block ?_ | refine c_ret ?_ | refine c_exit ?_ | refine c_draw kr kr (fun _ c => Hp.drew c) ?_ | refine c_if rfl (fun h => ?_) (fun h => ?_)) | (show QT _ _ _ _ _ _ (_ :: _); first | refine qMv rfl rfl ?_ | (show qA (.indexAddr _ _ _); refine q_y (y_ix1 tabs rfl rfl rfl mK rfl om) rfl ?_)) | (show AT _ _ _ _; first | refine x_then ?_ | refine x_then_exit ?_ | refine x_blk_exit rfl ?_))
      · obtain ⟨m, hm⟩ : ∃ m, ms[i]? = some m := ⟨_, List.getElem?_eq_getElem (show i < ms.length by omega)⟩
        obtain ⟨m', hm'⟩ : ∃ m, ms'[i]? = some m := ⟨_, List.getElem?_eq_getElem (show i < ms'.length by omega)⟩
        obtain ⟨g1, g2, g3, g4⟩ := hget i m hm
        obtain ⟨k1, k2, k3, k4⟩ := hget' i m' hm'
        obtain ⟨_, _, e1, hsa, hd1, hd2, hge⟩ := g4.ints
        obtain ⟨_, _, e2, hsb, hd1', hd2', hge'⟩ := k4.ints
        cases e1; cases e2
        unfold maxLen at hd2 hd2'
        have hne : ¬ m = m' → ¬ ms = ms' := fun hn e => hn (by rw [e, hm'] at hm; exact (Option.some.inj hm).symm)
        repeat' (first | (show oL; first | refine sAs rfl rfl ?_) | refine xNt ?_ | (show oC; first | refine c_seq ?_ | refine c_region ?_ | refine c_skip (x_then ?_) | refine c_block ?_ | refine c_ret ?_ | refine c_ifnd rfl (fun h => ?_) (fun h => ?_)) | (show QT _ _ _ _ _ _ (_ :: _); first | refine qMv rfl rfl ?_ | (show qA (.load _ _); first | refine q_y (y_load tabs rfl rfl (hc_w0 g3)) rfl ?_ | refine q_y (y_load tabs rfl rfl (hc_w0 k3)) rfl ?_) | (show qA (.indexAddr _ _ _); refine q_y (y_ix1 tabs rfl rfl rfl mK rfl om) rfl ?_) | (show qA (.binOp _ _ _ _ _); refine q_y (y_neq rfl rfl) rfl ?_) | refine qLn tabs rfl rfl rfl ?_) | (show QT _ _ _ _ _ _ []; refine q_nil (x_then ?_)) | (show AT _ _ _ _; first | refine x_then_ret ?_ | refine x_blk_ret ?_))
        · refine x_ret1 Tryz.results43 (res_tmp rfl) (fun w' c' => ⟨_, _, rfl, ⟨?_, rfl⟩, c'⟩)
          have := hne (fun e => h (by rw [e]))
          simp [this]
        · have hl2 : m.length = m'.length := by omega
          refine c_loop (fun k : Nat => [(0, .slice a ms.length c), (1, .slice a' ms'.length c'), (5, .int .i64 i), (6, .int .i64 k)])
            (fun k w' => (k ≤ m.length ∧ m.take k = m'.take k) ∧ Hp [] w [] w') (fun k => m.length - k) 0 ?_ ?_ ?_
          · exact sB
          · intro w' c'
            exact ⟨⟨by omega, rfl⟩, c'⟩
          · intro k
            refine AT.pr (fun ⟨hk, hke⟩ => ?_)
            repeat' (first | (show oL; first | refine sMv rfl rfl ?_ | refine sAs rfl rfl ?_ | (show oA (.load _ _); refine st_y (y_load tabs rfl rfl (hc_w0 g3)) rfl ?_) | (show oA (.indexAddr _ _ _); refine st_y (y_ix1 tabs rfl rfl rfl mK rfl om) rfl ?_) | (show oA (.binOp _ _ _ _ _); first | refine sAd rfl rfl om rfl ?_ | refine sLs rfl rfl rfl ?_) | refine sLn tabs rfl rfl rfl ?_) | refine xNt ?_ | (show oC; first | refine c_seq ?_ | refine c_region ?_ | refine c_skip (x_then ?_) | refine c_skip (x_blk ?_) | refine c_block ?_ | refine c_ret ?_ | refine c_exit ?_ | refine c_draw kr kr (fun _ c => Hp.drew c) ?_ | refine c_ifnd rfl (fun h => ?_) (fun h => ?_) | refine c_if rfl (fun h => ?_) (fun h => ?_)) | (show QT _ _ _ _ _ _ (_ :: _); first | refine qMv rfl rfl ?_ | (show qA (.load _ _); first | refine q_y (y_load tabs rfl rfl (hc_w0 g3)) rfl ?_ | refine q_y (y_load tabs rfl rfl (hc_w0 k3)) rfl ?_ | refine q_y (y_load tabs rfl rfl (hc_w0 (hge _ om))) rfl ?_ | refine q_y (y_load tabs rfl rfl (hc_w0 (hge' _ om))) rfl ?_) | (show qA (.indexAddr _ _ _); refine q_y (y_ix1 tabs rfl rfl rfl mK rfl om) rfl ?_) | (show qA (.binOp _ _ _ _ _); refine q_y (y_neq rfl rfl) rfl ?_)) | (show QT _ _ _ _ _ _ []; refine q_nil (x_then ?_)) | (show AT _ _ _ _; first | refine x_then ?_ | refine x_then_ret ?_ | refine x_blk_ret ?_ | refine x_then_exit ?_ | refine x_blk_exit rfl ?_ | refine x_blk ?_))
            · refine x_ret1 Tryz.results43 (res_tmp rfl) (fun w' c' => ⟨_, _, rfl, ⟨?_, rfl⟩, c'⟩)
              have := hne (fun e => h (by rw [e]))
              simp [this]
            · have h2 : m.getD k 0 = m'.getD k 0 := by simpa using h
              refine x_next (k + 1) sB (fun w' c' => ⟨⟨by omega, ?_⟩, c'⟩) om
              rw [take_next (z := 0) om, take_next (z := 0) om, hke, h2]
            · rw [take_end om, take_end om] at hke
              refine x_next (i + 1) sB (fun w' c' => ⟨⟨by omega, ?_⟩, c'⟩) om
              rw [List.take_add_one, List.take_add_one, he, hm, hm', hke]
      · refine x_ret1 Tryz.results43 (res_tmp rfl) (fun w' c' => ⟨_, _, rfl, ⟨?_, rfl⟩, c'⟩)
        rw [take_end om, take_end om] at he
        simp [he]

theorem spec_EqualSpaces_ok (w : World) (m m' : Sp) (u u' : Value) (hu : Rd w (rowsT 43 m.2) u) (hu' : Rd w (rowsT 43 m'.2) u') :
    Does Tryz.prog 10 [.agg #[iV m.1, u], .agg #[iV m'.1, u']] w (fun v H => v = .bool (decide (m = m')) ∧ H = []) := by
  obtain ⟨r, xs⟩ := m
  obtain ⟨r', xs'⟩ := m'
  simp only at hu hu' ⊢
  refine fn_enter Tryz.func10 rfl Tryz.ntmps10 rfl ?_
  repeat' (first | (show oL; first | refine sMv rfl rfl ?_ | refine sAs rfl rfl ?_ | refine sFd tabs rfl rfl rfl rfl ?_ | (show oA (.load _ _); first | refine sLd 0 tabs rfl rfl rfl rfl rfl ?_ | refine sLd 1 tabs rfl rfl rfl rfl rfl ?_) | (show oA (.binOp _ _ _ _ _); refine st_y (y_eql rfl rfl) rfl ?_) | (show oA (.call _); (refine m_call (ent_of Tryz.func43 kr rfl) rfl rfl (fun w c => l5Same_ok w _ _ xs xs' _ _ (c.rd hu) (c.rd hu')) ?_; rintro v H' ⟨rfl, rfl⟩)) | (show oA (.pick _ _ _); first | refine st_y (y_pickt rfl aS rfl) rfl ?_ | refine st_y (y_pickf rfl aS rfl) rfl ?_) | (show oA (.box _ _); refine m_box rfl rfl (fun b hb => ?_)) | refine st_gdy rfl rfl aS ?_ | refine st_gdn rfl rfl aS rfl ?_ | refine st_gd rfl rfl (fun h => ?_) (fun h => ?_)) | refine xNt ?_ | (show oC; first | refine c_seq ?_ | refine c_region ?_ | refine c_ret ?_))
  all_goals refine x_ret1 Tryz.results10 (res_tmp rfl) (fun w c => ⟨_, _, rfl, ⟨?_, rfl⟩, c.sub (List.nil_sublist _)⟩)
  all_goals simp_all

theorem impl_EqualSpaces1_ok (w : World) (xs ys : List Int) (v u : Value) (hr : Rd w (iT xs) v) (hr' : Rd w (iT ys) u) :
    Does Tryz.prog 71 [v, u] w (fun r H => r = .bool (decide (xs = ys)) ∧ H = []) := by
  refine fn_enter Tryz.func71 rfl Tryz.ntmps71 rfl ?_
  repeat' (first | (show oL; first | refine sMv rfl rfl ?_ | refine sAs rfl rfl ?_ | (show oA (.call _); (refine m_call (ent_of Tryz.func72 kr rfl) rfl rfl (fun w c => Equal_ok w _ _ xs ys (c.rd hr) (c.rd hr')) ?_; rintro v H' ⟨rfl, rfl⟩))) | refine xNt ?_ | (show oC; first | refine c_seq ?_ | refine c_region ?_ | refine c_ret ?_))
  exact x_ret1 Tryz.results71 (res_tmp rfl) (fun w' c' => ⟨_, _, rfl, ⟨rfl, rfl⟩, c'⟩)

theorem EqualFuncR_ok (w : World) (e e' : Nat) (ms ms' : List (List Int)) (v u : Value) (hr : Rd w (rowsT e ms) v) (hr' : Rd w (rowsT e' ms') u) :
    Does Tryz.prog 70 [v, u, .func (.func 71) #[] #[]] w (fun r H => r = .bool (decide (ms = ms')) ∧ H = []) := by
  obtain ⟨a, c, rfl, hs, hc1, hc2, hget⟩ := rd_rows hr
  obtain ⟨a', c', rfl, hs', hc1', hc2', hget'⟩ := rd_rows hr'
  unfold maxLen at hc2 hc2'
  refine fn_enter Tryz.func70 rfl Tryz.ntmps70 rfl ?_
  repeat' (first | (show oL; first | refine sMv rfl rfl ?_ | refine sAs rfl rfl ?_ | (show oA (.binOp _ _ _ _ _); refine st_y (y_neq rfl rfl) rfl ?_) | refine sLn tabs rfl rfl rfl ?_) | refine xNt ?_ | (show oC; first | refine c_seq ?_ | refine c_region ?_ | refine c_skip (x_then ?_) | refine c_block ?_ | refine c_ret ?_ | refine c_ifnd rfl (fun h => ?_) (fun h => ?_)) | (show AT _ _ _ _; refine x_then_ret ?_))
  · refine x_ret1 Tryz.results70 (res_tmp rfl) (fun w' c' => ⟨_, _, rfl, ⟨?_, rfl⟩, c'⟩)
    have : ¬ ms = ms' := fun e => h (by rw [e])
    simp [this]
  · have hl : ms.length = ms'.length := by omega
    refine c_loop (fun i : Nat => [(0, .slice a ms.length c), (1, .slice a' ms'.length c'), (2, .func (.func 71) #[] #[]), (15, .slice a ms.length c), (16, iV ms.length), (17, .int .i64 i)])
      (fun i w' => (i ≤ ms.length ∧ ms.take i = ms'.take i) ∧ Hp [] w [] w') (fun i => ms.length - i) 0 ?_ ?_ ?_
    · exact sB
    · intro w' c'
      exact ⟨⟨by omega, rfl⟩, c'⟩
    · intro i
      refine AT.pr (fun ⟨hi, he⟩ => ?_)
      repeat' (first | (show oL; first | refine sMv rfl rfl ?_ | refine sAs rfl rfl ?_ | (show oA (.indexAddr _ _ _); refine st_y (y_ix1 tabs rfl rfl rfl mK rfl om) rfl ?_) | refine sLs rfl rfl rfl ?_) | refine xNt ?_ | (show oC; first | refine c_seq ?_ | refine c_region ?_ | refine c_skip (x_then ?_) | refine c_block ?_ | refine c_ret ?_ | refine c_exit ?_ | refine c_if rfl (fun h => ?_) (fun h => ?_)) | (show AT _ _ _ _; first | refine x_then ?_ | refine x_then_exit ?_ | refine x_blk_exit rfl ?_))
      · obtain ⟨m, hm⟩ : ∃ m, ms[i]? = some m := ⟨_, List.getElem?_eq_getElem (show i < ms.length by omega)⟩
        obtain ⟨m', hm'⟩ : ∃ m, ms'[i]? = some m := ⟨_, List.getElem?_eq_getElem (show i < ms'.length by omega)⟩
        obtain ⟨g1, g2, g3, g4⟩ := hget i m hm
        obtain ⟨k1, k2, k3, k4⟩ := hget' i m' hm'
        repeat' (first | (show oL; first | refine sMv rfl rfl ?_ | refine sAs rfl rfl ?_ | (show oA (.load _ _); first | refine st_y (y_load tabs rfl rfl (hc_w0 g3)) rfl ?_ | refine st_y (y_load tabs rfl rfl (hc_w0 k3)) rfl ?_) | (show oA (.indexAddr _ _ _); refine st_y (y_ix1 tabs rfl rfl rfl mK rfl om) rfl ?_) | refine sAd rfl rfl om rfl ?_ | (show oA (.unOp _ _ _); refine st_y (y_notd rfl) rfl ?_) | (show oA (.call _); (refine m_callv rfl (ent_of Tryz.func71 kr rfl) rfl rfl (fun w c => impl_EqualSpaces1_ok w m m' _ _ (c.rd g4) (c.rd k4)) ?_; rintro v H' ⟨rfl, rfl⟩))) | refine xNt ?_ | (show oC; first | refine c_seq ?_ | refine c_region ?_ | refine c_skip (x_blk ?_) | refine c_ret ?_ | refine c_ifnd rfl (fun h => ?_) (fun h => ?_)) | (show AT _ _ _ _; first | refine x_then ?_ | refine x_then_ret ?_ | refine x_blk_ret ?_))
        · refine x_ret1 Tryz.results70 (res_tmp rfl) (fun w' c' => ⟨_, _, rfl, ⟨?_, rfl⟩, c'.sub (List.nil_sublist _)⟩)
          have : ¬ ms = ms' := fun e => h (by rw [e, hm'] at hm; exact (Option.some.inj hm).symm)
          simp [this]
        · refine x_next (i + 1) sB (fun w' c' => ⟨⟨by omega, ?_⟩, c'.sub (List.nil_sublist _)⟩) om
          rw [List.take_add_one, List.take_add_one, he, hm, hm', h]
      · refine x_ret1 Tryz.results70 (res_tmp rfl) (fun w' c' => ⟨_, _, rfl, ⟨?_, rfl⟩, c'⟩)
        rw [take_end om, take_end om] at he
        simp [he]

theorem impl_EqualSpaces_ok (w : World) (m m' : Sp) (u u' : Value) (hu : Rd w (rowsT 43 m.2) u) (hu' : Rd w (rowsT 43 m'.2) u') :
    Does Tryz.prog 31 [.agg #[iV m.1, u], .agg #[iV m'.1, u']] w (fun v H => v = .bool (decide (m = m')) ∧ H = []) := by
  obtain ⟨r, xs⟩ := m
  obtain ⟨r', xs'⟩ := m'
  simp only at hu hu' ⊢
  refine fn_enter Tryz.func31 rfl Tryz.ntmps31 rfl ?_
  repeat' (first | (show oL; first | refine sMv rfl rfl ?_ | refine sAs rfl rfl ?_ | refine sFd tabs rfl rfl rfl rfl ?_ | (show oA (.load _ _); first | refine sLd 0 tabs rfl rfl rfl rfl rfl ?_ | refine sLd 1 tabs rfl rfl rfl rfl rfl ?_) | (show oA (.binOp _ _ _ _ _); refine st_y (y_eql rfl rfl) rfl ?_) | (show oA (.call _); (refine m_call (ent_of Tryz.func70 kr rfl) rfl rfl (fun w c => EqualFuncR_ok w _ _ xs xs' _ _ (c.rd hu) (c.rd hu')) ?_; rintro v H' ⟨rfl, rfl⟩)) | (show oA (.pick _ _ _); first | refine st_y (y_pickt rfl aS rfl) rfl ?_ | refine st_y (y_pickf rfl aS rfl) rfl ?_) | (show oA (.box _ _); refine m_box rfl rfl (fun b hb => ?_)) | refine st_gdy rfl rfl aS ?_ | refine st_gdn rfl rfl aS rfl ?_ | refine st_gd rfl rfl (fun h => ?_) (fun h => ?_)) | refine xNt ?_ | (show oC; first | refine c_seq ?_ | refine c_region ?_ | refine c_ret ?_))
  all_goals refine x_ret1 Tryz.results31 (res_tmp rfl) (fun w c => ⟨_, _, rfl, ⟨?_, rfl⟩, c.sub (List.nil_sublist _)⟩)
  all_goals simp_all

end Go.Proofs.YtcplmeajmpkpkaaGreat
