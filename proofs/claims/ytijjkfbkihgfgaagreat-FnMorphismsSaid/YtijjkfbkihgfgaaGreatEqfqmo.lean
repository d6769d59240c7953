import Derived.Test.YtijjkfbkihgfgaaGreatEqmqmo
namespace Go.Proofs.YtijjkfbkihgfgaaGreat
open Go.Lg Go.Proofs Go.RowKit
attribute [local irreducible] Code.wp wpList bodyPost Exit.then Exit.inBlock Hp Again Calls Y AT ResV QT
set_option maxRecDepth 20000
set_option maxHeartbeats 4000000

theorem EqualFuncM_ok (w : World) (e e' : Nat) (ms ms' : List Mat) (v u : Value) (hr : Rd w (matsT e ms) v) (hr' : Rd w (matsT e' ms') u) :
    Does Tryz.prog 174 [v, u, .func (.func 175) #[] #[]] w (fun r H => r = .bool (decide (ms = ms')) ∧ H = []) := by
  obtain ⟨a, c, rfl, hs, hc1, hc2, hget⟩ := rd_mats hr
  obtain ⟨a', c', rfl, hs', hc1', hc2', hget'⟩ := rd_mats hr'
  unfold maxLen at hc2 hc2'
  refine fn_enter Tryz.func174 rfl Tryz.ntmps174 rfl ?_
  repeat' (first | (show oL; first | (show oA (.move _); refine st_y (y_move rfl) rfl ?_) | (show oA (.assign _); refine st_y (y_assign rfl) rfl ?_) | (show oA (.binOp _ _ _ _ _); refine st_y (y_neq rfl rfl) rfl ?_) | (show oA (.call _); refine st_y (y_len tabs rfl rfl) rfl ?_)) | (show oN; refine c_nil (x_then ?_)) | (show oC; first | refine c_seq ?_ | refine c_region ?_ | refine c_skip (x_then ?_) | refine c_block ?_ | refine c_ret ?_ | refine c_ifnd rfl (fun h => ?_) (fun h => ?_)) | (show AT _ _ _ _; refine x_then_ret ?_))
  · refine x_ret1 Tryz.results174 (res_tmp rfl) (fun w' c' => ⟨_, _, rfl, ⟨?_, rfl⟩, c'⟩)
    have : ¬ ms = ms' := fun e => h (by rw [e])
    simp [this]
  · have hl : ms.length = ms'.length := by omega
    refine c_loop (fun i : Nat => [(0, .slice a ms.length c), (1, .slice a' ms'.length c'), (2, .func (.func 175) #[] #[]), (15, .slice a ms.length c), (16, iV ms.length), (17, .int .i64 i)])
      (fun i w' => (i ≤ ms.length ∧ ms.take i = ms'.take i) ∧ Hp [] w [] w') (fun i => ms.length - i) 0 ?_ ?_ ?_
    · exact sB
    · intro w' c'
      exact ⟨⟨by omega, rfl⟩, c'⟩
    · intro i
      refine AT.pr (fun ⟨hi, he⟩ => ?_)
      repeat' (first | (show oL; first | (show oA (.move _); refine st_y (y_move rfl) rfl ?_) | (show oA (.assign _); refine st_y (y_assign rfl) rfl ?_) | (show oA (.indexAddr _ _ _); refine st_y (y_ixa tabs rfl rfl rfl (by first | assumption | exact .mk) om om) rfl ?_) | (show oA (.binOp _ _ _ _ _); refine st_y (y_lss rfl rfl) rfl ?_)) | (show oN; refine c_nil (x_then ?_)) | (show oC; first | refine c_seq ?_ | refine c_region ?_ | refine c_skip (x_then ?_) | refine c_block ?_ | refine c_ret ?_ | refine c_exit ?_ | refine c_if rfl (fun h => ?_) (fun h => ?_)) | (show AT _ _ _ _; first | refine x_then ?_ | refine x_then_exit ?_ | refine x_blk_exit rfl ?_))
      · obtain ⟨m, hm⟩ : ∃ m, ms[i]? = some m := ⟨_, List.getElem?_eq_getElem (show i < ms.length by omega)⟩
        obtain ⟨m', hm'⟩ : ∃ m, ms'[i]? = some m := ⟨_, List.getElem?_eq_getElem (show i < ms'.length by omega)⟩
        obtain ⟨a2, c2, g1, g2, g3, g4⟩ := hget i m hm
        obtain ⟨a3, c3, k1, k2, k3, k4⟩ := hget' i m' hm'
        repeat' (first | (show oL; first | (show oA (.move _); refine st_y (y_move rfl) rfl ?_) | (show oA (.assign _); refine st_y (y_assign rfl) rfl ?_) | (show oA (.load _ _); first | refine st_y (y_load3 tabs rfl rfl (hc_w0 g1) (hc_w0 g2) (hc_w0 g3)) rfl ?_ | refine st_y (y_load3 tabs rfl rfl (hc_w0 k1) (hc_w0 k2) (hc_w0 k3)) rfl ?_ | refine st_y (y_loadb 0 tabs rfl rfl rfl rfl) rfl ?_ | refine st_y (y_loadb 1 tabs rfl rfl rfl rfl) rfl ?_) | (show oA (.indexAddr _ _ _); refine st_y (y_ixa tabs rfl rfl rfl hs' om om) rfl ?_) | (show oA (.binOp _ _ _ _ _); refine st_y (y_add rfl rfl om) rfl ?_) | (show oA (.unOp _ _ _); refine st_y (y_notd rfl) rfl ?_) | (show oA (.call _); (refine m_callv rfl (ent_of Tryz.func175 kr rfl) rfl rfl (fun w c => impl_EqualMatrices_ok w m m' _ _ (c.rd g4) (c.rd k4)) ?_; rintro v H' ⟨rfl, rfl⟩)) | (show oA (.store _ _ _); refine m_storeb 0 tabs rfl rfl rfl rfl rfl rfl rfl ?_) | (show oA (.alloc _); refine m_alloc tabs rfl rfl (fun b hb => ?_))) | (show oN; refine c_nil (x_then ?_)) | (show oC; first | refine c_seq ?_ | refine c_region ?_ | refine c_skip (x_blk ?_) | refine c_ret ?_ | refine c_ifnd rfl (fun h => ?_) (fun h => ?_)) | (show AT _ _ _ _; first | refine x_then ?_ | refine x_then_ret ?_ | refine x_blk_ret ?_))
        · refine x_ret1 Tryz.results174 (res_tmp rfl) (fun w' c' => ⟨_, _, rfl, ⟨?_, rfl⟩, c'.sub (List.nil_sublist _)⟩)
          have : ¬ ms = ms' := fun e => h (by rw [e, hm'] at hm; exact (Option.some.inj hm).symm)
          simp [this]
        · refine x_next (i + 1) sB (fun w' c' => ⟨⟨by omega, ?_⟩, c'.sub (List.nil_sublist _)⟩) om
          rw [List.take_add_one, List.take_add_one, he, hm, hm', h]
      · refine x_ret1 Tryz.results174 (res_tmp rfl) (fun w' c' => ⟨_, _, rfl, ⟨?_, rfl⟩, c'⟩)
        rw [take_end om, take_end om] at he
        simp [he]

theorem impl_EqualMorphisms_ok (w : World) (e e' : Nat) (ms ms' : List Mat) (v u : Value) (hr : Rd w (matsT e ms) v) (hr' : Rd w (matsT e' ms') u) :
    Does Tryz.prog 63 [v, u] w (fun r H => r = .bool (decide (ms = ms')) ∧ H = []) := by
  refine fn_enter Tryz.func63 rfl Tryz.ntmps63 rfl ?_
  repeat' (first | (show oL; first | (show oA (.move _); refine st_y (y_move rfl) rfl ?_) | (show oA (.assign _); refine st_y (y_assign rfl) rfl ?_) | (show oA (.call _); (refine m_call (ent_of Tryz.func174 kr rfl) rfl rfl (fun w c => EqualFuncM_ok w _ _ ms ms' _ _ (c.rd hr) (c.rd hr')) ?_; rintro v H' ⟨rfl, rfl⟩))) | (show oN; refine c_nil (x_then ?_)) | (show oC; first | refine c_seq ?_ | refine c_region ?_ | refine c_ret ?_))
  exact x_ret1 Tryz.results63 (res_tmp rfl) (fun w' c' => ⟨_, _, rfl, ⟨rfl, rfl⟩, c'⟩)
end Go.Proofs.YtijjkfbkihgfgaaGreat
