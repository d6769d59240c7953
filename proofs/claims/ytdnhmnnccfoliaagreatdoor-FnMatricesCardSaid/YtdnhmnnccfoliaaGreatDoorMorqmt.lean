import Derived.Test.YtdnhmnnccfoliaaGreatDoorZerqmt
namespace Go.Proofs.YtdnhmnnccfoliaaGreatDoor
open Go.Lg Go.Proofs Go.RowKit
attribute [local irreducible] Code.wp wpList bodyPost Exit.then Exit.inBlock Hp Again Calls Y AT ResV QT Qn QI wpAny wpAnyQ
set_option maxRecDepth 20000
set_option maxHeartbeats 4000000

theorem l3Identity_ok {w : World} {n : Nat} (hn : n ≤ 1024) : Does Tryz.prog 127 [iV n] w (GivesK n n idF) := by
  have hnn := rc_le hn hn
  refine fn_enter Tryz.func127 rfl Tryz.ntmps127 rfl ?_
  repeat' (first | (show oL; first | refine sMv rfl rfl ?_ | refine sAs rfl rfl ?_ | (show oA (.call _); (refine m_call (ent_of Tryz.func125 kr rfl) rfl rfl (fun w c => l3Zero_ok hn hn) ?_; rintro v H' ⟨a, c, rfl, hs, rfl⟩)) | (show oA (.store _ _ _); refine m_storeb 0 tabs rfl rfl rfl rfl rfl rfl rfl ?_) | (show oA (.alloc _); refine m_alloc tabs rfl rfl (fun b2 hb2 => ?_))) | refine xNt ?_ | (show oC; first | refine c_seq ?_ | refine c_region ?_ | refine c_block ?_))
  rename_i b1 hb1
  refine c_loopH (α := Nat) [0, 2, 3] (fun i => [(4, .int .i64 i)]) (fun i => i ≤ n) (fun i => [.blk b2 #[iV n, iV n, .slice a (n * n) c] 41, .own (iT (mk n n (idTo i))) (.slice a (n * n) c), .blk b1 #[iV 0, iV 0, .slice none 0 0] 41]) (fun i => n - i) 0 rfl sB ?_ ?_ ?_
  · omega
  · intro w' c'
    have e0 : idTo 0 = (fun _ _ => 0) := by funext i j; simp [idTo]
    rw [e0]
    exact c'
  · intro i hi
    by_cases hin : i < n
    · have hc := cell_lt hin hin
      repeat' (first | (show oL; first | refine sMv rfl rfl ?_ | refine sAs rfl rfl ?_ | refine sFd tabs rfl rfl rfl rfl ?_ | refine sLd 0 tabs rfl rfl rfl rfl rfl ?_ | (show oA (.indexAddr _ _ _); refine st_y (y_ix1 tabs (j := i * n + i) rfl rfl rfl hs rfl hc) rfl ?_) | (show oA (.binOp _ _ _ _ _); first | refine st_y (y_muln rfl rfl rfl rfl (Nat.le_trans (Nat.mul_le_mul_right n hi) om)) rfl ?_ | refine st_y (y_addn (b := i) rfl rfl rfl rfl om) rfl ?_ | refine sAd rfl rfl om rfl ?_ | refine sLs rfl rfl rfl ?_) | (show oA (.store _ _ _); refine m_storeo 1 tabs rfl rfl rfl rfl (by rw [mk_length]; exact hc) ?_)) | (show oN; first | refine c_nil (x_then ?_) | refine c_nil ?_) | (show oC; first | refine c_seq ?_ | refine c_region ?_ | refine c_skip (x_then ?_) | refine c_block ?_ | refine c_ift rfl aO ?_) | (show AT _ _ _ _; first | refine x_then ?_ | refine x_blk ?_))
      refine x_nx (i + 1) sB om (fun w' c' => ?_) om
      simp only [List.set_cons_succ, List.set_cons_zero] at c'
      rw [mk_set hin hin, idTo_next] at c'
      exact c'
    · have : i = n := by omega
      subst this
      have e0 : mk i i (idTo i) = mk i i idF := mk_ext (fun a b ha hb => by unfold idTo idF; grind)
      rw [e0]
      repeat' (first | (show oL; first | refine sMv rfl rfl ?_ | refine sLb 0 tabs rfl rfl rfl rfl rfl ?_ | refine sLs rfl rfl rfl ?_ | (show oA (.store _ _ _); refine m_storeb 2 tabs rfl rfl rfl rfl rfl rfl rfl ?_)) | refine xNt ?_ | (show oC; first | refine c_seq ?_ | refine c_region ?_ | refine c_ret ?_ | refine c_exit ?_ | refine c_iff rfl nN ?_) | (show AT _ _ _ _; first | refine x_then ?_ | refine x_then_exit ?_ | refine x_blk_exit rfl ?_))
      exact x_ret1 Tryz.results127 (res_cellb 2 tabs rfl rfl rfl rfl) (fun w' c' => ⟨_, _, rfl, ⟨a, c, rfl, hs, rfl⟩, c'.sub (.cons _ (.cons_cons _ (List.nil_sublist _)))⟩)
theorem RepP.dd {r : Rp} (h : RepP r) : (∀ n, 0 ≤ r.d.getD n 0 ∧ r.d.getD n 0 ≤ 4) ∧ r.d.length ≤ 5 := by
  obtain ⟨_, ⟨⟨hV, _⟩, hdV, hdi, _⟩, _⟩ := h
  refine ⟨fun n => ?_, by omega⟩
  rcases Nat.lt_or_ge n r.d.length with h1 | h1
  · exact hdi _ (List.mem_of_getElem? (getD_some (z := 0) h1))
  · rw [List.getD_eq_getElem?_getD, List.getElem?_eq_none h1]; exact ⟨by simp, by simp⟩
end Go.Proofs.YtdnhmnnccfoliaaGreatDoor
