import Derived.Test.YtljgmmmgnfgbhaaDoorMatqfr
namespace Go.Proofs.YtljgmmmgnfgbhaaDoor
open Go.Lg Go.Proofs Go.RowKit
attribute [local irreducible] Code.wp wpList bodyPost Exit.then Exit.inBlock Hp Again Calls Y AT ResV QT
set_option maxRecDepth 20000
set_option maxHeartbeats 4000000

theorem toMatrixS_ok (w : World) (e : Nat) (ms : List Mat) (v : Value) (hr : Rd w (matsT e ms) v) (hb : szMs ms ≤ 1048576) :
    Does Tryd.prog 17 [v] w (fun r H => Gives (matsT 44 ms) ms.length r H) := by
  obtain ⟨a, c, rfl, hs, hc1, hc2, hget⟩ := rd_mats hr
  have hn : ms.length ≤ 1048576 := by unfold szMs at hb; omega
  have hcs : ∀ (i : Nat) (m : Mat), ms[i]? = some m → m.2.2.length ≤ 1048576 := fun i m hm => Nat.le_trans (szMs_get hm) hb
  refine fn_enter Tryd.func17 rfl Tryd.ntmps17 rfl ?_
  repeat' (first
    | (show AT _ _ _ (wpList _ _ _ (_ :: _)); first
       | (show AT _ _ _ (wpList _ _ _ (⟨_, Op.move _, _, _, _, _⟩ :: _)); refine st_y (y_move rfl) rfl ?_)
       | (show AT _ _ _ (wpList _ _ _ (⟨_, Op.assign _, _, _, _, _⟩ :: _)); refine st_y (y_assign rfl) rfl ?_)
       | (show AT _ _ _ (wpList _ _ _ (⟨_, Op.call _, _, _, _, _⟩ :: _)); refine st_y (y_len tabs rfl rfl) rfl ?_)
       | (show AT _ _ _ (wpList _ _ _ (⟨_, Op.makeSlice _ _ _, _, _, _, _⟩ :: _)); refine m_makeT tabs (tz := matT mat0) rfl rfl rfl (by omega) (by omega) (by decide) mat0_own rfl (fun b hb1 => ?_)))
    | (show AT _ _ _ (wpList _ _ _ []); refine c_nil (x_then ?_))
    | (show AT _ _ _ (Code.wp _ _ _); first | refine c_seq ?_ | refine c_region ?_ | refine c_block ?_))
  refine c_loop (fun i : Nat => [(0, .slice a ms.length c), (3, .slice (some ⟨b, 0, none⟩) ms.length ms.length), (4, .int .i64 i)])
    (fun i w' => i ≤ ms.length ∧ Hp [] w [.own (matsT 44 (ms.take i ++ List.replicate (ms.length - i) mat0)) (.slice (some ⟨b, 0, none⟩) ms.length ms.length)] w') (fun i => ms.length - i) 0 ?_ ?_ ?_
  · exact (by repeat' (first | exact Sub.nil | refine Sub.cons rfl ?_ | refine Sub.consi rfl (by omega) ?_))
  · intro w' c'
    exact ⟨by omega, by simpa [matsT, flatMap_rep] using c'⟩
  · intro i
    refine AT.pr (fun hi => ?_)
    repeat' (first
      | (show AT _ _ _ (wpList _ _ _ (_ :: _)); first
         | (show AT _ _ _ (wpList _ _ _ (⟨_, Op.move _, _, _, _, _⟩ :: _)); refine st_y (y_move rfl) rfl ?_)
         | (show AT _ _ _ (wpList _ _ _ (⟨_, Op.assign _, _, _, _, _⟩ :: _)); refine st_y (y_assign rfl) rfl ?_)
         | (show AT _ _ _ (wpList _ _ _ (⟨_, Op.indexAddr _ _ _, _, _, _, _⟩ :: _)); refine st_y (y_ixa tabs rfl rfl rfl (by first | assumption | exact .mk) (by omega) (by omega)) rfl ?_)
         | (show AT _ _ _ (wpList _ _ _ (⟨_, Op.binOp _ _ _ _ _, _, _, _, _⟩ :: _)); refine st_y (y_lss rfl rfl) rfl ?_)
         | (show AT _ _ _ (wpList _ _ _ (⟨_, Op.call _, _, _, _, _⟩ :: _)); refine st_y (y_len tabs rfl rfl) rfl ?_))
      | (show AT _ _ _ (wpList _ _ _ []); refine c_nil (x_then ?_))
      | (show AT _ _ _ (Code.wp _ _ _); first | refine c_seq ?_ | refine c_region ?_ | refine c_skip (x_then ?_) | refine c_block ?_ | refine c_ret ?_ | refine c_exit ?_ | refine c_if rfl (fun h => ?_) (fun h => ?_))
      | (show AT _ _ _ _; first | refine x_then ?_ | refine x_then_exit ?_ | refine x_blk_exit rfl ?_))
    · have hi' : i < ms.length := by omega
      obtain ⟨m, hm⟩ : ∃ m, ms[i]? = some m := ⟨_, List.getElem?_eq_getElem hi'⟩
      obtain ⟨a2, c2, g1, g2, g3, g4⟩ := hget i m hm
      repeat' (first
        | (show AT _ _ _ (wpList _ _ _ (_ :: _)); first
           | (show AT _ _ _ (wpList _ _ _ (⟨_, Op.move _, _, _, _, _⟩ :: _)); refine st_y (y_move rfl) rfl ?_)
           | (show AT _ _ _ (wpList _ _ _ (⟨_, Op.assign _, _, _, _, _⟩ :: _)); refine st_y (y_assign rfl) rfl ?_)
           | (show AT _ _ _ (wpList _ _ _ (⟨_, Op.load _ _, _, _, _, _⟩ :: _)); refine st_y (y_load3 tabs rfl rfl (hc_w0 g1) (hc_w0 g2) (hc_w0 g3)) rfl ?_)
           | (show AT _ _ _ (wpList _ _ _ (⟨_, Op.indexAddr _ _ _, _, _, _, _⟩ :: _)); refine st_y (y_ixa tabs rfl rfl rfl .mk (by omega) (by omega)) rfl ?_)
           | (show AT _ _ _ (wpList _ _ _ (⟨_, Op.binOp _ _ _ _ _, _, _, _, _⟩ :: _)); refine st_y (y_add rfl rfl (by omega)) rfl ?_)
           | (show AT _ _ _ (wpList _ _ _ (⟨_, Op.call _, _, _, _, _⟩ :: _)); (refine m_call (ent_of Tryd.func28 (by kernel_rfl) rfl) rfl rfl (fun w c => toMatrix_ok w m _ (c.rd g4) (hcs i m hm)) ?_; rintro v H' ⟨a4, c4, rfl, hs4, rfl⟩))
           | (show AT _ _ _ (wpList _ _ _ (⟨_, Op.store _ _ _, _, _, _, _⟩ :: _)); refine m_storeT tabs (m := ms.length) (tn := matT m) (j := i) rfl rfl rfl rfl rfl rfl (by decide) (by rw [flatMap_length matT_length]; simp; omega) hi' (fun w c => (c.mat (u0 := iV m.1) (u1 := iV m.2.1)).swap) ?_))
        | (show AT _ _ _ (wpList _ _ _ []); first | refine c_nil (x_then ?_) | refine c_nil ?_)
        | (show AT _ _ _ (Code.wp _ _ _); refine c_region ?_)
        | (show AT _ _ _ _; first | refine x_then ?_ | refine x_blk ?_))
      refine x_next (i + 1) (by repeat' (first | exact Sub.nil | refine Sub.cons rfl ?_ | refine Sub.consi rfl (by omega) ?_)) (fun w' c' => ⟨by omega, ?_⟩) (by omega)
      rw [flatMap_set matT_length _ _ _ (by simp; omega), set_fill ms i mat0 hi' _ hm] at c'
      exact c'
    · refine x_ret1 Tryd.results17 (res_tmp rfl) (fun w' c' => ⟨_, _, rfl, ⟨_, _, rfl, .mk, rfl⟩, ?_⟩)
      have e1 : ms.take i = ms := take_end (by omega)
      have e2 : ms.length - i = 0 := by omega
      simpa [e1, e2] using c'
end Go.Proofs.YtljgmmmgnfgbhaaDoor
