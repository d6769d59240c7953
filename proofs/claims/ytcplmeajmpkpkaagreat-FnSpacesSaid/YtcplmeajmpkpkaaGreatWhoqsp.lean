import Derived.Test.YtcplmeajmpkpkaaGreatMulqsp
import Derived.Test.YtcplmeajmpkpkaaGreatWthqsp
import Derived.Test.YtcplmeajmpkpkaaGreatZsbqsp
namespace Go.Proofs.YtcplmeajmpkpkaaGreat
open Go.Lg Go.Proofs Go.RowKit
attribute [local irreducible] Code.wp wpList bodyPost Exit.then Exit.inBlock Hp Again Calls Y AT ResV QT Qn QI wpAny wpAnyQ
set_option maxRecDepth 20000
set_option maxHeartbeats 4000000

/-! ### whole spaces -/
theorem rows_ok {w : World} {R C : Nat} {f : Nat → Nat → Int} {u : Value} (hr : Rd w (iT (mk R C f)) u) (hR : R ≤ 64) (hC : C ≤ 64) : Does Tryz.prog 96 [.agg #[iV R, iV C, u]] w (GivesRows (rowL C f R)) := by
  obtain ⟨a, c, rfl, hs, hc⟩ := rd_mk hr
  refine fn_enter Tryz.func96 rfl Tryz.ntmps96 rfl ?_
  repeat' (first | (show oL; first | refine sMv rfl rfl ?_ | refine sAs rfl rfl ?_ | refine sFd tabs rfl rfl rfl rfl ?_ | refine sLd 0 tabs rfl rfl rfl rfl rfl ?_ | (show oA (.box _ _); refine m_box rfl rfl (fun b hb => ?_))) | refine xNt ?_ | (show oC; first | refine c_seq ?_ | refine c_region ?_ | refine c_block ?_))
  refine c_loopH (α := Nat × Option Addr × Nat) [1, 6] (fun q => [(3, .slice q.2.1 q.1 q.2.2), (7, .int .i64 q.1)]) (fun q => q.1 ≤ R) (fun q => [.own (rowsT 43 (rowL C f q.1)) (.slice q.2.1 q.1 q.2.2), .blk b #[iV R, iV C, .slice a (R * C) c] 47]) (fun q => R - q.1) (0, none, 0) rfl sB ?_ ?_ ?_
  · exact Nat.zero_le _
  · exact fun w' c' => Hp.nilp _ _ c'
  · rintro ⟨i, al, cl⟩ hi
    simp only at hi ⊢
    by_cases hiR : i < R
    · repeat' (first | (show oL; first | refine sMv rfl rfl ?_ | refine sAs rfl rfl ?_ | refine sLb 1 tabs rfl rfl rfl rfl rfl ?_ | (show oA (.binOp _ _ _ _ _); first | refine sAd rfl rfl om rfl ?_ | refine sLs rfl rfl rfl ?_) | (show oA (.call _); first | (refine m_call (ent_of Tryz.func90 kr rfl) rfl rfl (fun w c => rowg_ok om om hiR hc) ?_; rintro v H' ⟨rfl, rfl⟩) | (refine m_call (ent_of Tryz.func89 kr rfl) rfl rfl (fun w c => Clone_ok (row_rds (c.rd hr) hiR) (by rw [mkv_length]; omega)) ?_; rw [mkv_length]; rintro v H' ⟨az, cz, rfl, hsz, rfl⟩) | refine m_push1 [] 0 0 tabs (m' := i) rfl rfl rfl rfl rfl rfl rfl (by simp [rowT_map]) (by simp [rowT_map]; omega) (by decide) rfl rfl (fun a4 c4 => ?_)) | (show oA (.buildSlice _ _ _); refine m_build1 tabs (us := [.slice az C cz]) rfl rfl rfl rfl (by decide) rfl (fun g2 hg2 => ?_))) | (show oN; first | refine c_nil (x_then ?_) | refine c_nil ?_) | (show oC; first | refine c_seq ?_ | refine c_region ?_ | refine c_skip (x_then ?_) | refine c_block ?_ | refine c_ift rfl aO ?_) | (show AT _ _ _ _; first | refine x_then ?_ | refine x_blk ?_))
      refine x_nx (i + 1, a4, c4) sB (by simp only; omega) (fun w' c' => ?_) (by simp only; omega)
      have e0 : (rowL C f i).flatMap rowT ++ (List.map T.c [] ++ [iT (mkv C (f i))]) = (rowL C f (i + 1)).flatMap rowT := by rw [rowL_next, List.flatMap_append]; rfl
      rw [e0] at c'
      exact c'
    · have : i = R := by omega
      subst this
      refine AT.fact (rows_sl 0 rfl) (fun hsl => ?_)
      rw [rowL_length] at hsl
      repeat' (first | (show oL; first | refine sMv rfl rfl ?_ | refine sAs rfl rfl ?_ | refine sLs rfl rfl rfl ?_) | refine xNt ?_ | (show oC; first | refine c_seq ?_ | refine c_region ?_ | refine c_ret ?_ | refine c_exit ?_ | refine c_iff rfl nN ?_) | (show AT _ _ _ _; first | refine x_then ?_ | refine x_then_exit ?_ | refine x_blk_exit rfl ?_))
      exact x_ret1 Tryz.results96 (res_tmp rfl) (fun w' c' => ⟨_, _, rfl, ⟨al, cl, by rw [rowL_length], by rw [rowL_length]; exact hsl, by rw [rowL_length]⟩, c'.sub (.cons_cons _ (List.nil_sublist _))⟩)
end Go.Proofs.YtcplmeajmpkpkaaGreat
