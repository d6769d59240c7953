import Derived.Test.YtcplmeajmpkpkaaGreatAloqsp
import Derived.Test.YtcplmeajmpkpkaaGreatImgqsp
import Derived.Test.YtcplmeajmpkpkaaGreatLCqsp
import Derived.Test.YtcplmeajmpkpkaaGreatMorqsp
import Derived.Test.YtcplmeajmpkpkaaGreatRdPqsp
import Derived.Test.YtcplmeajmpkpkaaGreatWhoqsp
namespace Go.Proofs.YtcplmeajmpkpkaaGreat
open Go.Lg Go.Proofs Go.RowKit
attribute [local irreducible] Code.wp wpList bodyPost Exit.then Exit.inBlock Hp Again Calls Y AT ResV QT Qn QI wpAny wpAnyQ
set_option maxRecDepth 20000
set_option maxHeartbeats 4000000

def trF (f : Nat → Nat → Int) : Nat → Nat → Int := fun i j => f j i
def trTo (f : Nat → Nat → Int) (i k : Nat) : Nat → Nat → Int := fun a b => if b < i ∨ (b = i ∧ a < k) then f b a else 0
theorem trTo_next {f : Nat → Nat → Int} {i k : Nat} : upd (trTo f i k) k i (f i k) = trTo f i (k + 1) := by
  funext a b
  unfold upd trTo
  grind
theorem l3Transpose_ok {w : World} {R C : Nat} {f : Nat → Nat → Int} {u : Value} (hr : Rd w (iT (mk R C f)) u) (hR : R ≤ 64) (hC : C ≤ 64) : Does Tryz.prog 37 [.agg #[iV R, iV C, u]] w (GivesK C R (trF f)) := by
  obtain ⟨au, cu, rfl, hsu, hcu⟩ := rd_mk hr
  have hRC := rc_le (R := R) (C := C) om om
  have hCR := rc_le (R := C) (C := R) om om
  refine fn_enter Tryz.func37 rfl Tryz.ntmps37 rfl ?_
  repeat' (first | (show oL; first | refine sAs rfl rfl ?_ | refine sFd tabs rfl rfl rfl rfl ?_ | refine sLd 1 tabs rfl rfl rfl rfl rfl ?_ | (show oA (.call _); (refine m_call (ent_of Tryz.func81 kr rfl) rfl rfl (fun w c => l3Zero_ok (R := C) (C := R) om om) ?_; rintro v H' ⟨am, cm, rfl, hsm, rfl⟩)) | (show oA (.store _ _ _); refine m_storeb 0 tabs rfl rfl rfl rfl rfl rfl rfl ?_) | (show oA (.box _ _); refine m_box rfl rfl (fun b4 hb4 => ?_)) | (show oA (.alloc _); refine m_alloc tabs rfl rfl (fun b7 hb7 => ?_))) | refine xNt ?_ | (show oC; first | refine c_seq ?_ | refine c_region ?_ | refine c_block ?_))
  rename_i b6 hb6
  refine c_loopH (α := Nat) [1, 2, 3] (fun i => [(4, .int .i64 i)]) (fun i => i ≤ R) (fun i => [.own (iT (mk C R (trTo f i 0))) (.slice am (C * R) cm), .blk b7 #[iV C, iV R, .slice am (C * R) cm] 47, .blk b6 #[iV 0, iV 0, .slice none 0 0] 47, .blk b4 #[iV R, iV C, .slice au (R * C) cu] 47]) (fun i => R - i) 0 rfl sB ?_ ?_ ?_
  · exact Nat.zero_le _
  · intro w' c'
    have e0 : mk C R (trTo f 0 0) = mk C R (fun _ _ => 0) := mk_ext (fun i j hi hj => by unfold trTo; grind)
    rw [e0]
    exact c'.front (i := 1) rfl
  · intro i hi
    by_cases hiR : i < R
    · repeat' (first | (show oL; first | refine sMv rfl rfl ?_ | refine sAs rfl rfl ?_ | refine sFd tabs rfl rfl rfl rfl ?_ | refine sLd 3 tabs rfl rfl rfl rfl rfl ?_ | refine sLs rfl rfl rfl ?_) | refine xNt ?_ | (show oC; first | refine c_seq ?_ | refine c_region ?_ | refine c_skip (x_then ?_) | refine c_block ?_ | refine c_ift rfl aO ?_))
      refine c_loopH (α := Nat) [1, 2, 3, 4] (fun k => [(5, .int .i64 k)]) (fun k => k ≤ C) (fun k => [.own (iT (mk C R (trTo f i k))) (.slice am (C * R) cm), .blk b7 #[iV C, iV R, .slice am (C * R) cm] 47, .blk b6 #[iV 0, iV 0, .slice none 0 0] 47, .blk b4 #[iV R, iV C, .slice au (R * C) cu] 47]) (fun k => C - k) 0 rfl sB ?_ ?_ ?_
      · exact Nat.zero_le _
      · exact fun w' c' => c'
      · intro k hk
        by_cases hkC : k < C
        · have c1 := cell_lt hiR hkC
          have c2 := cell_lt hkC hiR
          have c3 := Nat.mul_le_mul_right C hi
          have c4 := Nat.mul_le_mul_right R hk
          repeat' (first | (show oL; first | refine sMv rfl rfl ?_ | refine sAs rfl rfl ?_ | refine sFd tabs rfl rfl rfl rfl ?_ | refine sLd 3 tabs rfl rfl rfl rfl rfl ?_ | (show oA (.indexAddr _ _ _); refine st_y (y_ix1 tabs (j := k * R + i) rfl rfl rfl hsm rfl c2) rfl ?_) | (show oA (.binOp _ _ _ _ _); first | refine sAd rfl rfl om rfl ?_ | refine sLs rfl rfl rfl ?_) | (show oA (.store _ _ _); refine m_storeo 0 tabs rfl rfl rfl rfl (by rw [mk_length]; exact c2) ?_)) | (show oN; first | refine c_nil (x_then ?_) | refine c_nil ?_) | (show oC; first | refine c_tailR 18 kr kr kr kr kr kr (fun _ c => Hp.drew c) ?_ | refine c_seq ?_ | refine c_region ?_ | refine c_skip (x_then ?_) | refine c_block ?_ | refine c_ift rfl aO ?_) | (show QT _ _ _ _ _ _ (_ :: _); first | refine qMv rfl rfl ?_ | refine qFd tabs rfl rfl rfl rfl ?_ | (show qA (.load _ _); first | refine qLd 3 tabs rfl rfl rfl rfl rfl ?_ | refine q_y (y_load tabs rfl rfl (hc_rdk (RdOut.of_rd hr) hiR hkC)) rfl ?_ | refine qLd 1 tabs rfl rfl rfl rfl rfl ?_) | (show qA (.indexAddr _ _ _); refine q_y (y_ix1 tabs (j := i * C + k) rfl rfl rfl hsu rfl c1) rfl ?_) | (show qA (.binOp _ _ _ _ _); first | refine q_y (y_muln (a := i) (b := C) rfl rfl rfl rfl om) rfl ?_ | refine q_y (y_muln (a := k) (b := R) rfl rfl rfl rfl om) rfl ?_ | refine q_y (y_addn (b := i) rfl rfl rfl rfl om) rfl ?_ | refine q_y (y_addn (b := k) rfl rfl rfl rfl om) rfl ?_)) | (show QT _ _ _ _ _ _ []; refine q_nil ?_) | (show AT _ _ _ _; first | refine x_then ?_ | refine x_blk ?_))
          refine x_nx (k + 1) sB om (fun w' c' => ?_) om
          simp only [List.set_cons_zero] at c'
          rw [mk_set hkC hiR, trTo_next] at c'
          exact c'
        · have : k = C := by omega
          subst this
          repeat' (first | (show oL; first | refine sMv rfl rfl ?_ | refine sAs rfl rfl ?_ | refine sFd tabs rfl rfl rfl rfl ?_ | refine sLd 3 tabs rfl rfl rfl rfl rfl ?_ | (show oA (.binOp _ _ _ _ _); first | refine sAd rfl rfl om rfl ?_ | refine sLs rfl rfl rfl ?_)) | refine xNt ?_ | (show oC; first | refine c_seq ?_ | refine c_region ?_ | refine c_exit ?_ | refine c_iff rfl nN ?_) | (show AT _ _ _ _; first | refine x_then ?_ | refine x_then_exit ?_ | refine x_blk_exit rfl ?_ | refine x_blk ?_))
          refine x_nx (i + 1) sB om (fun w' c' => ?_) om
          have e0 : mk k R (trTo f i k) = mk k R (trTo f (i + 1) 0) := mk_ext (fun a b ha hb => by unfold trTo; grind)
          rw [e0] at c'
          exact c'
    · have : i = R := by omega
      subst this
      have e0 : mk C i (trTo f i 0) = mk C i (trF f) := mk_ext (fun a b ha hb => by unfold trTo trF; rw [if_pos (.inl hb)])
      rw [e0]
      repeat' (first | (show oL; first | refine sMv rfl rfl ?_ | refine sFd tabs rfl rfl rfl rfl ?_ | (show oA (.load _ _); first | refine sLd 3 tabs rfl rfl rfl rfl rfl ?_ | refine sLb 1 tabs rfl rfl rfl rfl rfl ?_) | refine sLs rfl rfl rfl ?_ | (show oA (.store _ _ _); refine m_storeb 2 tabs rfl rfl rfl rfl rfl rfl rfl ?_)) | refine xNt ?_ | (show oC; first | refine c_seq ?_ | refine c_region ?_ | refine c_ret ?_ | refine c_exit ?_ | refine c_iff rfl nN ?_) | (show AT _ _ _ _; first | refine x_then ?_ | refine x_then_exit ?_ | refine x_blk_exit rfl ?_))
      exact x_ret1 Tryz.results37 (res_cellb 2 tabs rfl rfl rfl rfl) (fun w' c' => ⟨_, _, rfl, ⟨am, cm, rfl, hsm, rfl⟩, c'.sub (.cons_cons _ (List.nil_sublist _))⟩)
end Go.Proofs.YtcplmeajmpkpkaaGreat
