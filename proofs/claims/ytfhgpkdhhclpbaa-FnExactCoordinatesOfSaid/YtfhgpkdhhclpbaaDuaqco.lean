import Derived.Test.YtfhgpkdhhclpbaaAloqco
import Derived.Test.YtfhgpkdhhclpbaaInvqco
import Derived.Test.YtfhgpkdhhclpbaaMorqco
import Derived.Test.YtfhgpkdhhclpbaaMulqco
import Derived.Test.YtfhgpkdhhclpbaaRepqco
import Derived.Test.YtfhgpkdhhclpbaaSpbqco
import Derived.Test.YtfhgpkdhhclpbaaSupqco
namespace Go.Proofs.Ytfhgpkdhhclpbaa
open Go.Lg Go.Proofs Go.RowKit
attribute [local irreducible] Code.wp wpList bodyPost Exit.then Exit.inBlock Hp Again Calls Y AT ResV QT Qn QI wpAny wpAnyQ
set_option maxRecDepth 20000
set_option maxHeartbeats 4000000

/-! ### transposed matrices, the other way round -/
def trF (f : Nat → Nat → Int) : Nat → Nat → Int := fun i j => f j i
def trTo (f : Nat → Nat → Int) (i k : Nat) : Nat → Nat → Int := fun a b => if b < i ∨ (b = i ∧ a < k) then f b a else 0
theorem trTo_next {f : Nat → Nat → Int} {i k : Nat} : upd (trTo f i k) k i (f i k) = trTo f i (k + 1) := by
  funext a b
  unfold upd trTo
  grind
theorem l3Transpose_ok {w : World} {R C : Nat} {f : Nat → Nat → Int} {u : Value} (hr : Rd w (iT (mk R C f)) u) (hR : R ≤ 64) (hC : C ≤ 64) : Does Try.prog 88 [.agg #[iV R, iV C, u]] w (GivesK C R (trF f)) := by
  obtain ⟨au, cu, rfl, hsu, hcu⟩ := rd_mk hr
  have hRC := rc_le (R := R) (C := C) (by omega) (by omega)
  have hCR := rc_le (R := C) (C := R) (by omega) (by omega)
  refine fn_enter Try.func88 rfl Try.ntmps88 rfl ?_
  repeat' (first
    | (show AT _ _ _ (wpList _ _ _ (_ :: _)); first
       | (show AT _ _ _ (wpList _ _ _ (⟨_, Op.assign _, _, _, _, _⟩ :: _)); refine st_y (y_assign rfl) rfl ?_)
       | (show AT _ _ _ (wpList _ _ _ (⟨_, Op.fieldAddr _ _ _, _, _, _, _⟩ :: _)); refine st_y (y_field tabs rfl rfl rfl) rfl ?_)
       | (show AT _ _ _ (wpList _ _ _ (⟨_, Op.load _ _, _, _, _, _⟩ :: _)); refine st_y (y_load tabs rfl rfl (hc_blk 1 rfl rfl)) rfl ?_)
       | (show AT _ _ _ (wpList _ _ _ (⟨_, Op.call _, _, _, _, _⟩ :: _)); (refine m_call (ent_of Try.func114 (by kernel_rfl) rfl) rfl rfl (fun w c => l3Zero_ok (R := C) (C := R) (by omega) (by omega)) ?_; rintro v H' ⟨am, cm, rfl, hsm, rfl⟩))
       | (show AT _ _ _ (wpList _ _ _ (⟨_, Op.store _ _ _, _, _, _, _⟩ :: _)); refine m_storeb 0 tabs rfl rfl rfl rfl rfl rfl rfl ?_)
       | (show AT _ _ _ (wpList _ _ _ (⟨_, Op.box _ _, _, _, _, _⟩ :: _)); refine m_box rfl rfl (fun b4 hb4 => ?_))
       | (show AT _ _ _ (wpList _ _ _ (⟨_, Op.alloc _, _, _, _, _⟩ :: _)); refine m_alloc tabs rfl rfl (fun b7 hb7 => ?_)))
    | (show AT _ _ _ (wpList _ _ _ []); refine c_nil (x_then ?_))
    | (show AT _ _ _ (Code.wp _ _ _); first | refine c_seq ?_ | refine c_region ?_ | refine c_block ?_))
  rename_i b6 hb6
  refine c_loopH (α := Nat) [1, 2, 3] (fun i => [(4, .int .i64 i)]) (fun i => i ≤ R) (fun i => [.own (iT (mk C R (trTo f i 0))) (.slice am (C * R) cm), .blk b7 #[iV C, iV R, .slice am (C * R) cm] 81, .blk b6 #[iV 0, iV 0, .slice none 0 0] 81, .blk b4 #[iV R, iV C, .slice au (R * C) cu] 81]) (fun i => R - i) 0 rfl (by repeat' (first | exact Sub.nil | refine Sub.cons rfl ?_ | refine Sub.consi rfl (by omega) ?_)) ?_ ?_ ?_
  · exact Nat.zero_le _
  · intro w' c'
    have e0 : mk C R (trTo f 0 0) = mk C R (fun _ _ => 0) := mk_ext (fun i j hi hj => by unfold trTo; grind)
    rw [e0]
    exact c'.front (i := 1) rfl
  · intro i hi
    by_cases hiR : i < R
    · repeat' (first
        | (show AT _ _ _ (wpList _ _ _ (_ :: _)); first
           | (show AT _ _ _ (wpList _ _ _ (⟨_, Op.move _, _, _, _, _⟩ :: _)); refine st_y (y_move rfl) rfl ?_)
           | (show AT _ _ _ (wpList _ _ _ (⟨_, Op.assign _, _, _, _, _⟩ :: _)); refine st_y (y_assign rfl) rfl ?_)
           | (show AT _ _ _ (wpList _ _ _ (⟨_, Op.fieldAddr _ _ _, _, _, _, _⟩ :: _)); refine st_y (y_field tabs rfl rfl rfl) rfl ?_)
           | (show AT _ _ _ (wpList _ _ _ (⟨_, Op.load _ _, _, _, _, _⟩ :: _)); refine st_y (y_load tabs rfl rfl (hc_blk 3 rfl rfl)) rfl ?_)
           | (show AT _ _ _ (wpList _ _ _ (⟨_, Op.binOp _ _ _ _ _, _, _, _, _⟩ :: _)); refine st_y (y_lss rfl rfl) rfl ?_))
        | (show AT _ _ _ (wpList _ _ _ []); refine c_nil (x_then ?_))
        | (show AT _ _ _ (Code.wp _ _ _); first | refine c_seq ?_ | refine c_region ?_ | refine c_skip (x_then ?_) | refine c_block ?_ | refine c_ift rfl (by first | assumption | omega) ?_))
      refine c_loopH (α := Nat) [1, 2, 3, 4] (fun k => [(5, .int .i64 k)]) (fun k => k ≤ C) (fun k => [.own (iT (mk C R (trTo f i k))) (.slice am (C * R) cm), .blk b7 #[iV C, iV R, .slice am (C * R) cm] 81, .blk b6 #[iV 0, iV 0, .slice none 0 0] 81, .blk b4 #[iV R, iV C, .slice au (R * C) cu] 81]) (fun k => C - k) 0 rfl (by repeat' (first | exact Sub.nil | refine Sub.cons rfl ?_ | refine Sub.consi rfl (by omega) ?_)) ?_ ?_ ?_
      · exact Nat.zero_le _
      · exact fun w' c' => c'
      · intro k hk
        by_cases hkC : k < C
        · have c1 := cell_lt hiR hkC
          have c2 := cell_lt hkC hiR
          have c3 := Nat.mul_le_mul_right C hi
          have c4 := Nat.mul_le_mul_right R hk
          repeat' (first
            | (show AT _ _ _ (wpList _ _ _ (_ :: _)); first
               | (show AT _ _ _ (wpList _ _ _ (⟨_, Op.move _, _, _, _, _⟩ :: _)); refine st_y (y_move rfl) rfl ?_)
               | (show AT _ _ _ (wpList _ _ _ (⟨_, Op.assign _, _, _, _, _⟩ :: _)); refine st_y (y_assign rfl) rfl ?_)
               | (show AT _ _ _ (wpList _ _ _ (⟨_, Op.fieldAddr _ _ _, _, _, _, _⟩ :: _)); refine st_y (y_field tabs rfl rfl rfl) rfl ?_)
               | (show AT _ _ _ (wpList _ _ _ (⟨_, Op.load _ _, _, _, _, _⟩ :: _)); refine st_y (y_load tabs rfl rfl (hc_blk 3 rfl rfl)) rfl ?_)
               | (show AT _ _ _ (wpList _ _ _ (⟨_, Op.indexAddr _ _ _, _, _, _, _⟩ :: _)); refine st_y (y_ix1 tabs (j := k * R + i) rfl rfl rfl hsm rfl c2) rfl ?_)
               | (show AT _ _ _ (wpList _ _ _ (⟨_, Op.binOp _ _ _ _ _, _, _, _, _⟩ :: _)); first | refine st_y (y_add rfl rfl (by omega)) rfl ?_ | refine st_y (y_lss rfl rfl) rfl ?_)
               | (show AT _ _ _ (wpList _ _ _ (⟨_, Op.store _ _ _, _, _, _, _⟩ :: _)); refine m_storeo 0 tabs rfl rfl rfl rfl (by rw [mk_length]; exact c2) ?_))
            | (show AT _ _ _ (wpList _ _ _ []); first | refine c_nil (x_then ?_) | refine c_nil ?_)
            | (show AT _ _ _ (Code.wp _ _ _); first | refine c_tailR 18 (by kernel_rfl) (by kernel_rfl) (by kernel_rfl) (by kernel_rfl) (by kernel_rfl) (by kernel_rfl) (fun _ c => Hp.drew c) ?_ | refine c_seq ?_ | refine c_region ?_ | refine c_skip (x_then ?_) | refine c_block ?_ | refine c_ift rfl (by first | assumption | omega) ?_)
            | (show QT _ _ _ _ _ _ (_ :: _); first
               | (show QT _ _ _ _ _ _ (⟨_, Op.move _, _, _, _, _⟩ :: _); refine q_y (y_move rfl) rfl ?_)
               | (show QT _ _ _ _ _ _ (⟨_, Op.fieldAddr _ _ _, _, _, _, _⟩ :: _); refine q_y (y_field tabs rfl rfl rfl) rfl ?_)
               | (show QT _ _ _ _ _ _ (⟨_, Op.load _ _, _, _, _, _⟩ :: _); first | refine q_y (y_load tabs rfl rfl (hc_blk 3 rfl rfl)) rfl ?_ | refine q_y (y_load tabs rfl rfl (hc_rdk (RdOut.of_rd hr) hiR hkC)) rfl ?_ | refine q_y (y_load tabs rfl rfl (hc_blk 1 rfl rfl)) rfl ?_)
               | (show QT _ _ _ _ _ _ (⟨_, Op.indexAddr _ _ _, _, _, _, _⟩ :: _); refine q_y (y_ix1 tabs (j := i * C + k) rfl rfl rfl hsu rfl c1) rfl ?_)
               | (show QT _ _ _ _ _ _ (⟨_, Op.binOp _ _ _ _ _, _, _, _, _⟩ :: _); first | refine q_y (y_muln (a := i) (b := C) rfl rfl rfl rfl (by omega)) rfl ?_ | refine q_y (y_muln (a := k) (b := R) rfl rfl rfl rfl (by omega)) rfl ?_ | refine q_y (y_addn (b := i) rfl rfl rfl rfl (by omega)) rfl ?_ | refine q_y (y_addn (b := k) rfl rfl rfl rfl (by omega)) rfl ?_))
            | (show QT _ _ _ _ _ _ []; refine q_nil ?_)
            | (show AT _ _ _ _; first | refine x_then ?_ | refine x_blk ?_))
          refine x_nx (k + 1) (by repeat' (first | exact Sub.nil | refine Sub.cons rfl ?_ | refine Sub.consi rfl (by omega) ?_)) (by omega) (fun w' c' => ?_) (by omega)
          simp only [List.set_cons_zero] at c'
          rw [mk_set hkC hiR, trTo_next] at c'
          exact c'
        · have : k = C := by omega
          subst this
          repeat' (first
            | (show AT _ _ _ (wpList _ _ _ (_ :: _)); first
               | (show AT _ _ _ (wpList _ _ _ (⟨_, Op.move _, _, _, _, _⟩ :: _)); refine st_y (y_move rfl) rfl ?_)
               | (show AT _ _ _ (wpList _ _ _ (⟨_, Op.assign _, _, _, _, _⟩ :: _)); refine st_y (y_assign rfl) rfl ?_)
               | (show AT _ _ _ (wpList _ _ _ (⟨_, Op.fieldAddr _ _ _, _, _, _, _⟩ :: _)); refine st_y (y_field tabs rfl rfl rfl) rfl ?_)
               | (show AT _ _ _ (wpList _ _ _ (⟨_, Op.load _ _, _, _, _, _⟩ :: _)); refine st_y (y_load tabs rfl rfl (hc_blk 3 rfl rfl)) rfl ?_)
               | (show AT _ _ _ (wpList _ _ _ (⟨_, Op.binOp _ _ _ _ _, _, _, _, _⟩ :: _)); first | refine st_y (y_add rfl rfl (by omega)) rfl ?_ | refine st_y (y_lss rfl rfl) rfl ?_))
            | (show AT _ _ _ (wpList _ _ _ []); refine c_nil (x_then ?_))
            | (show AT _ _ _ (Code.wp _ _ _); first | refine c_seq ?_ | refine c_region ?_ | refine c_exit ?_ | refine c_iff rfl (by first | assumption | exact not_not_intro (by assumption) | omega) ?_)
            | (show AT _ _ _ _; first | refine x_then ?_ | refine x_then_exit ?_ | refine x_blk_exit rfl ?_ | refine x_blk ?_))
          refine x_nx (i + 1) (by repeat' (first | exact Sub.nil | refine Sub.cons rfl ?_ | refine Sub.consi rfl (by omega) ?_)) (by omega) (fun w' c' => ?_) (by omega)
          have e0 : mk k R (trTo f i k) = mk k R (trTo f (i + 1) 0) := mk_ext (fun a b ha hb => by unfold trTo; grind)
          rw [e0] at c'
          exact c'
    · have : i = R := by omega
      subst this
      have e0 : mk C i (trTo f i 0) = mk C i (trF f) := mk_ext (fun a b ha hb => by unfold trTo trF; rw [if_pos (.inl hb)])
      rw [e0]
      repeat' (first
        | (show AT _ _ _ (wpList _ _ _ (_ :: _)); first
           | (show AT _ _ _ (wpList _ _ _ (⟨_, Op.move _, _, _, _, _⟩ :: _)); refine st_y (y_move rfl) rfl ?_)
           | (show AT _ _ _ (wpList _ _ _ (⟨_, Op.fieldAddr _ _ _, _, _, _, _⟩ :: _)); refine st_y (y_field tabs rfl rfl rfl) rfl ?_)
           | (show AT _ _ _ (wpList _ _ _ (⟨_, Op.load _ _, _, _, _, _⟩ :: _)); first | refine st_y (y_load tabs rfl rfl (hc_blk 3 rfl rfl)) rfl ?_ | refine st_y (y_loadb 1 tabs rfl rfl rfl rfl) rfl ?_)
           | (show AT _ _ _ (wpList _ _ _ (⟨_, Op.binOp _ _ _ _ _, _, _, _, _⟩ :: _)); refine st_y (y_lss rfl rfl) rfl ?_)
           | (show AT _ _ _ (wpList _ _ _ (⟨_, Op.store _ _ _, _, _, _, _⟩ :: _)); refine m_storeb 2 tabs rfl rfl rfl rfl rfl rfl rfl ?_))
        | (show AT _ _ _ (wpList _ _ _ []); refine c_nil (x_then ?_))
        | (show AT _ _ _ (Code.wp _ _ _); first | refine c_seq ?_ | refine c_region ?_ | refine c_ret ?_ | refine c_exit ?_ | refine c_iff rfl (by first | assumption | exact not_not_intro (by assumption) | omega) ?_)
        | (show AT _ _ _ _; first | refine x_then ?_ | refine x_then_exit ?_ | refine x_blk_exit rfl ?_))
      exact x_ret1 Try.results88 (res_cellb 2 tabs rfl rfl rfl rfl) (fun w' c' => ⟨_, _, rfl, ⟨am, cm, rfl, hsm, rfl⟩, c'.sub (.cons_cons _ (List.nil_sublist _))⟩)
/-! ### the dual -/
end Go.Proofs.Ytfhgpkdhhclpbaa
