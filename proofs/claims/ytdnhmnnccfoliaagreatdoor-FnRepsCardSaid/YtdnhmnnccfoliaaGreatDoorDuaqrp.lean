import Derived.Test.YtdnhmnnccfoliaaGreatDoorAloqrp
import Derived.Test.YtdnhmnnccfoliaaGreatDoorRksqrp
import Derived.Test.YtdnhmnnccfoliaaGreatDoorWhoqrp
namespace Go.Proofs.YtdnhmnnccfoliaaGreatDoor
open Go.Lg Go.Proofs Go.RowKit
attribute [local irreducible] Code.wp wpList bodyPost Exit.then Exit.inBlock Hp Again Calls Y AT ResV QT Qn QI wpAny wpAnyQ
set_option maxRecDepth 20000
set_option maxHeartbeats 4000000

def trF (f : Nat → Nat → Int) : Nat → Nat → Int := fun i j => f j i
theorem from_rows {R C : Nat} {f : Nat → Nat → Int} : mk C R (fromF (rowL C f R)) = mk C R (trF f) := mk_ext (fun i j hi hj => by
  unfold fromF rowL trF
  have : ((List.range R).map (fun i => mkv C (f i))).getD j [] = mkv C (f j) := by simp [List.getD, hj]
  rw [this, mkv_get hi])
def trTo (f : Nat → Nat → Int) (i k : Nat) : Nat → Nat → Int := fun a b => if b < i ∨ (b = i ∧ a < k) then f b a else 0
theorem trTo_next {f : Nat → Nat → Int} {i k : Nat} : upd (trTo f i k) k i (f i k) = trTo f i (k + 1) := by
  funext a b
  unfold upd trTo
  grind
theorem l3Transpose_ok {w : World} {R C : Nat} {f : Nat → Nat → Int} {u : Value} (hr : Rd w (iT (mk R C f)) u) (hR : R ≤ 64) (hC : C ≤ 64) : Does Tryz.prog 140 [.agg #[iV R, iV C, u]] w (GivesK C R (trF f)) := by
  obtain ⟨au, cu, rfl, hsu, hcu⟩ := rd_mk hr
  have hRC := rc_le (R := R) (C := C) om om
  have hCR := rc_le (R := C) (C := R) om om
  refine fn_enter Tryz.func140 rfl Tryz.ntmps140 rfl ?_
  repeat' (first | (show oL; first | refine sAs rfl rfl ?_ | refine sFd tabs rfl rfl rfl rfl ?_ | refine sLd 1 tabs rfl rfl rfl rfl rfl ?_ | (show oA (.call _); (refine m_call (ent_of Tryz.func125 kr rfl) rfl rfl (fun w c => l3Zero_ok (R := C) (C := R) om om) ?_; rintro v H' ⟨am, cm, rfl, hsm, rfl⟩)) | (show oA (.store _ _ _); refine m_storeb 0 tabs rfl rfl rfl rfl rfl rfl rfl ?_) | (show oA (.box _ _); refine m_box rfl rfl (fun b4 hb4 => ?_)) | (show oA (.alloc _); refine m_alloc tabs rfl rfl (fun b7 hb7 => ?_))) | refine xNt ?_ | (show oC; first | refine c_seq ?_ | refine c_region ?_ | refine c_block ?_))
  rename_i b6 hb6
  refine c_loopH (α := Nat) [1, 2, 3] (fun i => [(4, .int .i64 i)]) (fun i => i ≤ R) (fun i => [.own (iT (mk C R (trTo f i 0))) (.slice am (C * R) cm), .blk b7 #[iV C, iV R, .slice am (C * R) cm] 41, .blk b6 #[iV 0, iV 0, .slice none 0 0] 41, .blk b4 #[iV R, iV C, .slice au (R * C) cu] 41]) (fun i => R - i) 0 rfl sB ?_ ?_ ?_
  · exact Nat.zero_le _
  · intro w' c'
    have e0 : mk C R (trTo f 0 0) = mk C R (fun _ _ => 0) := mk_ext (fun i j hi hj => by unfold trTo; grind)
    rw [e0]
    exact c'.front (i := 1) rfl
  · intro i hi
    by_cases hiR : i < R
    · repeat' (first | (show oL; first | refine sMv rfl rfl ?_ | refine sAs rfl rfl ?_ | refine sFd tabs rfl rfl rfl rfl ?_ | refine sLd 3 tabs rfl rfl rfl rfl rfl ?_ | refine sLs rfl rfl rfl ?_) | refine xNt ?_ | (show oC; first | refine c_seq ?_ | refine c_region ?_ | refine c_skip (x_then ?_) | refine c_block ?_ | refine c_ift rfl aO ?_))
      refine c_loopH (α := Nat) [1, 2, 3, 4] (fun k => [(5, .int .i64 k)]) (fun k => k ≤ C) (fun k => [.own (iT (mk C R (trTo f i k))) (.slice am (C * R) cm), .blk b7 #[iV C, iV R, .slice am (C * R) cm] 41, .blk b6 #[iV 0, iV 0, .slice none 0 0] 41, .blk b4 #[iV R, iV C, .slice au (R * C) cu] 41]) (fun k => C - k) 0 rfl sB ?_ ?_ ?_
      · exact Nat.zero_le _
      · exact fun w' c' => c'
      · intro k hk
        by_cases hkC : k < C
        · have c1 := cell_lt hiR hkC
          have c2 := cell_lt hkC hiR
          have c3 := Nat.mul_le_mul_right C hi
          have c4 := Nat.mul_le_mul_right R hk
          repeat' (first | (show oL; first | refine sMv rfl rfl ?_ | refine sAs rfl rfl ?_ | refine sFd tabs rfl rfl rfl rfl ?_ | refine sLd 3 tabs rfl rfl rfl rfl rfl ?_ | (show oA (.indexAddr _ _ _); refine st_y (y_ix1 tabs (j := k * R + i) rfl rfl rfl hsm rfl c2) rfl ?_) | (show oA (.binOp _ _ _ _ _); first | refine sAd rfl rfl om rfl ?_ | refine sLs rfl rfl rfl ?_) | (show oA (.store _ _ _); refine m_storeo 0 tabs rfl rfl rfl rfl (by rw [mk_length]; exact c2) ?_)) | (show oN; first | refine c_nil (x_then ?_) | refine c_nil ?_) | (show oC; first | refine c_tailR 18 kr kr kr kr kr kr (fun _ c => Hp.drew c) ?_ | refine c_seq ?_ | refine c_region ?_ | refine c_skip (x_then ?_) | refine c_block ?_ | refine c_ift rfl aO ?_) | (show QT _ _ _ _ _ _ (_ :: _); first | refine qMv rfl rfl ?_ | refine qFd tabs rfl rfl rfl rfl ?_ | (show qA (.load _ _); first | refine qLd 3 tabs rfl rfl rfl rfl rfl ?_ | refine q_y (y_load tabs rfl rfl (hc_rdk (RdOut.of_rd hr) hiR hkC)) rfl ?_ | refine qLd 1 tabs rfl rfl rfl rfl rfl ?_) | (show qA (.indexAddr _ _ _); refine q_y (y_ix1 tabs (j := i * C + k) rfl rfl rfl hsu rfl c1) rfl ?_) | (show qA (.binOp _ _ _ _ _); first | refine q_y (y_muln (a := i) (b := C) rfl rfl rfl rfl om) rfl ?_ | refine q_y (y_muln (a := k) (b := R) rfl rfl rfl rfl om) rfl ?_ | refine q_y (y_addn (b := i) rfl rfl rfl rfl om) rfl ?_ | refine q_y (y_addn (b := k) rfl rfl rfl rfl om) rfl ?_)) | (show QT _ _ _ _ _ _ []; refine q_nil ?_) | (show AT _ _ _ _; first | refine x_then ?_ | refine x_blk ?_))
          refine x_nx (k + 1) sB om (fun w' c' => ?_) om
          simp only [List.set_cons_zero] at c'
          rw [mk_set hkC hiR, trTo_next] at c'
          exact c'
        · have : k = C := by omega
          subst this
          repeat' (first | (show oL; first | refine sMv rfl rfl ?_ | refine sAs rfl rfl ?_ | refine sFd tabs rfl rfl rfl rfl ?_ | refine sLd 3 tabs rfl rfl rfl rfl rfl ?_ | (show oA (.binOp _ _ _ _ _); first | refine sAd rfl rfl om rfl ?_ | refine sLs rfl rfl rfl ?_)) | refine xNt ?_ | (show oC; first | refine c_seq ?_ | refine c_region ?_ | refine c_exit ?_ | refine c_iff rfl nN ?_) | (show AT _ _ _ _; first | refine x_then ?_ | refine x_then_exit ?_ | refine x_blk_exit rfl ?_ | refine x_blk ?_))
          refine x_nx (i + 1) sB om (fun w' c' => ?_) om
          have e0 : mk k R (trTo f i k) = mk k R (trTo f (i + 1) 0) := mk_ext (fun a b ha hb => by unfold trTo; grind)
          rw [e0] at c'
          exact c'
    · have : i = R := by omega
      subst this
      have e0 : mk C i (trTo f i 0) = mk C i (trF f) := mk_ext (fun a b ha hb => by unfold trTo trF; rw [if_pos (.inl hb)])
      rw [e0]
      repeat' (first | (show oL; first | refine sMv rfl rfl ?_ | refine sFd tabs rfl rfl rfl rfl ?_ | (show oA (.load _ _); first | refine sLd 3 tabs rfl rfl rfl rfl rfl ?_ | refine sLb 1 tabs rfl rfl rfl rfl rfl ?_) | refine sLs rfl rfl rfl ?_ | (show oA (.store _ _ _); refine m_storeb 2 tabs rfl rfl rfl rfl rfl rfl rfl ?_)) | refine xNt ?_ | (show oC; first | refine c_seq ?_ | refine c_region ?_ | refine c_ret ?_ | refine c_exit ?_ | refine c_iff rfl nN ?_) | (show AT _ _ _ _; first | refine x_then ?_ | refine x_then_exit ?_ | refine x_blk_exit rfl ?_))
      exact x_ret1 Tryz.results140 (res_cellb 2 tabs rfl rfl rfl rfl) (fun w' c' => ⟨_, _, rfl, ⟨am, cm, rfl, hsm, rfl⟩, c'.sub (.cons_cons _ (List.nil_sublist _))⟩)
def opQ (q : Qv) : Qv := (q.1, q.2.2, q.2.1)
def GivesQB (q : Qv) (b : Bool) (r : Value) (H : List HE) : Prop := ∃ a c a' c', r = .tuple #[.agg #[iV q.1, .slice a q.2.1.length c, .slice a' q.2.2.length c'], .bool b] ∧ SA a q.2.1.length ∧ SA a' q.2.2.length ∧ H = [.own (iT q.2.2) (.slice a' q.2.2.length c'), .own (iT q.2.1) (.slice a q.2.1.length c)]
theorem impl_OppositeOf_yes {w : World} {q : Qv} {u u' : Value} (hu : Rd w (iT q.2.1) u) (hu' : Rd w (iT q.2.2) u') (hQ : QuivP q) : Does Tryz.prog 137 [.agg #[iV q.1, u, u']] w (GivesQB (opQ q) true) := by
  obtain ⟨n, xs, ys⟩ := q
  have hx := hQ.2.1
  have hy := hQ.2.2.1
  simp only [opQ] at hu hu' hx hy ⊢
  refine fn_enter Tryz.func137 rfl Tryz.ntmps137 rfl ?_
  repeat' (first | (show oL; first | refine sAs rfl rfl ?_ | refine sLb 1 tabs rfl rfl rfl rfl rfl ?_ | (show oA (.unOp _ _ _); refine st_y (y_notd rfl) rfl ?_) | (show oA (.call _); (refine m_call (ent_of Tryz.func81 kr rfl) rfl rfl (fun w c => impl_IsQuiver_ok (q := (n, xs, ys)) (c.rd hu) (c.rd hu')) ?_; rintro v H' ⟨rfl, rfl⟩)) | (show oA (.box _ _); refine m_box rfl rfl (fun b1 hb1 => ?_)) | (show oA (.alloc _); refine m_alloc tabs rfl rfl (fun b2 hb2 => ?_))) | refine xNt ?_ | (show oC; first | refine c_seq ?_ | refine c_region ?_ | refine c_skip (x_then ?_) | refine c_iff rfl nN ?_))
  all_goals first | exact absurd hQ aS | skip
  refine c_mixR (Hp [] w [.blk b1 #[iV n, u, u'] 26]) 9 kr kr kr kr kr (fun _ c => Hp.drew c) ?_
  refine h_take 0 rfl kr kr kr (by exact y_field tabs rfl rfl rfl) rfl (fun w c => by exact c.drop) ?_
  refine h_take 1 rfl kr kr kr (by exact y_load tabs rfl rfl (hc_blk 0 rfl rfl)) rfl (fun w c => by exact c.drop) ?_
  refine h_take 2 rfl kr kr kr (by exact y_field tabs rfl rfl rfl) rfl (fun w c => by exact c.drop) ?_
  refine h_take 3 rfl kr kr kr (by exact y_load tabs rfl rfl (hc_blk 0 rfl rfl)) rfl (fun w c => by exact c.drop) ?_
  refine h_take 5 rfl kr kr kr (by exact y_field tabs rfl rfl rfl) rfl (fun w c => by exact c.drop) ?_
  refine h_take 6 rfl kr kr kr (by exact y_load tabs rfl rfl (hc_blk 0 rfl rfl)) rfl (fun w c => by exact c.drop) ?_
  refine h_only 4 rfl kr ?_
  first | (refine m_call (ent_of Tryz.func138 kr rfl) rfl rfl (fun w c => Clone_ok (c.rd hu') om) ?_; rintro v H' ⟨a2, c2, rfl, hs2, rfl⟩) | (refine m_call (ent_of Tryz.func138 kr rfl) rfl rfl (fun w c => Clone_ok (c.rd hu) om) ?_; rintro v H' ⟨a3, c3, rfl, hs3, rfl⟩)
  refine c_nil (x_one (h_keep (fun w c => by exact c.drop.drop) ?_))
  refine h_only 7 rfl kr ?_
  first | (refine m_call (ent_of Tryz.func138 kr rfl) rfl rfl (fun w c => Clone_ok (c.rd hu') om) ?_; rintro v H' ⟨a2, c2, rfl, hs2, rfl⟩) | (refine m_call (ent_of Tryz.func138 kr rfl) rfl rfl (fun w c => Clone_ok (c.rd hu) om) ?_; rintro v H' ⟨a3, c3, rfl, hs3, rfl⟩)
  refine c_nil (x_one (h_keep sS ?_))
  refine h_take 8 rfl kr kr kr (by exact y_bld3 (bld_qv _ _ _ _ _ _ _) rfl rfl rfl) rfl sS ?_
  refine h_end kr ?_
  repeat' (first | (show oL; first | refine sAs rfl rfl ?_ | (show oA (.store _ _ _); refine m_storeb 2 tabs rfl rfl rfl rfl rfl rfl rfl ?_)) | refine xNt ?_ | (show oC; refine c_ret ?_))
  exact x_ret2 Tryz.results137 (res_cellb 2 tabs rfl rfl rfl rfl) (res_tmp rfl) (fun w' c' => ⟨_, _, rfl, ⟨a2, c2, a3, c3, rfl, hs2, hs3, rfl⟩, c'.sub (.cons_cons _ (.cons_cons _ (List.nil_sublist _)))⟩)
theorem spec_OppositeOf_yes {w : World} {q : Qv} {u u' : Value} (hu : Rd w (iT q.2.1) u) (hu' : Rd w (iT q.2.2) u') (hQ : QuivP q) : Does Tryz.prog 139 [.agg #[iV q.1, u, u']] w (GivesQB (opQ q) true) := by
  obtain ⟨n, xs, ys⟩ := q
  have hx := hQ.2.1
  have hy := hQ.2.2.1
  simp only [opQ] at hu hu' hx hy ⊢
  obtain ⟨a0, c0, rfl, hs0, _⟩ := hu.ints
  obtain ⟨a1, c1, rfl, hs1, _⟩ := hu'.ints
  refine fn_enter Tryz.func139 rfl Tryz.ntmps139 rfl ?_
  repeat' (first | (show oL; first | refine sAs rfl rfl ?_ | refine sLb 1 tabs rfl rfl rfl rfl rfl ?_ | (show oA (.unOp _ _ _); refine st_y (y_notd rfl) rfl ?_) | (show oA (.call _); (refine m_call (ent_of Tryz.func77 kr rfl) rfl rfl (fun w c => spec_IsQuiver_ok (q := (n, xs, ys)) (c.rd hu) (c.rd hu')) ?_; rintro v H' ⟨rfl, rfl⟩)) | (show oA (.box _ _); refine m_box rfl rfl (fun b1 hb1 => ?_)) | (show oA (.alloc _); refine m_alloc tabs rfl rfl (fun b2 hb2 => ?_))) | refine xNt ?_ | (show oC; first | refine c_seq ?_ | refine c_region ?_ | refine c_skip (x_then ?_) | refine c_iff rfl nN ?_))
  all_goals first | exact absurd hQ aS | skip
  refine c_mixR (Hp [] w [.blk b1 #[iV n, .slice a0 xs.length c0, .slice a1 ys.length c1] 26]) 11 kr kr kr kr kr (fun _ c => Hp.drew c) ?_
  refine h_take 0 rfl kr kr kr (by exact y_field tabs rfl rfl rfl) rfl (fun w c => by exact c.drop) ?_
  refine h_take 1 rfl kr kr kr (by exact y_load tabs rfl rfl (hc_blk 0 rfl rfl)) rfl (fun w c => by exact c.drop) ?_
  refine h_take 3 rfl kr kr kr (by exact y_field tabs rfl rfl rfl) rfl (fun w c => by exact c.drop) ?_
  refine h_take 4 rfl kr kr kr (by exact y_load tabs rfl rfl (hc_blk 0 rfl rfl)) rfl (fun w c => by exact c.drop) ?_
  refine h_take 7 rfl kr kr kr (by exact y_field tabs rfl rfl rfl) rfl (fun w c => by exact c.drop) ?_
  refine h_take 8 rfl kr kr kr (by exact y_load tabs rfl rfl (hc_blk 0 rfl rfl)) rfl (fun w c => by exact c.drop) ?_
  refine h_two 2 6 rfl rfl kr ?_ ?_
  · (refine m_build0 tabs rfl rfl (fun g hg => ?_))
    refine c_nil (x_one (h_keep (fun w c => by exact c.drop.drop) ?_))
    refine h_two 5 6 rfl rfl kr ?_ ?_
    · (refine m_dup 0 tabs rfl rfl rfl rfl rfl om (fun w c => c.rd hu') (fun a2 c2 hs2 => ?_))
      refine c_nil (x_one (h_keep (fun w c => by exact c.drop.drop) ?_))
      refine h_only 6 rfl kr ?_
      first | (refine m_build0 tabs rfl rfl (fun g hg => ?_)) | (refine m_dup 0 tabs rfl rfl rfl rfl rfl om (fun w c => c.rd hu) (fun a3 c3 hs3 => ?_))
      refine c_nil (x_one (h_keep sS ?_))
      refine h_only 9 rfl kr ?_
      first | (refine m_build0 tabs rfl rfl (fun g hg => ?_)) | (refine m_dup 0 tabs rfl rfl rfl rfl rfl om (fun w c => c.rd hu) (fun a3 c3 hs3 => ?_))
      refine c_nil (x_one (h_keep sS ?_))
      refine h_take 10 rfl kr kr kr (by exact y_bld3 (bld_qv _ _ _ _ _ _ _) rfl rfl rfl) rfl sS ?_
      refine h_end kr ?_
      repeat' (first | (show oL; first | refine sAs rfl rfl ?_ | (show oA (.store _ _ _); refine m_storeb 2 tabs rfl rfl rfl rfl rfl rfl rfl ?_)) | refine xNt ?_ | (show oC; refine c_ret ?_))
      exact x_ret2 Tryz.results139 (res_cellb 2 tabs rfl rfl rfl rfl) (res_tmp rfl) (fun w' c' => ⟨_, _, rfl, ⟨a2, c2, a3, c3, rfl, hs2, hs3, rfl⟩, c'.sub (.cons_cons _ (.cons_cons _ (List.nil_sublist _)))⟩)
    · (refine m_build0 tabs rfl rfl (fun g hg => ?_))
      refine c_nil (x_one (h_keep sS ?_))
      refine h_only 5 rfl kr ?_
      first | (refine m_dup 1 tabs rfl rfl rfl rfl rfl om (fun w c => c.rd hu') (fun a2 c2 hs2 => ?_)) | (refine m_dup 1 tabs rfl rfl rfl rfl rfl om (fun w c => c.rd hu) (fun a3 c3 hs3 => ?_))
      refine c_nil (x_one (h_keep sS ?_))
      refine h_only 9 rfl kr ?_
      first | (refine m_dup 1 tabs rfl rfl rfl rfl rfl om (fun w c => c.rd hu') (fun a2 c2 hs2 => ?_)) | (refine m_dup 1 tabs rfl rfl rfl rfl rfl om (fun w c => c.rd hu) (fun a3 c3 hs3 => ?_))
      refine c_nil (x_one (h_keep sS ?_))
      refine h_take 10 rfl kr kr kr (by exact y_bld3 (bld_qv _ _ _ _ _ _ _) rfl rfl rfl) rfl sS ?_
      refine h_end kr ?_
      repeat' (first | (show oL; first | refine sAs rfl rfl ?_ | (show oA (.store _ _ _); refine m_storeb 2 tabs rfl rfl rfl rfl rfl rfl rfl ?_)) | refine xNt ?_ | (show oC; refine c_ret ?_))
      exact x_ret2 Tryz.results139 (res_cellb 2 tabs rfl rfl rfl rfl) (res_tmp rfl) (fun w' c' => ⟨_, _, rfl, ⟨a2, c2, a3, c3, rfl, hs2, hs3, rfl⟩, c'.sub (.cons_cons _ (.cons_cons _ (List.nil_sublist _)))⟩)
  · (refine m_build0 tabs rfl rfl (fun g hg => ?_))
    refine c_nil (x_one (h_keep (fun w c => by exact c.drop.drop) ?_))
    refine h_only 2 rfl kr ?_
    first | (refine m_build0 tabs rfl rfl (fun g hg => ?_)) | (refine m_dup 0 tabs rfl rfl rfl rfl rfl om (fun w c => c.rd hu') (fun a2 c2 hs2 => ?_)) | (refine m_dup 1 tabs rfl rfl rfl rfl rfl om (fun w c => c.rd hu) (fun a3 c3 hs3 => ?_))
    refine c_nil (x_one (h_keep sS ?_))
    refine h_only 5 rfl kr ?_
    first | (refine m_build0 tabs rfl rfl (fun g hg => ?_)) | (refine m_dup 0 tabs rfl rfl rfl rfl rfl om (fun w c => c.rd hu') (fun a2 c2 hs2 => ?_)) | (refine m_dup 1 tabs rfl rfl rfl rfl rfl om (fun w c => c.rd hu) (fun a3 c3 hs3 => ?_))
    refine c_nil (x_one (h_keep sS ?_))
    refine h_only 9 rfl kr ?_
    first | (refine m_build0 tabs rfl rfl (fun g hg => ?_)) | (refine m_dup 0 tabs rfl rfl rfl rfl rfl om (fun w c => c.rd hu') (fun a2 c2 hs2 => ?_)) | (refine m_dup 1 tabs rfl rfl rfl rfl rfl om (fun w c => c.rd hu) (fun a3 c3 hs3 => ?_))
    refine c_nil (x_one (h_keep sS ?_))
    refine h_take 10 rfl kr kr kr (by exact y_bld3 (bld_qv _ _ _ _ _ _ _) rfl rfl rfl) rfl sS ?_
    refine h_end kr ?_
    repeat' (first | (show oL; first | refine sAs rfl rfl ?_ | (show oA (.store _ _ _); refine m_storeb 2 tabs rfl rfl rfl rfl rfl rfl rfl ?_)) | refine xNt ?_ | (show oC; refine c_ret ?_))
    exact x_ret2 Tryz.results139 (res_cellb 2 tabs rfl rfl rfl rfl) (res_tmp rfl) (fun w' c' => ⟨_, _, rfl, ⟨a2, c2, a3, c3, rfl, hs2, hs3, rfl⟩, c'.sub (.cons_cons _ (.cons_cons _ (List.nil_sublist _)))⟩)
def trM (m : Mat) : Mat := (m.2.1, m.1, mk m.2.1.toNat m.1.toNat (trF (matF m)))
def trN (ms : List Mat) : Nat → List Mat
  | 0 => []
  | n + 1 => trN ms n ++ [trM (ms.getD n mat0)]
theorem trN_len (ms : List Mat) : ∀ n, (trN ms n).length = n
  | 0 => rfl
  | n + 1 => by rw [trN, List.length_append, trN_len ms n]; rfl
def rp00 : Rp := ⟨0, (0, [], []), [], []⟩
def dualR (r : Rp) : Rp := if RepP r then ⟨r.p, opQ r.q, r.d, trN r.m r.m.length⟩ else rp00
theorem trM_of {m : Mat} {R C : Nat} (h1 : m.1 = R) (h2 : m.2.1 = C) : trM m = (((C : Nat) : Int), ((R : Nat) : Int), mk C R (trF (matF m))) := by rw [trM, h1, h2]; rfl
theorem rowL_lens {R C : Nat} {f : Nat → Nat → Int} : ∀ (k : Nat) (xs : List Int), (rowL C f R)[k]? = some xs → xs.length = C := fun k xs h => by
  have := List.mem_of_getElem? h
  simp only [rowL, List.mem_map] at this
  obtain ⟨i, _, rfl⟩ := this
  exact mkv_length
theorem impl_DualRep_yes {w : World} {r : Rp} {e : Nat} {u0 u1 u2 u3 : Value} (h0 : Rd w (iT r.q.2.1) u0) (h1 : Rd w (iT r.q.2.2) u1) (h2 : Rd w (iT r.d) u2) (h3 : Rd w (matsT e r.m) u3) (hR : RepP r) :
    Does Tryz.prog 59 [.agg #[iV r.p, iV r.q.1, u0, u1, u2, u3]] w (GivesRB (dualR r) true) := by
  have hQ := hR.2.1.1
  have hdd := (RepP.dd hR).2
  have hml := hR.ml
  rw [dualR, if_pos hR]
  obtain ⟨p, ⟨n, F, T⟩, d, ms⟩ := r
  simp only [opQ] at h0 h1 h2 h3 hQ hdd hml ⊢
  obtain ⟨a0, c0, rfl, hs0, _⟩ := h0.ints
  obtain ⟨a1, c1, rfl, hs1, _⟩ := h1.ints
  obtain ⟨a2, c2, rfl, hs2, _⟩ := h2.ints
  obtain ⟨a3, c3, rfl, hs3, _, _, hg3⟩ := rd_mats h3
  refine fn_enter Tryz.func59 rfl Tryz.ntmps59 rfl ?_
  repeat' (first | (show oL; first | refine sMv rfl rfl ?_ | refine sAs rfl rfl ?_ | refine sFd tabs rfl rfl rfl rfl ?_ | (show oA (.load _ _); first | refine st_y (y_load3 tabs rfl rfl (hc_blk 1 rfl rfl) (hc_blk 1 rfl rfl) (hc_blk 1 rfl rfl)) rfl ?_ | refine sLb 1 tabs rfl rfl rfl rfl rfl ?_) | (show oA (.unOp _ _ _); refine st_y (y_notd rfl) rfl ?_) | (show oA (.call _); first | (refine m_call (ent_of Tryz.func52 kr rfl) rfl rfl (fun w c => impl_IsRep_ok (r := ⟨p, (n, F, T), d, ms⟩) (c.rd h0) (c.rd h1) (c.rd h2) (c.rd h3)) ?_; rintro v H' ⟨rfl, rfl⟩) | (refine m_call (ent_of Tryz.func137 kr rfl) rfl rfl (fun w c => impl_OppositeOf_yes (q := (n, F, T)) (c.rd h0) (c.rd h1) hQ) ?_; rintro v H' ⟨aT, cT, aF, cF, rfl, hsT, hsF, rfl⟩)) | (show oA (.extract _ _); refine st_y (y_ext rfl rfl) rfl ?_) | (show oA (.store _ _ _); refine m_storeb 0 tabs rfl rfl rfl rfl rfl rfl rfl ?_) | (show oA (.box _ _); refine m_box rfl rfl (fun b1 hb1 => ?_)) | (show oA (.alloc _); refine m_alloc tabs rfl rfl (fun b4 hb4 => ?_))) | refine xNt ?_ | (show oC; first | refine c_seq ?_ | refine c_region ?_ | refine c_skip (x_then ?_) | refine c_iff rfl nN ?_))
  all_goals first | exact absurd hR aS | skip
  simp only [opQ] at hsT hsF ⊢
  rename_i b2 hb2
  refine c_all (Hp [] w [.blk b4 #[iV n, .slice aT T.length cT, .slice aF F.length cF] 26, .blk b1 #[iV p, iV n, .slice a0 F.length c0, .slice a1 T.length c1, .slice a2 d.length c2, .slice a3 ms.length c3] 29]) kr (fun _ c => Hp.drew c) ?_
  refine fl_begin 7 rfl tabs rfl rfl ?_
  refine fl_take 0 rfl kr kr kr kr kr kr (by exact y_field tabs rfl rfl rfl) rfl sS ?_
  refine fl_take 1 rfl kr kr kr kr kr kr (by exact y_load tabs rfl rfl (hc_blk 1 rfl rfl)) rfl sS ?_
  refine fl_take 2 rfl kr kr kr kr kr kr (by first | exact y_loadb 0 tabs rfl rfl rfl rfl | exact y_loadb 0 tabs rfl rfl rfl rfl) rfl sS ?_
  refine fl_take 3 rfl kr kr kr kr kr kr (by exact y_field tabs rfl rfl rfl) rfl sS ?_
  refine fl_take 4 rfl kr kr kr kr kr kr (by exact y_load tabs rfl rfl (hc_blk 1 rfl rfl)) rfl sS ?_
  (refine fl_call 5 rfl rfl kr tabs rfl rfl rfl kr kr kr (ent_of Tryz.func138 kr rfl) rfl rfl (fun w c => Clone_ok (c.rd h2) om) sC ?_; rintro v H' ⟨ad, cd, rfl, hsd, rfl⟩)
  refine fl_take 6 rfl kr kr kr kr kr kr (by exact y_bld3 (bld_rp3 _ _ _ _ _ _ _ _ _ _ _) rfl rfl rfl) rfl sS ?_
  refine fl_end rfl tabs rfl rfl rfl kr sS (fun bf hbf => ?_)
  refine h_only 8 rfl kr ?_
  (refine m_storeb 0 tabs rfl rfl rfl rfl rfl rfl rfl ?_)
  refine c_nil (x_one (h_keep sS ?_))
  refine h_end kr ?_
  repeat' (first | (show oL; first | refine sMv rfl rfl ?_ | refine sFd tabs rfl rfl rfl rfl ?_ | refine sLd 6 tabs rfl rfl rfl rfl rfl ?_ | refine sLn tabs rfl rfl rfl ?_) | refine xNt ?_ | (show oC; first | refine c_seq ?_ | refine c_region ?_ | refine c_block ?_) | (show AT _ _ _ _; refine x_then ?_))
  refine c_loopH (α := Nat × Option Addr × Nat) [2, 6, 27, 28] (fun s => [(29, .int .i64 s.1)]) (fun s => s.1 ≤ ms.length) (fun s => [.own (matsT 41 (trN ms s.1)) (.slice s.2.1 s.1 s.2.2), .blk bf #[iV p, iV n, .slice aT T.length cT, .slice aF F.length cF, .slice ad d.length cd, .slice s.2.1 s.1 s.2.2] 29, .own (iT d) (.slice ad d.length cd), .blk b4 #[iV n, .slice aT T.length cT, .slice aF F.length cF] 26, .own (iT F) (.slice aF F.length cF), .own (iT T) (.slice aT T.length cT), .blk b2 #[iV 0, iV 0, .slice none 0 0, .slice none 0 0, .slice none 0 0, .slice none 0 0] 29, .blk b1 #[iV p, iV n, .slice a0 F.length c0, .slice a1 T.length c1, .slice a2 d.length c2, .slice a3 ms.length c3] 29]) (fun s => ms.length - s.1) (0, none, 0) rfl sB ?_ ?_ ?_
  · exact Nat.zero_le _
  · exact fun w' c' => Hp.nilp _ _ c'
  · rintro ⟨i, am, cm⟩ hi
    simp only at hi ⊢
    by_cases hin : i < ms.length
    · obtain ⟨m, hm⟩ : ∃ m, ms[i]? = some m := ⟨_, List.getElem?_eq_getElem hin⟩
      obtain ⟨a4, c4, g1, g2, g3, g4⟩ := hg3 i m hm
      have hmd : ms.getD i mat0 = m := by simp [List.getD, hm]
      have hM : MatP p m := by have := (hR.2.2.2 i hin).1; rwa [hmd] at this
      obtain ⟨R, C, e1, e2, hR8, hC8, e3, _⟩ := matP_cells hM
      rw [e1] at g1; rw [e2] at g2; rw [e3] at g3 g4; rw [mk_length] at g3 g4
      repeat' (first | (show oL; first | (show oA (.load _ _); refine st_y (y_load3 tabs rfl rfl (hc_w0 g1) (hc_w0 g2) (hc_w0 g3)) rfl ?_) | (show oA (.indexAddr _ _ _); refine st_y (y_ixa tabs rfl rfl rfl hs3 om om) rfl ?_) | refine sLs rfl rfl rfl ?_ | (show oA (.store _ _ _); refine m_storeb 0 tabs rfl rfl rfl rfl rfl rfl rfl ?_) | (show oA (.alloc _); refine m_alloc tabs rfl rfl (fun b8 hb8 => ?_))) | refine xNt ?_ | (show oC; first | refine c_seq ?_ | refine c_region ?_ | refine c_skip (x_then ?_) | refine c_block ?_ | refine c_ift rfl aO ?_))
      refine c_mixR (Hp [] w [.blk b8 #[iV R, iV C, .slice a4 (R * C) c4] 41, .blk bf #[iV p, iV n, .slice aT T.length cT, .slice aF F.length cF, .slice ad d.length cd, .slice am i cm] 29, .blk b1 #[iV p, iV n, .slice a0 F.length c0, .slice a1 T.length c1, .slice a2 d.length c2, .slice a3 ms.length c3] 29]) 9 kr kr kr kr kr (fun _ c => Hp.drew c) ?_
      refine h_take 0 rfl kr kr kr (by exact y_field tabs rfl rfl rfl) rfl sS ?_
      refine h_take 1 rfl kr kr kr (by exact y_load tabs rfl rfl (hc_blk 1 rfl rfl)) rfl sS ?_
      refine h_take 2 rfl kr kr kr (by exact y_field tabs rfl rfl rfl) rfl sS ?_
      refine h_take 3 rfl kr kr kr (by exact y_load tabs rfl rfl (hc_blk 0 rfl rfl)) rfl sS ?_
      refine h_take 4 rfl kr kr kr (by first | exact y_loadb 0 tabs rfl rfl rfl rfl | exact y_loadb 0 tabs rfl rfl rfl rfl) rfl sS ?_
      refine h_only 5 rfl kr ?_
      first | (refine m_build1 tabs (us := [iV C, iV R, .slice a6 (C * R) c6]) rfl rfl rfl rfl (by decide) rfl (fun g7 hg7 => ?_)) | (refine m_call (ent_of Tryz.func91 kr rfl) rfl rfl (fun w c => rows_ok (c.rd g4) om om) ?_; rintro v H' ⟨a5, c5, rfl, hs5, rfl⟩) | (refine m_call (ent_of Tryz.func112 kr rfl) rfl rfl (fun w c => (by have h := fromColumns_ok (R := C) (C := R) (cols := rowL C (matF m) R) (e := 22) (c.own_rd (i := 0) rfl) rowL_length om om rowL_lens; unfold GivesK at h; rw [from_rows] at h; exact h)) ?_; rintro v H' ⟨a6, c6, rfl, hs6, rfl⟩) | (refine m_push1 [iV C, iV R] 2 0 tabs (m' := i) rfl rfl rfl rfl rfl rfl rfl (by rw [flatMap_length matT_length, trN_len]) (by rw [flatMap_length matT_length, trN_len]; omega) (by decide) rfl rfl (fun a9 c9 => ?_))
      refine c_nil (x_one (h_keep sS ?_))
      refine h_only 6 rfl kr ?_
      first | (refine m_build1 tabs (us := [iV C, iV R, .slice a6 (C * R) c6]) rfl rfl rfl rfl (by decide) rfl (fun g7 hg7 => ?_)) | (refine m_call (ent_of Tryz.func91 kr rfl) rfl rfl (fun w c => rows_ok (c.rd g4) om om) ?_; rintro v H' ⟨a5, c5, rfl, hs5, rfl⟩) | (refine m_call (ent_of Tryz.func112 kr rfl) rfl rfl (fun w c => (by have h := fromColumns_ok (R := C) (C := R) (cols := rowL C (matF m) R) (e := 22) (c.own_rd (i := 0) rfl) rowL_length om om rowL_lens; unfold GivesK at h; rw [from_rows] at h; exact h)) ?_; rintro v H' ⟨a6, c6, rfl, hs6, rfl⟩) | (refine m_push1 [iV C, iV R] 2 0 tabs (m' := i) rfl rfl rfl rfl rfl rfl rfl (by rw [flatMap_length matT_length, trN_len]) (by rw [flatMap_length matT_length, trN_len]; omega) (by decide) rfl rfl (fun a9 c9 => ?_))
      refine c_nil (x_one (h_keep sS ?_))
      refine h_only 7 rfl kr ?_
      first | (refine m_build1 tabs (us := [iV C, iV R, .slice a6 (C * R) c6]) rfl rfl rfl rfl (by decide) rfl (fun g7 hg7 => ?_)) | (refine m_call (ent_of Tryz.func91 kr rfl) rfl rfl (fun w c => rows_ok (c.rd g4) om om) ?_; rintro v H' ⟨a5, c5, rfl, hs5, rfl⟩) | (refine m_call (ent_of Tryz.func112 kr rfl) rfl rfl (fun w c => (by have h := fromColumns_ok (R := C) (C := R) (cols := rowL C (matF m) R) (e := 22) (c.own_rd (i := 0) rfl) rowL_length om om rowL_lens; unfold GivesK at h; rw [from_rows] at h; exact h)) ?_; rintro v H' ⟨a6, c6, rfl, hs6, rfl⟩) | (refine m_push1 [iV C, iV R] 2 0 tabs (m' := i) rfl rfl rfl rfl rfl rfl rfl (by rw [flatMap_length matT_length, trN_len]) (by rw [flatMap_length matT_length, trN_len]; omega) (by decide) rfl rfl (fun a9 c9 => ?_))
      refine c_nil (x_one (h_keep sS ?_))
      refine h_only 8 rfl kr ?_
      first | (refine m_build1 tabs (us := [iV C, iV R, .slice a6 (C * R) c6]) rfl rfl rfl rfl (by decide) rfl (fun g7 hg7 => ?_)) | (refine m_call (ent_of Tryz.func91 kr rfl) rfl rfl (fun w c => rows_ok (c.rd g4) om om) ?_; rintro v H' ⟨a5, c5, rfl, hs5, rfl⟩) | (refine m_call (ent_of Tryz.func112 kr rfl) rfl rfl (fun w c => (by have h := fromColumns_ok (R := C) (C := R) (cols := rowL C (matF m) R) (e := 22) (c.own_rd (i := 0) rfl) rowL_length om om rowL_lens; unfold GivesK at h; rw [from_rows] at h; exact h)) ?_; rintro v H' ⟨a6, c6, rfl, hs6, rfl⟩) | (refine m_push1 [iV C, iV R] 2 0 tabs (m' := i) rfl rfl rfl rfl rfl rfl rfl (by rw [flatMap_length matT_length, trN_len]) (by rw [flatMap_length matT_length, trN_len]; omega) (by decide) rfl rfl (fun a9 c9 => ?_))
      refine c_nil (x_one (h_keep sS ?_))
      refine h_end kr ?_
      repeat' (first | (show oL; first | refine sMv rfl rfl ?_ | refine sFd tabs rfl rfl rfl rfl ?_ | refine sAd rfl rfl om rfl ?_ | (show oA (.store _ _ _); refine m_storef 3 tabs rfl rfl rfl rfl rfl rfl ?_)) | (show oN; first | refine c_nil (x_then ?_) | refine c_nil ?_) | (show oC; refine c_region ?_) | (show AT _ _ _ _; first | refine x_then ?_ | refine x_blk ?_))
      refine x_nx (i + 1, a9, c9) sB (by simp only; omega) (fun w' c' => ?_) (by simp only; omega)
      have e0 : (trN ms i).flatMap matT ++ (List.map Go.Lg.T.c [iV C, iV R] ++ [iT (mk C R (trF (matF m)))]) = (trN ms (i + 1)).flatMap matT := by
        rw [trN, List.flatMap_append, hmd, trM_of e1 e2]; rfl
      rw [e0] at c'
      exact c'.sub sL
    · have : i = ms.length := by omega
      subst this
      refine AT.fact (mats_sl 0 rfl) (fun hsl => ?_)
      rw [trN_len] at hsl
      repeat' (first | (show oL; first | refine sAs rfl rfl ?_ | refine sLb 1 tabs rfl rfl rfl rfl rfl ?_ | refine sLs rfl rfl rfl ?_ | (show oA (.store _ _ _); refine m_storeb 6 tabs rfl rfl rfl rfl rfl rfl rfl ?_)) | refine xNt ?_ | (show oC; first | refine c_seq ?_ | refine c_region ?_ | refine c_ret ?_ | refine c_exit ?_ | refine c_iff rfl nN ?_) | (show AT _ _ _ _; first | refine x_then ?_ | refine x_then_exit ?_ | refine x_blk_exit rfl ?_))
      exact x_ret2 Tryz.results59 (res_cellb 6 tabs rfl rfl rfl rfl) (res_tmp rfl) (fun w' c' => ⟨_, _, rfl, ⟨aT, cT, aF, cF, ad, cd, am, cm, by simp only [trN_len], hsT, hsF, hsd, by simpa only [trN_len] using hsl, by simp only [trN_len]⟩, (c'.sub (H' := [.own (matsT 41 (trN ms ms.length)) (.slice am ms.length cm), .own (iT d) (.slice ad d.length cd), .own (iT F) (.slice aF F.length cF), .own (iT T) (.slice aT T.length cT)]) sL)⟩)
end Go.Proofs.YtdnhmnnccfoliaaGreatDoor
