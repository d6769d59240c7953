import Derived.Test.YtijjkfbkihgfgaaGreatCobqho
import Derived.Test.YtijjkfbkihgfgaaGreatLwsqho
import Derived.Test.YtijjkfbkihgfgaaGreatMphqho
import Derived.Test.YtijjkfbkihgfgaaGreatMulqho
import Derived.Test.YtijjkfbkihgfgaaGreatRepqho
namespace Go.Proofs.YtijjkfbkihgfgaaGreat
open Go.Lg Go.Proofs Go.RowKit
attribute [local irreducible] Code.wp wpList bodyPost Exit.then Exit.inBlock Hp Again Calls Y AT ResV QT Qn QI wpAny wpAnyQ
set_option maxRecDepth 20000
set_option maxHeartbeats 4000000

def tabM (F : Nat → Mat) (n : Nat) : List Mat := (List.range n).map F
@[simp] theorem tabM_length {F : Nat → Mat} {n : Nat} : (tabM F n).length = n := by simp [tabM]
theorem tabM_next {F : Nat → Mat} {i x y : Nat} {f : Nat → Nat → Int} (hz : F i = ((x : Int), (y : Int), mk x y f)) : (tabM F i).flatMap matT ++ (List.map T.c [iV x, iV y] ++ [iT (mk x y f)]) = (tabM F (i + 1)).flatMap matT := by
  have e1 : tabM F (i + 1) = tabM F i ++ [F i] := by simp [tabM, List.range_succ]
  rw [e1, List.flatMap_append, hz]; rfl
end Go.Proofs.YtijjkfbkihgfgaaGreat

namespace Go.Proofs.YtijjkfbkihgfgaaGreat
open Go.Lg Go.Proofs Go.RowKit
attribute [local irreducible] Code.wp wpList bodyPost Exit.then Exit.inBlock Hp Again Calls Y AT ResV QT Qn QI wpAny wpAnyQ
set_option maxRecDepth 20000
set_option maxHeartbeats 4000000

def belF (R : Nat) (f g : Nat → Nat → Int) : Nat → Nat → Int := fun i j => if i < R then f i j else g (i - R) j
def blkF (R C : Nat) (f h g : Nat → Nat → Int) : Nat → Nat → Int := belF R (besF C f h) (besF C (fun _ _ => 0) g)
def blkA (R C : Nat) (f : Nat → Nat → Int) (i k : Nat) : Nat → Nat → Int := fun a b => if a < i ∨ (a = i ∧ b < k) then (if a < R ∧ b < C then f a b else 0) else 0
theorem blkA_next {R C i k : Nat} {f : Nat → Nat → Int} (hi : i < R) (hk : k < C) : upd (blkA R C f i k) i k (f i k) = blkA R C f i (k + 1) := by
  funext a b
  unfold upd blkA
  grind
def blkB (R C : Nat) (f g : Nat → Nat → Int) (i k : Nat) : Nat → Nat → Int := fun a b => if a < R then (if b < C then f a b else 0) else if b < C then 0 else if a < R + i ∨ (a = R + i ∧ b < C + k) then g (a - R) (b - C) else 0
theorem blkB_next {R C i k : Nat} {f g : Nat → Nat → Int} : upd (blkB R C f g i k) (R + i) (C + k) (g i k) = blkB R C f g i (k + 1) := by
  funext a b
  unfold upd blkB
  by_cases h : a = R + i ∧ b = C + k
  · obtain ⟨rfl, rfl⟩ := h
    have e1 : R + i - R = i := by omega
    have e2 : C + k - C = k := by omega
    simp [e1, e2]
    omega
  · grind
theorem l3Block_ok {w : World} {R S C D : Nat} {f g : Nat → Nat → Int} {u u' : Value} (hr : Rd w (iT (mk R C f)) u) (hr' : Rd w (iT (mk S D g)) u') (hR : R ≤ 8) (hS : S ≤ 8) (hC : C ≤ 8) (hD : D ≤ 8) :
    Does Tryz.prog 178 [.agg #[iV R, iV C, u], .agg #[iV S, iV D, u']] w (GivesK (R + S) (C + D) (blkF R C f (fun _ _ => 0) g)) := by
  obtain ⟨au, cu, rfl, hsu, hcu⟩ := rd_mk hr
  obtain ⟨av, cv, rfl, hsv, hcv⟩ := rd_mk hr'
  have hbig := rc_le (R := R + S) (C := C + D) om om
  have hRC := rc_le (R := R) (C := C) om om
  have hSD := rc_le (R := S) (C := D) om om
  refine fn_enter Tryz.func178 rfl Tryz.ntmps178 rfl ?_
  repeat' (first | (show oL; first | refine sAs rfl rfl ?_ | refine sFd tabs rfl rfl rfl rfl ?_ | (show oA (.load _ _); first | refine sLd 1 tabs rfl rfl rfl rfl rfl ?_ | refine sLd 2 tabs rfl rfl rfl rfl rfl ?_) | (show oA (.binOp _ _ _ _ _); first | refine st_y (y_addn (a := R) (b := S) rfl rfl rfl rfl om) rfl ?_ | refine st_y (y_addn (a := C) (b := D) rfl rfl rfl rfl om) rfl ?_) | (show oA (.call _); (refine m_call (ent_of Tryz.func172 kr rfl) rfl rfl (fun w c => l3Zero_ok (R := R + S) (C := C + D) om om) ?_; rintro v H' ⟨am, cm, rfl, hsm, rfl⟩)) | (show oA (.store _ _ _); refine m_storeb 0 tabs rfl rfl rfl rfl rfl rfl rfl ?_) | (show oA (.box _ _); refine m_box rfl rfl (fun b3 hb3 => ?_)) | (show oA (.alloc _); refine m_alloc tabs rfl rfl (fun b5 hb5 => ?_))) | refine xNt ?_ | (show oC; first | refine c_seq ?_ | refine c_region ?_ | refine c_block ?_))
  rename_i b2 hb2 b4 hb4
  refine c_loopH (α := Nat) [2, 3, 4, 5] (fun i => [(6, .int .i64 i)]) (fun i => i ≤ R) (fun i => [.own (iT (mk (R + S) (C + D) (blkA R C f i 0))) (.slice am ((R + S) * (C + D)) cm), .blk b5 #[iV ((R + S : Nat) : Int), iV ((C + D : Nat) : Int), .slice am ((R + S) * (C + D)) cm] 47, .blk b4 #[iV 0, iV 0, .slice none 0 0] 47, .blk b3 #[iV S, iV D, .slice av (S * D) cv] 47, .blk b2 #[iV R, iV C, .slice au (R * C) cu] 47]) (fun i => R - i) 0 rfl sB ?_ ?_ ?_
  · exact Nat.zero_le _
  · intro w' c'
    have e0 : mk (R + S) (C + D) (blkA R C f 0 0) = mk (R + S) (C + D) (fun _ _ => 0) := mk_ext (fun i j hi hj => by unfold blkA; grind)
    rw [e0]
    exact c'.front (i := 1) rfl
  · intro i hi
    by_cases hiR : i < R
    · repeat' (first | (show oL; first | refine sMv rfl rfl ?_ | refine sAs rfl rfl ?_ | refine sFd tabs rfl rfl rfl rfl ?_ | refine sLd 4 tabs rfl rfl rfl rfl rfl ?_ | refine sLs rfl rfl rfl ?_) | refine xNt ?_ | (show oC; first | refine c_seq ?_ | refine c_region ?_ | refine c_skip (x_then ?_) | refine c_block ?_ | refine c_ift rfl aO ?_))
      refine c_loopH (α := Nat) [2, 3, 4, 5, 6] (fun k => [(7, .int .i64 k)]) (fun k => k ≤ C) (fun k => [.own (iT (mk (R + S) (C + D) (blkA R C f i k))) (.slice am ((R + S) * (C + D)) cm), .blk b5 #[iV ((R + S : Nat) : Int), iV ((C + D : Nat) : Int), .slice am ((R + S) * (C + D)) cm] 47, .blk b4 #[iV 0, iV 0, .slice none 0 0] 47, .blk b3 #[iV S, iV D, .slice av (S * D) cv] 47, .blk b2 #[iV R, iV C, .slice au (R * C) cu] 47]) (fun k => C - k) 0 rfl sB ?_ ?_ ?_
      · exact Nat.zero_le _
      · exact fun w' c' => c'
      · intro k hk
        by_cases hkC : k < C
        · have c1 := cell_lt hiR hkC
          have c2 := cell_lt (i := i) (R := R + S) (j := k) (C := C + D) om om
          have h1 := Nat.mul_le_mul_right C hi
          have h2 := Nat.mul_le_mul_right (C + D) (show i ≤ R + S by omega)
          repeat' (first | (show oL; first | refine sMv rfl rfl ?_ | refine sAs rfl rfl ?_ | refine sFd tabs rfl rfl rfl rfl ?_ | refine sLd 4 tabs rfl rfl rfl rfl rfl ?_ | (show oA (.indexAddr _ _ _); refine st_y (y_ix1 tabs (j := i * (C + D) + k) rfl rfl rfl hsm rfl c2) rfl ?_) | (show oA (.binOp _ _ _ _ _); first | refine sAd rfl rfl om rfl ?_ | refine sLs rfl rfl rfl ?_) | (show oA (.store _ _ _); refine m_storeo 0 tabs rfl rfl rfl rfl (by rw [mk_length]; exact c2) ?_)) | (show oN; first | refine c_nil (x_then ?_) | refine c_nil ?_) | (show oC; first | refine c_tailR 18 kr kr kr kr kr kr (fun _ c => Hp.drew c) ?_ | refine c_seq ?_ | refine c_region ?_ | refine c_skip (x_then ?_) | refine c_block ?_ | refine c_ift rfl aO ?_) | (show QT _ _ _ _ _ _ (_ :: _); first | refine qMv rfl rfl ?_ | refine qFd tabs rfl rfl rfl rfl ?_ | (show qA (.load _ _); first | refine qLd 4 tabs rfl rfl rfl rfl rfl ?_ | refine qLd 1 tabs rfl rfl rfl rfl rfl ?_ | refine q_y (y_load tabs rfl rfl (hc_rdk (RdOut.of_rd hr) hiR hkC)) rfl ?_) | (show qA (.indexAddr _ _ _); refine q_y (y_ix1 tabs (j := i * C + k) rfl rfl rfl hsu rfl c1) rfl ?_) | (show qA (.binOp _ _ _ _ _); first | refine q_y (y_muln (a := i) (b := C + D) rfl rfl rfl rfl om) rfl ?_ | refine q_y (y_muln (a := i) (b := C) rfl rfl rfl rfl om) rfl ?_ | refine q_y (y_addn (b := k) rfl rfl rfl rfl om) rfl ?_)) | (show QT _ _ _ _ _ _ []; refine q_nil ?_) | (show AT _ _ _ _; first | refine x_then ?_ | refine x_blk ?_))
          refine x_nx (k + 1) sB om (fun w' c' => ?_) om
          simp only [List.set_cons_zero] at c'
          rw [mk_set om om, blkA_next hiR hkC] at c'
          exact c'
        · have : k = C := by omega
          subst this
          repeat' (first | (show oL; first | refine sMv rfl rfl ?_ | refine sAs rfl rfl ?_ | refine sFd tabs rfl rfl rfl rfl ?_ | refine sLd 4 tabs rfl rfl rfl rfl rfl ?_ | (show oA (.binOp _ _ _ _ _); first | refine sAd rfl rfl om rfl ?_ | refine sLs rfl rfl rfl ?_)) | refine xNt ?_ | (show oC; first | refine c_seq ?_ | refine c_region ?_ | refine c_exit ?_ | refine c_iff rfl nN ?_) | (show AT _ _ _ _; first | refine x_then ?_ | refine x_then_exit ?_ | refine x_blk_exit rfl ?_ | refine x_blk ?_))
          refine x_nx (i + 1) sB om (fun w' c' => ?_) om
          have e0 : mk (R + S) (k + D) (blkA R k f i k) = mk (R + S) (k + D) (blkA R k f (i + 1) 0) := mk_ext (fun a b ha hb => by unfold blkA; grind)
          rw [e0] at c'
          exact c'
    · have : i = R := by omega
      subst this
      repeat' (first | (show oL; first | refine sMv rfl rfl ?_ | refine sAs rfl rfl ?_ | refine sFd tabs rfl rfl rfl rfl ?_ | refine sLd 4 tabs rfl rfl rfl rfl rfl ?_ | refine sLs rfl rfl rfl ?_) | refine xNt ?_ | (show oC; first | refine c_seq ?_ | refine c_region ?_ | refine c_block ?_ | refine c_exit ?_ | refine c_iff rfl nN ?_) | (show AT _ _ _ _; first | refine x_then ?_ | refine x_then_exit ?_ | refine x_blk_exit rfl ?_))
      refine c_loopH (α := Nat) [2, 3, 4, 5] (fun j => [(8, .int .i64 j)]) (fun j => j ≤ S) (fun j => [.own (iT (mk (i + S) (C + D) (blkB i C f g j 0))) (.slice am ((i + S) * (C + D)) cm), .blk b5 #[iV ((i + S : Nat) : Int), iV ((C + D : Nat) : Int), .slice am ((i + S) * (C + D)) cm] 47, .blk b4 #[iV 0, iV 0, .slice none 0 0] 47, .blk b3 #[iV S, iV D, .slice av (S * D) cv] 47, .blk b2 #[iV i, iV C, .slice au (i * C) cu] 47]) (fun j => S - j) 0 rfl sB ?_ ?_ ?_
      · exact Nat.zero_le _
      · intro w' c'
        have e0 : mk (i + S) (C + D) (blkB i C f g 0 0) = mk (i + S) (C + D) (blkA i C f i 0) := mk_ext (fun a b ha hb => by unfold blkA blkB; grind)
        rw [e0]
        exact c'
      · intro j hj
        by_cases hjS : j < S
        · repeat' (first | (show oL; first | refine sMv rfl rfl ?_ | refine sAs rfl rfl ?_ | refine sFd tabs rfl rfl rfl rfl ?_ | refine sLd 3 tabs rfl rfl rfl rfl rfl ?_ | refine sLs rfl rfl rfl ?_) | refine xNt ?_ | (show oC; first | refine c_seq ?_ | refine c_region ?_ | refine c_skip (x_then ?_) | refine c_block ?_ | refine c_ift rfl aO ?_))
          refine c_loopH (α := Nat) [2, 3, 4, 5, 8] (fun k => [(9, .int .i64 k)]) (fun k => k ≤ D) (fun k => [.own (iT (mk (i + S) (C + D) (blkB i C f g j k))) (.slice am ((i + S) * (C + D)) cm), .blk b5 #[iV ((i + S : Nat) : Int), iV ((C + D : Nat) : Int), .slice am ((i + S) * (C + D)) cm] 47, .blk b4 #[iV 0, iV 0, .slice none 0 0] 47, .blk b3 #[iV S, iV D, .slice av (S * D) cv] 47, .blk b2 #[iV i, iV C, .slice au (i * C) cu] 47]) (fun k => D - k) 0 rfl sB ?_ ?_ ?_
          · exact Nat.zero_le _
          · exact fun w' c' => c'
          · intro k hk
            by_cases hkD : k < D
            · have c1 := cell_lt hjS hkD
              have c2 := cell_lt (i := i + j) (R := i + S) (j := C + k) (C := C + D) om om
              have h1 := Nat.mul_le_mul_right D hj
              have h2 := Nat.mul_le_mul_right (C + D) (show i + j ≤ i + S by omega)
              repeat' (first | (show oL; first | refine sMv rfl rfl ?_ | refine sAs rfl rfl ?_ | refine sFd tabs rfl rfl rfl rfl ?_ | refine sLd 3 tabs rfl rfl rfl rfl rfl ?_ | (show oA (.indexAddr _ _ _); refine st_y (y_ix1 tabs (j := (i + j) * (C + D) + (C + k)) rfl rfl rfl hsm (by rw [← Nat.add_assoc]) c2) rfl ?_) | (show oA (.binOp _ _ _ _ _); first | refine sAd rfl rfl om rfl ?_ | refine sLs rfl rfl rfl ?_) | (show oA (.store _ _ _); refine m_storeo 0 tabs rfl rfl rfl rfl (by rw [mk_length]; exact c2) ?_)) | (show oN; first | refine c_nil (x_then ?_) | refine c_nil ?_) | (show oC; first | refine c_tailR 24 kr kr kr kr kr kr (fun _ c => Hp.drew c) ?_ | refine c_seq ?_ | refine c_region ?_ | refine c_skip (x_then ?_) | refine c_block ?_ | refine c_ift rfl aO ?_) | (show QT _ _ _ _ _ _ (_ :: _); first | refine qMv rfl rfl ?_ | refine qFd tabs rfl rfl rfl rfl ?_ | (show qA (.load _ _); first | refine qLd 4 tabs rfl rfl rfl rfl rfl ?_ | refine qLd 3 tabs rfl rfl rfl rfl rfl ?_ | refine qLd 1 tabs rfl rfl rfl rfl rfl ?_ | refine q_y (y_load tabs rfl rfl (hc_rdk (RdOut.of_rd hr') hjS hkD)) rfl ?_) | (show qA (.indexAddr _ _ _); refine q_y (y_ix1 tabs (j := j * D + k) rfl rfl rfl hsv rfl c1) rfl ?_) | (show qA (.binOp _ _ _ _ _); first | refine q_y (y_muln (a := i + j) (b := C + D) rfl rfl rfl rfl om) rfl ?_ | refine q_y (y_muln (a := j) (b := D) rfl rfl rfl rfl om) rfl ?_ | refine q_y (y_addn (a := i) (b := j) rfl rfl rfl rfl om) rfl ?_ | refine q_y (y_addn (a := (i + j) * (C + D)) (b := C) rfl rfl rfl rfl om) rfl ?_ | refine q_y (y_addn (b := k) rfl rfl rfl rfl om) rfl ?_)) | (show QT _ _ _ _ _ _ []; refine q_nil ?_) | (show AT _ _ _ _; first | refine x_then ?_ | refine x_blk ?_))
              refine x_nx (k + 1) sB om (fun w' c' => ?_) om
              simp only [List.set_cons_zero] at c'
              rw [mk_set om om, blkB_next] at c'
              exact c'
            · have : k = D := by omega
              subst this
              repeat' (first | (show oL; first | refine sMv rfl rfl ?_ | refine sAs rfl rfl ?_ | refine sFd tabs rfl rfl rfl rfl ?_ | refine sLd 3 tabs rfl rfl rfl rfl rfl ?_ | (show oA (.binOp _ _ _ _ _); first | refine sAd rfl rfl om rfl ?_ | refine sLs rfl rfl rfl ?_)) | refine xNt ?_ | (show oC; first | refine c_seq ?_ | refine c_region ?_ | refine c_exit ?_ | refine c_iff rfl nN ?_) | (show AT _ _ _ _; first | refine x_then ?_ | refine x_then_exit ?_ | refine x_blk_exit rfl ?_ | refine x_blk ?_))
              refine x_nx (j + 1) sB om (fun w' c' => ?_) om
              have e0 : mk (i + S) (C + k) (blkB i C f g j k) = mk (i + S) (C + k) (blkB i C f g (j + 1) 0) := mk_ext (fun a b ha hb => by unfold blkB; grind)
              rw [e0] at c'
              exact c'
        · have : j = S := by omega
          subst this
          have e0 : mk (i + j) (C + D) (blkB i C f g j 0) = mk (i + j) (C + D) (blkF i C f (fun _ _ => 0) g) := mk_ext (fun a b ha hb => by unfold blkB blkF belF besF; grind)
          rw [e0]
          repeat' (first | (show oL; first | refine sMv rfl rfl ?_ | refine sFd tabs rfl rfl rfl rfl ?_ | (show oA (.load _ _); first | refine sLd 3 tabs rfl rfl rfl rfl rfl ?_ | refine sLb 1 tabs rfl rfl rfl rfl rfl ?_) | refine sLs rfl rfl rfl ?_ | (show oA (.store _ _ _); refine m_storeb 2 tabs rfl rfl rfl rfl rfl rfl rfl ?_)) | refine xNt ?_ | (show oC; first | refine c_seq ?_ | refine c_region ?_ | refine c_ret ?_ | refine c_exit ?_ | refine c_iff rfl nN ?_) | (show AT _ _ _ _; first | refine x_then ?_ | refine x_then_exit ?_ | refine x_blk_exit rfl ?_))
          exact x_ret1 Tryz.results178 (res_cellb 2 tabs rfl rfl rfl rfl) (fun w' c' => ⟨_, _, rfl, ⟨am, cm, rfl, hsm, rfl⟩, c'.sub (.cons_cons _ (List.nil_sublist _))⟩)
end Go.Proofs.YtijjkfbkihgfgaaGreat
