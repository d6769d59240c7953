import Derived.Test.YtcplmeajmpkpkaaGreatSpbqsp
namespace Go.Proofs.YtcplmeajmpkpkaaGreat
open Go.Lg Go.Proofs Go.RowKit
attribute [local irreducible] Code.wp wpList bodyPost Exit.then Exit.inBlock Hp Again Calls Y AT ResV QT Qn QI wpAny wpAnyQ
set_option maxRecDepth 20000
set_option maxHeartbeats 4000000

def accF (p : Int) (f g : Nat → Nat → Int) (i j : Nat) : Nat → Int
  | 0 => 0
  | k + 1 => (accF p f g i j k + f i k * g k j) % p
theorem accF_sum {p : Int} {f g : Nat → Nat → Int} {i j : Nat} : ∀ n, accF p f g i j n = sumN (fun k => f i k * g k j) n % p
  | 0 => by simp [accF, sumN]
  | n + 1 => by rw [accF, accF_sum n, sumN, Int.emod_add_emod]
def mulF (p : Int) (N : Nat) (f g : Nat → Nat → Int) : Nat → Nat → Int := fun i j => accF p f g i j N
theorem accF_in {p : Int} {f g : Nat → Nat → Int} {i j : Nat} (hp : 0 < p) : ∀ n, 0 ≤ accF p f g i j n ∧ accF p f g i j n < p
  | 0 => ⟨Int.le_refl _, hp⟩
  | n + 1 => ⟨Int.emod_nonneg _ om, Int.emod_lt_of_pos _ hp⟩
def mulTo (p : Int) (N : Nat) (f g : Nat → Nat → Int) (i k : Nat) : Nat → Nat → Int := fun a j => if a < i then accF p f g a j N else if a = i then accF p f g a j k else 0
theorem subA_at {R C i cap : Nat} {a : Option Addr} (hs : SA a (R * C)) (hi : i < R) (hC : 0 < C) (hcap : R * C ≤ cap) : subA a 1 (i * C) cap = some ⟨ab a, ao a + i * C, none⟩ := by
  have h0 : 0 < R * C := Nat.mul_pos om hC
  have h1 : (i + 1) * C ≤ R * C := Nat.mul_le_mul_right C hi
  rw [Nat.succ_mul] at h1
  unfold subA
  rw [if_neg om, hs.get h0]
  simp [Addr.add_lit, ab, ao]
theorem rowg_ok {w : World} {R C i cap : Nat} {a : Option Addr} (hR : R ≤ 1024) (hC : C ≤ 1024) (hi : i < R) (hcap : R * C ≤ cap) :
    Does Tryz.prog 90 [.agg #[iV R, iV C, .slice a (R * C) cap], iV i] w (fun r H => r = .slice (subA a 1 (i * C) cap) C (cap - i * C) ∧ H = []) := by
  have h1 : (i + 1) * C ≤ R * C := Nat.mul_le_mul_right C hi
  have h2 : R * C ≤ 1024 * 1024 := Nat.mul_le_mul hR hC
  have h3 : (i + 1) * C = i * C + C := Nat.succ_mul i C
  have e1 : (i : Int) * (C : Int) = ((i * C : Nat) : Int) := by simp
  have e2 : ((i : Int) + 1) * (C : Int) = (((i + 1) * C : Nat) : Int) := by simp
  refine fn_enter Tryz.func90 rfl Tryz.ntmps90 rfl ?_
  repeat' (first | (show oL; first | refine sMv rfl rfl ?_ | refine sAs rfl rfl ?_ | refine sFd tabs rfl rfl rfl rfl ?_ | refine sLd 0 tabs rfl rfl rfl rfl rfl ?_ | (show oA (.binOp _ _ _ _ _); first | refine st_y (y_mul rfl rfl (by first | (rw [e1]; omega) | (rw [e2]; omega))) rfl ?_ | refine sAd rfl rfl om rfl ?_) | (show oA (.box _ _); refine m_box rfl rfl (fun b hb => ?_)) | (show oA (.slice _ _ _ _ _); refine st_y (y_slb tabs (lo := i * C) (hi := (i + 1) * C) rfl rfl rfl rfl e1 e2 om om) rfl ?_)) | refine xNt ?_ | (show oC; first | refine c_seq ?_ | refine c_region ?_ | refine c_ret ?_))
  refine x_ret1 Tryz.results90 (res_tmp rfl) (fun w' c' => ⟨_, _, rfl, ⟨?_, rfl⟩, c'.sub (List.nil_sublist _)⟩)
  rw [show (i + 1) * C - i * C = C by omega]
theorem inF5 {p : Int} {R C : Nat} {f : Nat → Nat → Int} (hF : FieldP p) (h : inF p R C f) (i j : Nat) (hi : i < R) (hj : j < C) : 0 ≤ f i j ∧ f i j ≤ 4 := by
  have := h i j hi hj
  have := fieldP_pos hF
  omega
theorem times_ok {w : World} {p : Int} {R N C : Nat} {f g : Nat → Nat → Int} {u u' : Value} (hr : Rd w (iT (mk R N f)) u) (hr' : Rd w (iT (mk N C g)) u') (hF : FieldP p) (hR : R ≤ 64) (hN : N ≤ 64) (hC : C ≤ 64) (hf : inF p R N f) (hg : inF p N C g) :
    Does Tryz.prog 122 [iV p, .agg #[iV R, iV N, u], .agg #[iV N, iV C, u']] w (GivesK R C (mulF p N f g)) := by
  have hp := fieldP_pos hF
  obtain ⟨au, cu, rfl, hsu, hcu⟩ := rd_mk hr
  obtain ⟨av, cv, rfl, hsv, hcv⟩ := rd_mk hr'
  have hRN := rc_le (R := R) (C := N) om om
  have hNC := rc_le (R := N) (C := C) om om
  have hRC := rc_le (R := R) (C := C) om om
  refine fn_enter Tryz.func122 rfl Tryz.ntmps122 rfl ?_
  repeat' (first | (show oL; first | refine sMv rfl rfl ?_ | refine sFd tabs rfl rfl rfl rfl ?_ | (show oA (.load _ _); first | refine sLd 1 tabs rfl rfl rfl rfl rfl ?_ | refine sLd 2 tabs rfl rfl rfl rfl rfl ?_ | refine sLd 4 tabs rfl rfl rfl rfl rfl ?_) | (show oA (.call _); (refine m_call (ent_of Tryz.func95 kr rfl) rfl rfl (fun w c => zero_ok (R := R) (C := C) om om) ?_; rintro v H' ⟨am, cm, rfl, hsm, rfl⟩)) | (show oA (.store _ _ _); refine m_storeb 0 tabs rfl rfl rfl rfl rfl rfl rfl ?_) | (show oA (.box _ _); refine m_box rfl rfl (fun b4 hb4 => ?_)) | (show oA (.alloc _); refine m_alloc tabs rfl rfl (fun b7 hb7 => ?_))) | refine xNt ?_ | (show oC; first | refine c_seq ?_ | refine c_region ?_ | refine c_block ?_))
  rename_i b4' hb4' b6 hb6
  refine AT.fact (own_cap 1 rfl) (fun hcap => ?_)
  rw [mk_length] at hcap
  refine c_loopH (α := Nat) [0, 4, 5, 6, 7, 17] (fun i => [(18, .int .i64 i)]) (fun i => i ≤ R) (fun i => [.own (iT (mk R C (mulTo p N f g i 0))) (.slice am (R * C) cm), .blk b7 #[iV R, iV C, .slice am (R * C) cm] 47, .blk b6 #[iV 0, iV 0, .slice none 0 0] 47, .blk b4 #[iV N, iV C, .slice av (N * C) cv] 47, .blk b4' #[iV R, iV N, .slice au (R * N) cu] 47]) (fun i => R - i) 0 rfl sB ?_ ?_ ?_
  · exact Nat.zero_le _
  · intro w' c'
    have e0 : mk R C (mulTo p N f g 0 0) = mk R C (fun _ _ => 0) := mk_ext (fun i j hi hj => by unfold mulTo accF; grind)
    rw [e0]
    exact c'.front (i := 1) rfl
  · intro i hi
    by_cases hiR : i < R
    · obtain ⟨_, _, er, hsr, _, _, hgr⟩ := (row_rds hr hiR).ints
      rw [mkv_length] at er hsr hgr
      cases er
      repeat' (first | (show oL; first | refine sMv rfl rfl ?_ | refine sAs rfl rfl ?_ | refine sLb 4 tabs rfl rfl rfl rfl rfl ?_ | refine sLs rfl rfl rfl ?_ | (show oA (.call _); first | (refine m_call (ent_of Tryz.func90 kr rfl) rfl rfl (fun w c => rowg_ok om om hiR hcu) ?_; rintro v H' ⟨rfl, rfl⟩) | refine sLn tabs rfl rfl rfl ?_)) | refine xNt ?_ | (show oC; first | refine c_seq ?_ | refine c_region ?_ | refine c_skip (x_then ?_) | refine c_block ?_ | refine c_ift rfl aO ?_))
      refine c_loopH (α := Nat) [0, 4, 5, 6, 7, 8, 17, 18, 23, 24] (fun k => [(25, .int .i64 k)]) (fun k => k ≤ N) (fun k => [.own (iT (mk R C (mulTo p N f g i k))) (.slice am (R * C) cm), .blk b7 #[iV R, iV C, .slice am (R * C) cm] 47, .blk b6 #[iV 0, iV 0, .slice none 0 0] 47, .blk b4 #[iV N, iV C, .slice av (N * C) cv] 47, .blk b4' #[iV R, iV N, .slice au (R * N) cu] 47]) (fun k => N - k) 0 rfl sB ?_ ?_ ?_
      · exact Nat.zero_le _
      · exact fun w' c' => c'
      · intro k hk
        by_cases hkN : k < N
        · have hx := inF5 hF hf i k hiR hkN
          have hxv : (mkv N (f i)).getD k 0 = f i k := mkv_get hkN
          have hyR := row_rds hr' hkN
          have hys : SA (subA av 1 (k * C) cv) C := by
            obtain ⟨_, _, e, h, _⟩ := hyR.ints
            rw [mkv_length] at e h
            cases e
            exact h
          have hiC : i * C + C ≤ R * C := by
            have h1 : (i + 1) * C ≤ R * C := Nat.mul_le_mul_right C hiR
            rwa [Nat.succ_mul] at h1
          have hacc : ∀ a j, a < R → j < C → 0 ≤ mulTo p N f g i k a j ∧ mulTo p N f g i k a j ≤ 5 := fun a j _ _ => by
            have h1 := accF_in (f := f) (g := g) (i := a) (j := j) (show 0 < p by omega) N
            have h2 := accF_in (f := f) (g := g) (i := a) (j := j) (show 0 < p by omega) k
            unfold mulTo; split
            · omega
            · split <;> omega
          repeat' (first | (show oL; first | refine sMv rfl rfl ?_ | refine sAs rfl rfl ?_ | (show oA (.load _ _); refine st_y (y_load tabs rfl rfl (hc_w0 (hgr k hkN))) rfl ?_) | (show oA (.indexAddr _ _ _); refine st_y (y_ix1 tabs (j := k) rfl rfl rfl hsr rfl hkN) rfl ?_) | (show oA (.binOp _ _ _ _ _); first | refine sAd rfl rfl om rfl ?_ | refine sLs rfl rfl rfl ?_) | (show oA (.call _); (refine m_callL 0 (ent_of Tryz.func80 kr rfl) rfl rfl rfl (fun w M' hl => addMultiple_ok (o := i * C) (n := C) (ys := mkv C (g k)) hF (by rw [hxv]; omega) hl (fun h => subA_at hsm hiR h hcap) (by rw [mk_length]; omega) om (fun j hj => by rw [mk_get hiR hj]; exact hacc i j hiR hj) (fun j hj => by rw [mkv_get hj]; have := inF5 hF hg k j hkN hj; omega) hys (fun w' xs' c' hxl hxo j hj => by have h := (RdOut.rd (hl.old hyR) c').ints; obtain ⟨_, _, e, _, _, _, hh⟩ := h; rw [mkv_length] at e hh; cases e; exact hh j hj)) ?_; rintro v H' ⟨rfl, rfl⟩))) | (show oN; first | refine c_nil (x_then ?_) | refine c_nil ?_) | (show oC; first | refine c_tailR 8 kr kr kr kr kr kr (fun _ c => Hp.drew c) ?_ | refine c_seq ?_ | refine c_region ?_ | refine c_skip (x_then ?_) | refine c_block ?_ | refine c_ift rfl aO ?_) | (show QT _ _ _ _ _ _ (_ :: _); first | refine qMv rfl rfl ?_ | (show qA (.load _ _); first | refine qLb 1 tabs rfl rfl rfl rfl rfl ?_ | refine qLb 3 tabs rfl rfl rfl rfl rfl ?_) | (show qA (.call _); first | refine q_call (ent_of Tryz.func90 kr rfl) rfl rfl (fun w c => rowg_ok (R := R) (C := C) om om hiR hcap) (fun u H' h => h.1) ?_ | refine q_call (ent_of Tryz.func90 kr rfl) rfl rfl (fun w c => rowg_ok (R := N) (C := C) om om hkN hcv) (fun u H' h => h.1) ?_)) | (show QT _ _ _ _ _ _ []; refine q_nil ?_) | (show AT _ _ _ _; first | refine x_then ?_ | refine x_blk ?_))
          refine x_nx (k + 1) sB om (fun w' c' => ?_) om
          rw [addTo_mk hiR C (Nat.le_refl _), hxv] at c'
          have e0 : mk R C (fun a b => if a = i ∧ b < C then (mulTo p N f g i k i b + f i k * (mkv C (g k)).getD b 0) % p else mulTo p N f g i k a b) = mk R C (mulTo p N f g i (k + 1)) := mk_ext (fun a b ha hb => by
            by_cases hai : a = i
            · subst hai
              rw [if_pos ⟨rfl, hb⟩, mkv_get hb]
              simp [mulTo, accF]
            · rw [if_neg om]
              unfold mulTo
              grind)
          rw [e0] at c'
          exact c'
        · have : k = N := by omega
          subst this
          repeat' (first | (show oL; first | refine sMv rfl rfl ?_ | (show oA (.binOp _ _ _ _ _); first | refine sAd rfl rfl om rfl ?_ | refine sLs rfl rfl rfl ?_)) | refine xNt ?_ | (show oC; first | refine c_seq ?_ | refine c_region ?_ | refine c_exit ?_ | refine c_iff rfl nN ?_) | (show AT _ _ _ _; first | refine x_then ?_ | refine x_then_exit ?_ | refine x_blk_exit rfl ?_ | refine x_blk ?_))
          refine x_nx (i + 1) sB om (fun w' c' => ?_) om
          have e0 : mk R C (mulTo p k f g i k) = mk R C (mulTo p k f g (i + 1) 0) := mk_ext (fun a b ha hb => by unfold mulTo; simp only [accF]; grind)
          rw [e0] at c'
          exact c'
    · have : i = R := by omega
      subst this
      have e0 : mk i C (mulTo p N f g i 0) = mk i C (mulF p N f g) := mk_ext (fun a b ha hb => by unfold mulTo mulF; rw [if_pos ha])
      rw [e0]
      repeat' (first | (show oL; first | refine sLb 1 tabs rfl rfl rfl rfl rfl ?_ | refine sLs rfl rfl rfl ?_ | (show oA (.store _ _ _); refine m_storeb 2 tabs rfl rfl rfl rfl rfl rfl rfl ?_)) | refine xNt ?_ | (show oC; first | refine c_seq ?_ | refine c_region ?_ | refine c_ret ?_ | refine c_exit ?_ | refine c_iff rfl nN ?_) | (show AT _ _ _ _; first | refine x_then ?_ | refine x_then_exit ?_ | refine x_blk_exit rfl ?_))
      exact x_ret1 Tryz.results122 (res_cellb 2 tabs rfl rfl rfl rfl) (fun w' c' => ⟨_, _, rfl, ⟨am, cm, rfl, hsm, rfl⟩, c'.sub (.cons_cons _ (List.nil_sublist _))⟩)
theorem sumN_bd {f : Nat → Int} {B : Int} : ∀ n, (∀ k, k < n → 0 ≤ f k ∧ f k ≤ B) → 0 ≤ sumN f n ∧ sumN f n ≤ B * n
  | 0, _ => by simp [sumN]
  | n + 1, h => by
    have h1 := sumN_bd (f := f) (B := B) n (fun k hk => h k om)
    have h2 := h n om
    simp only [sumN, Int.natCast_add, Int.mul_add]
    omega
def mulC (p : Int) (N : Nat) (f g : Nat → Nat → Int) (i k : Nat) : Nat → Nat → Int := fun a b => if a < i ∨ (a = i ∧ b < k) then mulF p N f g a b else 0
theorem mulC_next {p : Int} {N i k : Nat} {f g : Nat → Nat → Int} : upd (mulC p N f g i k) i k (mulF p N f g i k) = mulC p N f g i (k + 1) := by
  funext a b
  unfold upd mulC
  grind
theorem l3Multiply_ok {w : World} {p : Int} {R N C : Nat} {f g : Nat → Nat → Int} {u u' : Value} (hr : Rd w (iT (mk R N f)) u) (hr' : Rd w (iT (mk N C g)) u') (hF : FieldP p) (hR : R ≤ 64) (hN : N ≤ 64) (hC : C ≤ 64) (hf : inF p R N f) (hg : inF p N C g) :
    Does Tryz.prog 105 [iV p, .agg #[iV R, iV N, u], .agg #[iV N, iV C, u']] w (GivesK R C (mulF p N f g)) := by
  have hp := fieldP_pos hF
  obtain ⟨au, cu, rfl, hsu, hcu⟩ := rd_mk hr
  obtain ⟨av, cv, rfl, hsv, hcv⟩ := rd_mk hr'
  have hRN := rc_le (R := R) (C := N) om om
  have hNC := rc_le (R := N) (C := C) om om
  have hRC := rc_le (R := R) (C := C) om om
  refine fn_enter Tryz.func105 rfl Tryz.ntmps105 rfl ?_
  repeat' (first | (show oL; first | refine sAs rfl rfl ?_ | refine sFd tabs rfl rfl rfl rfl ?_ | (show oA (.load _ _); first | refine sLd 1 tabs rfl rfl rfl rfl rfl ?_ | refine sLd 2 tabs rfl rfl rfl rfl rfl ?_) | (show oA (.call _); (refine m_call (ent_of Tryz.func81 kr rfl) rfl rfl (fun w c => l3Zero_ok (R := R) (C := C) om om) ?_; rintro v H' ⟨am, cm, rfl, hsm, rfl⟩)) | (show oA (.store _ _ _); refine m_storeb 0 tabs rfl rfl rfl rfl rfl rfl rfl ?_) | (show oA (.box _ _); refine m_box rfl rfl (fun b4 hb4 => ?_)) | (show oA (.alloc _); refine m_alloc tabs rfl rfl (fun b7 hb7 => ?_))) | refine xNt ?_ | (show oC; first | refine c_seq ?_ | refine c_region ?_ | refine c_block ?_))
  rename_i b4' hb4' b6 hb6
  refine c_loopH (α := Nat) [0, 4, 5, 6, 7] (fun i => [(8, .int .i64 i)]) (fun i => i ≤ R) (fun i => [.own (iT (mk R C (mulC p N f g i 0))) (.slice am (R * C) cm), .blk b7 #[iV R, iV C, .slice am (R * C) cm] 47, .blk b6 #[iV 0, iV 0, .slice none 0 0] 47, .blk b4 #[iV N, iV C, .slice av (N * C) cv] 47, .blk b4' #[iV R, iV N, .slice au (R * N) cu] 47]) (fun i => R - i) 0 rfl sB ?_ ?_ ?_
  · exact Nat.zero_le _
  · intro w' c'
    have e0 : mk R C (mulC p N f g 0 0) = mk R C (fun _ _ => 0) := mk_ext (fun i j hi hj => by unfold mulC; grind)
    rw [e0]
    exact c'.front (i := 1) rfl
  · intro i hi
    by_cases hiR : i < R
    · repeat' (first | (show oL; first | refine sMv rfl rfl ?_ | refine sAs rfl rfl ?_ | refine sFd tabs rfl rfl rfl rfl ?_ | refine sLd 4 tabs rfl rfl rfl rfl rfl ?_ | refine sLs rfl rfl rfl ?_) | refine xNt ?_ | (show oC; first | refine c_seq ?_ | refine c_region ?_ | refine c_skip (x_then ?_) | refine c_block ?_ | refine c_ift rfl aO ?_))
      refine c_loopH (α := Nat) [0, 4, 5, 6, 7, 8] (fun k => [(9, .int .i64 k)]) (fun k => k ≤ C) (fun k => [.own (iT (mk R C (mulC p N f g i k))) (.slice am (R * C) cm), .blk b7 #[iV R, iV C, .slice am (R * C) cm] 47, .blk b6 #[iV 0, iV 0, .slice none 0 0] 47, .blk b4 #[iV N, iV C, .slice av (N * C) cv] 47, .blk b4' #[iV R, iV N, .slice au (R * N) cu] 47]) (fun k => C - k) 0 rfl sB ?_ ?_ ?_
      · exact Nat.zero_le _
      · exact fun w' c' => c'
      · intro k hk
        by_cases hkC : k < C
        · have hbd : ∀ j, j < N → 0 ≤ f i j * g j k ∧ f i j * g j k ≤ 25 := fun j hj => by
            have h1 := inF5 hF hf i j hiR hj
            have h2 := inF5 hF hg j k hj hkC
            exact mul_small om om
          have hcl := cell_lt hiR hkC
          have hil := Nat.mul_le_mul_right C hi
          repeat' (first | (show oL; first | refine sMv rfl rfl ?_ | refine sAs rfl rfl ?_ | refine sFd tabs rfl rfl rfl rfl ?_ | refine sLd 3 tabs rfl rfl rfl rfl rfl ?_ | refine sLs rfl rfl rfl ?_) | refine xNt ?_ | (show oC; first | refine c_seq ?_ | refine c_region ?_ | refine c_skip (x_then ?_) | refine c_block ?_ | refine c_ift rfl aO ?_))
          refine c_loopH (α := Nat) [0, 4, 5, 6, 7, 8, 9] (fun j => [(10, iV (sumN (fun q => f i q * g q k) j)), (11, .int .i64 j)]) (fun j => j ≤ N) (fun j => [.own (iT (mk R C (mulC p N f g i k))) (.slice am (R * C) cm), .blk b7 #[iV R, iV C, .slice am (R * C) cm] 47, .blk b6 #[iV 0, iV 0, .slice none 0 0] 47, .blk b4 #[iV N, iV C, .slice av (N * C) cv] 47, .blk b4' #[iV R, iV N, .slice au (R * N) cu] 47]) (fun j => N - j) 0 rfl sB ?_ ?_ ?_
          · exact Nat.zero_le _
          · exact fun w' c' => c'
          · intro j hj
            have hsb := sumN_bd (f := fun q => f i q * g q k) (B := 25) j (fun q hq => hbd q om)
            by_cases hjN : j < N
            · have hb1 := hbd j hjN
              have c1 := cell_lt hiR hjN
              have c2 := cell_lt hjN hkC
              have c3 := Nat.mul_le_mul_right N hi
              have c4 := Nat.mul_le_mul_right C hj
              repeat' (first | (show oL; first | refine sMv rfl rfl ?_ | refine sAs rfl rfl ?_ | refine sFd tabs rfl rfl rfl rfl ?_ | refine sLd 4 tabs rfl rfl rfl rfl rfl ?_ | (show oA (.binOp _ _ _ _ _); first | refine sAd rfl rfl om rfl ?_ | refine sLs rfl rfl rfl ?_)) | refine xNt ?_ | (show oC; first | refine c_seq ?_ | refine c_region ?_ | refine c_skip (x_then ?_) | refine c_block ?_ | refine c_draw kr kr (fun _ c => Hp.drew c) ?_ | refine c_ift rfl aO ?_) | (show QT _ _ _ _ _ _ (_ :: _); first | refine qMv rfl rfl ?_ | refine qAs rfl rfl ?_ | refine qFd tabs rfl rfl rfl rfl ?_ | (show qA (.load _ _); first | refine qLd 4 tabs rfl rfl rfl rfl rfl ?_ | refine qLd 3 tabs rfl rfl rfl rfl rfl ?_ | refine q_y (y_load tabs rfl rfl (hc_rdk (RdOut.of_rd hr) hiR hjN)) rfl ?_ | refine q_y (y_load tabs rfl rfl (hc_rdk (RdOut.of_rd hr') hjN hkC)) rfl ?_) | (show qA (.indexAddr _ _ _); first | refine q_y (y_ix1 tabs (j := i * N + j) rfl rfl rfl hsu rfl c1) rfl ?_ | refine q_y (y_ix1 tabs (j := j * C + k) rfl rfl rfl hsv rfl c2) rfl ?_) | (show qA (.binOp _ _ _ _ _); first | refine q_y (y_muln (a := i) (b := N) rfl rfl rfl rfl om) rfl ?_ | refine q_y (y_muln (a := j) (b := C) rfl rfl rfl rfl om) rfl ?_ | refine q_y (y_addn (b := j) rfl rfl rfl rfl om) rfl ?_ | refine q_y (y_addn (b := k) rfl rfl rfl rfl om) rfl ?_ | refine q_y (y_mul rfl rfl om) rfl ?_ | refine qAd rfl rfl om rfl ?_)) | (show QT _ _ _ _ _ _ []; refine q_nil ?_) | (show AT _ _ _ _; first | refine x_then ?_ | refine x_blk ?_))
              exact x_nx (j + 1) sB om (fun w' c' => c') om
            · have : j = N := by omega
              subst this
              repeat' (first | (show oL; first | refine sMv rfl rfl ?_ | refine sAs rfl rfl ?_ | refine sFd tabs rfl rfl rfl rfl ?_ | refine sLd 4 tabs rfl rfl rfl rfl rfl ?_ | (show oA (.indexAddr _ _ _); refine st_y (y_ix1 tabs (j := i * C + k) rfl rfl rfl hsm rfl hcl) rfl ?_) | (show oA (.binOp _ _ _ _ _); first | refine sAd rfl rfl om rfl ?_ | refine sLs rfl rfl rfl ?_) | (show oA (.store _ _ _); refine m_storeo 0 tabs rfl rfl rfl rfl (by rw [mk_length]; exact hcl) ?_)) | (show oN; first | refine c_nil (x_then ?_) | refine c_nil ?_) | (show oC; first | refine c_tailR 11 kr kr kr kr kr kr (fun _ c => Hp.drew c) ?_ | refine c_seq ?_ | refine c_region ?_ | refine c_exit ?_ | refine c_iff rfl nN ?_) | (show QT _ _ _ _ _ _ (_ :: _); first | refine qMv rfl rfl ?_ | refine qFd tabs rfl rfl rfl rfl ?_ | (show qA (.load _ _); first | refine qLd 3 tabs rfl rfl rfl rfl rfl ?_ | refine qLd 1 tabs rfl rfl rfl rfl rfl ?_) | (show qA (.binOp _ _ _ _ _); first | refine q_y (y_muln (a := i) (b := C) rfl rfl rfl rfl om) rfl ?_ | refine q_y (y_addn (b := k) rfl rfl rfl rfl om) rfl ?_) | (show qA (.call _); refine q_call (ent_of Tryz.func40 kr rfl) rfl rfl (fun w c => l2Mod_ok om om) (fun u H' h => h.1) ?_)) | (show QT _ _ _ _ _ _ []; refine q_nil ?_) | (show AT _ _ _ _; first | refine x_then ?_ | refine x_then_exit ?_ | refine x_blk_exit rfl ?_ | refine x_blk ?_))
              refine x_nx (k + 1) sB om (fun w' c' => ?_) om
              simp only [List.set_cons_zero] at c'
              rw [mk_set hiR hkC, ← accF_sum] at c'
              have e0 := mulC_next (p := p) (N := j) (i := i) (k := k) (f := f) (g := g)
              simp only [mulF] at e0
              rw [e0] at c'
              exact c'
        · have : k = C := by omega
          subst this
          repeat' (first | (show oL; first | refine sMv rfl rfl ?_ | refine sAs rfl rfl ?_ | refine sFd tabs rfl rfl rfl rfl ?_ | refine sLd 3 tabs rfl rfl rfl rfl rfl ?_ | (show oA (.binOp _ _ _ _ _); first | refine sAd rfl rfl om rfl ?_ | refine sLs rfl rfl rfl ?_)) | refine xNt ?_ | (show oC; first | refine c_seq ?_ | refine c_region ?_ | refine c_exit ?_ | refine c_iff rfl nN ?_) | (show AT _ _ _ _; first | refine x_then ?_ | refine x_then_exit ?_ | refine x_blk_exit rfl ?_ | refine x_blk ?_))
          refine x_nx (i + 1) sB om (fun w' c' => ?_) om
          have e0 : mk R k (mulC p N f g i k) = mk R k (mulC p N f g (i + 1) 0) := mk_ext (fun a b ha hb => by unfold mulC; grind)
          rw [e0] at c'
          exact c'
    · have : i = R := by omega
      subst this
      have e0 : mk i C (mulC p N f g i 0) = mk i C (mulF p N f g) := mk_ext (fun a b ha hb => by unfold mulC; rw [if_pos (.inl ha)])
      rw [e0]
      repeat' (first | (show oL; first | refine sMv rfl rfl ?_ | refine sFd tabs rfl rfl rfl rfl ?_ | (show oA (.load _ _); first | refine sLd 4 tabs rfl rfl rfl rfl rfl ?_ | refine sLb 1 tabs rfl rfl rfl rfl rfl ?_) | refine sLs rfl rfl rfl ?_ | (show oA (.store _ _ _); refine m_storeb 2 tabs rfl rfl rfl rfl rfl rfl rfl ?_)) | refine xNt ?_ | (show oC; first | refine c_seq ?_ | refine c_region ?_ | refine c_ret ?_ | refine c_exit ?_ | refine c_iff rfl nN ?_) | (show AT _ _ _ _; first | refine x_then ?_ | refine x_then_exit ?_ | refine x_blk_exit rfl ?_))
      exact x_ret1 Tryz.results105 (res_cellb 2 tabs rfl rfl rfl rfl) (fun w' c' => ⟨_, _, rfl, ⟨am, cm, rfl, hsm, rfl⟩, c'.sub (.cons_cons _ (List.nil_sublist _))⟩)
end Go.Proofs.YtcplmeajmpkpkaaGreat
