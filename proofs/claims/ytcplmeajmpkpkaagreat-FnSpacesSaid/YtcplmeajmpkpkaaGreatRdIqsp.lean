import Derived.Test.YtcplmeajmpkpkaaGreatLCqsp
import Derived.Test.YtcplmeajmpkpkaaGreatPrmqsp
import Derived.Test.YtcplmeajmpkpkaaGreatRdPqsp
namespace Go.Proofs.YtcplmeajmpkpkaaGreat
open Go.Lg Go.Proofs Go.RowKit
attribute [local irreducible] Code.wp wpList bodyPost Exit.then Exit.inBlock Hp Again Calls Y AT ResV QT
set_option maxRecDepth 20000
set_option maxHeartbeats 4000000

theorem hc_mk {M : List Nat} {w0 : World} {H : List HE} (i : Nat) {e R C r c : Nat} {f : Nat → Nat → Int} {a : Option Addr} {m cc : Nat} (hi : H[i]? = some (.own (ints e (mk R C f)) (.slice a m cc))) (hr : r < R) (hc : c < C) :
    ∀ w, Hp M w0 H w → w.cell? ⟨ab a, ao a + (r * C + c), none⟩ = some (.int .i64 (f r c)) := fun w cw => by
  have := hc_own i hi (j := r * C + c) (by rw [mk_length]; exact cell_lt hr hc) w cw
  rwa [mk_get hr hc] at this

theorem src_blk {M : List Nat} {w0 : World} {H : List HE} (i : Nat) {g e : Nat} {n : Int} (hi : H[i]? = some (.blk g #[.int .i64 n] e)) : ∀ w, Hp M w0 H w → ([n] : List Int) = [] ∨ ∃ a, some (⟨g, 0, none⟩ : Addr) = some a ∧ ∀ j u, (ic [n])[j]? = some u → w.cell? (a.add j) = some u := fun w c =>
  .inr ⟨_, rfl, fun j u hu => by
    match j, hu with
    | 0, hu =>
      have := hc_blk (M := M) (w0 := w0) i (o := 0) hi rfl w c
      simp [ic] at hu
      subst hu
      simpa [Addr.add] using this
    | j + 1, hu => simp [ic] at hu⟩
abbrev GivesRed (m : Mat) (l : List Int) (v : Value) (H : List HE) : Prop := ∃ a c a' c', v = .tuple #[.agg #[iV m.1, iV m.2.1, .slice a m.2.2.length c], .slice a' l.length c'] ∧ SA a m.2.2.length ∧ SA a' l.length ∧ H = [.own (iT l) (.slice a' l.length c'), .own (iT m.2.2) (.slice a m.2.2.length c)]

theorem l4Reduce_ok {w : World} {p : Int} {m : Mat} {u : Value} (hr : Rd w (iT m.2.2) u) (hm : MatG p m) :
    Does Tryz.prog 82 [iV p, .agg #[iV m.1, iV m.2.1, u]] w (GivesRed (redM p m) (redL p m)) := by
  obtain ⟨r, c, xs⟩ := m
  obtain ⟨hF, ⟨hR0, hR8⟩, ⟨hC0, hC8⟩, hlen, hin⟩ := hm
  simp only at hr hR0 hR8 hC0 hC8 hlen hin ⊢
  obtain ⟨R, rfl⟩ := Int.eq_ofNat_of_zero_le hR0
  obtain ⟨C, rfl⟩ := Int.eq_ofNat_of_zero_le hC0
  have ⟨hp1, hp2⟩ := fieldP_pos hF
  have hlen' : xs.length = R * C := by rw [← Int.natCast_mul] at hlen; omega
  have hf0 : xs = mk R C (matF (↑R, ↑C, xs)) := mk_of hlen'
  have hin0 : inF p R C (matF (↑R, ↑C, xs)) := fun i j hi hj => by
    have := inP_get hin (i := i * C + j) (by rw [hlen']; exact cell_lt hi hj)
    simp only [matF, Int.toNat_natCast]; omega
  generalize hf : matF (↑R, ↑C, xs) = f0 at hf0 hin0
  have hRC : R * C ≤ 1048576 := matG_size hR8 hC8
  refine fn_enter Tryz.func82 rfl Tryz.ntmps82 rfl ?_
  repeat' (first | (show oL; first | refine sAs rfl rfl ?_ | refine sLb 1 tabs rfl rfl rfl rfl rfl ?_ | (show oA (.call _); (refine m_call (ent_of Tryz.func110 kr rfl) rfl rfl (fun w c => l3Copy_ok (m := (↑R, ↑C, xs)) (c.rd hr) (show xs.length ≤ 1048576 by omega)) ?_; rintro v H' ⟨ac, cc, rfl, hsc, rfl⟩)) | (show oA (.store _ _ _); refine m_storeb 0 tabs rfl rfl rfl rfl rfl rfl rfl ?_) | (show oA (.box _ _); refine m_box rfl rfl (fun b3 hb3 => ?_)) | (show oA (.alloc _); refine m_alloc tabs rfl rfl (fun b hb => ?_)) | (show oA (.buildSlice _ _ _); refine m_build0 tabs rfl rfl (fun g hg => ?_))) | refine xNt ?_ | (show oC; first | refine c_seq ?_ | refine c_region ?_ | refine c_block ?_))
  rename_i b4 hb4
  simp only at hsc
  rw [hlen'] at hsc
  refine c_loop (α := Nat × Option Addr × Nat) (fun q => [(0, iV p), (4, .pointer (some ⟨b4, 0, none⟩)), (6, .pointer (some ⟨b, 0, none⟩)), (7, .slice q.2.1 (redTo p R f0 q.1).2.length q.2.2), (8, iV (redTo p R f0 q.1).2.length), (9, .int .i64 q.1)])
    (fun q w' => (q.1 ≤ C ∧ (q.1 = C ∨ (redTo p R f0 q.1).2.length ≤ R)) ∧ Hp [] w [.own (iT (redTo p R f0 q.1).2) (.slice q.2.1 (redTo p R f0 q.1).2.length q.2.2), .blk b #[iV R, iV C, .slice ac (R * C) cc] 47, .own (iT (mk R C (redTo p R f0 q.1).1)) (.slice ac (R * C) cc), .blk b4 #[iV 0, iV 0, .slice none 0 0] 47] w') (fun q => C - q.1) (0, some ⟨g, 0, none⟩, 0) ?_ ?_ ?_
  · exact sB
  · intro w' c'
    refine ⟨⟨by omega, by simp [redTo]⟩, ?_⟩
    have := c'.sub (H' := [.own (iT []) (.slice (some ⟨g, 0, none⟩) 0 0), .blk b #[iV R, iV C, .slice ac xs.length cc] 47, .own (iT xs) (.slice ac xs.length cc), .blk b4 #[iV 0, iV 0, .slice none 0 0] 47]) (by repeat' first | exact List.nil_sublist _ | apply List.Sublist.cons_cons)
    rw [hlen'] at this
    rw [hf0] at this
    exact this
  · rintro ⟨k, al, cl⟩
    refine AT.pr (fun ⟨hk, _⟩ => ?_)
    simp only at hk ⊢
    obtain ⟨hin1, hlr⟩ := redTo_in (f := f0) om hin0 k
    generalize hst : redTo p R f0 k = st at hin1 hlr ⊢
    obtain ⟨f, piv⟩ := st
    simp only at hin1 hlr ⊢
    by_cases hgo : k < C ∧ piv.length < R
    · have hk1 : (k : Int) < C := by omega
      have hr1 : (piv.length : Int) < R := by omega
      repeat' (first | (show oL; first | refine sMv rfl rfl ?_ | refine sAs rfl rfl ?_ | refine sFd tabs rfl rfl rfl rfl ?_ | refine sLd 1 tabs rfl rfl rfl rfl rfl ?_ | (show oA (.binOp _ _ _ _ _); first | refine st_y (y_sub rfl rfl om) rfl ?_ | refine sLs rfl rfl rfl ?_) | (show oA (.pick _ _ _); refine st_y (y_pickt rfl aS rfl) rfl ?_) | refine st_gdy rfl rfl aS ?_) | refine xNt ?_ | (show oC; first | refine c_seq ?_ | refine c_region ?_ | refine c_skip (x_then ?_) | refine c_block ?_ | refine c_ift rfl aO ?_))
      -- the search
      refine c_loop (α := Nat) (fun t => [(0, iV p), (4, .pointer (some ⟨b4, 0, none⟩)), (6, .pointer (some ⟨b, 0, none⟩)), (7, .slice al piv.length cl), (8, iV piv.length), (9, .int .i64 k), (10, iV (atv f k R t)), (11, iV ((t : Int) - 1))])
        (fun t w' => (piv.length ≤ t ∧ t ≤ R) ∧ Hp [] w [.own (iT piv) (.slice al piv.length cl), .blk b #[iV R, iV C, .slice ac (R * C) cc] 47, .own (iT (mk R C f)) (.slice ac (R * C) cc), .blk b4 #[iV 0, iV 0, .slice none 0 0] 47] w') (fun t => t) R ?_ ?_ ?_
      · have : atv f k R R = -1 := by unfold atv; rw [findAt_ge (Nat.le_refl _), if_neg om]
        rw [this]
        exact sB
      · intro w' c'
        exact ⟨by omega, c'⟩
      · intro t
        refine AT.pr (fun ⟨ht1, ht2⟩ => ?_)
        by_cases htp : piv.length < t
        · have hcl := cell_lt (R := R) (C := C) (i := t - 1) (j := k) om om
          have e1 : ((t : Int) - 1) * (C : Int) = (((t - 1) * C : Nat) : Int) := by rw [Int.natCast_mul]; congr 1; omega
          have e2 : ((t : Int) - 1) * (C : Int) + (k : Int) = (((t - 1) * C + k : Nat) : Int) := by rw [e1]; omega
          repeat' (first | (show oL; first | refine sMv rfl rfl ?_ | refine sAs rfl rfl ?_ | refine sFd tabs rfl rfl rfl rfl ?_ | (show oA (.load _ _); first | refine st_y (y_load tabs rfl rfl (hc_mk 2 rfl (show t - 1 < R by omega) hgo.1)) rfl ?_ | refine sLd 1 tabs rfl rfl rfl rfl rfl ?_) | (show oA (.indexAddr _ _ _); refine st_y (y_ix1 tabs (j := (t - 1) * C + k) rfl rfl rfl hsc e2 hcl) rfl ?_) | (show oA (.binOp _ _ _ _ _); first | refine st_y (y_mul rfl rfl (by rw [e1]; omega)) rfl ?_ | refine st_y (y_add rfl rfl (by first | omega | (rw [e1]; omega))) rfl ?_ | refine st_y (y_sub rfl rfl om) rfl ?_ | refine st_y (y_geq rfl rfl) rfl ?_ | refine st_y (y_neq rfl rfl) rfl ?_)) | (show oN; first | refine c_nil (x_then ?_) | refine c_nil ?_) | (show oC; first | refine c_seq ?_ | refine c_region ?_ | refine c_skip (x_then ?_) | refine c_skip (x_blk ?_) | refine c_block ?_ | refine c_ift rfl aO ?_ | refine c_ifnd rfl (fun h => ?_) (fun h => ?_)) | (show AT _ _ _ _; first | refine x_then ?_ | refine x_blk ?_))
          · refine x_next (t - 1) ?_ (fun w' c' => ⟨by omega, c'⟩) om
            rw [atv_hit om h]
            refine Sub.cons rfl (Sub.cons rfl (Sub.cons rfl (Sub.cons rfl (Sub.cons rfl (Sub.cons rfl (Sub.consi rfl om (Sub.consi rfl om Sub.nil)))))))
          · refine x_next (t - 1) ?_ (fun w' c' => ⟨by omega, c'⟩) om
            have h0 : f (t - 1) k = 0 := by simpa using h
            rw [atv_miss om h0, show t - 1 + 1 = t by omega]
            refine Sub.cons rfl (Sub.cons rfl (Sub.cons rfl (Sub.cons rfl (Sub.cons rfl (Sub.cons rfl (Sub.cons rfl (Sub.consi rfl om Sub.nil)))))))
        · have htp' : t = piv.length := by omega
          subst htp'
          by_cases hat : findAt f k R piv.length < R
          · have hv : atv f k R piv.length = (findAt f k R piv.length : Int) := by unfold atv; rw [if_pos hat]
            rw [hv]
            repeat' (first | (show oL; first | refine sMv rfl rfl ?_ | refine sAs rfl rfl ?_ | (show oA (.binOp _ _ _ _ _); first | refine sLs rfl rfl rfl ?_ | refine st_y (y_geq rfl rfl) rfl ?_)) | refine xNt ?_ | (show oC; first | refine c_seq ?_ | refine c_region ?_ | refine c_skip (x_then ?_) | refine c_block ?_ | refine c_exit ?_ | refine c_false rfl ?_ | refine c_iff rfl nN ?_) | (show AT _ _ _ _; first | refine x_then ?_ | refine x_then_exit ?_ | refine x_blk_exit rfl ?_))
            generalize hae : findAt f k R piv.length = at0 at *
            have hsp : piv.length ≤ at0 ∧ f at0 k ≠ 0 := by have := findAt_spec (f := f) (k := k) (R := R) (r := piv.length) om; rwa [hae] at this
            -- the swap
            refine c_loop (α := Nat) (fun j => [(0, iV p), (4, .pointer (some ⟨b4, 0, none⟩)), (6, .pointer (some ⟨b, 0, none⟩)), (7, .slice al piv.length cl), (8, iV piv.length), (9, .int .i64 k), (10, iV at0), (12, .int .i64 j)])
              (fun j w' => j ≤ C ∧ Hp [] w [.own (iT piv) (.slice al piv.length cl), .blk b #[iV R, iV C, .slice ac (R * C) cc] 47, .own (iT (mk R C (swapTo f piv.length at0 j))) (.slice ac (R * C) cc), .blk b4 #[iV 0, iV 0, .slice none 0 0] 47] w') (fun j => C - j) 0 ?_ ?_ ?_
            · exact sB
            · intro w' c'
              refine ⟨by omega, ?_⟩
              have e0 : swapTo f piv.length at0 0 = f := by funext i j; simp [swapTo]
              rwa [e0]
            · intro j
              refine AT.pr (fun hj => ?_)
              by_cases hjc : j < C
              · have hc1 := cell_lt (R := R) (C := C) (i := piv.length) (j := j) om hjc
                have hc2 := cell_lt (R := R) (C := C) (i := at0) (j := j) om hjc
                have e1 : (piv.length : Int) * (C : Int) + (j : Int) = ((piv.length * C + j : Nat) : Int) := by simp
                have e2 : (at0 : Int) * (C : Int) + (j : Int) = ((at0 * C + j : Nat) : Int) := by simp
                have e3 : (piv.length : Int) * (C : Int) = ((piv.length * C : Nat) : Int) := by simp
                have e4 : (at0 : Int) * (C : Int) = ((at0 * C : Nat) : Int) := by simp
                repeat' (first | (show oL; first | refine sMv rfl rfl ?_ | refine sAs rfl rfl ?_ | refine sFd tabs rfl rfl rfl rfl ?_ | (show oA (.load _ _); first | refine st_y (y_load tabs rfl rfl (hc_mk 2 rfl (show piv.length < R by omega) hjc)) rfl ?_ | refine sLd 1 tabs rfl rfl rfl rfl rfl ?_) | (show oA (.indexAddr _ _ _); first | refine st_y (y_ix1 tabs (j := piv.length * C + j) rfl rfl rfl hsc e1 hc1) rfl ?_ | refine st_y (y_ix1 tabs (j := at0 * C + j) rfl rfl rfl hsc e2 hc2) rfl ?_) | (show oA (.binOp _ _ _ _ _); first | refine st_y (y_mul rfl rfl (by first | (rw [e3]; omega) | (rw [e4]; omega))) rfl ?_ | refine st_y (y_add rfl rfl (by first | omega | (rw [e3]; omega) | (rw [e4]; omega))) rfl ?_ | refine sLs rfl rfl rfl ?_) | (show oA (.store _ _ _); refine m_storeo 2 tabs rfl rfl rfl rfl (by first | (rw [mk_length]; omega) | (rw [List.length_set, mk_length]; omega)) ?_)) | (show oN; first | refine c_nil (x_then ?_) | refine c_nil ?_) | (show oC; first | refine c_tail 19 kr kr kr kr kr kr (fun _ c => Hp.drew c) ?_ | refine c_seq ?_ | refine c_region ?_ | refine c_skip (x_then ?_) | refine c_block ?_ | refine c_ift rfl aO ?_) | (show QT _ _ _ _ _ _ (_ :: _); first | refine qMv rfl rfl ?_ | refine qFd tabs rfl rfl rfl rfl ?_ | (show qA (.load _ _); first | refine q_y (y_load tabs rfl rfl (hc_mk 2 rfl hat hjc)) rfl ?_ | refine qLd 1 tabs rfl rfl rfl rfl rfl ?_) | (show qA (.indexAddr _ _ _); first | refine q_y (y_ix1 tabs (j := piv.length * C + j) rfl rfl rfl hsc e1 hc1) rfl ?_ | refine q_y (y_ix1 tabs (j := at0 * C + j) rfl rfl rfl hsc e2 hc2) rfl ?_) | (show qA (.binOp _ _ _ _ _); first | refine q_y (y_mul rfl rfl (by first | (rw [e3]; omega) | (rw [e4]; omega))) rfl ?_ | refine q_y (y_add rfl rfl (by first | omega | (rw [e3]; omega) | (rw [e4]; omega))) rfl ?_)) | (show QT _ _ _ _ _ _ []; refine q_nil ?_) | (show AT _ _ _ _; first | refine x_then ?_ | refine x_blk ?_))
                refine x_next (j + 1) sB (fun w' c' => ⟨by omega, ?_⟩) om
                have g1 : swapTo f piv.length at0 j at0 j = f at0 j := by simp [swapTo]
                have g2 : swapTo f piv.length at0 j piv.length j = f piv.length j := by simp [swapTo]
                simp only [List.set_cons_succ, List.set_cons_zero, g1, g2] at c'
                rw [mk_set om hjc, mk_set hat hjc, swapTo_next] at c'
                exact c'
              · have hjC : j = C := by omega
                have hsw : mk R C (swapTo f piv.length at0 j) = mk R C (swapF f piv.length at0) := mk_ext (fun i c hi hc => by simp only [swapTo]; rw [if_pos om])
                rw [hsw]
                generalize hg : swapF f piv.length at0 = g1
                have hing : inF p R C g1 := by rw [← hg]; exact inF_swap hin1 om hat
                have hpk := hing piv.length k om hgo.1
                have hck := cell_lt (R := R) (C := C) (i := piv.length) (j := k) om hgo.1
                have e1 : (piv.length : Int) * (C : Int) + (k : Int) = ((piv.length * C + k : Nat) : Int) := by simp
                have e3 : (piv.length : Int) * (C : Int) = ((piv.length * C : Nat) : Int) := by simp
                repeat' (first | (show oL; first | refine sMv rfl rfl ?_ | refine sAs rfl rfl ?_ | refine sFd tabs rfl rfl rfl rfl ?_ | (show oA (.load _ _); first | refine st_y (y_load tabs rfl rfl (hc_mk 2 rfl (show piv.length < R by omega) hgo.1)) rfl ?_ | refine sLd 1 tabs rfl rfl rfl rfl rfl ?_) | (show oA (.indexAddr _ _ _); refine st_y (y_ix1 tabs (j := piv.length * C + k) rfl rfl rfl hsc e1 hck) rfl ?_) | (show oA (.binOp _ _ _ _ _); first | refine st_y (y_mul rfl rfl (by rw [e3]; omega)) rfl ?_ | refine st_y (y_add rfl rfl (by first | omega | (rw [e3]; omega))) rfl ?_ | refine sLs rfl rfl rfl ?_) | (show oA (.call _); (refine m_call (ent_of Tryz.func111 kr rfl) rfl rfl (fun w c => spec_InverseMod_ok hF hpk) ?_; rintro v H' ⟨rfl, rfl⟩))) | refine xNt ?_ | (show oC; first | refine c_seq ?_ | refine c_region ?_ | refine c_block ?_ | refine c_exit ?_ | refine c_iff rfl nN ?_) | (show AT _ _ _ _; first | refine x_then ?_ | refine x_then_exit ?_ | refine x_blk_exit rfl ?_))
                have hiv := invM_in hF hpk
                generalize hve : invM p (g1 piv.length k) = iv at *
                -- the scaling
                refine c_loop (α := Nat) (fun j => [(0, iV p), (4, .pointer (some ⟨b4, 0, none⟩)), (6, .pointer (some ⟨b, 0, none⟩)), (7, .slice al piv.length cl), (8, iV piv.length), (9, .int .i64 k), (14, iV iv), (15, .int .i64 j)])
                  (fun j w' => j ≤ C ∧ Hp [] w [.own (iT piv) (.slice al piv.length cl), .blk b #[iV R, iV C, .slice ac (R * C) cc] 47, .own (iT (mk R C (scaleTo p iv g1 piv.length j))) (.slice ac (R * C) cc), .blk b4 #[iV 0, iV 0, .slice none 0 0] 47] w') (fun j => C - j) 0 ?_ ?_ ?_
                · exact sB
                · intro w' c'
                  refine ⟨by omega, ?_⟩
                  have e0 : scaleTo p iv g1 piv.length 0 = g1 := by funext i j; simp [scaleTo]
                  rwa [e0]
                · intro j
                  refine AT.pr (fun hj2 => ?_)
                  by_cases hjc2 : j < C
                  · have hc1 := cell_lt (R := R) (C := C) (i := piv.length) (j := j) om hjc2
                    have e1 : (piv.length : Int) * (C : Int) + (j : Int) = ((piv.length * C + j : Nat) : Int) := by simp
                    have hcv : scaleTo p iv g1 piv.length j piv.length j = g1 piv.length j := by simp [scaleTo]
                    have hcb := hing piv.length j om hjc2
                    have hmb := mul_small (a := iv) (b := scaleTo p iv g1 piv.length j piv.length j) om (by rw [hcv]; omega)
                    repeat' (first | (show oL; first | refine sMv rfl rfl ?_ | refine sAs rfl rfl ?_ | refine sFd tabs rfl rfl rfl rfl ?_ | refine sLd 1 tabs rfl rfl rfl rfl rfl ?_ | (show oA (.binOp _ _ _ _ _); first | refine st_y (y_add rfl rfl (by first | omega | (rw [e3]; omega))) rfl ?_ | refine sLs rfl rfl rfl ?_) | (show oA (.store _ _ _); refine m_storeo 2 tabs rfl rfl rfl rfl (by rw [mk_length]; omega) ?_)) | (show oN; first | refine c_nil (x_then ?_) | refine c_nil ?_) | (show oC; first | refine c_tail 23 kr kr kr kr kr kr (fun _ c => Hp.drew c) ?_ | refine c_seq ?_ | refine c_region ?_ | refine c_skip (x_then ?_) | refine c_block ?_ | refine c_ift rfl aO ?_) | (show QT _ _ _ _ _ _ (_ :: _); first | refine qMv rfl rfl ?_ | refine qFd tabs rfl rfl rfl rfl ?_ | (show qA (.load _ _); first | refine q_y (y_load tabs rfl rfl (hc_mk 2 rfl (show piv.length < R by omega) hjc2)) rfl ?_ | refine qLd 1 tabs rfl rfl rfl rfl rfl ?_) | (show qA (.indexAddr _ _ _); refine q_y (y_ix1 tabs (j := piv.length * C + j) rfl rfl rfl hsc e1 hc1) rfl ?_) | (show qA (.binOp _ _ _ _ _); first | refine q_y (y_mul rfl rfl (by first | (rw [e3]; omega) | omega)) rfl ?_ | refine q_y (y_add rfl rfl (by first | omega | (rw [e3]; omega))) rfl ?_) | (show qA (.call _); refine q_call (ent_of Tryz.func40 kr rfl) rfl rfl (fun w c => l2Mod_ok om om) (fun u H' h => h.1) ?_)) | (show QT _ _ _ _ _ _ []; refine q_nil ?_) | (show AT _ _ _ _; first | refine x_then ?_ | refine x_blk ?_))
                    refine x_next (j + 1) sB (fun w' c' => ⟨by omega, ?_⟩) om
                    simp only [List.set_cons_succ, List.set_cons_zero, hcv] at c'
                    rw [mk_set om hjc2, scaleTo_next] at c'
                    exact c'
                  · have hsw2 : mk R C (scaleTo p iv g1 piv.length j) = mk R C (scaleF p iv g1 piv.length) := mk_ext (fun i c hi hc => by simp only [scaleTo]; rw [if_pos om])
                    rw [hsw2]
                    have hinh : inF p R C (scaleF p iv g1 piv.length) := inF_scale om hing
                    generalize hh : scaleF p iv g1 piv.length = h1 at *
                    -- the elimination
                    repeat' (first | (show oL; first | refine sMv rfl rfl ?_ | refine sAs rfl rfl ?_ | refine sFd tabs rfl rfl rfl rfl ?_ | refine sLd 1 tabs rfl rfl rfl rfl rfl ?_ | refine sLs rfl rfl rfl ?_) | refine xNt ?_ | (show oC; first | refine c_seq ?_ | refine c_region ?_ | refine c_block ?_ | refine c_exit ?_ | refine c_iff rfl nN ?_) | (show AT _ _ _ _; first | refine x_then ?_ | refine x_then_exit ?_ | refine x_blk_exit rfl ?_))
                    refine c_loop (α := Nat) (fun i => [(0, iV p), (4, .pointer (some ⟨b4, 0, none⟩)), (6, .pointer (some ⟨b, 0, none⟩)), (7, .slice al piv.length cl), (8, iV piv.length), (9, .int .i64 k), (16, .int .i64 i)])
                      (fun i w' => i ≤ R ∧ Hp [] w [.own (iT piv) (.slice al piv.length cl), .blk b #[iV R, iV C, .slice ac (R * C) cc] 47, .own (iT (mk R C (elimTo p h1 piv.length k i))) (.slice ac (R * C) cc), .blk b4 #[iV 0, iV 0, .slice none 0 0] 47] w') (fun i => R - i) 0 ?_ ?_ ?_
                    · exact sB
                    · intro w' c'
                      refine ⟨by omega, ?_⟩
                      have e0 : elimTo p h1 piv.length k 0 = h1 := by funext i j; simp [elimTo]
                      rwa [e0]
                    · intro i
                      refine AT.pr (fun hi => ?_)
                      by_cases hiR : i < R
                      · have hck2 := cell_lt (R := R) (C := C) (i := i) (j := k) hiR hgo.1
                        have e5 : (i : Int) * (C : Int) + (k : Int) = ((i * C + k : Nat) : Int) := by simp
                        have e6 : (i : Int) * (C : Int) = ((i * C : Nat) : Int) := by simp
                        have hcv : elimTo p h1 piv.length k i i k = h1 i k := by simp [elimTo]
                        have hfb := hinh i k hiR hgo.1
                        repeat' (first | (show oL; first | refine sMv rfl rfl ?_ | refine sAs rfl rfl ?_ | refine sFd tabs rfl rfl rfl rfl ?_ | (show oA (.load _ _); first | refine st_y (y_load tabs rfl rfl (hc_mk 2 rfl hiR hgo.1)) rfl ?_ | refine sLd 1 tabs rfl rfl rfl rfl rfl ?_) | (show oA (.indexAddr _ _ _); refine st_y (y_ix1 tabs (j := i * C + k) rfl rfl rfl hsc e5 hck2) rfl ?_) | (show oA (.binOp _ _ _ _ _); first | refine st_y (y_mul rfl rfl (by rw [e6]; omega)) rfl ?_ | refine st_y (y_add rfl rfl (by first | omega | (rw [e6]; omega))) rfl ?_ | refine sLs rfl rfl rfl ?_)) | refine xNt ?_ | (show oC; first | refine c_seq ?_ | refine c_region ?_ | refine c_skip (x_then ?_) | refine c_block ?_ | refine c_ift rfl aO ?_))
                        rw [hcv, ← elimAt_zero]
                        refine c_loop (α := Nat) (fun j => [(0, iV p), (4, .pointer (some ⟨b4, 0, none⟩)), (6, .pointer (some ⟨b, 0, none⟩)), (7, .slice al piv.length cl), (8, iV piv.length), (9, .int .i64 k), (16, .int .i64 i), (17, iV (h1 i k)), (18, .int .i64 j)])
                          (fun j w' => j ≤ C ∧ Hp [] w [.own (iT piv) (.slice al piv.length cl), .blk b #[iV R, iV C, .slice ac (R * C) cc] 47, .own (iT (mk R C (elimAt p h1 piv.length k i j))) (.slice ac (R * C) cc), .blk b4 #[iV 0, iV 0, .slice none 0 0] 47] w') (fun j => C - j) 0 ?_ ?_ ?_
                        · exact sB
                        · intro w' c'
                          exact ⟨by omega, c'⟩
                        · intro j
                          refine AT.pr (fun hj3 => ?_)
                          by_cases hgo2 : (j : Int) < C ∧ (i : Int) ≠ piv.length
                          · obtain ⟨hj4, hne⟩ := hgo2
                            have hjc3 : j < C := by omega
                            have hd1 := cell_lt (R := R) (C := C) (i := i) (j := j) hiR hjc3
                            have hd2 := cell_lt (R := R) (C := C) (i := piv.length) (j := j) om hjc3
                            have e7 : (i : Int) * (C : Int) + (j : Int) = ((i * C + j : Nat) : Int) := by simp
                            have e8 : (piv.length : Int) * (C : Int) + (j : Int) = ((piv.length * C + j : Nat) : Int) := by simp
                            have hv1 : elimAt p h1 piv.length k i j i j = h1 i j := elimAt_cur
                            have hv2 : elimAt p h1 piv.length k i j piv.length j = h1 piv.length j := elimAt_row
                            have hb1' := hinh i j hiR hjc3
                            have hb2' := hinh piv.length j om hjc3
                            have hmb := mul_small (a := h1 i k) (b := elimAt p h1 piv.length k i j piv.length j) om (by rw [hv2]; omega)
                            repeat' (first | (show oL; first | refine sMv rfl rfl ?_ | refine sAs rfl rfl ?_ | refine sFd tabs rfl rfl rfl rfl ?_ | refine sLd 1 tabs rfl rfl rfl rfl rfl ?_ | (show oA (.binOp _ _ _ _ _); first | refine st_y (y_add rfl rfl (by first | omega | (rw [e6]; omega) | (rw [e3]; omega))) rfl ?_ | refine sLs rfl rfl rfl ?_ | refine st_y (y_neq rfl rfl) rfl ?_) | (show oA (.pick _ _ _); refine st_y (y_pickt rfl aS rfl) rfl ?_) | (show oA (.store _ _ _); refine m_storeo 2 tabs rfl rfl rfl rfl (by rw [mk_length]; omega) ?_) | refine st_gdy rfl rfl aS ?_) | (show oN; first | refine c_nil (x_then ?_) | refine c_nil ?_) | (show oC; first | refine c_tail 34 kr kr kr kr kr kr (fun _ c => Hp.drew c) ?_ | refine c_seq ?_ | refine c_region ?_ | refine c_skip (x_then ?_) | refine c_block ?_ | refine c_ift rfl aO ?_) | (show QT _ _ _ _ _ _ (_ :: _); first | refine qMv rfl rfl ?_ | refine qFd tabs rfl rfl rfl rfl ?_ | (show qA (.load _ _); first | refine q_y (y_load tabs rfl rfl (hc_mk 2 rfl hiR hjc3)) rfl ?_ | refine q_y (y_load tabs rfl rfl (hc_mk 2 rfl (show piv.length < R by omega) hjc3)) rfl ?_ | refine qLd 1 tabs rfl rfl rfl rfl rfl ?_) | (show qA (.indexAddr _ _ _); first | refine q_y (y_ix1 tabs (j := i * C + j) rfl rfl rfl hsc e7 hd1) rfl ?_ | refine q_y (y_ix1 tabs (j := piv.length * C + j) rfl rfl rfl hsc e8 hd2) rfl ?_) | (show qA (.binOp _ _ _ _ _); first | refine q_y (y_mul rfl rfl (by first | (rw [e6]; omega) | (rw [e3]; omega) | omega)) rfl ?_ | refine q_y (y_sub rfl rfl (by rw [hv1]; omega)) rfl ?_ | refine q_y (y_add rfl rfl (by first | omega | (rw [e6]; omega) | (rw [e3]; omega))) rfl ?_) | (show qA (.call _); refine q_call (ent_of Tryz.func40 kr rfl) rfl rfl (fun w c => l2Mod_ok om om) (fun u H' h => h.1) ?_)) | (show QT _ _ _ _ _ _ []; refine q_nil ?_) | (show AT _ _ _ _; first | refine x_then ?_ | refine x_blk ?_))
                            refine x_next (j + 1) sB (fun w' c' => ⟨by omega, ?_⟩) om
                            simp only [List.set_cons_succ, List.set_cons_zero, hv1, hv2] at c'
                            rw [mk_set hiR hjc3, elimAt_next om] at c'
                            exact c'
                          · have hdone : mk R C (elimAt p h1 piv.length k i j) = mk R C (elimTo p h1 piv.length k (i + 1)) := by
                              by_cases hir : i = piv.length
                              · subst hir; rw [elimAt_self]
                              · rw [show j = C by omega, elimAt_full]
                            rw [hdone]
                            repeat' (first | (show oL; first | refine sMv rfl rfl ?_ | refine sAs rfl rfl ?_ | refine sFd tabs rfl rfl rfl rfl ?_ | refine sLd 1 tabs rfl rfl rfl rfl rfl ?_ | (show oA (.binOp _ _ _ _ _); first | refine sAd rfl rfl om rfl ?_ | refine sLs rfl rfl rfl ?_ | refine st_y (y_neq rfl rfl) rfl ?_) | (show oA (.pick _ _ _); first | refine st_y (y_pickt rfl aS rfl) rfl ?_ | refine st_y (y_pickf rfl aS rfl) rfl ?_) | refine st_gdy rfl rfl aS ?_ | refine st_gdn rfl rfl aS rfl ?_ | refine st_gd rfl rfl (fun h => ?_) (fun h => ?_)) | refine xNt ?_ | (show oC; first | refine c_seq ?_ | refine c_region ?_ | refine c_exit ?_ | refine c_false rfl ?_ | refine c_iff rfl nN ?_) | (show AT _ _ _ _; first | refine x_then ?_ | refine x_then_exit ?_ | refine x_blk_exit rfl ?_ | refine x_blk ?_))
                            all_goals refine x_next (i + 1) sB (fun w' c' => ⟨by omega, c'⟩) om
                      · have hdone : mk R C (elimTo p h1 piv.length k i) = mk R C (elimF p h1 piv.length k) := mk_ext (fun i' c' hi' hc' => by simp only [elimTo]; rw [if_pos om])
                        rw [hdone]
                        repeat' (first | (show oL; first | refine sMv rfl rfl ?_ | refine sAs rfl rfl ?_ | refine sFd tabs rfl rfl rfl rfl ?_ | refine sLd 1 tabs rfl rfl rfl rfl rfl ?_ | (show oA (.binOp _ _ _ _ _); first | refine sAd rfl rfl om rfl ?_ | refine sLs rfl rfl rfl ?_) | (show oA (.call _); refine m_appi 1 tabs (xs := piv) (ys := [(k : Int)]) rfl rfl rfl rfl rfl (by simp; omega) (src_blk 0 rfl) (fun a2 c2 => ?_)) | (show oA (.buildSlice _ _ _); refine m_build1 tabs (us := [iV k]) rfl rfl rfl rfl (by decide) rfl (fun g2 hg2 => ?_))) | (show oN; first | refine c_nil (x_then ?_) | refine c_nil ?_) | (show oC; first | refine c_seq ?_ | refine c_region ?_ | refine c_exit ?_ | refine c_iff rfl nN ?_) | (show AT _ _ _ _; first | refine x_then ?_ | refine x_then_exit ?_ | refine x_blk_exit rfl ?_ | refine x_blk ?_))
                        have hnx : redTo p R f0 (k + 1) = (elimF p h1 piv.length k, piv ++ [(k : Int)]) := by
                          rw [redTo_next (by rw [hst]; simp only; omega), hst]
                          simp only [hae, hg, hve, hh]
                        refine x_next (k + 1, a2, c2) ?_ (fun w' c' => ⟨⟨?_, ?_⟩, ?_⟩) (by simp only; omega)
                        · simp only [hnx, List.length_append, List.length_singleton]
                          exact sB
                        · simp only; omega
                        · simp only [hnx, List.length_append, List.length_singleton]; omega
                        · simp only [hnx, List.length_append, List.length_singleton]
                          exact c'.sub (.cons_cons _ (.cons _ (List.Sublist.refl _)))
          · have hv : atv f k R piv.length = -1 := by unfold atv; rw [if_neg hat]
            rw [hv]
            have hsk : redTo p R f0 (k + 1) = (f, piv) := by rw [redTo_skip (by rw [hst]; simp only; have := findAt_le (f := f) (k := k) (R := R) (r := piv.length); omega), hst]
            repeat' (first | (show oL; first | refine sMv rfl rfl ?_ | refine sAs rfl rfl ?_ | (show oA (.binOp _ _ _ _ _); first | refine sAd rfl rfl om rfl ?_ | refine sLs rfl rfl rfl ?_ | refine st_y (y_geq rfl rfl) rfl ?_)) | refine xNt ?_ | (show oC; first | refine c_seq ?_ | refine c_region ?_ | refine c_exit ?_ | refine c_true rfl ?_ | refine c_iff rfl nN ?_) | (show AT _ _ _ _; first | refine x_then ?_ | refine x_then_exit ?_ | refine x_blk_exit rfl ?_))
            refine x_next (k + 1, al, cl) ?_ (fun w' c' => ⟨⟨?_, ?_⟩, ?_⟩) (by simp only; omega)
            · simp only [hsk]
              exact sB
            · simp only; omega
            · simp only [hsk]; omega
            · simp only [hsk]
              exact c'
    · have hfull : redTo p R f0 C = (f, piv) := by
        rcases (by omega : k = C ∨ (k < C ∧ R ≤ piv.length)) with h | ⟨h1, h2⟩
        · rw [← h]; exact hst
        · have := redTo_full (p := p) (R := R) (f := f0) (k := k) (by rw [hst]; exact h2) (C - k)
          rw [show k + (C - k) = C by omega] at this
          rw [this, hst]
      refine AT.fact (own_sl 0 rfl) (fun hsl => ?_)
      repeat' (first | (show oL; first | refine sMv rfl rfl ?_ | refine sAs rfl rfl ?_ | refine sFd tabs rfl rfl rfl rfl ?_ | (show oA (.load _ _); first | refine sLb 1 tabs rfl rfl rfl rfl rfl ?_ | refine sLd 1 tabs rfl rfl rfl rfl rfl ?_) | refine sLs rfl rfl rfl ?_ | (show oA (.pick _ _ _); first | refine st_y (y_pickt rfl aS rfl) rfl ?_ | refine st_y (y_pickf rfl aS rfl) rfl ?_) | (show oA (.store _ _ _); refine m_storeb 3 tabs rfl rfl rfl rfl rfl rfl rfl ?_) | refine st_gdy rfl rfl aS ?_ | refine st_gdn rfl rfl aS rfl ?_ | refine st_gd rfl rfl (fun h => ?_) (fun h => ?_)) | refine xNt ?_ | (show oC; first | refine c_seq ?_ | refine c_region ?_ | refine c_ret ?_ | refine c_exit ?_ | refine c_false rfl ?_ | refine c_iff rfl nN ?_) | (show AT _ _ _ _; first | refine x_then ?_ | refine x_then_exit ?_ | refine x_blk_exit rfl ?_))
      all_goals
        have hM : redM p (↑R, ↑C, xs) = (↑R, ↑C, mk R C f) := by
          simp only [redM, hf, Int.toNat_natCast, hfull]
        have hL : redL p (↑R, ↑C, xs) = piv := by
          simp only [redL, hf, Int.toNat_natCast, hfull]
        rw [hM, hL]
        obtain ⟨a3, c3, e3, hs3⟩ := hsl
        cases e3
        refine x_ret2 Tryz.results82 (res_cellb 3 tabs rfl rfl rfl rfl) (res_tmp rfl) (fun w' c' => ⟨_, [.own (iT piv) (.slice al piv.length cl), .own (iT (mk R C f)) (.slice ac (R * C) cc)], rfl, ⟨ac, cc, al, cl, by simp, by simpa using hsc, hs3, by simp⟩, ?_⟩)
        exact c'.sub (.cons_cons _ (.cons _ (.cons_cons _ (List.nil_sublist _))))
end Go.Proofs.YtcplmeajmpkpkaaGreat

namespace Go.Proofs.YtcplmeajmpkpkaaGreat
open Go.Lg Go.Proofs Go.RowKit
attribute [local irreducible] Code.wp wpList bodyPost Exit.then Exit.inBlock Hp Again Calls Y AT ResV QT Qn QI wpAny wpAnyQ
set_option maxRecDepth 20000
set_option maxHeartbeats 4000000

def addTo (p k : Int) (xs : List Int) (o : Nat) (ys : List Int) : Nat → List Int
  | 0 => xs
  | i + 1 => (addTo p k xs o ys i).set (o + i) ((xs.getD (o + i) 0 + k * ys.getD i 0) % p)
@[simp] theorem addTo_length {p k : Int} {xs : List Int} {o : Nat} {ys : List Int} : ∀ i, (addTo p k xs o ys i).length = xs.length
  | 0 => rfl
  | i + 1 => by simp [addTo, addTo_length i]
theorem addTo_get {p k : Int} {xs : List Int} {o : Nat} {ys : List Int} : ∀ i q, (q < o ∨ o + i ≤ q) → (addTo p k xs o ys i).getD q 0 = xs.getD q 0
  | 0, q, _ => rfl
  | i + 1, q, h => by
    simp only [addTo, List.getD, List.getElem?_set]
    rw [if_neg om]
    exact addTo_get i q om
theorem addMultiple_ok {w1 : World} {M1 : List Nat} {H1 : List HE} {w : World} {M' : List Nat} {p k : Int} {xs ys : List Int} {a0 aa b : Option Addr} {m c n ca cb o : Nat} (hF : FieldP p) (hk : 0 ≤ k ∧ k ≤ 5)
    (hl : Lent M1 w1 (.own (iT xs) (.slice a0 m c)) H1 M' w) (haa : 0 < n → aa = some ⟨ab a0, ao a0 + o, none⟩) (hxn : o + n ≤ xs.length) (hn : n ≤ 1048576) (hx : ∀ j, j < n → 0 ≤ xs.getD (o + j) 0 ∧ xs.getD (o + j) 0 ≤ 5) (hy : ∀ j, j < n → 0 ≤ ys.getD j 0 ∧ ys.getD j 0 ≤ 5) (hsb : SA b n)
    (hb : ∀ w' xs', Hp M' w [.own (iT xs') (.slice a0 m c)] w' → xs'.length = xs.length → (∀ q, q < o ∨ o + n ≤ q → xs'.getD q 0 = xs.getD q 0) → ∀ j, j < n → w'.cell? ⟨ab b, ao b + j, none⟩ = some (iV (ys.getD j 0))) :
    DoesB Tryz.prog 80 [iV p, .slice aa n ca, iV k, .slice b n cb] w M' (fun v H => v = .slice aa n ca ∧ H = [.own (iT (addTo p k xs o ys n)) (.slice a0 m c)]) := by
  have ⟨hp1, hp2⟩ := fieldP_pos hF
  refine fnb_lent Tryz.func80 rfl Tryz.ntmps80 rfl hl ?_
  repeat' (first | (show oL; first | refine sMv rfl rfl ?_ | refine sAs rfl rfl ?_ | refine sLn tabs rfl rfl rfl ?_) | refine xNt ?_ | (show oC; first | refine c_seq ?_ | refine c_region ?_ | refine c_block ?_))
  refine c_loopH (α := Nat) [0, 1, 2, 11, 12] (fun i => [(13, .int .i64 i)]) (fun i => i ≤ n) (fun i => [.own (iT (addTo p k xs o ys i)) (.slice a0 m c)]) (fun i => n - i) 0 rfl sB ?_ ?_ ?_
  · omega
  · exact fun w' c' => c'
  · intro i hi
    by_cases hin : i < n
    · obtain rfl := haa om
      have hv1 : (addTo p k xs o ys i).getD (o + i) 0 = xs.getD (o + i) 0 := addTo_get i _ om
      have hx1 := hx i hin
      have hy1 := hy i hin
      have hmb := mul_small (a := k) (b := ys.getD i 0) om hy1
      have hcell : ∀ w', Hp M' w [.own (iT (addTo p k xs o ys i)) (.slice a0 m c)] w' → w'.cell? ⟨ab a0, ao a0 + o + i, none⟩ = some (iV (xs.getD (o + i) 0)) := fun w' c' => by
        have := hc_own (M := M') (w0 := w) 0 (H := [.own (iT (addTo p k xs o ys i)) (.slice a0 m c)]) rfl (j := o + i) (by simp; omega) w' c'
        rw [hv1] at this
        rwa [Nat.add_assoc]
      repeat' (first | (show oL; first | refine sMv rfl rfl ?_ | refine sAs rfl rfl ?_ | (show oA (.load _ _); first | refine st_y (y_load tabs rfl rfl (fun w' c' => hb w' _ c' (by simp) (fun q hq => addTo_get i q om) i hin)) rfl ?_ | refine st_y (y_load tabs rfl rfl hcell) rfl ?_) | (show oA (.indexAddr _ _ _); first | refine st_y (y_ix1 tabs (j := i) rfl rfl rfl hsb rfl hin) rfl ?_ | refine st_y (y_ixs tabs (j := i) rfl rfl rfl rfl hin) rfl ?_) | (show oA (.binOp _ _ _ _ _); first | refine st_y (y_mul rfl rfl om) rfl ?_ | refine st_y (y_rem rfl rfl om) rfl ?_ | refine sAd rfl rfl om rfl ?_ | refine sLs rfl rfl rfl ?_) | (show oA (.store _ _ _); refine m_storeo 0 (j := o + i) tabs rfl (by rw [← Nat.add_assoc]; rfl) rfl rfl (by simp; omega) ?_)) | (show oN; first | refine c_nil (x_then ?_) | refine c_nil ?_) | (show oC; first | refine c_seq ?_ | refine c_region ?_ | refine c_skip (x_then ?_) | refine c_block ?_ | refine c_ift rfl aO ?_) | (show AT _ _ _ _; first | refine x_then ?_ | refine x_blk ?_))
      refine x_nx (i + 1) sB om (fun w' c' => ?_) om
      simp only [List.set_cons_zero] at c'
      rw [tmod_pos om] at c'
      exact c'
    · have : i = n := by omega
      subst this
      repeat' (first | (show oL; first | refine sMv rfl rfl ?_ | refine sAs rfl rfl ?_ | refine sLs rfl rfl rfl ?_) | refine xNt ?_ | (show oC; first | refine c_seq ?_ | refine c_region ?_ | refine c_ret ?_ | refine c_exit ?_ | refine c_iff rfl nN ?_) | (show AT _ _ _ _; first | refine x_then ?_ | refine x_then_exit ?_ | refine x_blk_exit rfl ?_))
      exact x_ret1 Tryz.results80 (res_tmp rfl) (fun w' c' => ⟨_, _, rfl, ⟨rfl, rfl⟩, c'⟩)

theorem row_at {w : World} {R C i cap : Nat} {a : Option Addr} (hs : SA a (R * C)) (hR : R ≤ 1024) (hC : 0 < C ∧ C ≤ 1024) (hi : i < R) (hcap : R * C ≤ cap) :
    Does Tryz.prog 90 [.agg #[iV R, iV C, .slice a (R * C) cap], iV i] w (fun r H => r = .slice (some ⟨ab a, ao a + i * C, none⟩) C (cap - i * C) ∧ H = []) := by
  have h1 : 0 < R * C := Nat.mul_pos om hC.1
  have e := hs.get h1
  have := row_ok (w := w) (g := ab a) (o := ao a) hR hC hi hcap
  rw [← e] at this
  exact this
theorem hc_mkr {M : List Nat} {w0 : World} {H : List HE} (i : Nat) {e R C r c : Nat} {f : Nat → Nat → Int} {a : Option Addr} {m cc : Nat} (hi : H[i]? = some (.own (ints e (mk R C f)) (.slice a m cc))) (hr : r < R) (hc : c < C) :
    ∀ w, Hp M w0 H w → w.cell? ⟨ab a, ao a + r * C + c, none⟩ = some (.int .i64 (f r c)) := fun w cw => by
  have := hc_mk i hi hr hc w cw
  rwa [← Nat.add_assoc] at this
theorem own_cap (i : Nat) {M : List Nat} {w0 : World} {H : List HE} {e : Nat} {xs : List Int} {a : Option Addr} {m c : Nat} (hi : H[i]? = some (.own (ints e xs) (.slice a m c))) : ∀ w, Hp M w0 H w → xs.length ≤ c := fun w cw => by
  obtain ⟨a', c', h1, _, h2, _⟩ := (cw.own_rd hi).ints
  cases h1; exact h2
theorem addTo_mk {p k : Int} {R C i : Nat} {f : Nat → Nat → Int} {ys : List Int} (hi : i < R) : ∀ n, n ≤ C → addTo p k (mk R C f) (i * C) ys n = mk R C (fun a b => if a = i ∧ b < n then (f i b + k * ys.getD b 0) % p else f a b)
  | 0, _ => by simp [addTo]
  | n + 1, h => by
    simp only [addTo]
    rw [addTo_mk hi n om, mk_get hi om, mk_set hi om]
    congr 1
    funext a b
    unfold upd
    grind
theorem elim_eq {p x f t : Int} : (x + (p - f) * t) % p = (x - f * t) % p := by
  have : x + (p - f) * t = x - f * t + p * t := by rw [Int.sub_mul]; omega
  rw [this, Int.add_mul_emod_self_left]

theorem reduce_ok {w : World} {p : Int} {m : Mat} {u : Value} (hr : Rd w (iT m.2.2) u) (hm : MatG p m) :
    Does Tryz.prog 87 [iV p, .agg #[iV m.1, iV m.2.1, u]] w (GivesRed (redM p m) (redL p m)) := by
  obtain ⟨r, c, xs⟩ := m
  obtain ⟨hF, ⟨hR0, hR8⟩, ⟨hC0, hC8⟩, hlen, hin⟩ := hm
  simp only at hr hR0 hR8 hC0 hC8 hlen hin ⊢
  obtain ⟨R, rfl⟩ := Int.eq_ofNat_of_zero_le hR0
  obtain ⟨C, rfl⟩ := Int.eq_ofNat_of_zero_le hC0
  have ⟨hp1, hp2⟩ := fieldP_pos hF
  have hlen' : xs.length = R * C := by rw [← Int.natCast_mul] at hlen; omega
  have hf0 : xs = mk R C (matF (↑R, ↑C, xs)) := mk_of hlen'
  have hin0 : inF p R C (matF (↑R, ↑C, xs)) := fun i j hi hj => by
    have := inP_get hin (i := i * C + j) (by rw [hlen']; exact cell_lt hi hj)
    simp only [matF, Int.toNat_natCast]; omega
  generalize hf : matF (↑R, ↑C, xs) = f0 at hf0 hin0
  have hRC : R * C ≤ 1048576 := matG_size hR8 hC8
  refine fn_enter Tryz.func87 rfl Tryz.ntmps87 rfl ?_
  repeat' (first | (show oL; first | refine sMv rfl rfl ?_ | refine sAs rfl rfl ?_ | refine sFd tabs rfl rfl rfl rfl ?_ | (show oA (.load _ _); first | refine sLd 2 tabs rfl rfl rfl rfl rfl ?_ | refine sLb 1 tabs rfl rfl rfl rfl rfl ?_) | (show oA (.call _); (refine m_call (ent_of Tryz.func113 kr rfl) rfl rfl (fun w c => clone_ok (m := (↑R, ↑C, xs)) (c.rd hr) (show xs.length ≤ 1048576 by omega)) ?_; rintro v H' ⟨ac, cc, rfl, hsc, rfl⟩)) | (show oA (.store _ _ _); refine m_storeb 2 tabs rfl rfl rfl rfl rfl rfl rfl ?_) | (show oA (.box _ _); refine m_box rfl rfl (fun b3 hb3 => ?_)) | (show oA (.alloc _); refine m_alloc tabs rfl rfl (fun b4 hb4 => ?_))) | refine xNt ?_ | (show oC; first | refine c_seq ?_ | refine c_region ?_ | refine c_block ?_))
  simp only at hsc
  rw [hlen'] at hsc ⊢
  refine AT.fact (own_cap 0 rfl) (fun hcap => ?_)
  rw [hlen'] at hcap
  rw [hf0]
  refine c_loopH (α := Nat × Option Addr × Nat) [0, 3, 4, 17] (fun q => [(6, .slice q.2.1 (redTo p R f0 q.1).2.length q.2.2), (18, .int .i64 q.1)]) (fun q => q.1 ≤ C) (fun q => [.own (iT (redTo p R f0 q.1).2) (.slice q.2.1 (redTo p R f0 q.1).2.length q.2.2), .own (iT (mk R C (redTo p R f0 q.1).1)) (.slice ac (R * C) cc), .blk b4 #[iV 0, iV 0, .slice none 0 0] 47, .blk b3 #[iV R, iV C, .slice ac (R * C) cc] 47]) (fun q => C - q.1) (0, none, 0) rfl sB ?_ ?_ ?_
  · simp
  · exact fun w' c' => Hp.nilp _ _ c'
  · rintro ⟨k, al, cl⟩ hk
    simp only at hk ⊢
    obtain ⟨hin1, hlr⟩ := redTo_in (f := f0) om hin0 k
    generalize hst : redTo p R f0 k = st at hin1 hlr ⊢
    obtain ⟨f, piv⟩ := st
    simp only at hin1 hlr ⊢
    by_cases hkC : k < C
    · repeat' (first | (show oL; first | refine sMv rfl rfl ?_ | refine sAs rfl rfl ?_ | refine sLs rfl rfl rfl ?_ | refine sLn tabs rfl rfl rfl ?_) | refine xNt ?_ | (show oC; first | refine c_seq ?_ | refine c_region ?_ | refine c_skip (x_then ?_) | refine c_block ?_ | refine c_ift rfl aO ?_))
      -- the search
      refine c_loopH (α := Nat) [0, 3, 4, 6, 7, 17, 18] (fun t => [(8, .int .i64 t)]) (fun t => (piv.length ≤ t ∧ t ≤ R) ∧ ∀ i, piv.length ≤ i → i < t → f i k = 0) (fun t => [.own (iT piv) (.slice al piv.length cl), .own (iT (mk R C f)) (.slice ac (R * C) cc), .blk b4 #[iV 0, iV 0, .slice none 0 0] 47, .blk b3 #[iV R, iV C, .slice ac (R * C) cc] 47]) (fun t => R - t) piv.length rfl sB ?_ ?_ ?_
      · exact ⟨⟨Nat.le_refl _, hlr⟩, fun i h1 h2 => by omega⟩
      · exact fun w' c' => c'
      · rintro t ⟨⟨ht1, ht2⟩, htz⟩
        by_cases htR : t < R
        · have htR' : (t : Int) < R := by omega
          repeat' (first | (show oL; first | refine sMv rfl rfl ?_ | refine sAs rfl rfl ?_ | refine sFd tabs rfl rfl rfl rfl ?_ | (show oA (.load _ _); first | refine st_y (y_load tabs rfl rfl (hc_mkr 1 rfl htR hkC)) rfl ?_ | refine sLd 3 tabs rfl rfl rfl rfl rfl ?_ | refine sLb 3 tabs rfl rfl rfl rfl rfl ?_) | (show oA (.indexAddr _ _ _); refine st_y (y_ixs tabs (j := k) rfl rfl rfl rfl hkC) rfl ?_) | (show oA (.binOp _ _ _ _ _); first | refine sAd rfl rfl om rfl ?_ | refine sLs rfl rfl rfl ?_ | refine st_y (y_eql rfl rfl) rfl ?_) | (show oA (.call _); first | (refine m_call (ent_of Tryz.func90 kr rfl) rfl rfl (fun w c => row_at hsc om ⟨by omega, by omega⟩ htR hcap) ?_; rintro v H' ⟨rfl, rfl⟩) | refine sLn tabs rfl rfl rfl ?_) | (show oA (.pick _ _ _); refine st_y (y_pickt rfl aS rfl) rfl ?_) | refine st_gdy rfl rfl aS ?_) | (show oN; first | refine c_nil (x_then ?_) | refine c_nil ?_) | (show oC; first | refine c_seq ?_ | refine c_region ?_ | refine c_skip (x_then ?_) | refine c_block ?_ | refine c_exit ?_ | refine c_iff rfl nN ?_ | refine c_if rfl (fun h => ?_) (fun h => ?_)) | (show AT _ _ _ _; first | refine x_then ?_ | refine x_then_exit ?_ | refine x_blk_exit rfl ?_ | refine x_blk ?_))
          · refine x_nx (t + 1) sB ⟨by omega, fun i h1 h2 => ?_⟩ (fun w' c' => c') om
            by_cases hit : i = t
            · subst hit; assumption
            · exact htz i h1 om
          · have hz : f t k ≠ 0 := by assumption
            have hat : findAt f k R piv.length = t := findAt_eq htR ht1 hz htz
            have hnR : ¬ ((t : Int) = R) := by omega
            have hr1 : piv.length < R := by omega
            -- the swap
            repeat' (first | (show oL; first | refine sMv rfl rfl ?_ | refine sAs rfl rfl ?_ | refine sFd tabs rfl rfl rfl rfl ?_ | refine sLd 3 tabs rfl rfl rfl rfl rfl ?_ | (show oA (.call _); (refine m_call (ent_of Tryz.func90 kr rfl) rfl rfl (fun w c => row_at hsc om ⟨by omega, by omega⟩ hr1 hcap) ?_; rintro v H' ⟨rfl, rfl⟩))) | refine xNt ?_ | (show oC; first | refine c_seq ?_ | refine c_region ?_ | refine c_block ?_))
            refine c_loopH (α := Nat) [0, 3, 4, 6, 7, 8, 9, 17, 18, 47] (fun j => [(48, .int .i64 j)]) (fun j => j ≤ C) (fun j => [.own (iT piv) (.slice al piv.length cl), .own (iT (mk R C (swapTo f piv.length t j))) (.slice ac (R * C) cc), .blk b4 #[iV 0, iV 0, .slice none 0 0] 47, .blk b3 #[iV R, iV C, .slice ac (R * C) cc] 47]) (fun j => C - j) 0 rfl sB ?_ ?_ ?_
            · omega
            · intro w' c'
              have e0 : swapTo f piv.length t 0 = f := by funext i j; simp [swapTo]
              rwa [e0]
            · intro j hj
              by_cases hjc : j < C
              · have hjc' : (j : Int) < C := by omega
                have g1 : swapTo f piv.length t j t j = f t j := by simp [swapTo]
                have g2 : swapTo f piv.length t j piv.length j = f piv.length j := by simp [swapTo]
                repeat' (first | (show oL; first | refine sMv rfl rfl ?_ | refine sAs rfl rfl ?_ | refine sLs rfl rfl rfl ?_) | refine xNt ?_ | (show oC; first | refine c_seq ?_ | refine c_region ?_ | refine c_skip (x_then ?_) | refine c_block ?_ | refine c_ift rfl aO ?_))
                refine c_idx kr (fun _ c => Hp.drew c) ?_
                refine p_take 0 rfl kr kr kr (by exact y_move rfl) rfl ?_
                refine p_take 1 rfl kr kr kr (by exact y_move rfl) rfl ?_
                refine p_take 3 rfl kr kr kr (by exact y_move rfl) rfl ?_
                refine p_take 5 rfl kr kr kr (by exact y_move rfl) rfl ?_
                refine p_take 7 rfl kr kr kr (by exact y_move rfl) rfl ?_
                refine p_take 9 rfl kr kr kr (by exact y_move rfl) rfl ?_
                refine p_take 12 rfl kr kr kr (by exact y_move rfl) rfl ?_
                refine p_take 13 rfl kr kr kr (by exact y_move rfl) rfl ?_
                refine p_take 14 rfl kr kr kr (by exact y_ixs tabs (j := j) rfl rfl rfl rfl hjc) rfl ?_
                refine c_quiet 16 7 _ (l1 := #[true, true, false, true, false, true, false, true, false, true, false, false, true, true, true, false]) rfl rfl rfl rfl kr kr kr kr kr ?_
                refine i_y 2 rfl kr kr kr (by exact y_loadb 3 tabs rfl rfl rfl rfl) rfl ?_
                refine i_y 6 rfl kr kr kr (by exact y_loadb 3 tabs rfl rfl rfl rfl) rfl ?_
                refine i_call 4 rfl kr kr kr (ent_of Tryz.func90 kr rfl) rfl rfl (fun w c => row_at hsc om ⟨by omega, by omega⟩ htR hcap) (fun u H' h => h.1) ?_
                refine i_call 8 rfl kr kr kr (ent_of Tryz.func90 kr rfl) rfl rfl (fun w c => row_at hsc om ⟨by omega, by omega⟩ htR hcap) (fun u H' h => h.1) ?_
                refine i_y 10 rfl kr kr kr (by exact y_ixs tabs (j := j) rfl rfl rfl rfl hjc) rfl ?_
                refine i_y 11 rfl kr kr kr (by exact y_load tabs rfl rfl (hc_mkr 1 rfl htR hjc)) rfl ?_
                refine i_y 15 rfl kr kr kr (by exact y_load tabs rfl rfl (hc_mkr 1 rfl hr1 hjc)) rfl ?_
                refine i_tail kr ?_
                repeat' (first | (show oL; first | refine sMv rfl rfl ?_ | (show oA (.indexAddr _ _ _); refine st_y (y_ixs tabs (j := j) rfl rfl rfl rfl hjc) rfl ?_) | refine sAd rfl rfl om rfl ?_ | (show oA (.store _ _ _); first | refine m_storeo 1 (j := piv.length * C + j) tabs rfl (by rw [← Nat.add_assoc]; rfl) rfl rfl (by rw [mk_length]; exact cell_lt hr1 hjc) ?_ | refine m_storeo 1 (j := t * C + j) tabs rfl (by rw [← Nat.add_assoc]; rfl) rfl rfl (by rw [List.length_set, mk_length]; exact cell_lt htR hjc) ?_)) | (show oN; first | refine c_nil (x_then ?_) | refine c_nil (x_qn ?_)) | (show oC; refine c_region ?_) | (show AT _ _ _ _; first | refine x_then ?_ | refine x_blk ?_))
                refine x_nx (j + 1) sB om (fun w' c' => ?_) om
                simp only [List.set_cons_succ, List.set_cons_zero, g1, g2] at c'
                rw [mk_set om hjc, mk_set htR hjc, swapTo_next] at c'
                exact c'
              · have hjC : j = C := by omega
                have hsw : mk R C (swapTo f piv.length t j) = mk R C (swapF f piv.length t) := mk_ext (fun i c hi hc => by simp only [swapTo]; rw [if_pos om])
                rw [hsw]
                generalize hg : swapF f piv.length t = g1
                have hing : inF p R C g1 := by rw [← hg]; exact inF_swap hin1 om htR
                have hpk := hing piv.length k om hkC
                repeat' (first | (show oL; first | refine sMv rfl rfl ?_ | refine sAs rfl rfl ?_ | (show oA (.load _ _); refine st_y (y_load tabs rfl rfl (hc_mkr 1 rfl hr1 hkC)) rfl ?_) | (show oA (.indexAddr _ _ _); refine st_y (y_ixs tabs (j := k) rfl rfl rfl rfl hkC) rfl ?_) | refine sLs rfl rfl rfl ?_ | (show oA (.call _); first | (refine m_call (ent_of Tryz.func114 kr rfl) rfl rfl (fun w c => impl_InverseMod_ok hF hpk) ?_; rintro v H' ⟨rfl, rfl⟩) | refine sLn tabs rfl rfl rfl ?_)) | refine xNt ?_ | (show oC; first | refine c_seq ?_ | refine c_region ?_ | refine c_block ?_ | refine c_exit ?_ | refine c_iff rfl nN ?_) | (show AT _ _ _ _; first | refine x_then ?_ | refine x_then_exit ?_ | refine x_blk_exit rfl ?_))
                have hiv := invM_in hF hpk
                generalize hve : invM p (g1 piv.length k) = iv at *
                -- the scaling
                refine c_loopH (α := Nat) [0, 3, 4, 6, 7, 9, 11, 17, 18, 77] (fun j => [(78, .int .i64 j)]) (fun j => j ≤ C) (fun j => [.own (iT piv) (.slice al piv.length cl), .own (iT (mk R C (scaleTo p iv g1 piv.length j))) (.slice ac (R * C) cc), .blk b4 #[iV 0, iV 0, .slice none 0 0] 47, .blk b3 #[iV R, iV C, .slice ac (R * C) cc] 47]) (fun j => C - j) 0 rfl sB ?_ ?_ ?_
                · omega
                · intro w' c'
                  have e0 : scaleTo p iv g1 piv.length 0 = g1 := by funext i j; simp [scaleTo]
                  rwa [e0]
                · intro j hj2
                  by_cases hjc2 : j < C
                  · have hcv : scaleTo p iv g1 piv.length j piv.length j = g1 piv.length j := by simp [scaleTo]
                    have hcb := hing piv.length j om hjc2
                    have hmb := mul_small (a := scaleTo p iv g1 piv.length j piv.length j) (b := iv) (by rw [hcv]; omega) om
                    repeat' (first | (show oL; first | refine sMv rfl rfl ?_ | refine sAs rfl rfl ?_ | (show oA (.load _ _); refine st_y (y_load tabs rfl rfl (hc_mkr 1 rfl hr1 hjc2)) rfl ?_) | (show oA (.indexAddr _ _ _); refine st_y (y_ixs tabs (j := j) rfl rfl rfl rfl hjc2) rfl ?_) | (show oA (.binOp _ _ _ _ _); first | refine st_y (y_mul rfl rfl om) rfl ?_ | refine st_y (y_rem rfl rfl om) rfl ?_ | refine sAd rfl rfl om rfl ?_ | refine sLs rfl rfl rfl ?_) | (show oA (.store _ _ _); refine m_storeo 1 (j := piv.length * C + j) tabs rfl (by rw [← Nat.add_assoc]; rfl) rfl rfl (by rw [mk_length]; exact cell_lt hr1 hjc2) ?_)) | (show oN; first | refine c_nil (x_then ?_) | refine c_nil ?_) | (show oC; first | refine c_seq ?_ | refine c_region ?_ | refine c_skip (x_then ?_) | refine c_block ?_ | refine c_ift rfl aO ?_) | (show AT _ _ _ _; first | refine x_then ?_ | refine x_blk ?_))
                    refine x_nx (j + 1) sB om (fun w' c' => ?_) om
                    simp only [List.set_cons_succ, List.set_cons_zero] at c'
                    rw [tmod_pos hmb.1, hcv, Int.mul_comm, mk_set om hjc2, scaleTo_next] at c'
                    exact c'
                  · have hsw2 : mk R C (scaleTo p iv g1 piv.length j) = mk R C (scaleF p iv g1 piv.length) := mk_ext (fun i c hi hc => by simp only [scaleTo]; rw [if_pos om])
                    rw [hsw2]
                    have hinh : inF p R C (scaleF p iv g1 piv.length) := inF_scale om hing
                    generalize hh : scaleF p iv g1 piv.length = h1 at *
                    -- the elimination
                    repeat' (first | (show oL; first | refine sMv rfl rfl ?_ | refine sFd tabs rfl rfl rfl rfl ?_ | refine sLd 3 tabs rfl rfl rfl rfl rfl ?_ | refine sLs rfl rfl rfl ?_) | refine xNt ?_ | (show oC; first | refine c_seq ?_ | refine c_region ?_ | refine c_block ?_ | refine c_exit ?_ | refine c_iff rfl nN ?_) | (show AT _ _ _ _; first | refine x_then ?_ | refine x_then_exit ?_ | refine x_blk_exit rfl ?_))
                    refine c_loopH (α := Nat) [0, 3, 4, 6, 7, 9, 17, 18, 94] (fun i => [(95, .int .i64 i)]) (fun i => i ≤ R) (fun i => [.own (iT piv) (.slice al piv.length cl), .own (iT (mk R C (elimTo p h1 piv.length k i))) (.slice ac (R * C) cc), .blk b4 #[iV 0, iV 0, .slice none 0 0] 47, .blk b3 #[iV R, iV C, .slice ac (R * C) cc] 47]) (fun i => R - i) 0 rfl sB ?_ ?_ ?_
                    · omega
                    · intro w' c'
                      have e0 : elimTo p h1 piv.length k 0 = h1 := by funext i j; simp [elimTo]
                      rwa [e0]
                    · intro i hi
                      by_cases hiR : i < R
                      · by_cases hip : (i : Int) = piv.length
                        · have hii : i = piv.length := by omega
                          repeat' (first | (show oL; first | refine sMv rfl rfl ?_ | refine sAs rfl rfl ?_ | (show oA (.binOp _ _ _ _ _); first | refine sAd rfl rfl om rfl ?_ | refine sLs rfl rfl rfl ?_ | refine st_y (y_neq rfl rfl) rfl ?_) | refine sLn tabs rfl rfl rfl ?_) | refine xNt ?_ | (show oC; first | refine c_seq ?_ | refine c_region ?_ | refine c_skip (x_then ?_) | refine c_skip (x_blk ?_) | refine c_block ?_ | refine c_ift rfl aO ?_ | refine c_iff rfl nN ?_) | (show AT _ _ _ _; refine x_then ?_))
                          refine x_nx (i + 1) sB om (fun w' c' => ?_) om
                          have e0 : elimTo p h1 piv.length k (i + 1) = elimTo p h1 piv.length k i := by
                            funext a b; unfold elimTo elimF; subst hii; grind
                          rw [e0]; exact c'
                        · have hv0 : ∀ b, elimTo p h1 piv.length k i i b = h1 i b := fun b => by simp [elimTo]
                          have hv1 : ∀ b, elimTo p h1 piv.length k i piv.length b = h1 piv.length b := fun b => by unfold elimTo elimF; grind
                          have hfb := hinh i k hiR hkC
                          have hys : ∀ j, j < C → ((List.range C).map (h1 piv.length)).getD j 0 = h1 piv.length j := fun j hj => by simp [List.getD, hj]
                          have hcz := cell_lt (R := R) (C := C) (i := i) (j := C - 1) hiR om
                          repeat' (first | (show oL; first | refine sMv rfl rfl ?_ | refine sAs rfl rfl ?_ | (show oA (.binOp _ _ _ _ _); first | refine sLs rfl rfl rfl ?_ | refine st_y (y_neq rfl rfl) rfl ?_) | refine sLn tabs rfl rfl rfl ?_) | refine xNt ?_ | (show oC; first | refine c_seq ?_ | refine c_region ?_ | refine c_skip (x_then ?_) | refine c_block ?_ | refine c_ift rfl aO ?_))
                          have hdis : ∀ j, j < C → (piv.length * C + j < i * C ∨ i * C + C ≤ piv.length * C + j) := fun j hj => by
                            rcases (by omega : piv.length < i ∨ i < piv.length) with h | h
                            · have := Nat.mul_le_mul_right C (show piv.length + 1 ≤ i by omega)
                              rw [Nat.succ_mul] at this; exact .inl om
                            · have := Nat.mul_le_mul_right C (show i + 1 ≤ piv.length by omega)
                              rw [Nat.succ_mul] at this; exact .inr om
                          have hrd : ∀ (w' : World) (xs' : List Int) (H' : List Nat × World), Hp H'.1 H'.2 [.own (iT xs') (.slice ac (R * C) cc)] w' → xs'.length = (mk R C (elimTo p h1 piv.length k i)).length → (∀ q, q < i * C ∨ i * C + C ≤ q → xs'.getD q 0 = (mk R C (elimTo p h1 piv.length k i)).getD q 0) → ∀ j, j < C → w'.cell? ⟨ab ac, ao ac + piv.length * C + j, none⟩ = some (iV (((List.range C).map (h1 piv.length)).getD j 0)) := fun w' xs' H' c' hxl hxo j hj => by
                            have h3 := hc_own (M := H'.1) (w0 := H'.2) 0 (H := [.own (iT xs') (.slice ac (R * C) cc)]) rfl (j := piv.length * C + j) (by rw [hxl, mk_length]; exact cell_lt hr1 hj) w' c'
                            rw [hxo _ (hdis j hj), mk_get hr1 hj, hv1] at h3
                            rw [hys j hj, Nat.add_assoc]
                            exact h3
                          refine c_idx kr (fun _ c => Hp.drew c) ?_
                          refine p_take 0 rfl kr kr kr (by exact y_move rfl) rfl ?_
                          refine p_take 2 rfl kr kr kr (by exact y_move rfl) rfl ?_
                          refine p_take 4 rfl kr kr kr (by exact y_move rfl) rfl ?_
                          refine p_take 6 rfl kr kr kr (by exact y_move rfl) rfl ?_
                          refine p_take 8 rfl kr kr kr (by exact y_move rfl) rfl ?_
                          refine p_take 12 rfl kr kr kr (by exact y_move rfl) rfl ?_
                          refine c_quiet 13 7 _ (l1 := #[true, false, true, false, true, false, true, false, true, false, false, false, true]) rfl rfl rfl rfl kr kr kr kr kr ?_
                          refine i_y 1 rfl kr kr kr (by exact y_loadb 3 tabs rfl rfl rfl rfl) rfl ?_
                          refine i_y 5 rfl kr kr kr (by exact y_loadb 3 tabs rfl rfl rfl rfl) rfl ?_
                          refine i_call 3 rfl kr kr kr (ent_of Tryz.func90 kr rfl) rfl rfl (fun w c => row_at hsc om ⟨by omega, by omega⟩ hiR hcap) (fun u H' h => h.1) ?_
                          refine i_call 7 rfl kr kr kr (ent_of Tryz.func90 kr rfl) rfl rfl (fun w c => row_at hsc om ⟨by omega, by omega⟩ hiR hcap) (fun u H' h => h.1) ?_
                          refine i_y 9 rfl kr kr kr (by exact y_ixs tabs (j := k) rfl rfl rfl rfl hkC) rfl ?_
                          refine i_y 10 rfl kr kr kr (by exact y_load tabs rfl rfl (hc_mkr 1 rfl hiR hkC)) rfl ?_
                          refine i_y 11 rfl kr kr kr (by exact y_sub rfl rfl (by rw [hv0]; omega)) rfl ?_
                          refine i_tail kr ?_
                          repeat' (first | (show oL; first | refine sMv rfl rfl ?_ | refine sAd rfl rfl om rfl ?_ | (show oA (.call _); (refine m_callL 1 (ent_of Tryz.func80 kr rfl) rfl rfl rfl (fun w M' hl => addMultiple_ok (o := i * C) (n := C) (ys := (List.range C).map (h1 piv.length)) hF (by rw [hv0]; omega) hl (fun _ => rfl) (by rw [mk_length]; omega) om (fun j hj => by rw [mk_get hiR hj, hv0]; have := hinh i j hiR hj; omega) (fun j hj => by rw [hys j hj]; have := hinh piv.length j hr1 hj; omega) .mk (fun w' xs' c' hxl hxo j hj => hrd w' xs' (M', w) c' hxl hxo j hj)) ?_; rintro v H' ⟨rfl, rfl⟩))) | (show oN; first | refine c_nil (x_then ?_) | refine c_nil (x_qn ?_)) | (show oC; refine c_region ?_) | (show AT _ _ _ _; first | refine x_then ?_ | refine x_blk ?_))
                          refine x_nx (i + 1) sB om (fun w' c' => ?_) om
                          have hdn : mk R C (fun a b => if a = i ∧ b < C then (elimTo p h1 piv.length k i i b + (p - elimTo p h1 piv.length k i i k) * ((List.range C).map (h1 piv.length)).getD b 0) % p else elimTo p h1 piv.length k i a b) = mk R C (elimTo p h1 piv.length k (i + 1)) := mk_ext (fun a b ha hb => by
                            by_cases hai : a = i
                            · subst hai
                              rw [if_pos ⟨rfl, hb⟩, hv0, hv0, hys b hb, elim_eq]
                              unfold elimTo elimF
                              rw [if_pos om, if_neg om]
                            · rw [if_neg om]
                              unfold elimTo
                              grind)
                          rw [addTo_mk hiR C (Nat.le_refl _), hdn] at c'
                          exact Hp.swap c'
                      · have hdone : mk R C (elimTo p h1 piv.length k i) = mk R C (elimF p h1 piv.length k) := mk_ext (fun i' c' hi' hc' => by simp only [elimTo]; rw [if_pos om])
                        rw [hdone]
                        repeat' (first | (show oL; first | refine sMv rfl rfl ?_ | refine sAs rfl rfl ?_ | (show oA (.binOp _ _ _ _ _); first | refine sAd rfl rfl om rfl ?_ | refine sLs rfl rfl rfl ?_) | (show oA (.call _); refine m_pushi 0 tabs (k := (k : Int)) rfl rfl rfl rfl rfl om (fun a2 c2 => ?_)) | (show oA (.buildSlice _ _ _); refine m_build1 tabs (us := [iV k]) rfl rfl rfl rfl (by decide) rfl (fun g2 hg2 => ?_))) | (show oN; first | refine c_nil (x_then ?_) | refine c_nil ?_) | (show oC; first | refine c_seq ?_ | refine c_region ?_ | refine c_exit ?_ | refine c_iff rfl nN ?_) | (show AT _ _ _ _; first | refine x_then ?_ | refine x_then_exit ?_ | refine x_blk_exit rfl ?_ | refine x_blk ?_))
                        have hnx : redTo p R f0 (k + 1) = (elimF p h1 piv.length k, piv ++ [(k : Int)]) := by
                          rw [redTo_next (by rw [hst]; simp only; omega), hst]
                          simp only [hat, hg, hve, hh]
                        refine x_nx (k + 1, a2, c2) ?_ (by simp only; omega) (fun w' c' => ?_) (by simp only; omega)
                        · simp only [hnx, List.length_append, List.length_singleton]
                          exact sB
                        · simp only [hnx, List.length_append, List.length_singleton]
                          exact c'
        · have htR' : ¬ ((t : Int) < R) := by omega
          have hte : (t : Int) = R := by omega
          have hsk : redTo p R f0 (k + 1) = (f, piv) := by rw [redTo_skip (by rw [hst]; exact findAt_none (fun i h1 h2 => htz i h1 om)), hst]
          repeat' (first | (show oL; first | refine sMv rfl rfl ?_ | refine sFd tabs rfl rfl rfl rfl ?_ | refine sLd 3 tabs rfl rfl rfl rfl rfl ?_ | (show oA (.binOp _ _ _ _ _); first | refine sAd rfl rfl om rfl ?_ | refine sLs rfl rfl rfl ?_ | refine st_y (y_eql rfl rfl) rfl ?_) | (show oA (.pick _ _ _); refine st_y (y_pickf rfl aS rfl) rfl ?_) | refine st_gdn rfl rfl aS rfl ?_) | refine xNt ?_ | (show oC; first | refine c_seq ?_ | refine c_region ?_ | refine c_exit ?_ | refine c_false rfl ?_ | refine c_ift rfl aO ?_) | (show AT _ _ _ _; first | refine x_then ?_ | refine x_then_exit ?_ | refine x_blk_exit rfl ?_))
          refine x_nx (k + 1, al, cl) ?_ (by simp only; omega) (fun w' c' => ?_) (by simp only; omega)
          · simp only [hsk]
            exact sB
          · simp only [hsk]
            exact c'
    · have hkC' : k = C := by omega
      have hfull : redTo p R f0 C = (f, piv) := by rw [← hkC']; exact hst
      refine AT.fact (own_sl 0 rfl) (fun hsl => ?_)
      repeat' (first | (show oL; first | refine sMv rfl rfl ?_ | refine sAs rfl rfl ?_ | refine sLb 3 tabs rfl rfl rfl rfl rfl ?_ | refine sLs rfl rfl rfl ?_ | (show oA (.store _ _ _); refine m_storeb 2 tabs rfl rfl rfl rfl rfl rfl rfl ?_)) | refine xNt ?_ | (show oC; first | refine c_seq ?_ | refine c_region ?_ | refine c_ret ?_ | refine c_exit ?_ | refine c_iff rfl nN ?_) | (show AT _ _ _ _; first | refine x_then ?_ | refine x_then_exit ?_ | refine x_blk_exit rfl ?_))
      have hM : redM p (↑R, ↑C, xs) = (↑R, ↑C, mk R C f) := by
        simp only [redM, hf, Int.toNat_natCast, hfull]
      have hL : redL p (↑R, ↑C, xs) = piv := by
        simp only [redL, hf, Int.toNat_natCast, hfull]
      rw [hf0] at hM hL
      rw [hM, hL]
      obtain ⟨a3, c3, e3, hs3⟩ := hsl
      cases e3
      refine x_ret2 Tryz.results87 (res_cellb 2 tabs rfl rfl rfl rfl) (res_tmp rfl) (fun w' c' => ⟨_, [.own (iT piv) (.slice al piv.length cl), .own (iT (mk R C f)) (.slice ac (R * C) cc)], rfl, ⟨ac, cc, al, cl, by simp, by simpa using hsc, hs3, by simp⟩, ?_⟩)
      exact c'.sub (.cons_cons _ (.cons_cons _ (List.nil_sublist _)))
end Go.Proofs.YtcplmeajmpkpkaaGreat
