import Derived.Test.YtljgmmmgnfgbhaaPrmqel
import Derived.Test.YtljgmmmgnfgbhaaRdPqel
namespace Go.Proofs.Ytljgmmmgnfgbhaa
open Go.Lg Go.Proofs Go.RowKit
attribute [local irreducible] Code.wp wpList bodyPost Exit.then Exit.inBlock Hp Again Calls Y AT ResV QT
set_option maxRecDepth 20000
set_option maxHeartbeats 4000000

theorem hc_mk {M : List Nat} {w0 : World} {H : List HE} (i : Nat) {e R C r c : Nat} {f : Nat → Nat → Int} {a : Option Addr} {m cc : Nat} (hi : H[i]? = some (.own (ints e (mk R C f)) (.slice a m cc))) (hr : r < R) (hc : c < C) :
    ∀ w, Hp M w0 H w → w.cell? ⟨ab a, ao a + (r * C + c), none⟩ = some (.int .i64 (f r c)) := fun w cw => by
  have := hc_own i hi (j := r * C + c) (by rw [mk_length]; exact cell_lt hr hc) w cw
  rwa [mk_get hr hc] at this

theorem src_blk {M : List Nat} {w0 : World} {H : List HE} (i : Nat) {g e : Nat} {n : Int} (hi : H[i]? = some (.blk g #[.int .i64 n] e)) : ∀ w, Hp M w0 H w → ([n] : List Int) = [] ∨ ∃ a, some (⟨g, 0, none⟩ : Addr) = some a ∧ ∀ j u, (ic [n])[j]? = some u → w.cell? (a.add j) = some u := fun w c =>
  .inr ⟨_, rfl, fun j u hu => by
    match j, hu with
    | 0, hu =>
      have := hc_blk (M := M) (w0 := w0) i (o := 0) hi rfl w c
      simp [ic] at hu
      subst hu
      simpa [Addr.add] using this
    | j + 1, hu => simp [ic] at hu⟩
abbrev GivesRed (m : Mat) (l : List Int) (v : Value) (H : List HE) : Prop := ∃ a c a' c', v = .tuple #[.agg #[iV m.1, iV m.2.1, .slice a m.2.2.length c], .slice a' l.length c'] ∧ SA a m.2.2.length ∧ SA a' l.length ∧ H = [.own (iT l) (.slice a' l.length c'), .own (iT m.2.2) (.slice a m.2.2.length c)]

theorem l4Reduce_ok {w : World} {p : Int} {m : Mat} {u : Value} (hr : Rd w (iT m.2.2) u) (hm : MatG p m) :
    Does Try.prog 90 [iV p, .agg #[iV m.1, iV m.2.1, u]] w (GivesRed (redM p m) (redL p m)) := by
  obtain ⟨r, c, xs⟩ := m
  obtain ⟨hF, ⟨hR0, hR8⟩, ⟨hC0, hC8⟩, hlen, hin⟩ := hm
  simp only at hr hR0 hR8 hC0 hC8 hlen hin ⊢
  obtain ⟨R, rfl⟩ := Int.eq_ofNat_of_zero_le hR0
  obtain ⟨C, rfl⟩ := Int.eq_ofNat_of_zero_le hC0
  have ⟨hp1, hp2⟩ := fieldP_pos hF
  have hlen' : xs.length = R * C := by rw [← Int.natCast_mul] at hlen; omega
  have hf0 : xs = mk R C (matF (↑R, ↑C, xs)) := mk_of hlen'
  have hin0 : inF p R C (matF (↑R, ↑C, xs)) := fun i j hi hj => by
    have := inP_get hin (i := i * C + j) (by rw [hlen']; exact cell_lt hi hj)
    simp only [matF, Int.toNat_natCast]; omega
  generalize hf : matF (↑R, ↑C, xs) = f0 at hf0 hin0
  have hRC : R * C ≤ 1048576 := matG_size hR8 hC8
  refine fn_enter Try.func90 rfl Try.ntmps90 rfl ?_
  repeat' (first
    | (show AT _ _ _ (wpList _ _ _ (_ :: _)); first
       | (show AT _ _ _ (wpList _ _ _ (⟨_, Op.assign _, _, _, _, _⟩ :: _)); refine st_y (y_assign rfl) rfl ?_)
       | (show AT _ _ _ (wpList _ _ _ (⟨_, Op.load _ _, _, _, _, _⟩ :: _)); refine st_y (y_loadb 1 tabs rfl rfl rfl rfl) rfl ?_)
       | (show AT _ _ _ (wpList _ _ _ (⟨_, Op.call _, _, _, _, _⟩ :: _)); (refine m_call (ent_of Try.func120 (by kernel_rfl) rfl) rfl rfl (fun w c => l3Copy_ok (m := (↑R, ↑C, xs)) (c.rd hr) (show xs.length ≤ 1048576 by omega)) ?_; rintro v H' ⟨ac, cc, rfl, hsc, rfl⟩))
       | (show AT _ _ _ (wpList _ _ _ (⟨_, Op.store _ _ _, _, _, _, _⟩ :: _)); refine m_storeb 0 tabs rfl rfl rfl rfl rfl rfl rfl ?_)
       | (show AT _ _ _ (wpList _ _ _ (⟨_, Op.box _ _, _, _, _, _⟩ :: _)); refine m_box rfl rfl (fun b3 hb3 => ?_))
       | (show AT _ _ _ (wpList _ _ _ (⟨_, Op.alloc _, _, _, _, _⟩ :: _)); refine m_alloc tabs rfl rfl (fun b hb => ?_))
       | (show AT _ _ _ (wpList _ _ _ (⟨_, Op.buildSlice _ _ _, _, _, _, _⟩ :: _)); refine m_build0 tabs rfl rfl (fun g hg => ?_)))
    | (show AT _ _ _ (wpList _ _ _ []); refine c_nil (x_then ?_))
    | (show AT _ _ _ (Code.wp _ _ _); first | refine c_seq ?_ | refine c_region ?_ | refine c_block ?_))
  rename_i b4 hb4
  simp only at hsc
  rw [hlen'] at hsc
  refine c_loop (α := Nat × Option Addr × Nat) (fun q => [(0, iV p), (4, .pointer (some ⟨b4, 0, none⟩)), (6, .pointer (some ⟨b, 0, none⟩)), (7, .slice q.2.1 (redTo p R f0 q.1).2.length q.2.2), (8, iV (redTo p R f0 q.1).2.length), (9, .int .i64 q.1)])
    (fun q w' => (q.1 ≤ C ∧ (q.1 = C ∨ (redTo p R f0 q.1).2.length ≤ R)) ∧ Hp [] w [.own (iT (redTo p R f0 q.1).2) (.slice q.2.1 (redTo p R f0 q.1).2.length q.2.2), .blk b #[iV R, iV C, .slice ac (R * C) cc] 46, .own (iT (mk R C (redTo p R f0 q.1).1)) (.slice ac (R * C) cc), .blk b4 #[iV 0, iV 0, .slice none 0 0] 46] w') (fun q => C - q.1) (0, some ⟨g, 0, none⟩, 0) ?_ ?_ ?_
  · exact (by repeat' (first | exact Sub.nil | refine Sub.cons rfl ?_ | refine Sub.consi rfl (by omega) ?_))
  · intro w' c'
    refine ⟨⟨by omega, by simp [redTo]⟩, ?_⟩
    have := c'.sub (H' := [.own (iT []) (.slice (some ⟨g, 0, none⟩) 0 0), .blk b #[iV R, iV C, .slice ac xs.length cc] 46, .own (iT xs) (.slice ac xs.length cc), .blk b4 #[iV 0, iV 0, .slice none 0 0] 46]) (by repeat' first | exact List.nil_sublist _ | apply List.Sublist.cons_cons)
    rw [hlen'] at this
    rw [hf0] at this
    exact this
  · rintro ⟨k, al, cl⟩
    refine AT.pr (fun ⟨hk, _⟩ => ?_)
    simp only at hk ⊢
    obtain ⟨hin1, hlr⟩ := redTo_in (f := f0) (by omega) hin0 k
    generalize hst : redTo p R f0 k = st at hin1 hlr ⊢
    obtain ⟨f, piv⟩ := st
    simp only at hin1 hlr ⊢
    by_cases hgo : k < C ∧ piv.length < R
    · have hk1 : (k : Int) < C := by omega
      have hr1 : (piv.length : Int) < R := by omega
      repeat' (first
        | (show AT _ _ _ (wpList _ _ _ (_ :: _)); first
           | (show AT _ _ _ (wpList _ _ _ (⟨_, Op.move _, _, _, _, _⟩ :: _)); refine st_y (y_move rfl) rfl ?_)
           | (show AT _ _ _ (wpList _ _ _ (⟨_, Op.assign _, _, _, _, _⟩ :: _)); refine st_y (y_assign rfl) rfl ?_)
           | (show AT _ _ _ (wpList _ _ _ (⟨_, Op.fieldAddr _ _ _, _, _, _, _⟩ :: _)); refine st_y (y_field tabs rfl rfl rfl) rfl ?_)
           | (show AT _ _ _ (wpList _ _ _ (⟨_, Op.load _ _, _, _, _, _⟩ :: _)); refine st_y (y_load tabs rfl rfl (hc_blk 1 rfl rfl)) rfl ?_)
           | (show AT _ _ _ (wpList _ _ _ (⟨_, Op.binOp _ _ _ _ _, _, _, _, _⟩ :: _)); first | refine st_y (y_sub rfl rfl (by omega)) rfl ?_ | refine st_y (y_lss rfl rfl) rfl ?_)
           | (show AT _ _ _ (wpList _ _ _ (⟨_, Op.pick _ _ _, _, _, _, _⟩ :: _)); refine st_y (y_pickt rfl (by assumption) rfl) rfl ?_)
           | refine st_gdy rfl rfl (by assumption) ?_)
        | (show AT _ _ _ (wpList _ _ _ []); refine c_nil (x_then ?_))
        | (show AT _ _ _ (Code.wp _ _ _); first | refine c_seq ?_ | refine c_region ?_ | refine c_skip (x_then ?_) | refine c_block ?_ | refine c_ift rfl (by first | assumption | omega) ?_))
      -- the search
      refine c_loop (α := Nat) (fun t => [(0, iV p), (4, .pointer (some ⟨b4, 0, none⟩)), (6, .pointer (some ⟨b, 0, none⟩)), (7, .slice al piv.length cl), (8, iV piv.length), (9, .int .i64 k), (10, iV (atv f k R t)), (11, iV ((t : Int) - 1))])
        (fun t w' => (piv.length ≤ t ∧ t ≤ R) ∧ Hp [] w [.own (iT piv) (.slice al piv.length cl), .blk b #[iV R, iV C, .slice ac (R * C) cc] 46, .own (iT (mk R C f)) (.slice ac (R * C) cc), .blk b4 #[iV 0, iV 0, .slice none 0 0] 46] w') (fun t => t) R ?_ ?_ ?_
      · have : atv f k R R = -1 := by unfold atv; rw [findAt_ge (Nat.le_refl _), if_neg (by omega)]
        rw [this]
        exact (by repeat' (first | exact Sub.nil | refine Sub.cons rfl ?_ | refine Sub.consi rfl (by omega) ?_))
      · intro w' c'
        exact ⟨by omega, c'⟩
      · intro t
        refine AT.pr (fun ⟨ht1, ht2⟩ => ?_)
        by_cases htp : piv.length < t
        · have hcl := cell_lt (R := R) (C := C) (i := t - 1) (j := k) (by omega) (by omega)
          have e1 : ((t : Int) - 1) * (C : Int) = (((t - 1) * C : Nat) : Int) := by rw [Int.natCast_mul]; congr 1; omega
          have e2 : ((t : Int) - 1) * (C : Int) + (k : Int) = (((t - 1) * C + k : Nat) : Int) := by rw [e1]; omega
          repeat' (first
            | (show AT _ _ _ (wpList _ _ _ (_ :: _)); first
               | (show AT _ _ _ (wpList _ _ _ (⟨_, Op.move _, _, _, _, _⟩ :: _)); refine st_y (y_move rfl) rfl ?_)
               | (show AT _ _ _ (wpList _ _ _ (⟨_, Op.assign _, _, _, _, _⟩ :: _)); refine st_y (y_assign rfl) rfl ?_)
               | (show AT _ _ _ (wpList _ _ _ (⟨_, Op.fieldAddr _ _ _, _, _, _, _⟩ :: _)); refine st_y (y_field tabs rfl rfl rfl) rfl ?_)
               | (show AT _ _ _ (wpList _ _ _ (⟨_, Op.load _ _, _, _, _, _⟩ :: _)); first | refine st_y (y_load tabs rfl rfl (hc_mk 2 rfl (show t - 1 < R by omega) hgo.1)) rfl ?_ | refine st_y (y_load tabs rfl rfl (hc_blk 1 rfl rfl)) rfl ?_)
               | (show AT _ _ _ (wpList _ _ _ (⟨_, Op.indexAddr _ _ _, _, _, _, _⟩ :: _)); refine st_y (y_ix1 tabs (j := (t - 1) * C + k) rfl rfl rfl hsc e2 hcl) rfl ?_)
               | (show AT _ _ _ (wpList _ _ _ (⟨_, Op.binOp _ _ _ _ _, _, _, _, _⟩ :: _)); first | refine st_y (y_mul rfl rfl (by rw [e1]; omega)) rfl ?_ | refine st_y (y_add rfl rfl (by first | omega | (rw [e1]; omega))) rfl ?_ | refine st_y (y_sub rfl rfl (by omega)) rfl ?_ | refine st_y (y_geq rfl rfl) rfl ?_ | refine st_y (y_neq rfl rfl) rfl ?_))
            | (show AT _ _ _ (wpList _ _ _ []); first | refine c_nil (x_then ?_) | refine c_nil ?_)
            | (show AT _ _ _ (Code.wp _ _ _); first | refine c_seq ?_ | refine c_region ?_ | refine c_skip (x_then ?_) | refine c_skip (x_blk ?_) | refine c_block ?_ | refine c_ift rfl (by first | assumption | omega) ?_ | refine c_ifnd rfl (fun h => ?_) (fun h => ?_))
            | (show AT _ _ _ _; first | refine x_then ?_ | refine x_blk ?_))
          · refine x_next (t - 1) ?_ (fun w' c' => ⟨by omega, c'⟩) (by omega)
            rw [atv_hit (by omega) h]
            refine Sub.cons rfl (Sub.cons rfl (Sub.cons rfl (Sub.cons rfl (Sub.cons rfl (Sub.cons rfl (Sub.consi rfl (by omega) (Sub.consi rfl (by omega) Sub.nil)))))))
          · refine x_next (t - 1) ?_ (fun w' c' => ⟨by omega, c'⟩) (by omega)
            have h0 : f (t - 1) k = 0 := by simpa using h
            rw [atv_miss (by omega) h0, show t - 1 + 1 = t by omega]
            refine Sub.cons rfl (Sub.cons rfl (Sub.cons rfl (Sub.cons rfl (Sub.cons rfl (Sub.cons rfl (Sub.cons rfl (Sub.consi rfl (by omega) Sub.nil)))))))
        · have htp' : t = piv.length := by omega
          subst htp'
          by_cases hat : findAt f k R piv.length < R
          · have hv : atv f k R piv.length = (findAt f k R piv.length : Int) := by unfold atv; rw [if_pos hat]
            rw [hv]
            repeat' (first
              | (show AT _ _ _ (wpList _ _ _ (_ :: _)); first
                 | (show AT _ _ _ (wpList _ _ _ (⟨_, Op.move _, _, _, _, _⟩ :: _)); refine st_y (y_move rfl) rfl ?_)
                 | (show AT _ _ _ (wpList _ _ _ (⟨_, Op.assign _, _, _, _, _⟩ :: _)); refine st_y (y_assign rfl) rfl ?_)
                 | (show AT _ _ _ (wpList _ _ _ (⟨_, Op.binOp _ _ _ _ _, _, _, _, _⟩ :: _)); first | refine st_y (y_lss rfl rfl) rfl ?_ | refine st_y (y_geq rfl rfl) rfl ?_))
              | (show AT _ _ _ (wpList _ _ _ []); refine c_nil (x_then ?_))
              | (show AT _ _ _ (Code.wp _ _ _); first | refine c_seq ?_ | refine c_region ?_ | refine c_skip (x_then ?_) | refine c_block ?_ | refine c_exit ?_ | refine c_false rfl ?_ | refine c_iff rfl (by first | assumption | exact not_not_intro (by assumption) | omega) ?_)
              | (show AT _ _ _ _; first | refine x_then ?_ | refine x_then_exit ?_ | refine x_blk_exit rfl ?_))
            generalize hae : findAt f k R piv.length = at0 at *
            have hsp : piv.length ≤ at0 ∧ f at0 k ≠ 0 := by have := findAt_spec (f := f) (k := k) (R := R) (r := piv.length) (by omega); rwa [hae] at this
            -- the swap
            refine c_loop (α := Nat) (fun j => [(0, iV p), (4, .pointer (some ⟨b4, 0, none⟩)), (6, .pointer (some ⟨b, 0, none⟩)), (7, .slice al piv.length cl), (8, iV piv.length), (9, .int .i64 k), (10, iV at0), (12, .int .i64 j)])
              (fun j w' => j ≤ C ∧ Hp [] w [.own (iT piv) (.slice al piv.length cl), .blk b #[iV R, iV C, .slice ac (R * C) cc] 46, .own (iT (mk R C (swapTo f piv.length at0 j))) (.slice ac (R * C) cc), .blk b4 #[iV 0, iV 0, .slice none 0 0] 46] w') (fun j => C - j) 0 ?_ ?_ ?_
            · exact (by repeat' (first | exact Sub.nil | refine Sub.cons rfl ?_ | refine Sub.consi rfl (by omega) ?_))
            · intro w' c'
              refine ⟨by omega, ?_⟩
              have e0 : swapTo f piv.length at0 0 = f := by funext i j; simp [swapTo]
              rwa [e0]
            · intro j
              refine AT.pr (fun hj => ?_)
              by_cases hjc : j < C
              · have hc1 := cell_lt (R := R) (C := C) (i := piv.length) (j := j) (by omega) hjc
                have hc2 := cell_lt (R := R) (C := C) (i := at0) (j := j) (by omega) hjc
                have e1 : (piv.length : Int) * (C : Int) + (j : Int) = ((piv.length * C + j : Nat) : Int) := by simp
                have e2 : (at0 : Int) * (C : Int) + (j : Int) = ((at0 * C + j : Nat) : Int) := by simp
                have e3 : (piv.length : Int) * (C : Int) = ((piv.length * C : Nat) : Int) := by simp
                have e4 : (at0 : Int) * (C : Int) = ((at0 * C : Nat) : Int) := by simp
                repeat' (first
                  | (show AT _ _ _ (wpList _ _ _ (_ :: _)); first
                     | (show AT _ _ _ (wpList _ _ _ (⟨_, Op.move _, _, _, _, _⟩ :: _)); refine st_y (y_move rfl) rfl ?_)
                     | (show AT _ _ _ (wpList _ _ _ (⟨_, Op.assign _, _, _, _, _⟩ :: _)); refine st_y (y_assign rfl) rfl ?_)
                     | (show AT _ _ _ (wpList _ _ _ (⟨_, Op.fieldAddr _ _ _, _, _, _, _⟩ :: _)); refine st_y (y_field tabs rfl rfl rfl) rfl ?_)
                     | (show AT _ _ _ (wpList _ _ _ (⟨_, Op.load _ _, _, _, _, _⟩ :: _)); first | refine st_y (y_load tabs rfl rfl (hc_mk 2 rfl (show piv.length < R by omega) hjc)) rfl ?_ | refine st_y (y_load tabs rfl rfl (hc_blk 1 rfl rfl)) rfl ?_)
                     | (show AT _ _ _ (wpList _ _ _ (⟨_, Op.indexAddr _ _ _, _, _, _, _⟩ :: _)); first | refine st_y (y_ix1 tabs (j := piv.length * C + j) rfl rfl rfl hsc e1 hc1) rfl ?_ | refine st_y (y_ix1 tabs (j := at0 * C + j) rfl rfl rfl hsc e2 hc2) rfl ?_)
                     | (show AT _ _ _ (wpList _ _ _ (⟨_, Op.binOp _ _ _ _ _, _, _, _, _⟩ :: _)); first | refine st_y (y_mul rfl rfl (by first | (rw [e3]; omega) | (rw [e4]; omega))) rfl ?_ | refine st_y (y_add rfl rfl (by first | omega | (rw [e3]; omega) | (rw [e4]; omega))) rfl ?_ | refine st_y (y_lss rfl rfl) rfl ?_)
                     | (show AT _ _ _ (wpList _ _ _ (⟨_, Op.store _ _ _, _, _, _, _⟩ :: _)); refine m_storeo 2 tabs rfl rfl rfl rfl (by first | (rw [mk_length]; omega) | (rw [List.length_set, mk_length]; omega)) ?_))
                  | (show AT _ _ _ (wpList _ _ _ []); first | refine c_nil (x_then ?_) | refine c_nil ?_)
                  | (show AT _ _ _ (Code.wp _ _ _); first | refine c_tail 19 (by kernel_rfl) (by kernel_rfl) (by kernel_rfl) (by kernel_rfl) (by kernel_rfl) (by kernel_rfl) (fun _ c => Hp.drew c) ?_ | refine c_seq ?_ | refine c_region ?_ | refine c_skip (x_then ?_) | refine c_block ?_ | refine c_ift rfl (by first | assumption | omega) ?_)
                  | (show QT _ _ _ _ _ _ (_ :: _); first
                     | (show QT _ _ _ _ _ _ (⟨_, Op.move _, _, _, _, _⟩ :: _); refine q_y (y_move rfl) rfl ?_)
                     | (show QT _ _ _ _ _ _ (⟨_, Op.fieldAddr _ _ _, _, _, _, _⟩ :: _); refine q_y (y_field tabs rfl rfl rfl) rfl ?_)
                     | (show QT _ _ _ _ _ _ (⟨_, Op.load _ _, _, _, _, _⟩ :: _); first | refine q_y (y_load tabs rfl rfl (hc_mk 2 rfl hat hjc)) rfl ?_ | refine q_y (y_load tabs rfl rfl (hc_blk 1 rfl rfl)) rfl ?_)
                     | (show QT _ _ _ _ _ _ (⟨_, Op.indexAddr _ _ _, _, _, _, _⟩ :: _); first | refine q_y (y_ix1 tabs (j := piv.length * C + j) rfl rfl rfl hsc e1 hc1) rfl ?_ | refine q_y (y_ix1 tabs (j := at0 * C + j) rfl rfl rfl hsc e2 hc2) rfl ?_)
                     | (show QT _ _ _ _ _ _ (⟨_, Op.binOp _ _ _ _ _, _, _, _, _⟩ :: _); first | refine q_y (y_mul rfl rfl (by first | (rw [e3]; omega) | (rw [e4]; omega))) rfl ?_ | refine q_y (y_add rfl rfl (by first | omega | (rw [e3]; omega) | (rw [e4]; omega))) rfl ?_))
                  | (show QT _ _ _ _ _ _ []; refine q_nil ?_)
                  | (show AT _ _ _ _; first | refine x_then ?_ | refine x_blk ?_))
                refine x_next (j + 1) (by repeat' (first | exact Sub.nil | refine Sub.cons rfl ?_ | refine Sub.consi rfl (by omega) ?_)) (fun w' c' => ⟨by omega, ?_⟩) (by omega)
                have g1 : swapTo f piv.length at0 j at0 j = f at0 j := by simp [swapTo]
                have g2 : swapTo f piv.length at0 j piv.length j = f piv.length j := by simp [swapTo]
                simp only [List.set_cons_succ, List.set_cons_zero, g1, g2] at c'
                rw [mk_set (by omega) hjc, mk_set hat hjc, swapTo_next] at c'
                exact c'
              · have hjC : j = C := by omega
                have hsw : mk R C (swapTo f piv.length at0 j) = mk R C (swapF f piv.length at0) := mk_ext (fun i c hi hc => by simp only [swapTo]; rw [if_pos (by omega)])
                rw [hsw]
                generalize hg : swapF f piv.length at0 = g1
                have hing : inF p R C g1 := by rw [← hg]; exact inF_swap hin1 (by omega) hat
                have hpk := hing piv.length k (by omega) hgo.1
                have hck := cell_lt (R := R) (C := C) (i := piv.length) (j := k) (by omega) hgo.1
                have e1 : (piv.length : Int) * (C : Int) + (k : Int) = ((piv.length * C + k : Nat) : Int) := by simp
                have e3 : (piv.length : Int) * (C : Int) = ((piv.length * C : Nat) : Int) := by simp
                repeat' (first
                  | (show AT _ _ _ (wpList _ _ _ (_ :: _)); first
                     | (show AT _ _ _ (wpList _ _ _ (⟨_, Op.move _, _, _, _, _⟩ :: _)); refine st_y (y_move rfl) rfl ?_)
                     | (show AT _ _ _ (wpList _ _ _ (⟨_, Op.assign _, _, _, _, _⟩ :: _)); refine st_y (y_assign rfl) rfl ?_)
                     | (show AT _ _ _ (wpList _ _ _ (⟨_, Op.fieldAddr _ _ _, _, _, _, _⟩ :: _)); refine st_y (y_field tabs rfl rfl rfl) rfl ?_)
                     | (show AT _ _ _ (wpList _ _ _ (⟨_, Op.load _ _, _, _, _, _⟩ :: _)); first | refine st_y (y_load tabs rfl rfl (hc_mk 2 rfl (show piv.length < R by omega) hgo.1)) rfl ?_ | refine st_y (y_load tabs rfl rfl (hc_blk 1 rfl rfl)) rfl ?_)
                     | (show AT _ _ _ (wpList _ _ _ (⟨_, Op.indexAddr _ _ _, _, _, _, _⟩ :: _)); refine st_y (y_ix1 tabs (j := piv.length * C + k) rfl rfl rfl hsc e1 hck) rfl ?_)
                     | (show AT _ _ _ (wpList _ _ _ (⟨_, Op.binOp _ _ _ _ _, _, _, _, _⟩ :: _)); first | refine st_y (y_mul rfl rfl (by rw [e3]; omega)) rfl ?_ | refine st_y (y_add rfl rfl (by first | omega | (rw [e3]; omega))) rfl ?_ | refine st_y (y_lss rfl rfl) rfl ?_)
                     | (show AT _ _ _ (wpList _ _ _ (⟨_, Op.call _, _, _, _, _⟩ :: _)); (refine m_call (ent_of Try.func121 (by kernel_rfl) rfl) rfl rfl (fun w c => spec_InverseMod_ok hF hpk) ?_; rintro v H' ⟨rfl, rfl⟩)))
                  | (show AT _ _ _ (wpList _ _ _ []); refine c_nil (x_then ?_))
                  | (show AT _ _ _ (Code.wp _ _ _); first | refine c_seq ?_ | refine c_region ?_ | refine c_block ?_ | refine c_exit ?_ | refine c_iff rfl (by first | assumption | exact not_not_intro (by assumption) | omega) ?_)
                  | (show AT _ _ _ _; first | refine x_then ?_ | refine x_then_exit ?_ | refine x_blk_exit rfl ?_))
                have hiv := invM_in hF hpk
                generalize hve : invM p (g1 piv.length k) = iv at *
                -- the scaling
                refine c_loop (α := Nat) (fun j => [(0, iV p), (4, .pointer (some ⟨b4, 0, none⟩)), (6, .pointer (some ⟨b, 0, none⟩)), (7, .slice al piv.length cl), (8, iV piv.length), (9, .int .i64 k), (14, iV iv), (15, .int .i64 j)])
                  (fun j w' => j ≤ C ∧ Hp [] w [.own (iT piv) (.slice al piv.length cl), .blk b #[iV R, iV C, .slice ac (R * C) cc] 46, .own (iT (mk R C (scaleTo p iv g1 piv.length j))) (.slice ac (R * C) cc), .blk b4 #[iV 0, iV 0, .slice none 0 0] 46] w') (fun j => C - j) 0 ?_ ?_ ?_
                · exact (by repeat' (first | exact Sub.nil | refine Sub.cons rfl ?_ | refine Sub.consi rfl (by omega) ?_))
                · intro w' c'
                  refine ⟨by omega, ?_⟩
                  have e0 : scaleTo p iv g1 piv.length 0 = g1 := by funext i j; simp [scaleTo]
                  rwa [e0]
                · intro j
                  refine AT.pr (fun hj2 => ?_)
                  by_cases hjc2 : j < C
                  · have hc1 := cell_lt (R := R) (C := C) (i := piv.length) (j := j) (by omega) hjc2
                    have e1 : (piv.length : Int) * (C : Int) + (j : Int) = ((piv.length * C + j : Nat) : Int) := by simp
                    have hcv : scaleTo p iv g1 piv.length j piv.length j = g1 piv.length j := by simp [scaleTo]
                    have hcb := hing piv.length j (by omega) hjc2
                    have hmb := mul_small (a := iv) (b := scaleTo p iv g1 piv.length j piv.length j) (by omega) (by rw [hcv]; omega)
                    repeat' (first
                      | (show AT _ _ _ (wpList _ _ _ (_ :: _)); first
                         | (show AT _ _ _ (wpList _ _ _ (⟨_, Op.move _, _, _, _, _⟩ :: _)); refine st_y (y_move rfl) rfl ?_)
                         | (show AT _ _ _ (wpList _ _ _ (⟨_, Op.assign _, _, _, _, _⟩ :: _)); refine st_y (y_assign rfl) rfl ?_)
                         | (show AT _ _ _ (wpList _ _ _ (⟨_, Op.fieldAddr _ _ _, _, _, _, _⟩ :: _)); refine st_y (y_field tabs rfl rfl rfl) rfl ?_)
                         | (show AT _ _ _ (wpList _ _ _ (⟨_, Op.load _ _, _, _, _, _⟩ :: _)); refine st_y (y_load tabs rfl rfl (hc_blk 1 rfl rfl)) rfl ?_)
                         | (show AT _ _ _ (wpList _ _ _ (⟨_, Op.binOp _ _ _ _ _, _, _, _, _⟩ :: _)); first | refine st_y (y_add rfl rfl (by first | omega | (rw [e3]; omega))) rfl ?_ | refine st_y (y_lss rfl rfl) rfl ?_)
                         | (show AT _ _ _ (wpList _ _ _ (⟨_, Op.store _ _ _, _, _, _, _⟩ :: _)); refine m_storeo 2 tabs rfl rfl rfl rfl (by rw [mk_length]; omega) ?_))
                      | (show AT _ _ _ (wpList _ _ _ []); first | refine c_nil (x_then ?_) | refine c_nil ?_)
                      | (show AT _ _ _ (Code.wp _ _ _); first | refine c_tail 23 (by kernel_rfl) (by kernel_rfl) (by kernel_rfl) (by kernel_rfl) (by kernel_rfl) (by kernel_rfl) (fun _ c => Hp.drew c) ?_ | refine c_seq ?_ | refine c_region ?_ | refine c_skip (x_then ?_) | refine c_block ?_ | refine c_ift rfl (by first | assumption | omega) ?_)
                      | (show QT _ _ _ _ _ _ (_ :: _); first
                         | (show QT _ _ _ _ _ _ (⟨_, Op.move _, _, _, _, _⟩ :: _); refine q_y (y_move rfl) rfl ?_)
                         | (show QT _ _ _ _ _ _ (⟨_, Op.fieldAddr _ _ _, _, _, _, _⟩ :: _); refine q_y (y_field tabs rfl rfl rfl) rfl ?_)
                         | (show QT _ _ _ _ _ _ (⟨_, Op.load _ _, _, _, _, _⟩ :: _); first | refine q_y (y_load tabs rfl rfl (hc_mk 2 rfl (show piv.length < R by omega) hjc2)) rfl ?_ | refine q_y (y_load tabs rfl rfl (hc_blk 1 rfl rfl)) rfl ?_)
                         | (show QT _ _ _ _ _ _ (⟨_, Op.indexAddr _ _ _, _, _, _, _⟩ :: _); refine q_y (y_ix1 tabs (j := piv.length * C + j) rfl rfl rfl hsc e1 hc1) rfl ?_)
                         | (show QT _ _ _ _ _ _ (⟨_, Op.binOp _ _ _ _ _, _, _, _, _⟩ :: _); first | refine q_y (y_mul rfl rfl (by first | (rw [e3]; omega) | omega)) rfl ?_ | refine q_y (y_add rfl rfl (by first | omega | (rw [e3]; omega))) rfl ?_)
                         | (show QT _ _ _ _ _ _ (⟨_, Op.call _, _, _, _, _⟩ :: _); refine q_call (ent_of Try.func95 (by kernel_rfl) rfl) rfl rfl (fun w c => l2Mod_ok (by omega) (by omega)) (fun u H' h => h.1) ?_))
                      | (show QT _ _ _ _ _ _ []; refine q_nil ?_)
                      | (show AT _ _ _ _; first | refine x_then ?_ | refine x_blk ?_))
                    refine x_next (j + 1) (by repeat' (first | exact Sub.nil | refine Sub.cons rfl ?_ | refine Sub.consi rfl (by omega) ?_)) (fun w' c' => ⟨by omega, ?_⟩) (by omega)
                    simp only [List.set_cons_succ, List.set_cons_zero, hcv] at c'
                    rw [mk_set (by omega) hjc2, scaleTo_next] at c'
                    exact c'
                  · have hsw2 : mk R C (scaleTo p iv g1 piv.length j) = mk R C (scaleF p iv g1 piv.length) := mk_ext (fun i c hi hc => by simp only [scaleTo]; rw [if_pos (by omega)])
                    rw [hsw2]
                    have hinh : inF p R C (scaleF p iv g1 piv.length) := inF_scale (by omega) hing
                    generalize hh : scaleF p iv g1 piv.length = h1 at *
                    -- the elimination
                    repeat' (first
                      | (show AT _ _ _ (wpList _ _ _ (_ :: _)); first
                         | (show AT _ _ _ (wpList _ _ _ (⟨_, Op.move _, _, _, _, _⟩ :: _)); refine st_y (y_move rfl) rfl ?_)
                         | (show AT _ _ _ (wpList _ _ _ (⟨_, Op.assign _, _, _, _, _⟩ :: _)); refine st_y (y_assign rfl) rfl ?_)
                         | (show AT _ _ _ (wpList _ _ _ (⟨_, Op.fieldAddr _ _ _, _, _, _, _⟩ :: _)); refine st_y (y_field tabs rfl rfl rfl) rfl ?_)
                         | (show AT _ _ _ (wpList _ _ _ (⟨_, Op.load _ _, _, _, _, _⟩ :: _)); refine st_y (y_load tabs rfl rfl (hc_blk 1 rfl rfl)) rfl ?_)
                         | (show AT _ _ _ (wpList _ _ _ (⟨_, Op.binOp _ _ _ _ _, _, _, _, _⟩ :: _)); refine st_y (y_lss rfl rfl) rfl ?_))
                      | (show AT _ _ _ (wpList _ _ _ []); refine c_nil (x_then ?_))
                      | (show AT _ _ _ (Code.wp _ _ _); first | refine c_seq ?_ | refine c_region ?_ | refine c_block ?_ | refine c_exit ?_ | refine c_iff rfl (by first | assumption | exact not_not_intro (by assumption) | omega) ?_)
                      | (show AT _ _ _ _; first | refine x_then ?_ | refine x_then_exit ?_ | refine x_blk_exit rfl ?_))
                    refine c_loop (α := Nat) (fun i => [(0, iV p), (4, .pointer (some ⟨b4, 0, none⟩)), (6, .pointer (some ⟨b, 0, none⟩)), (7, .slice al piv.length cl), (8, iV piv.length), (9, .int .i64 k), (16, .int .i64 i)])
                      (fun i w' => i ≤ R ∧ Hp [] w [.own (iT piv) (.slice al piv.length cl), .blk b #[iV R, iV C, .slice ac (R * C) cc] 46, .own (iT (mk R C (elimTo p h1 piv.length k i))) (.slice ac (R * C) cc), .blk b4 #[iV 0, iV 0, .slice none 0 0] 46] w') (fun i => R - i) 0 ?_ ?_ ?_
                    · exact (by repeat' (first | exact Sub.nil | refine Sub.cons rfl ?_ | refine Sub.consi rfl (by omega) ?_))
                    · intro w' c'
                      refine ⟨by omega, ?_⟩
                      have e0 : elimTo p h1 piv.length k 0 = h1 := by funext i j; simp [elimTo]
                      rwa [e0]
                    · intro i
                      refine AT.pr (fun hi => ?_)
                      by_cases hiR : i < R
                      · have hck2 := cell_lt (R := R) (C := C) (i := i) (j := k) hiR hgo.1
                        have e5 : (i : Int) * (C : Int) + (k : Int) = ((i * C + k : Nat) : Int) := by simp
                        have e6 : (i : Int) * (C : Int) = ((i * C : Nat) : Int) := by simp
                        have hcv : elimTo p h1 piv.length k i i k = h1 i k := by simp [elimTo]
                        have hfb := hinh i k hiR hgo.1
                        repeat' (first
                          | (show AT _ _ _ (wpList _ _ _ (_ :: _)); first
                             | (show AT _ _ _ (wpList _ _ _ (⟨_, Op.move _, _, _, _, _⟩ :: _)); refine st_y (y_move rfl) rfl ?_)
                             | (show AT _ _ _ (wpList _ _ _ (⟨_, Op.assign _, _, _, _, _⟩ :: _)); refine st_y (y_assign rfl) rfl ?_)
                             | (show AT _ _ _ (wpList _ _ _ (⟨_, Op.fieldAddr _ _ _, _, _, _, _⟩ :: _)); refine st_y (y_field tabs rfl rfl rfl) rfl ?_)
                             | (show AT _ _ _ (wpList _ _ _ (⟨_, Op.load _ _, _, _, _, _⟩ :: _)); first | refine st_y (y_load tabs rfl rfl (hc_mk 2 rfl hiR hgo.1)) rfl ?_ | refine st_y (y_load tabs rfl rfl (hc_blk 1 rfl rfl)) rfl ?_)
                             | (show AT _ _ _ (wpList _ _ _ (⟨_, Op.indexAddr _ _ _, _, _, _, _⟩ :: _)); refine st_y (y_ix1 tabs (j := i * C + k) rfl rfl rfl hsc e5 hck2) rfl ?_)
                             | (show AT _ _ _ (wpList _ _ _ (⟨_, Op.binOp _ _ _ _ _, _, _, _, _⟩ :: _)); first | refine st_y (y_mul rfl rfl (by rw [e6]; omega)) rfl ?_ | refine st_y (y_add rfl rfl (by first | omega | (rw [e6]; omega))) rfl ?_ | refine st_y (y_lss rfl rfl) rfl ?_))
                          | (show AT _ _ _ (wpList _ _ _ []); refine c_nil (x_then ?_))
                          | (show AT _ _ _ (Code.wp _ _ _); first | refine c_seq ?_ | refine c_region ?_ | refine c_skip (x_then ?_) | refine c_block ?_ | refine c_ift rfl (by first | assumption | omega) ?_))
                        rw [hcv, ← elimAt_zero]
                        refine c_loop (α := Nat) (fun j => [(0, iV p), (4, .pointer (some ⟨b4, 0, none⟩)), (6, .pointer (some ⟨b, 0, none⟩)), (7, .slice al piv.length cl), (8, iV piv.length), (9, .int .i64 k), (16, .int .i64 i), (17, iV (h1 i k)), (18, .int .i64 j)])
                          (fun j w' => j ≤ C ∧ Hp [] w [.own (iT piv) (.slice al piv.length cl), .blk b #[iV R, iV C, .slice ac (R * C) cc] 46, .own (iT (mk R C (elimAt p h1 piv.length k i j))) (.slice ac (R * C) cc), .blk b4 #[iV 0, iV 0, .slice none 0 0] 46] w') (fun j => C - j) 0 ?_ ?_ ?_
                        · exact (by repeat' (first | exact Sub.nil | refine Sub.cons rfl ?_ | refine Sub.consi rfl (by omega) ?_))
                        · intro w' c'
                          exact ⟨by omega, c'⟩
                        · intro j
                          refine AT.pr (fun hj3 => ?_)
                          by_cases hgo2 : (j : Int) < C ∧ (i : Int) ≠ piv.length
                          · obtain ⟨hj4, hne⟩ := hgo2
                            have hjc3 : j < C := by omega
                            have hd1 := cell_lt (R := R) (C := C) (i := i) (j := j) hiR hjc3
                            have hd2 := cell_lt (R := R) (C := C) (i := piv.length) (j := j) (by omega) hjc3
                            have e7 : (i : Int) * (C : Int) + (j : Int) = ((i * C + j : Nat) : Int) := by simp
                            have e8 : (piv.length : Int) * (C : Int) + (j : Int) = ((piv.length * C + j : Nat) : Int) := by simp
                            have hv1 : elimAt p h1 piv.length k i j i j = h1 i j := elimAt_cur
                            have hv2 : elimAt p h1 piv.length k i j piv.length j = h1 piv.length j := elimAt_row
                            have hb1' := hinh i j hiR hjc3
                            have hb2' := hinh piv.length j (by omega) hjc3
                            have hmb := mul_small (a := h1 i k) (b := elimAt p h1 piv.length k i j piv.length j) (by omega) (by rw [hv2]; omega)
                            repeat' (first
                              | (show AT _ _ _ (wpList _ _ _ (_ :: _)); first
                                 | (show AT _ _ _ (wpList _ _ _ (⟨_, Op.move _, _, _, _, _⟩ :: _)); refine st_y (y_move rfl) rfl ?_)
                                 | (show AT _ _ _ (wpList _ _ _ (⟨_, Op.assign _, _, _, _, _⟩ :: _)); refine st_y (y_assign rfl) rfl ?_)
                                 | (show AT _ _ _ (wpList _ _ _ (⟨_, Op.fieldAddr _ _ _, _, _, _, _⟩ :: _)); refine st_y (y_field tabs rfl rfl rfl) rfl ?_)
                                 | (show AT _ _ _ (wpList _ _ _ (⟨_, Op.load _ _, _, _, _, _⟩ :: _)); refine st_y (y_load tabs rfl rfl (hc_blk 1 rfl rfl)) rfl ?_)
                                 | (show AT _ _ _ (wpList _ _ _ (⟨_, Op.binOp _ _ _ _ _, _, _, _, _⟩ :: _)); first | refine st_y (y_add rfl rfl (by first | omega | (rw [e6]; omega) | (rw [e3]; omega))) rfl ?_ | refine st_y (y_lss rfl rfl) rfl ?_ | refine st_y (y_neq rfl rfl) rfl ?_)
                                 | (show AT _ _ _ (wpList _ _ _ (⟨_, Op.pick _ _ _, _, _, _, _⟩ :: _)); refine st_y (y_pickt rfl (by assumption) rfl) rfl ?_)
                                 | (show AT _ _ _ (wpList _ _ _ (⟨_, Op.store _ _ _, _, _, _, _⟩ :: _)); refine m_storeo 2 tabs rfl rfl rfl rfl (by rw [mk_length]; omega) ?_)
                                 | refine st_gdy rfl rfl (by assumption) ?_)
                              | (show AT _ _ _ (wpList _ _ _ []); first | refine c_nil (x_then ?_) | refine c_nil ?_)
                              | (show AT _ _ _ (Code.wp _ _ _); first | refine c_tail 34 (by kernel_rfl) (by kernel_rfl) (by kernel_rfl) (by kernel_rfl) (by kernel_rfl) (by kernel_rfl) (fun _ c => Hp.drew c) ?_ | refine c_seq ?_ | refine c_region ?_ | refine c_skip (x_then ?_) | refine c_block ?_ | refine c_ift rfl (by first | assumption | omega) ?_)
                              | (show QT _ _ _ _ _ _ (_ :: _); first
                                 | (show QT _ _ _ _ _ _ (⟨_, Op.move _, _, _, _, _⟩ :: _); refine q_y (y_move rfl) rfl ?_)
                                 | (show QT _ _ _ _ _ _ (⟨_, Op.fieldAddr _ _ _, _, _, _, _⟩ :: _); refine q_y (y_field tabs rfl rfl rfl) rfl ?_)
                                 | (show QT _ _ _ _ _ _ (⟨_, Op.load _ _, _, _, _, _⟩ :: _); first | refine q_y (y_load tabs rfl rfl (hc_mk 2 rfl hiR hjc3)) rfl ?_ | refine q_y (y_load tabs rfl rfl (hc_mk 2 rfl (show piv.length < R by omega) hjc3)) rfl ?_ | refine q_y (y_load tabs rfl rfl (hc_blk 1 rfl rfl)) rfl ?_)
                                 | (show QT _ _ _ _ _ _ (⟨_, Op.indexAddr _ _ _, _, _, _, _⟩ :: _); first | refine q_y (y_ix1 tabs (j := i * C + j) rfl rfl rfl hsc e7 hd1) rfl ?_ | refine q_y (y_ix1 tabs (j := piv.length * C + j) rfl rfl rfl hsc e8 hd2) rfl ?_)
                                 | (show QT _ _ _ _ _ _ (⟨_, Op.binOp _ _ _ _ _, _, _, _, _⟩ :: _); first | refine q_y (y_mul rfl rfl (by first | (rw [e6]; omega) | (rw [e3]; omega) | omega)) rfl ?_ | refine q_y (y_sub rfl rfl (by rw [hv1]; omega)) rfl ?_ | refine q_y (y_add rfl rfl (by first | omega | (rw [e6]; omega) | (rw [e3]; omega))) rfl ?_)
                                 | (show QT _ _ _ _ _ _ (⟨_, Op.call _, _, _, _, _⟩ :: _); refine q_call (ent_of Try.func95 (by kernel_rfl) rfl) rfl rfl (fun w c => l2Mod_ok (by omega) (by omega)) (fun u H' h => h.1) ?_))
                              | (show QT _ _ _ _ _ _ []; refine q_nil ?_)
                              | (show AT _ _ _ _; first | refine x_then ?_ | refine x_blk ?_))
                            refine x_next (j + 1) (by repeat' (first | exact Sub.nil | refine Sub.cons rfl ?_ | refine Sub.consi rfl (by omega) ?_)) (fun w' c' => ⟨by omega, ?_⟩) (by omega)
                            simp only [List.set_cons_succ, List.set_cons_zero, hv1, hv2] at c'
                            rw [mk_set hiR hjc3, elimAt_next (by omega)] at c'
                            exact c'
                          · have hdone : mk R C (elimAt p h1 piv.length k i j) = mk R C (elimTo p h1 piv.length k (i + 1)) := by
                              by_cases hir : i = piv.length
                              · subst hir; rw [elimAt_self]
                              · rw [show j = C by omega, elimAt_full]
                            rw [hdone]
                            repeat' (first
                              | (show AT _ _ _ (wpList _ _ _ (_ :: _)); first
                                 | (show AT _ _ _ (wpList _ _ _ (⟨_, Op.move _, _, _, _, _⟩ :: _)); refine st_y (y_move rfl) rfl ?_)
                                 | (show AT _ _ _ (wpList _ _ _ (⟨_, Op.assign _, _, _, _, _⟩ :: _)); refine st_y (y_assign rfl) rfl ?_)
                                 | (show AT _ _ _ (wpList _ _ _ (⟨_, Op.fieldAddr _ _ _, _, _, _, _⟩ :: _)); refine st_y (y_field tabs rfl rfl rfl) rfl ?_)
                                 | (show AT _ _ _ (wpList _ _ _ (⟨_, Op.load _ _, _, _, _, _⟩ :: _)); refine st_y (y_load tabs rfl rfl (hc_blk 1 rfl rfl)) rfl ?_)
                                 | (show AT _ _ _ (wpList _ _ _ (⟨_, Op.binOp _ _ _ _ _, _, _, _, _⟩ :: _)); first | refine st_y (y_add rfl rfl (by omega)) rfl ?_ | refine st_y (y_lss rfl rfl) rfl ?_ | refine st_y (y_neq rfl rfl) rfl ?_)
                                 | (show AT _ _ _ (wpList _ _ _ (⟨_, Op.pick _ _ _, _, _, _, _⟩ :: _)); first | refine st_y (y_pickt rfl (by assumption) rfl) rfl ?_ | refine st_y (y_pickf rfl (by assumption) rfl) rfl ?_)
                                 | refine st_gdy rfl rfl (by assumption) ?_ | refine st_gdn rfl rfl (by assumption) rfl ?_ | refine st_gd rfl rfl (fun h => ?_) (fun h => ?_))
                              | (show AT _ _ _ (wpList _ _ _ []); refine c_nil (x_then ?_))
                              | (show AT _ _ _ (Code.wp _ _ _); first | refine c_seq ?_ | refine c_region ?_ | refine c_exit ?_ | refine c_false rfl ?_ | refine c_iff rfl (by first | assumption | exact not_not_intro (by assumption) | omega) ?_)
                              | (show AT _ _ _ _; first | refine x_then ?_ | refine x_then_exit ?_ | refine x_blk_exit rfl ?_ | refine x_blk ?_))
                            all_goals refine x_next (i + 1) (by repeat' (first | exact Sub.nil | refine Sub.cons rfl ?_ | refine Sub.consi rfl (by omega) ?_)) (fun w' c' => ⟨by omega, c'⟩) (by omega)
                      · have hdone : mk R C (elimTo p h1 piv.length k i) = mk R C (elimF p h1 piv.length k) := mk_ext (fun i' c' hi' hc' => by simp only [elimTo]; rw [if_pos (by omega)])
                        rw [hdone]
                        repeat' (first
                          | (show AT _ _ _ (wpList _ _ _ (_ :: _)); first
                             | (show AT _ _ _ (wpList _ _ _ (⟨_, Op.move _, _, _, _, _⟩ :: _)); refine st_y (y_move rfl) rfl ?_)
                             | (show AT _ _ _ (wpList _ _ _ (⟨_, Op.assign _, _, _, _, _⟩ :: _)); refine st_y (y_assign rfl) rfl ?_)
                             | (show AT _ _ _ (wpList _ _ _ (⟨_, Op.fieldAddr _ _ _, _, _, _, _⟩ :: _)); refine st_y (y_field tabs rfl rfl rfl) rfl ?_)
                             | (show AT _ _ _ (wpList _ _ _ (⟨_, Op.load _ _, _, _, _, _⟩ :: _)); refine st_y (y_load tabs rfl rfl (hc_blk 1 rfl rfl)) rfl ?_)
                             | (show AT _ _ _ (wpList _ _ _ (⟨_, Op.binOp _ _ _ _ _, _, _, _, _⟩ :: _)); first | refine st_y (y_add rfl rfl (by omega)) rfl ?_ | refine st_y (y_lss rfl rfl) rfl ?_)
                             | (show AT _ _ _ (wpList _ _ _ (⟨_, Op.call _, _, _, _, _⟩ :: _)); refine m_appi 1 tabs (xs := piv) (ys := [(k : Int)]) rfl rfl rfl rfl rfl (by simp; omega) (src_blk 0 rfl) (fun a2 c2 => ?_))
                             | (show AT _ _ _ (wpList _ _ _ (⟨_, Op.buildSlice _ _ _, _, _, _, _⟩ :: _)); refine m_build1 tabs (us := [iV k]) rfl rfl rfl rfl (by decide) rfl (fun g2 hg2 => ?_)))
                          | (show AT _ _ _ (wpList _ _ _ []); first | refine c_nil (x_then ?_) | refine c_nil ?_)
                          | (show AT _ _ _ (Code.wp _ _ _); first | refine c_seq ?_ | refine c_region ?_ | refine c_exit ?_ | refine c_iff rfl (by first | assumption | exact not_not_intro (by assumption) | omega) ?_)
                          | (show AT _ _ _ _; first | refine x_then ?_ | refine x_then_exit ?_ | refine x_blk_exit rfl ?_ | refine x_blk ?_))
                        have hnx : redTo p R f0 (k + 1) = (elimF p h1 piv.length k, piv ++ [(k : Int)]) := by
                          rw [redTo_next (by rw [hst]; simp only; omega), hst]
                          simp only [hae, hg, hve, hh]
                        refine x_next (k + 1, a2, c2) ?_ (fun w' c' => ⟨⟨?_, ?_⟩, ?_⟩) (by simp only; omega)
                        · simp only [hnx, List.length_append, List.length_singleton]
                          exact (by repeat' (first | exact Sub.nil | refine Sub.cons rfl ?_ | refine Sub.consi rfl (by omega) ?_))
                        · simp only; omega
                        · simp only [hnx, List.length_append, List.length_singleton]; omega
                        · simp only [hnx, List.length_append, List.length_singleton]
                          exact c'.sub (.cons_cons _ (.cons _ (List.Sublist.refl _)))
          · have hv : atv f k R piv.length = -1 := by unfold atv; rw [if_neg hat]
            rw [hv]
            have hsk : redTo p R f0 (k + 1) = (f, piv) := by rw [redTo_skip (by rw [hst]; simp only; have := findAt_le (f := f) (k := k) (R := R) (r := piv.length); omega), hst]
            repeat' (first
              | (show AT _ _ _ (wpList _ _ _ (_ :: _)); first
                 | (show AT _ _ _ (wpList _ _ _ (⟨_, Op.move _, _, _, _, _⟩ :: _)); refine st_y (y_move rfl) rfl ?_)
                 | (show AT _ _ _ (wpList _ _ _ (⟨_, Op.assign _, _, _, _, _⟩ :: _)); refine st_y (y_assign rfl) rfl ?_)
                 | (show AT _ _ _ (wpList _ _ _ (⟨_, Op.binOp _ _ _ _ _, _, _, _, _⟩ :: _)); first | refine st_y (y_add rfl rfl (by omega)) rfl ?_ | refine st_y (y_lss rfl rfl) rfl ?_ | refine st_y (y_geq rfl rfl) rfl ?_))
              | (show AT _ _ _ (wpList _ _ _ []); refine c_nil (x_then ?_))
              | (show AT _ _ _ (Code.wp _ _ _); first | refine c_seq ?_ | refine c_region ?_ | refine c_exit ?_ | refine c_true rfl ?_ | refine c_iff rfl (by first | assumption | exact not_not_intro (by assumption) | omega) ?_)
              | (show AT _ _ _ _; first | refine x_then ?_ | refine x_then_exit ?_ | refine x_blk_exit rfl ?_))
            refine x_next (k + 1, al, cl) ?_ (fun w' c' => ⟨⟨?_, ?_⟩, ?_⟩) (by simp only; omega)
            · simp only [hsk]
              exact (by repeat' (first | exact Sub.nil | refine Sub.cons rfl ?_ | refine Sub.consi rfl (by omega) ?_))
            · simp only; omega
            · simp only [hsk]; omega
            · simp only [hsk]
              exact c'
    · have hfull : redTo p R f0 C = (f, piv) := by
        rcases (by omega : k = C ∨ (k < C ∧ R ≤ piv.length)) with h | ⟨h1, h2⟩
        · rw [← h]; exact hst
        · have := redTo_full (p := p) (R := R) (f := f0) (k := k) (by rw [hst]; exact h2) (C - k)
          rw [show k + (C - k) = C by omega] at this
          rw [this, hst]
      refine AT.fact (own_sl 0 rfl) (fun hsl => ?_)
      repeat' (first
        | (show AT _ _ _ (wpList _ _ _ (_ :: _)); first
           | (show AT _ _ _ (wpList _ _ _ (⟨_, Op.move _, _, _, _, _⟩ :: _)); refine st_y (y_move rfl) rfl ?_)
           | (show AT _ _ _ (wpList _ _ _ (⟨_, Op.assign _, _, _, _, _⟩ :: _)); refine st_y (y_assign rfl) rfl ?_)
           | (show AT _ _ _ (wpList _ _ _ (⟨_, Op.fieldAddr _ _ _, _, _, _, _⟩ :: _)); refine st_y (y_field tabs rfl rfl rfl) rfl ?_)
           | (show AT _ _ _ (wpList _ _ _ (⟨_, Op.load _ _, _, _, _, _⟩ :: _)); first | refine st_y (y_loadb 1 tabs rfl rfl rfl rfl) rfl ?_ | refine st_y (y_load tabs rfl rfl (hc_blk 1 rfl rfl)) rfl ?_)
           | (show AT _ _ _ (wpList _ _ _ (⟨_, Op.binOp _ _ _ _ _, _, _, _, _⟩ :: _)); refine st_y (y_lss rfl rfl) rfl ?_)
           | (show AT _ _ _ (wpList _ _ _ (⟨_, Op.pick _ _ _, _, _, _, _⟩ :: _)); first | refine st_y (y_pickt rfl (by assumption) rfl) rfl ?_ | refine st_y (y_pickf rfl (by assumption) rfl) rfl ?_)
           | (show AT _ _ _ (wpList _ _ _ (⟨_, Op.store _ _ _, _, _, _, _⟩ :: _)); refine m_storeb 3 tabs rfl rfl rfl rfl rfl rfl rfl ?_)
           | refine st_gdy rfl rfl (by assumption) ?_ | refine st_gdn rfl rfl (by assumption) rfl ?_ | refine st_gd rfl rfl (fun h => ?_) (fun h => ?_))
        | (show AT _ _ _ (wpList _ _ _ []); refine c_nil (x_then ?_))
        | (show AT _ _ _ (Code.wp _ _ _); first | refine c_seq ?_ | refine c_region ?_ | refine c_ret ?_ | refine c_exit ?_ | refine c_false rfl ?_ | refine c_iff rfl (by first | assumption | exact not_not_intro (by assumption) | omega) ?_)
        | (show AT _ _ _ _; first | refine x_then ?_ | refine x_then_exit ?_ | refine x_blk_exit rfl ?_))
      all_goals
        have hM : redM p (↑R, ↑C, xs) = (↑R, ↑C, mk R C f) := by
          simp only [redM, hf, Int.toNat_natCast, hfull]
        have hL : redL p (↑R, ↑C, xs) = piv := by
          simp only [redL, hf, Int.toNat_natCast, hfull]
        rw [hM, hL]
        obtain ⟨a3, c3, e3, hs3⟩ := hsl
        cases e3
        refine x_ret2 Try.results90 (res_cellb 3 tabs rfl rfl rfl rfl) (res_tmp rfl) (fun w' c' => ⟨_, [.own (iT piv) (.slice al piv.length cl), .own (iT (mk R C f)) (.slice ac (R * C) cc)], rfl, ⟨ac, cc, al, cl, by simp, by simpa using hsc, hs3, by simp⟩, ?_⟩)
        exact c'.sub (.cons_cons _ (.cons _ (.cons_cons _ (List.nil_sublist _))))
end Go.Proofs.Ytljgmmmgnfgbhaa
