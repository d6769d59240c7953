import Derived.MapKept
import Derived.Carry
import Derived.Test.YtdnhmnnccfoliaaDoorDrqqqv
import Derived.Test.YtdnhmnnccfoliaaDoorDrwqqv
import Derived.Test.YtdnhmnnccfoliaaDoorFmtqqv
import Derived.Test.YtdnhmnnccfoliaaDoorQscqqv
import Derived.Test.YtdnhmnnccfoliaaDoorZsbqqv
namespace Go.Lg
open Go.RowKit
theorem y_eqls_no {P : Program} {n : Nat} {C : World → Prop} {s : List (Nat × Value)} {t t' ty : Nat} {x y : Operand} {a b : List UInt8} (hx : ev s x = some (sV a)) (hy : ev s y = some (sV b)) (h : ¬ a = b) : Y P n C s (.binOp .eql t x y t') ty (.bool false) := by
  have := y_eqls (P := P) (n := n) (C := C) (t := t) (t' := t') (ty := ty) hx hy
  rwa [decide_eq_false h] at this
end Go.Lg
namespace Go.Proofs.YtdnhmnnccfoliaaDoor
open Go.Lg Go.Proofs Go.RowKit
attribute [local irreducible] Code.wp wpList bodyPost Exit.then Exit.inBlock Hp Again Calls Y AT ResV QT Qn QI wpAny wpAnyQ
set_option maxRecDepth 20000
set_option maxHeartbeats 4000000
theorem bld_q1 (r : Int) (w : World) : (Instr.build 26 #[(0, iV r)]).run Tryd.prog w = .ok (.agg #[iV r, .slice none 0 0, .slice none 0 0]) w := by kernel_rfl

theorem impl_FormatQuiver_ok {w : World} {q : Qv} {u0 u1 : Value} (h0 : Rd w (iT q.2.1) u0) (h1 : Rd w (iT q.2.2) u1) : Does Tryd.prog 6 [.agg #[iV q.1, u0, u1]] w (fun v H => v = sV (fmtQ q) ∧ H = []) := by
  obtain ⟨V, F, T⟩ := q
  simp only at h0 h1 ⊢
  by_cases hQ : QuivP (V, F, T)
  · have hr := quiv_rng hQ
    have hV := hQ.1
    have h6 := hQ.2.1
    have hT := hQ.2.2.1
    simp only at hr hV h6 hT
    rw [fmtQ, if_pos hQ]
    obtain ⟨a0, c0, rfl, hs0, _, _, hg0⟩ := h0.ints
    obtain ⟨a1, c1, rfl, hs1, _, _, hg1⟩ := h1.ints
    refine fn_enter Tryd.func6 rfl Tryd.ntmps6 rfl ?_
    repeat' (first | (show oL; first | refine sMv rfl rfl ?_ | refine sAs rfl rfl ?_ | refine sFd tabs rfl rfl rfl rfl ?_ | (show oA (.load _ _); first | refine sLd 0 tabs rfl rfl rfl rfl rfl ?_ | refine sLb 0 tabs rfl rfl rfl rfl rfl ?_) | (show oA (.binOp _ _ _ _ _); refine st_y (y_cat rfl rfl (by simp) (by simp)) rfl ?_) | (show oA (.unOp _ _ _); refine st_y (y_not rfl) rfl ?_) | (show oA (.call _); first | (refine m_call (ent_of Tryd.func13 kr rfl) rfl rfl (fun w c => impl_IsQuiver_ok (q := (V, F, T)) (c.rd h0) (c.rd h1)) ?_; rw [decide_eq_true hQ]; rintro v H' ⟨rfl, rfl⟩) | (refine m_call (ent_of Tryd.func36 kr rfl) rfl rfl (fun w c => impl_FormatInt_ok (n := V) om om) ?_; rintro v H' ⟨rfl, rfl⟩) | refine sLn tabs rfl rfl rfl ?_) | (show oA (.box _ _); refine m_box rfl rfl (fun b hb => ?_))) | refine xNt ?_ | (show oC; first | refine c_seq ?_ | refine c_region ?_ | refine c_skip (x_then ?_) | refine c_block ?_ | refine c_false rfl ?_))
    refine c_loopH (α := Nat) [1, 14, 15] (fun i => [(3, sV (fmA (V, F, T) i)), (16, iV i)]) (fun i => i ≤ F.length) (fun i => [.blk b #[iV V, .slice a0 F.length c0, .slice a1 T.length c1] 26]) (fun i => F.length - i) 0 rfl sB ?_ ?_ ?_
    · exact Nat.zero_le _
    · exact fun w' c' => c'
    · intro i hi
      have hfl := fmA_len (q := (V, F, T)) i
      by_cases hin : i < F.length
      · have hi0 := hr.1 i hin
        have hi1 := hr.2 i hin
        have en : fmA (V, F, T) i ++ ([32] ++ digL [F.getD i 0, T.getD i 0]) = fmA (V, F, T) (i + 1) := by
          rw [fmA, prtQ]; simp [digL]
        have hd2 : ∀ k, k < [F.getD i 0, T.getD i 0].length → 0 ≤ [F.getD i 0, T.getD i 0].getD k 0 ∧ [F.getD i 0, T.getD i 0].getD k 0 ≤ 9 := by
          intro k hk
          have hk2 : k < 2 := hk
          have : k = 0 ∨ k = 1 := by omega
          rcases this with rfl | rfl
          · exact ⟨hi0.1, by have := hi0.2; simp only [List.getD_cons_zero]; omega⟩
          · exact ⟨hi1.1, by have := hi1.2; simp only [List.getD_cons_succ, List.getD_cons_zero]; omega⟩
        repeat' (first | (show oL; first | refine sMv rfl rfl ?_ | refine sAs rfl rfl ?_ | refine sFd tabs rfl rfl rfl rfl ?_ | (show oA (.load _ _); first | refine sLd 0 tabs rfl rfl rfl rfl rfl ?_ | refine st_y (y_load tabs rfl rfl (hc_w0 (hg0 i hin))) rfl ?_ | refine st_y (y_load tabs rfl rfl (hc_w0 (hg1 i om))) rfl ?_) | (show oA (.indexAddr _ _ _); first | refine st_y (y_ix1 tabs (j := i) rfl rfl rfl hs0 rfl hin) rfl ?_ | refine st_y (y_ix1 tabs (j := i) rfl rfl rfl hs1 rfl om) rfl ?_) | (show oA (.binOp _ _ _ _ _); first | refine st_y (y_cat rfl rfl (by simp [digL]) (by simp [digL])) rfl ?_ | refine st_y (y_cat rfl rfl om (by simp [digL])) rfl ?_ | refine sAd rfl rfl om rfl ?_ | refine sLs rfl rfl rfl ?_) | (show oA (.call _); (refine m_call (ent_of Tryd.func37 kr rfl) rfl rfl (fun w c => digits_ok (xs := [F.getD i 0, T.getD i 0]) (c.own_rd (i := 0) rfl) (show 2 ≤ 64 by decide) hd2) ?_; rintro v H' ⟨rfl, rfl⟩)) | (show oA (.buildSlice _ _ _); refine m_buildi tabs [F.getD i 0, T.getD i 0] rfl rfl rfl rfl rfl rfl rfl (fun g5 hg5 => ?_))) | (show oN; first | refine c_nil (x_then ?_) | refine c_nil ?_) | (show oC; first | refine c_seq ?_ | refine c_region ?_ | refine c_skip (x_then ?_) | refine c_block ?_ | refine c_ift rfl aO ?_) | (show AT _ _ _ _; first | refine x_then ?_ | refine x_blk ?_))
        rw [en]
        exact x_nx (i + 1) sB om (fun w' c' => by simpa using c'.sub (.cons _ (List.Sublist.refl _))) om
      · have : i = F.length := by omega
        subst this
        repeat' (first | (show oL; first | refine sMv rfl rfl ?_ | refine sAs rfl rfl ?_ | refine sLs rfl rfl rfl ?_) | refine xNt ?_ | (show oC; first | refine c_seq ?_ | refine c_region ?_ | refine c_ret ?_ | refine c_exit ?_ | refine c_iff rfl nN ?_) | (show AT _ _ _ _; first | refine x_then ?_ | refine x_then_exit ?_ | refine x_blk_exit rfl ?_))
        exact x_ret1 Tryd.results6 (res_tmp rfl) (fun w' c' => ⟨_, _, rfl, ⟨rfl, rfl⟩, c'.sub (List.nil_sublist _)⟩)
  · have e0 : fmtQ (V, F, T) = [] := by rw [fmtQ, if_neg hQ]
    rw [e0]
    refine fn_enter Tryd.func6 rfl Tryd.ntmps6 rfl ?_
    repeat' (first | (show oL; first | refine sAs rfl rfl ?_ | refine sLb 0 tabs rfl rfl rfl rfl rfl ?_ | (show oA (.unOp _ _ _); refine st_y (y_not rfl) rfl ?_) | (show oA (.call _); (refine m_call (ent_of Tryd.func13 kr rfl) rfl rfl (fun w c => impl_IsQuiver_ok (q := (V, F, T)) (c.rd h0) (c.rd h1)) ?_; rw [decide_eq_false hQ]; rintro v H' ⟨rfl, rfl⟩)) | (show oA (.box _ _); refine m_box rfl rfl (fun b hb => ?_))) | refine xNt ?_ | (show oC; first | refine c_seq ?_ | refine c_region ?_ | refine c_ret ?_ | refine c_true rfl ?_) | (show AT _ _ _ _; refine x_then_ret ?_))
    exact x_ret1 Tryd.results6 (res_tmp rfl) (fun w' c' => ⟨_, _, rfl, ⟨rfl, rfl⟩, c'.sub (List.nil_sublist _)⟩)
def rdQ (s : List UInt8) (k : Nat) : Qv := (((s.getD 0 0).toNat : Int) - 48, (List.range k).map (fun i => ((s.getD (3 * i + 3) 0).toNat : Int) - 48), (List.range k).map (fun i => ((s.getD (3 * i + 4) 0).toNat : Int) - 48))
theorem rdQ_len {s : List UInt8} {k : Nat} : (rdQ s k).2.1.length = k ∧ (rdQ s k).2.2.length = k := by simp [rdQ]
theorem rdQ_cand {s : List UInt8} {k : Nat} (h : k = (s.length - 2) / 3) : rdQ s k = candQ s := by subst h; rfl
theorem impl_ParseQuiver_ok {w : World} {s : List UInt8} : Does Tryd.prog 7 [sV s] w (GivesQn (parQ s) (decide (parP s))) := by
  by_cases h0 : s = []
  · have hn : ¬ parP s := fun h => by have := (par_ws h).2.1; rw [h0] at this; simp [spL, spR] at this
    rw [parQ, if_neg hn, decide_eq_false hn]
    subst h0
    refine fn_enter Tryd.func7 rfl Tryd.ntmps7 rfl ?_
    repeat' (first | (show oL; first | refine sMv rfl rfl ?_ | refine sAs rfl rfl ?_ | (show oA (.binOp _ _ _ _ _); refine st_y (y_eqls rfl rfl) rfl ?_) | (show oA (.pick _ _ _); refine st_y (y_pick rfl rfl rfl) rfl ?_) | (show oA (.store _ _ _); refine m_storeb 0 tabs rfl rfl rfl rfl rfl rfl rfl ?_) | (show oA (.alloc _); refine m_alloc tabs rfl rfl (fun b2 hb2 => ?_)) | (show oA (.build _ _); refine st_y (y_bld0 bld_q0) rfl ?_) | refine st_gn rfl rfl rfl ?_) | refine xNt ?_ | (show oC; first | refine c_seq ?_ | refine c_region ?_ | refine c_ret ?_ | refine c_true rfl ?_) | (show AT _ _ _ _; refine x_then_ret ?_))
    exact x_ret2 Tryd.results7 (res_cellb 0 tabs rfl rfl rfl rfl) (res_tmp rfl) (fun w' c' => ⟨_, _, rfl, ⟨none, 0, none, 0, rfl, rfl⟩, Hp.nilp _ _ (Hp.nilp _ _ (c'.sub (List.nil_sublist _)))⟩)
  · have hpos : 0 < s.length := List.length_pos_iff.2 h0
    by_cases hl : s.length ≤ 20
    · have hb0 := (s.getD 0 0).toNat_lt
      refine fn_enter Tryd.func7 rfl Tryd.ntmps7 rfl ?_
      repeat' (first | (show oL; first | refine sMv rfl rfl ?_ | refine sAs rfl rfl ?_ | (show oA (.binOp _ _ _ _ _); first | refine st_y (y_eqls_no rfl rfl h0) rfl ?_ | refine st_y (y_sub rfl rfl (by have := (s.getD ((0 : Int).toNat) 0).toNat_lt; omega)) rfl ?_ | refine st_y (y_gtr rfl rfl) rfl ?_) | (show oA (.call _); refine st_y (y_lens Tryd.underlying9 rfl) rfl ?_) | (show oA (.pick _ _ _); refine st_y (y_pick rfl rfl rfl) rfl ?_) | (show oA (.store _ _ _); refine m_storeb 0 tabs rfl rfl rfl rfl rfl rfl rfl ?_) | (show oA (.alloc _); refine m_alloc tabs rfl rfl (fun b2 hb2 => ?_)) | (show oA (.build _ _); refine st_y (y_bld1 (bld_q1 _) rfl) rfl ?_) | (show oA (.convert _ _ _); refine st_y (y_convk (t := 5) (t' := 3) (k := .u8) (k' := .i64) kr kr kr rfl (byte_i64 _)) rfl ?_) | (show oA (.index _ _ _); refine st_y (y_indexs Tryd.underlying9 rfl rfl om om) rfl ?_) | refine st_gy rfl rfl ?_) | refine xNt ?_ | (show oC; first | refine c_seq ?_ | refine c_region ?_ | refine c_skip (x_then ?_) | refine c_block ?_ | refine c_iff rfl nN ?_))
      rename_i b1 hb1
      refine c_loopH (α := Nat × Option Addr × Nat × Option Addr × Nat) [0, 2, 4] (fun x => [(5, iV (3 * x.1 + 3))]) (fun x => (x.1 = 0 ∨ 3 * x.1 + 2 ≤ s.length)) (fun x => [.own (iT (rdQ s x.1).2.2) (.slice x.2.2.2.1 x.1 x.2.2.2.2), .own (iT (rdQ s x.1).2.1) (.slice x.2.1 x.1 x.2.2.1), .blk b2 #[iV ((s.getD ((0 : Int).toNat) 0).toNat - 48), .slice x.2.1 x.1 x.2.2.1, .slice x.2.2.2.1 x.1 x.2.2.2.2] 26, .blk b1 #[iV 0, .slice none 0 0, .slice none 0 0] 26]) (fun x => s.length + 1 - 3 * x.1) (0, none, 0, none, 0) rfl sB ?_ ?_ ?_
      · exact .inl rfl
      · exact fun w' c' => Hp.nilp _ _ (Hp.nilp _ _ c')
      · rintro ⟨k, aF, cF, aT, cT⟩ hk
        simp only at hk ⊢
        have hlF := (rdQ_len (s := s) (k := k)).1
        have hlT := (rdQ_len (s := s) (k := k)).2
        by_cases hin : 3 * k + 4 < s.length
        · repeat' (first | (show oL; first | refine sMv rfl rfl ?_ | (show oA (.binOp _ _ _ _ _); first | refine sAd rfl rfl om rfl ?_ | refine sLs rfl rfl rfl ?_) | (show oA (.call _); refine st_y (y_lens Tryd.underlying9 rfl) rfl ?_)) | refine xNt ?_ | (show oC; first | refine c_seq ?_ | refine c_region ?_ | refine c_skip (x_then ?_) | refine c_block ?_ | refine c_ift rfl aO ?_))
          refine c_mixR (Hp [] w [.blk b2 #[iV ((s.getD ((0 : Int).toNat) 0).toNat - 48), .slice aF k cF, .slice aT k cT] 26]) 9 kr kr kr kr kr (fun _ c => Hp.drew c) ?_
          refine h_take 0 rfl kr kr kr (by exact y_field tabs rfl rfl rfl) rfl sS ?_
          refine h_take 1 rfl kr kr kr (by exact y_load tabs rfl rfl (hc_blk 0 rfl rfl)) rfl sS ?_
          refine h_take 2 rfl kr kr kr (by exact y_move rfl) rfl sS ?_
          refine h_take 3 rfl kr kr kr (by exact y_move rfl) rfl sS ?_
          refine h_take 4 rfl kr kr kr (by exact y_indexs Tryd.underlying9 rfl rfl om om) rfl sS ?_
          refine h_take 5 rfl kr kr kr (by exact y_convk (t := 5) (t' := 3) (k := .u8) (k' := .i64) kr kr kr rfl (byte_i64 _)) rfl sS ?_
          refine h_take 6 rfl kr kr kr (by exact y_sub rfl rfl (by have := (s.getD ((3 * (k : Int) + 3).toNat) 0).toNat_lt; omega)) rfl sS ?_
          refine h_only 7 rfl kr ?_
          first | (refine m_build1 tabs (us := [iV ((s.getD ((3 * (k : Int) + 3).toNat) 0).toNat - 48)]) rfl rfl rfl rfl (by decide) rfl (fun g5 hg5 => ?_)) | (refine m_pushi 1 tabs rfl rfl rfl rfl rfl om (fun a7 c7 => ?_))
          refine c_nil (x_one (h_keep sS ?_))
          refine h_only 8 rfl kr ?_
          first | (refine m_build1 tabs (us := [iV ((s.getD ((3 * (k : Int) + 3).toNat) 0).toNat - 48)]) rfl rfl rfl rfl (by decide) rfl (fun g5 hg5 => ?_)) | (refine m_pushi 1 tabs rfl rfl rfl rfl rfl om (fun a7 c7 => ?_))
          refine c_nil (x_one (h_keep sS ?_))
          refine h_end kr ?_
          repeat' (first | (show oL; first | refine sFd tabs rfl rfl rfl rfl ?_ | (show oA (.store _ _ _); refine m_storef 2 tabs rfl rfl rfl rfl rfl rfl ?_)) | refine xNt ?_)
          rw [hlF]
          refine c_mixR (Hp [] w [.blk b2 #[iV ((s.getD ((0 : Int).toNat) 0).toNat - 48), .slice a7 (k + 1) c7, .slice aT k cT] 26]) 10 kr kr kr kr kr (fun _ c => Hp.drew c) ?_
          refine h_take 0 rfl kr kr kr (by exact y_field tabs rfl rfl rfl) rfl sS ?_
          refine h_take 1 rfl kr kr kr (by exact y_load tabs rfl rfl (hc_blk 0 rfl rfl)) rfl sS ?_
          refine h_take 2 rfl kr kr kr (by exact y_move rfl) rfl sS ?_
          refine h_take 3 rfl kr kr kr (by exact y_move rfl) rfl sS ?_
          refine h_take 4 rfl kr kr kr (by exact y_add rfl rfl om) rfl sS ?_
          refine h_take 5 rfl kr kr kr (by exact y_indexs Tryd.underlying9 rfl rfl om om) rfl sS ?_
          refine h_take 6 rfl kr kr kr (by exact y_convk (t := 5) (t' := 3) (k := .u8) (k' := .i64) kr kr kr rfl (byte_i64 _)) rfl sS ?_
          refine h_take 7 rfl kr kr kr (by exact y_sub rfl rfl (by have := (s.getD ((3 * (k : Int) + 3 + 1).toNat) 0).toNat_lt; omega)) rfl sS ?_
          refine h_only 8 rfl kr ?_
          first | (refine m_build1 tabs (us := [iV ((s.getD ((3 * (k : Int) + 3 + 1).toNat) 0).toNat - 48)]) rfl rfl rfl rfl (by decide) rfl (fun g5 hg5 => ?_)) | (refine m_pushi 1 tabs rfl rfl rfl rfl rfl om (fun a8 c8 => ?_))
          refine c_nil (x_one (h_keep sS ?_))
          refine h_only 9 rfl kr ?_
          first | (refine m_build1 tabs (us := [iV ((s.getD ((3 * (k : Int) + 3 + 1).toNat) 0).toNat - 48)]) rfl rfl rfl rfl (by decide) rfl (fun g5 hg5 => ?_)) | (refine m_pushi 1 tabs rfl rfl rfl rfl rfl om (fun a8 c8 => ?_))
          refine c_nil (x_one (h_keep sS ?_))
          refine h_end kr ?_
          repeat' (first | (show oL; first | refine sMv rfl rfl ?_ | refine sAs rfl rfl ?_ | refine sFd tabs rfl rfl rfl rfl ?_ | refine sAd rfl rfl om rfl ?_ | (show oA (.store _ _ _); refine m_storef 2 tabs rfl rfl rfl rfl rfl rfl ?_)) | (show oN; first | refine c_nil (x_then ?_) | refine c_nil ?_) | (show oC; refine c_region ?_) | (show AT _ _ _ _; first | refine x_then ?_ | refine x_blk ?_))
          rw [hlT]
          have e3 : (3 * (k : Int) + 3).toNat = 3 * k + 3 := by omega
          have e4 : (3 * (k : Int) + 3 + 1).toNat = 3 * k + 4 := by omega
          rw [e3, e4]
          exact x_nx (k + 1, a7, c7, a8, c8) sB (by simp only; omega) (fun w' c' => by
            have e5 : (rdQ s (k + 1)).2.1 = (rdQ s k).2.1 ++ [((s.getD (3 * k + 3) 0).toNat : Int) - 48] := by simp [rdQ, List.range_succ]
            have e6 : (rdQ s (k + 1)).2.2 = (rdQ s k).2.2 ++ [((s.getD (3 * k + 4) 0).toNat : Int) - 48] := by simp [rdQ, List.range_succ]
            simp only [e5, e6]
            exact c') (by simp only; omega)
        · have hk1 : parP s → k = (s.length - 2) / 3 := fun hp => by
            obtain ⟨q, hq, e⟩ := par_iff.1 hp
            have h9 := congrArg List.length e
            rw [fmtQ, if_pos hq, fmA_len] at h9
            omega
          repeat' (first | (show oL; first | refine sMv rfl rfl ?_ | refine sAs rfl rfl ?_ | refine sLb 2 tabs rfl rfl rfl rfl rfl ?_ | (show oA (.binOp _ _ _ _ _); first | refine st_y (y_neqs rfl rfl) rfl ?_ | refine sAd rfl rfl om rfl ?_ | refine sLs rfl rfl rfl ?_) | (show oA (.call _); first | refine st_y (y_lens Tryd.underlying9 rfl) rfl ?_ | (refine m_call (ent_of Tryd.func6 kr rfl) rfl rfl (fun w c => impl_FormatQuiver_ok (q := rdQ s k) (by have := c.own_rd (i := 1) rfl; exact this) (by have := c.own_rd (i := 0) rfl; exact this)) ?_; rintro v H' ⟨rfl, rfl⟩)) | (show oA (.store _ _ _); refine m_storeb 3 tabs rfl rfl rfl rfl rfl rfl rfl ?_) | (show oA (.build _ _); refine st_y (y_bld0 bld_q0) rfl ?_)) | refine xNt ?_ | (show oC; first | refine c_seq ?_ | refine c_region ?_ | refine c_skip (x_then ?_) | refine c_ret ?_ | refine c_exit ?_ | refine c_iff rfl nN ?_ | refine c_ifnd rfl (fun h => ?_) (fun h => ?_)) | (show AT _ _ _ _; first | refine x_then ?_ | refine x_then_ret ?_ | refine x_then_exit ?_ | refine x_blk_exit rfl ?_))
          · have hn : ¬ parP s := fun hP => by
              have h1 := rdQ_cand (hk1 hP)
              have h2 := hP.2
              rw [← h1] at h2
              exact h h2
            rw [parQ, if_neg hn, decide_eq_false hn]
            exact x_ret2 Tryd.results7 (res_cellb 3 tabs rfl rfl rfl rfl) (res_tmp rfl) (fun w' c' => ⟨_, _, rfl, ⟨none, 0, none, 0, rfl, rfl⟩, Hp.nilp _ _ (Hp.nilp _ _ (c'.sub (List.nil_sublist _)))⟩)
          · have he : fmtQ (rdQ s k) = s := by first | exact Decidable.not_not.1 h | exact h
            have hQ : QuivP (rdQ s k) := Decidable.by_contra (fun hq => by
              rw [fmtQ, if_neg hq] at he
              exact h0 he.symm)
            have eQ : parQ s = rdQ s k := by
              have := parQ_fmt hQ
              rwa [he] at this
            rw [eQ, decide_eq_true (par_iff.2 ⟨_, hQ, he⟩)]
            exact x_ret2 Tryd.results7 (res_cellb 3 tabs rfl rfl rfl rfl) (res_tmp rfl) (fun w' c' => ⟨_, _, rfl, ⟨aF, cF, aT, cT, by rw [hlF, hlT]; rfl, rfl⟩, by rw [hlF, hlT]; exact c'.sub (.cons_cons _ (.cons_cons _ (List.nil_sublist _)))⟩)
    · have hn : ¬ parP s := fun h => by have := (par_ws h).1; omega
      rw [parQ, if_neg hn, decide_eq_false hn]
      refine fn_enter Tryd.func7 rfl Tryd.ntmps7 rfl ?_
      repeat' (first | (show oL; first | refine sMv rfl rfl ?_ | refine sAs rfl rfl ?_ | (show oA (.binOp _ _ _ _ _); first | refine st_y (y_eqls_no rfl rfl h0) rfl ?_ | refine st_y (y_gtr rfl rfl) rfl ?_) | (show oA (.call _); refine st_y (y_lens Tryd.underlying9 rfl) rfl ?_) | (show oA (.pick _ _ _); refine st_y (y_pick rfl rfl rfl) rfl ?_) | (show oA (.store _ _ _); refine m_storeb 0 tabs rfl rfl rfl rfl rfl rfl rfl ?_) | (show oA (.alloc _); refine m_alloc tabs rfl rfl (fun b2 hb2 => ?_)) | (show oA (.build _ _); refine st_y (y_bld0 bld_q0) rfl ?_) | refine st_gy rfl rfl ?_) | refine xNt ?_ | (show oC; first | refine c_seq ?_ | refine c_region ?_ | refine c_ret ?_ | refine c_ift rfl aO ?_) | (show AT _ _ _ _; refine x_then_ret ?_))
      exact x_ret2 Tryd.results7 (res_cellb 0 tabs rfl rfl rfl rfl) (res_tmp rfl) (fun w' c' => ⟨_, _, rfl, ⟨none, 0, none, 0, rfl, rfl⟩, Hp.nilp _ _ (Hp.nilp _ _ (c'.sub (List.nil_sublist _)))⟩)
end Go.Proofs.YtdnhmnnccfoliaaDoor

namespace Go.Lg
open Go.RowKit
def MC (M : List Nat) (w0 : World) (H : List HE) (g : Nat) (es : Array MapEntry) (c : Nat) (w : World) : Prop :=
  (∃ fp, satL w H fp ∧ fp.Nodup ∧ (∀ b ∈ fp, b ∈ M ∨ w0.heap.size ≤ b) ∧ Kept M w0 w ∧ g ∉ fp) ∧ w.heap[g]? = some (.map es c) ∧ w0.heap.size ≤ g ∧ g ∉ M
theorem isk (b : ByteArray) : MapKept.IsKey .string (.string b) := by unfold MapKept.IsKey; trivial
section
variable {P : Program} {n : Nat} {s : List (Nat × Value)} {Q : Exit → Act → World → Prop} {ops : Array Oper} {rest : List Oper} {d ty t : Nat} {pos : String} {af : Array Edge} {m x y : Operand} {M : List Nat} {w0 : World} {H : List HE} {es : Array MapEntry} {g c : Nat}
theorem MC.hp {w : World} (h : MC M w0 H g es c w) : Hp M w0 H w := by
  obtain ⟨⟨fp, h1, h2, h3, h4, _⟩, _⟩ := h
  exact ⟨fp, h1, h2, h3, h4⟩
theorem Hp.mkmap {w : World} (hM : M = []) (h : Hp M w0 H w) : MC M w0 H w.heap.size #[] 0 (w.alloc (.map #[] 0)) := by
  subst hM
  obtain ⟨fp, s, nd, ge, k⟩ := h
  have hb : Below w.heap.size w (w.alloc (.map #[] 0)) := (Below.refl _ _).alloc (Nat.le_refl _) _
  refine ⟨⟨fp, s.loc (fun b hm => hb.block b (s.lt b hm)), nd, ge, ⟨hb.os.trans k.os, hb.tape.trans k.tape, hb.output.trans k.output, Nat.le_trans k.size hb.size, fun j hj hm => ?_⟩, fun hm => Nat.lt_irrefl _ (s.lt _ hm)⟩, (MapKept.heap_alloc w _).1, k.size, by simp⟩
  rw [hb.block j (Nat.lt_of_lt_of_le hj k.size)]
  exact k.block j hj hm
theorem MC.put {w : World} (h : MC M w0 H g es c w) (es' : Array MapEntry) (c' : Nat) : MC M w0 H g es' c' { w with heap := w.heap.setIfInBounds g (.map es' c') } := by
  obtain ⟨⟨fp, s, nd, ge, k, hg⟩, hb, hg0, hgM⟩ := h
  have hs := MapKept.heap_set (o' := .map es' c') hb
  refine ⟨⟨fp, s.loc (fun b hm => hs.2 b (fun e => hg (e ▸ hm))), nd, ge, ⟨k.os, k.tape, k.output, by simpa using k.size, fun j hj hm => ?_⟩, hg⟩, hs.1, hg0, hgM⟩
  rw [← k.block j hj hm]
  exact hs.2 j om
theorem m_mkmap (hM : M = []) (hd : Nat.blt d n = true)
    (h : ∀ g, AT n (MC M w0 H g #[] 0) ((d, .map (some g)) :: s) (wpList P ops Q rest)) :
    AT n (Hp M w0 H) s (wpList P ops Q (⟨some d, .makeMap t none, ty, pos, af, none⟩ :: rest)) := fun a w f cw => by
  refine wpList_one rfl ?_
  unfold Oper.wp
  have : (execOp a.eval ⟨some d, .makeMap t none, ty, pos, af, none⟩).run P w = .ok (.value (.map (some w.heap.size))) (w.alloc (.map #[] 0)) := by
    simp [execOp, run_makeMap]
  rw [this]
  exact h _ _ _ (f.put (by simpa [Nat.blt_eq] using hd) _) (cw.mkmap hM)
theorem m_insert {kt et : Nat} {key : ByteArray} {v : Value} (ht : P.underlying t = some (.map kt et)) (hkt : P.underlying kt = some .string) (hm : ev s m = some (.map (some g))) (hx : ev s x = some (.string key)) (hy : ev s y = some v) (hf : Instr.findNow .string (.string key) es.toList 0 = some none)
    (h : AT n (MC M w0 H g (es.push ⟨.string key, v, c⟩) (c + 1)) s (wpList P ops Q rest)) :
    AT n (MC M w0 H g es c) s (wpList P ops Q (⟨none, .insert t m x y, ty, pos, af, none⟩ :: rest)) := st_skip (fun a w f cw => by
  refine ⟨_, cw.put (es.push ⟨.string key, v, c⟩) (c + 1), ?_⟩
  have hb := cw.2.1
  simp [execOp, f.ev hm, f.ev hx, f.ev hy, Instr.mapUpdate, run_underlying ht, MapKept.run_getObj_map hb, MapKept.run_checkKey hkt (isk _), MapKept.run_findKey hkt hf, MapKept.run_setObj_map _ hb]) h
theorem y_lookup {C : World → Prop} {kt et : Nat} {key : ByteArray} {z v : Value} {r : Option (Nat × Value)} (ht : P.underlying t = some (.map kt et)) (hkt : P.underlying kt = some .string) (hz : ∀ w, (zeroValue et).run P w = .ok z w) (hg : ∀ w, C w → w.heap[g]? = some (.map es c)) (hm : ev s m = some (.map (some g))) (hx : ev s x = some (.string key)) (hf : Instr.findNow .string (.string key) es.toList 0 = some r) (hv : v = (r.map (·.2)).getD z) :
    Y P n C s (.lookup t m x false) ty v := fun a w f cw d pos af gg => by
  subst hv
  have hb := hg w cw
  cases r with
  | none => simp [execOp, f.ev hm, f.ev hx, Instr.lookup, run_underlying ht, MapKept.run_getObj_map hb, MapKept.run_checkKey hkt (isk _), MapKept.run_findKey hkt hf, hz]
  | some p => simp [execOp, f.ev hm, f.ev hx, Instr.lookup, run_underlying ht, MapKept.run_getObj_map hb, MapKept.run_checkKey hkt (isk _), MapKept.run_findKey hkt hf]
end
end Go.Lg
namespace Go.Proofs.YtdnhmnnccfoliaaDoor
open Go.Lg Go.Proofs Go.RowKit
attribute [local irreducible] Code.wp wpList bodyPost Exit.then Exit.inBlock Hp Again Calls Y AT ResV QT Qn QI wpAny wpAnyQ
set_option maxRecDepth 20000
set_option maxHeartbeats 4000000
def ents : List (List UInt8 × List UInt8) → Nat → List MapEntry
  | [], _ => []
  | (k, v) :: r, c => ⟨sV k, sV v, c⟩ :: ents r (c + 1)
def lookL (s : List UInt8) : List (List UInt8 × List UInt8) → Option (List UInt8)
  | [] => none
  | (k, v) :: r => if s = k then some v else lookL s r
theorem find_ents (s : List UInt8) : ∀ (l : List (List UInt8 × List UInt8)) (c i : Nat), ∃ r, Instr.findNow .string (sV s) (ents l c) i = some r ∧ r.map (·.2) = (lookL s l).map sV
  | [], _, _ => ⟨none, rfl, rfl⟩
  | (k, v) :: r, c, i => by
    by_cases h : s = k
    · refine ⟨some (i, sV v), ?_, by rw [lookL, if_pos h]; rfl⟩
      subst h
      have e : ((⟨s.toArray⟩ : ByteArray) == ⟨s.toArray⟩) = true := (MapKept.bytes_beq _ _).2 rfl
      rw [ents, Instr.findNow]
      simp only [sV, Instr.sameNow, e]
    · obtain ⟨x, h1, h2⟩ := find_ents s r (c + 1) (i + 1)
      refine ⟨x, ?_, by rw [lookL, if_neg h]; exact h2⟩
      have e : ((⟨s.toArray⟩ : ByteArray) == ⟨k.toArray⟩) = false := by
        rw [Bool.eq_false_iff]
        intro e
        have := (MapKept.bytes_beq _ _).1 e
        exact h (by simpa using this)
      rw [ents, Instr.findNow]
      simp only [sV] at h1 ⊢
      simp only [Instr.sameNow, e]
      exact h1
def nmP : List (List UInt8 × List UInt8) := [([65, 49], [49, 58]), ([65, 50], [50, 58, 32, 48, 49]), ([65, 51], [51, 58, 32, 48, 49, 32, 49, 50]), ([65, 51, 105, 110], [51, 58, 32, 48, 49, 32, 50, 49]), ([65, 52], [52, 58, 32, 48, 49, 32, 49, 50, 32, 50, 51]), ([68, 52], [52, 58, 32, 48, 51, 32, 49, 51, 32, 50, 51]), ([68, 53], [53, 58, 32, 48, 50, 32, 49, 50, 32, 50, 51, 32, 51, 52]), ([75, 50], [50, 58, 32, 48, 49, 32, 48, 49]), ([115, 116, 97, 114, 52], [53, 58, 32, 48, 52, 32, 49, 52, 32, 50, 52, 32, 51, 52]), ([115, 113, 117, 97, 114, 101], [52, 58, 32, 48, 49, 32, 48, 50, 32, 49, 51, 32, 50, 51]), ([108, 111, 111, 112], [49, 58, 32, 48, 48]), ([99, 105, 114, 99, 108, 101], [51, 58, 32, 48, 49, 32, 49, 50, 32, 50, 48])]
theorem getD_ite {c : Prop} [Decidable c] {a d : List UInt8} {b : Option (List UInt8)} : (if c then some a else b).getD d = if c then a else b.getD d := by split <;> rfl
theorem look_nm (s : List UInt8) : (lookL s nmP).getD [] = nmX s := by
  simp only [nmP, lookL, nmX, getD_ite]
  rfl
theorem nm_find (s : List UInt8) : ∃ r, Instr.findNow .string (sV s) (ents nmP 0) 0 = some r ∧ sV (nmX s) = (r.map (·.2)).getD (sV []) := by
  obtain ⟨r, h1, h2⟩ := find_ents s nmP 0 0
  refine ⟨r, h1, ?_⟩
  rw [← look_nm, h2]
  cases lookL s nmP with
  | none => rfl
  | some v => rfl
theorem impl_NamedQuiver_ok {w : World} {s : List UInt8} : Does Tryd.prog 26 [sV s] w (GivesQn (parQ (nmX s)) (decide (parP (nmX s)))) := by
  obtain ⟨r, hr, hv⟩ := nm_find s
  refine fn_enter Tryd.func26 rfl Tryd.ntmps26 rfl ?_
  repeat' (first | (show oL; first | refine sAs rfl rfl ?_ | (show oA (.alloc _); refine m_alloc tabs rfl rfl (fun b2 hb2 => ?_))) | refine xNt ?_ | (show oC; first | refine c_seq ?_ | refine c_region ?_))
  refine m_mkmap rfl rfl (fun g => ?_)
  iterate 12 refine m_insert Tryd.underlying65 Tryd.underlying9 rfl rfl rfl kr ?_
  repeat' (first | (show oL; first | refine sMv rfl rfl ?_ | refine sAs rfl rfl ?_) | refine xNt ?_ | (show oC; first | refine c_seq ?_ | refine c_region ?_))
  refine st_y (y_lookup (r := r) (v := sV (nmX s)) Tryd.underlying65 Tryd.underlying9 (z := sV []) (fun w => by kernel_rfl) (fun w c => c.2.1) rfl rfl hr hv) rfl ?_
  refine AT.cls (fun w c => c.hp) ?_
  repeat' (first | (show oL; first | refine sAs rfl rfl ?_ | (show oA (.call _); (refine m_call (ent_of Tryd.func7 kr rfl) rfl rfl (fun w c => impl_ParseQuiver_ok (s := nmX s)) ?_; rintro v H' ⟨aF, cF, aT, cT, rfl, rfl⟩)) | (show oA (.extract _ _); refine st_y (y_ext rfl rfl) rfl ?_) | (show oA (.store _ _ _); refine m_storeb 2 tabs rfl rfl rfl rfl rfl rfl rfl ?_)) | refine xNt ?_ | (show oC; refine c_ret ?_))
  exact x_ret2 Tryd.results26 (res_cellb 2 tabs rfl rfl rfl rfl) (res_tmp rfl) (fun w' c' => ⟨_, _, rfl, ⟨aF, cF, aT, cT, rfl, rfl⟩, c'.sub (.cons_cons _ (.cons_cons _ (List.nil_sublist _)))⟩)
end Go.Proofs.YtdnhmnnccfoliaaDoor
