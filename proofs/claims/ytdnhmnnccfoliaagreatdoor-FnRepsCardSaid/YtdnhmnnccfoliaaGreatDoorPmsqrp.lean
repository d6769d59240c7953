import Derived.Test.YtdnhmnnccfoliaaGreatDoorFmmqrp
import Derived.Test.YtdnhmnnccfoliaaGreatDoorPmpqrp
import Derived.Test.YtdnhmnnccfoliaaGreatDoorQscqrp
import Derived.Test.YtdnhmnnccfoliaaGreatDoorSpbqrp
namespace Go.Proofs.YtdnhmnnccfoliaaGreatDoor
open Go.Lg Go.Proofs Go.RowKit
attribute [local irreducible] Code.wp wpList bodyPost Exit.then Exit.inBlock Hp Again Calls Y AT ResV QT Qn QI wpAny wpAnyQ
set_option maxRecDepth 20000
set_option maxHeartbeats 4000000

theorem body_len2 {C : Nat} {xs : List Int} (hC : 0 < C) : ∀ i, (bodyN C xs (i + 1)).length ≤ (i + 1) + i / C
  | 0 => by simp [bodyN]
  | i + 1 => by
    have ih := body_len2 (xs := xs) hC i
    rw [bodyN, List.length_append, List.length_append, List.length_singleton]
    by_cases h : 0 < i + 1 ∧ (i + 1) % C = 0
    · rw [if_pos h]
      have h1 : (i + 1) / C * C = i + 1 := Nat.div_mul_cancel (Nat.dvd_of_mod_eq_zero h.2)
      have h2 : i / C * C ≤ i := Nat.div_mul_le_self i C
      have h3 : i / C < (i + 1) / C := Nat.lt_of_mul_lt_mul_right (a := C) om
      simp only [List.length_cons, List.length_nil]
      omega
    · rw [if_neg h]
      have h3 : i / C ≤ (i + 1) / C := Nat.div_le_div_right om
      simp only [List.length_nil]
      omega
theorem body_le {p : Int} {m : Mat} (h : MatP p m) : (bodyN m.2.1.toNat m.2.2 m.2.2.length).length ≤ 72 := by
  obtain ⟨R, C, f, rfl, hR, hC, hF, hin⟩ := matP_mk h
  simp only [mk_length, Int.toNat_natCast]
  rcases Nat.eq_zero_or_pos C with h0 | h0
  · subst h0; rw [Nat.mul_zero]; simp [bodyN]
  · rcases Nat.eq_zero_or_pos R with r0 | r0
    · subst r0; rw [Nat.zero_mul]; simp [bodyN]
    · obtain ⟨n, hn⟩ : ∃ n, R * C = n + 1 := ⟨R * C - 1, by have := Nat.mul_pos r0 h0; omega⟩
      have h1 := body_len2 (xs := mk R C f) h0 n
      have h2 : n / C < R := Nat.div_lt_of_lt_mul (by rw [Nat.mul_comm]; omega)
      have h3 : R * C ≤ 8 * 8 := Nat.mul_le_mul hR hC
      rw [hn]
      omega
theorem fmtM_bd {p : Int} {m : Mat} (h : MatP p m) : 4 ≤ (fmtM p m).length ∧ (fmtM p m).length ≤ 76 := by
  have := body_le h
  rw [fmtM_eq h]
  simp only [List.length_cons]
  omega
theorem parM_bd {p : Int} {s : List UInt8} (h : parM p s) : 4 ≤ s.length ∧ s.length ≤ 76 ∧ FieldP p := by
  have h1 := fmtM_bd h.1
  rw [h.2] at h1
  exact ⟨h1.1, h1.2, h.1.2.2.2.1⟩
theorem parM_no {p : Int} {s : List UInt8} {v : Value} {H : List HE} (hn : ¬ parM p s) (hv : v = .tuple #[.agg #[iV 0, iV 0, .slice none 0 0], .bool false]) (hH : H = [.own (iT []) (.slice none 0 0)]) : GivesMB (parML p s) (decide (parM p s)) v H := by
  rw [parML, if_neg hn, decide_eq_false hn]
  exact ⟨none, 0, hv, .inl rfl, hH⟩
theorem cells_next {B : List UInt8} {k : Nat} (h : k < B.length) : cellsS (B.take (k + 1)) = if B.getD k 0 = 47 then cellsS (B.take k) else cellsS (B.take k) ++ [((B.getD k 0).toNat : Int) - 48] := by
  have e : B.take (k + 1) = B.take k ++ [B.getD k 0] := by
    rw [List.take_add_one]
    simp [List.getD, h]
  rw [e, cellsS_app]
  by_cases hx : B.getD k 0 = 47
  · rw [if_pos hx, hx]; simp [cellsS]
  · rw [if_neg hx]
    congr 1
    generalize B.getD k 0 = x at hx ⊢
    simp [cellsS, hx]
theorem cells_le (B : List UInt8) : (cellsS B).length ≤ B.length := by
  unfold cellsS
  rw [List.length_map]
  exact List.length_filter_le _ _
theorem drop_get {s : List UInt8} {k : Nat} : (s.drop 4).getD k 0 = s.getD (4 + k) 0 := by
  rw [List.getD, List.getElem?_drop]; rfl
theorem y_indexc {P : Program} {n : Nat} {C : World → Prop} {sl : List (Nat × Value)} {t ty : Nat} {x y : Operand} {a : List UInt8} {i : Int} {j : Nat} (ht : P.underlying t = some .string) (hx : ev sl x = some (sV a)) (hy : ev sl y = some (.int .i64 i)) (hi : i = (j : Int)) (h1 : j < a.length) : Y P n C sl (.index t x y) ty (bV (a.getD j 0)) := by
  subst hi
  have := y_indexs (P := P) (n := n) (C := C) (ty := ty) ht hx hy om om
  rw [Int.toNat_natCast] at this
  exact this
theorem spec_ParseMatrix_ok {w : World} {p : Int} {s : List UInt8} (hl : s.length ≤ 2000000) : Does Tryz.prog 20 [iV p, sV s] w (GivesMB (parML p s) (decide (parM p s))) := by
  have hbd := parM_bd (p := p) (s := s)
  have tok0 : True := trivial
  by_cases hq : 4 ≤ s.length ∧ s.length ≤ 90 ∧ FieldP p
  · obtain ⟨q1, q2, q3⟩ := hq
    refine fn_enter Tryz.func20 rfl Tryz.ntmps20 rfl ?_
    repeat' (first | (show oL; first | refine sMv rfl rfl ?_ | refine sAs rfl rfl ?_ | (show oA (.binOp _ _ _ _ _); first | refine sLs rfl rfl rfl ?_ | refine st_y (y_gtr rfl rfl) rfl ?_) | (show oA (.unOp _ _ _); refine st_y (y_not rfl) rfl ?_) | (show oA (.call _); first | refine st_y (y_lens Tryz.underlying9 rfl) rfl ?_ | (refine m_call (ent_of Tryz.func76 kr rfl) rfl rfl (fun w c => spec_IsField_ok p) ?_; rw [decide_eq_true q3]; rintro v H' ⟨rfl, rfl⟩)) | (show oA (.pick _ _ _); refine st_y (y_pickf rfl aO rfl) rfl ?_) | (show oA (.alloc _); (have _t := tok0; refine m_alloc tabs rfl rfl (fun b4 hb4 => ?_); clear _t tok0)) | refine st_gfy rfl rfl aO ?_) | refine xNt ?_ | (show oC; first | refine c_seq ?_ | refine c_region ?_ | refine c_skip (x_then ?_) | refine c_false rfl ?_))
    refine c_all (Hp [] w []) kr (fun _ c => Hp.drew c) ?_
    refine h_take 0 rfl kr kr kr (by exact y_move rfl) rfl (fun w c => by exact c.drop) ?_
    refine h_take 1 rfl kr kr kr (by exact y_indexs Tryz.underlying9 rfl rfl om om) rfl (fun w c => by exact c.drop) ?_
    refine h_take 2 rfl kr kr kr (by exact y_convk (t := 5) (t' := 3) (k := .u8) (k' := .i64) kr kr kr rfl (byte_i64 _)) rfl (fun w c => by exact c.drop) ?_
    refine h_take 3 rfl kr kr kr (by exact y_sub rfl rfl (by have := (s.getD ((0 : Int).toNat) 0).toNat_lt; have := (s.getD ((2 : Int).toNat) 0).toNat_lt; omega)) rfl (fun w c => by exact c.drop) ?_
    refine h_take 4 rfl kr kr kr (by exact y_move rfl) rfl (fun w c => by exact c.drop) ?_
    refine h_take 5 rfl kr kr kr (by exact y_indexs Tryz.underlying9 rfl rfl om om) rfl (fun w c => by exact c.drop) ?_
    refine h_take 6 rfl kr kr kr (by exact y_convk (t := 5) (t' := 3) (k := .u8) (k' := .i64) kr kr kr rfl (byte_i64 _)) rfl (fun w c => by exact c.drop) ?_
    refine h_take 7 rfl kr kr kr (by exact y_sub rfl rfl (by have := (s.getD ((0 : Int).toNat) 0).toNat_lt; have := (s.getD ((2 : Int).toNat) 0).toNat_lt; omega)) rfl (fun w c => by exact c.drop) ?_
    refine h_take 8 rfl kr kr kr (by exact y_bld2 (bld_mat20 _ _) rfl rfl) rfl (fun w c => by exact c.drop) ?_
    refine h_only 9 rfl kr ?_
    first | (refine m_storeb 0 tabs rfl rfl rfl rfl rfl rfl rfl ?_) | (refine m_alloc tabs rfl rfl (fun b6 hb6 => ?_)) | (refine m_storeb 0 tabs rfl rfl rfl rfl rfl rfl rfl ?_)
    refine c_nil (x_one (h_keep (fun w c => by exact c.drop.drop) ?_))
    refine h_only 10 rfl kr ?_
    first | (refine m_storeb 0 tabs rfl rfl rfl rfl rfl rfl rfl ?_) | (refine m_alloc tabs rfl rfl (fun b6 hb6 => ?_)) | (refine m_storeb 0 tabs rfl rfl rfl rfl rfl rfl rfl ?_)
    refine c_nil (x_one (h_keep (fun w c => by exact c.drop.drop) ?_))
    refine h_end kr ?_
    repeat' (first | (show oL; first | refine sAs rfl rfl ?_) | refine xNt ?_ | (show oC; first | refine c_seq ?_ | refine c_region ?_ | refine c_block ?_) | (show AT _ _ _ _; refine x_then ?_))
    refine c_loopH (α := Nat × Option Addr × Nat) [0, 1, 4, 6] (fun x => [(7, iV ((4 : Int) + x.1))]) (fun x => x.1 + 4 ≤ s.length) (fun x => [.blk b6 #[iV (candM s).1, iV (candM s).2.1, .slice x.2.1 (cellsS ((s.drop 4).take x.1)).length x.2.2] 41, .own (iT (cellsS ((s.drop 4).take x.1))) (.slice x.2.1 (cellsS ((s.drop 4).take x.1)).length x.2.2), .blk b4 #[iV 0, iV 0, .slice none 0 0] 41]) (fun x => s.length - x.1) (0, none, 0) rfl sB ?_ ?_ ?_
    · exact q1
    · exact fun w' c' => (Hp.nilp _ _ c').swap
    · rintro ⟨k, ak, ck⟩ hk
      simp only at hk ⊢
      have hcl : (cellsS ((s.drop 4).take k)).length ≤ 90 := Nat.le_trans (cells_le _) (by rw [List.length_take, List.length_drop]; omega)
      by_cases hin : k + 4 < s.length
      · have hnx := cells_next (B := s.drop 4) (k := k) (by rw [List.length_drop]; omega)
        rw [drop_get] at hnx
        have hb := (s.getD (4 + k) 0).toNat_lt
        by_cases hx : s.getD (4 + k) 0 = 47
        · have hx2 : ((s.getD (4 + k) 0).toNat : Int) = 47 := by rw [hx]; rfl
          rw [if_pos hx] at hnx
          repeat' (first | (show oL; first | refine sMv rfl rfl ?_ | refine sAs rfl rfl ?_ | (show oA (.binOp _ _ _ _ _); first | refine st_y (y_neqk rfl rfl) rfl ?_ | refine sAd rfl rfl om rfl ?_ | refine sLs rfl rfl rfl ?_) | (show oA (.call _); refine st_y (y_lens Tryz.underlying9 rfl) rfl ?_) | (show oA (.index _ _ _); refine st_y (y_indexc (j := 4 + k) Tryz.underlying9 rfl rfl om om) rfl ?_)) | refine xNt ?_ | (show oC; first | refine c_seq ?_ | refine c_region ?_ | refine c_skip (x_then ?_) | refine c_skip (x_blk ?_) | refine c_block ?_ | refine c_ift rfl aO ?_ | refine c_iff rfl nN ?_) | (show AT _ _ _ _; refine x_then ?_))
          exact x_nx (k + 1, ak, ck) sB (by simp only; omega) (fun w' c' => by simp only [hnx]; exact c') (by simp only; omega)
        · have hx2 : ((s.getD (4 + k) 0).toNat : Int) ≠ 47 := fun e => hx (UInt8.toNat_inj.1 (show (s.getD (4 + k) 0).toNat = 47 by omega))
          rw [if_neg hx] at hnx
          repeat' (first | (show oL; first | refine sMv rfl rfl ?_ | (show oA (.binOp _ _ _ _ _); first | refine st_y (y_neqk rfl rfl) rfl ?_ | refine sLs rfl rfl rfl ?_) | (show oA (.call _); refine st_y (y_lens Tryz.underlying9 rfl) rfl ?_) | (show oA (.index _ _ _); refine st_y (y_indexc (j := 4 + k) Tryz.underlying9 rfl rfl om om) rfl ?_)) | refine xNt ?_ | (show oC; first | refine c_seq ?_ | refine c_region ?_ | refine c_skip (x_then ?_) | refine c_block ?_ | refine c_ift rfl aO ?_))
          refine c_mixR (Hp [] w [.blk b6 #[iV (candM s).1, iV (candM s).2.1, .slice ak (cellsS ((s.drop 4).take k)).length ck] 41]) 9 kr kr kr kr kr (fun _ c => Hp.drew c) ?_
          refine h_take 0 rfl kr kr kr (by exact y_field tabs rfl rfl rfl) rfl sS ?_
          refine h_take 1 rfl kr kr kr (by exact y_load tabs rfl rfl (hc_blk 0 rfl rfl)) rfl sS ?_
          refine h_take 2 rfl kr kr kr (by exact y_move rfl) rfl sS ?_
          refine h_take 3 rfl kr kr kr (by exact y_move rfl) rfl sS ?_
          refine h_take 4 rfl kr kr kr (by exact y_indexc (j := 4 + k) Tryz.underlying9 rfl rfl om om) rfl sS ?_
          refine h_take 5 rfl kr kr kr (by exact y_convk (t := 5) (t' := 3) (k := .u8) (k' := .i64) kr kr kr rfl (byte_i64 _)) rfl sS ?_
          refine h_take 6 rfl kr kr kr (by exact y_sub rfl rfl om) rfl sS ?_
          refine h_only 7 rfl kr ?_
          first | (refine m_build1 tabs (us := [iV (((s.getD (4 + k) 0).toNat : Int) - 48)]) rfl rfl rfl rfl (by decide) rfl (fun g7 hg7 => ?_)) | (refine m_pushi 1 tabs rfl rfl rfl rfl rfl om (fun a8 c8 => ?_))
          refine c_nil (x_one (h_keep sS ?_))
          refine h_only 8 rfl kr ?_
          first | (refine m_build1 tabs (us := [iV (((s.getD (4 + k) 0).toNat : Int) - 48)]) rfl rfl rfl rfl (by decide) rfl (fun g7 hg7 => ?_)) | (refine m_pushi 1 tabs rfl rfl rfl rfl rfl om (fun a8 c8 => ?_))
          refine c_nil (x_one (h_keep sS ?_))
          refine h_end kr ?_
          repeat' (first | (show oL; first | refine sMv rfl rfl ?_ | refine sAs rfl rfl ?_ | refine sFd tabs rfl rfl rfl rfl ?_ | refine sAd rfl rfl om rfl ?_ | (show oA (.store _ _ _); refine m_storef 1 tabs rfl rfl rfl rfl rfl rfl ?_)) | (show oN; first | refine c_nil (x_then ?_) | refine c_nil ?_) | (show oC; refine c_region ?_) | (show AT _ _ _ _; first | refine x_then ?_ | refine x_blk ?_))
          exact x_nx (k + 1, a8, c8) sB (by simp only; omega) (fun w' c' => by simp only [hnx, List.length_append, List.length_singleton]; exact c'.swap) (by simp only; omega)
      · have eB : (s.drop 4).take k = s.drop 4 := List.take_of_length_le (by rw [List.length_drop]; omega)
        rw [eB]
        refine AT.fact (own_sl 1 rfl) (fun hsl => ?_)
        obtain ⟨_, _, e1, hsl⟩ := hsl
        cases e1
        repeat' (first | (show oL; first | refine sMv rfl rfl ?_ | refine sAs rfl rfl ?_ | refine sLb 0 tabs rfl rfl rfl rfl rfl ?_ | (show oA (.binOp _ _ _ _ _); first | refine st_y (y_neqs rfl rfl) rfl ?_ | refine sLs rfl rfl rfl ?_) | (show oA (.call _); first | refine st_y (y_lens Tryz.underlying9 rfl) rfl ?_ | (refine m_call (ent_of Tryz.func21 kr rfl) rfl rfl (fun w c => spec_FormatMatrix_ok (m := candM s) (c.own_rd (i := 1) rfl)) ?_; rintro v H' ⟨rfl, rfl⟩)) | (show oA (.store _ _ _); refine m_storeb 2 tabs rfl rfl rfl rfl rfl rfl rfl ?_) | (show oA (.build _ _); refine st_y (y_bld0 bld_mat0) rfl ?_)) | refine xNt ?_ | (show oC; first | refine c_seq ?_ | refine c_region ?_ | refine c_skip (x_then ?_) | refine c_ret ?_ | refine c_exit ?_ | refine c_iff rfl nN ?_ | refine c_ifnd rfl (fun h => ?_) (fun h => ?_)) | (show AT _ _ _ _; first | refine x_then ?_ | refine x_then_ret ?_ | refine x_then_exit ?_ | refine x_blk_exit rfl ?_))
        · have hn : ¬ parM p s := fun hP => h hP.2
          exact x_ret2 Tryz.results20 (res_cellb 2 tabs rfl rfl rfl rfl) (res_tmp rfl) (fun w' c' => ⟨_, _, rfl, parM_no hn rfl rfl, Hp.nilp _ _ (c'.sub (List.nil_sublist _))⟩)
        · have he : fmtM p (candM s) = s := by first | exact Decidable.not_not.1 h | exact h
          have hM : MatP p (candM s) := Decidable.by_contra (fun hm => by
            rw [fmtM, if_neg hm] at he
            have := congrArg List.length he
            simp at this
            omega)
          have hP : parM p s := ⟨hM, he⟩
          rw [parML, if_pos hP, decide_eq_true hP]
          exact x_ret2 Tryz.results20 (res_cellb 2 tabs rfl rfl rfl rfl) (res_tmp rfl) (fun w' c' => ⟨_, _, rfl, ⟨ak, ck, rfl, hsl, rfl⟩, c'.sub (.cons _ (.cons_cons _ (List.nil_sublist _)))⟩)
  · have hn : ¬ parM p s := fun h => hq (by have := hbd h; exact ⟨by omega, by omega, this.2.2⟩)
    refine fn_enter Tryz.func20 rfl Tryz.ntmps20 rfl ?_
    repeat' (first | (show oL; first | refine sMv rfl rfl ?_ | refine sAs rfl rfl ?_ | (show oA (.binOp _ _ _ _ _); first | refine sLs rfl rfl rfl ?_ | refine st_y (y_gtr rfl rfl) rfl ?_) | (show oA (.unOp _ _ _); refine st_y (y_notd rfl) rfl ?_) | (show oA (.call _); first | refine st_y (y_lens Tryz.underlying9 rfl) rfl ?_ | (refine m_call (ent_of Tryz.func76 kr rfl) rfl rfl (fun w c => spec_IsField_ok p) ?_; rintro v H' ⟨rfl, rfl⟩)) | (show oA (.pick _ _ _); first | refine st_y (y_pickt rfl aO rfl) rfl ?_ | refine st_y (y_pickf rfl aO rfl) rfl ?_ | refine st_y (y_pick rfl rfl rfl) rfl ?_) | (show oA (.store _ _ _); refine m_storeb 0 tabs rfl rfl rfl rfl rfl rfl rfl ?_) | (show oA (.alloc _); (have _t := tok0; refine m_alloc tabs rfl rfl (fun b4 hb4 => ?_); clear _t tok0)) | (show oA (.build _ _); refine st_y (y_bld0 bld_mat0) rfl ?_) | refine st_gn rfl rfl rfl ?_ | refine st_gfy rfl rfl aO ?_ | refine st_gfn rfl rfl aO rfl ?_ | refine st_gd rfl rfl (fun h => ?_) (fun h => ?_)) | refine xNt ?_ | (show oC; first | refine c_seq ?_ | refine c_region ?_ | refine c_skip (x_then ?_) | refine c_ret ?_ | refine c_true rfl ?_ | refine c_ifnd rfl (fun h => ?_) (fun h => ?_)) | (show AT _ _ _ _; refine x_then_ret ?_))
    all_goals first | (exfalso; omega) | (exact absurd ⟨by omega, by omega, by first | assumption | exact Decidable.not_not.1 aS⟩ hq) | exact x_ret2 Tryz.results20 (res_cellb 0 tabs rfl rfl rfl rfl) (res_tmp rfl) (fun w' c' => ⟨_, _, rfl, parM_no hn rfl rfl, Hp.nilp _ _ (c'.sub (List.nil_sublist _))⟩)
end Go.Proofs.YtdnhmnnccfoliaaGreatDoor
