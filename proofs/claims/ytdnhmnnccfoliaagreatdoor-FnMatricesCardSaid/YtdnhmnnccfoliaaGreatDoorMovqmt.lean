import Derived.Test.YtdnhmnnccfoliaaGreatDoorMofqmt
namespace Go.Proofs.YtdnhmnnccfoliaaGreatDoor
open Go.Lg Go.Proofs Go.RowKit
attribute [local irreducible] Code.wp wpList bodyPost Exit.then Exit.inBlock Hp Again Calls Y AT ResV QT Qn QI wpAny wpAnyQ
set_option maxRecDepth 20000
set_option maxHeartbeats 4000000

def avL (p : Int) (xs ys : List Int) (n : Nat) : List Int := (List.range n).map (fun k => (xs.getD k 0 + ys.getD k 0) % p)
def svL (p k : Int) (xs : List Int) (n : Nat) : List Int := (List.range n).map (fun i => (k % p * xs.getD i 0) % p)
@[simp] theorem avL_len {p : Int} {xs ys : List Int} {n : Nat} : (avL p xs ys n).length = n := by simp [avL]
@[simp] theorem svL_len {p k : Int} {xs : List Int} {n : Nat} : (svL p k xs n).length = n := by simp [svL]
theorem avL_next {p : Int} {xs ys : List Int} {n : Nat} : avL p xs ys n ++ [(xs.getD n 0 + ys.getD n 0) % p] = avL p xs ys (n + 1) := by simp [avL, List.range_succ]
theorem svL_next {p k : Int} {xs : List Int} {n : Nat} : svL p k xs n ++ [(k % p * xs.getD n 0) % p] = svL p k xs (n + 1) := by simp [svL, List.range_succ]
theorem mk_getq {R C q : Nat} {f : Nat → Nat → Int} (h : q < R * C) : (mk R C f).getD q 0 = f (q / C) (q % C) := by simp [mk, List.getD, h]
theorem avL_mk {p : Int} {R C : Nat} {f g : Nat → Nat → Int} : avL p (mk R C f) (mk R C g) (R * C) = mk R C (plusF p 1 f g) := by
  refine List.map_congr_left (fun q hq => ?_)
  rw [mk_getq (List.mem_range.1 hq), mk_getq (List.mem_range.1 hq), plusF, Int.one_mul]
theorem svL_mk {p k : Int} {R C : Nat} {f : Nat → Nat → Int} : svL p k (mk R C f) (R * C) = mk R C (plusF p (k % p) (fun _ _ => 0) f) := by
  refine List.map_congr_left (fun q hq => ?_)
  rw [mk_getq (List.mem_range.1 hq), plusF, Int.zero_add]
theorem spec_AddVectors_ok {w : World} {p : Int} {xs ys : List Int} {u u' : Value} (hr : Rd w (iT xs) u) (hr' : Rd w (iT ys) u') (hx : VecP p xs) (hy : VecP p ys) (hl : ys.length = xs.length) :
    Does Tryz.prog 115 [iV p, u, u'] w (fun r H => ∃ a c, r = .tuple #[.slice a xs.length c, .bool true] ∧ SA a xs.length ∧ H = [.own (iT (avL p xs ys xs.length)) (.slice a xs.length c)]) := by
  have hp := fieldP_pos hx.1
  have hp5 : p ≤ 5 := by have := hx.1; unfold FieldP at this; omega
  have hx64 := hx.2.1
  obtain ⟨a, c, rfl, hs, hc1, hc2, hg⟩ := hr.ints
  obtain ⟨a', c', rfl, hs', hc1', hc2', hg'⟩ := hr'.ints
  refine fn_enter Tryz.func115 rfl Tryz.ntmps115 rfl ?_
  repeat' (first | (show oL; first | refine sMv rfl rfl ?_ | refine sAs rfl rfl ?_ | (show oA (.binOp _ _ _ _ _); refine st_y (y_neq rfl rfl) rfl ?_) | (show oA (.unOp _ _ _); refine st_y (y_notd rfl) rfl ?_) | (show oA (.call _); first | (refine m_call (ent_of Tryz.func105 kr rfl) rfl rfl (fun w c => spec_IsVector_ok (c.rd hr)) ?_; rintro v H' ⟨rfl, rfl⟩) | (refine m_call (ent_of Tryz.func105 kr rfl) rfl rfl (fun w c => spec_IsVector_ok (c.rd hr')) ?_; rintro v H' ⟨rfl, rfl⟩) | refine sLn tabs rfl rfl rfl ?_) | (show oA (.pick _ _ _); first | refine st_y (y_pickt rfl aO rfl) rfl ?_ | refine st_y (y_pickf rfl aO rfl) rfl ?_ | refine st_y (y_pick rfl rfl rfl) rfl ?_) | (show oA (.buildSlice _ _ _); refine m_build0 tabs rfl rfl (fun gb hgb => ?_)) | refine st_gn rfl rfl rfl ?_ | refine st_gfy rfl rfl aO ?_ | refine st_gfn rfl rfl aO rfl ?_ | refine st_gd rfl rfl (fun h => ?_) (fun h => ?_)) | refine xNt ?_ | (show oC; first | refine c_seq ?_ | refine c_region ?_ | refine c_skip (x_then ?_) | refine c_block ?_ | refine c_ret ?_ | refine c_true rfl ?_ | refine c_iff rfl nN ?_) | (show AT _ _ _ _; refine x_then_ret ?_))
  all_goals first | exact absurd hx aS | exact absurd hy aS | skip
  refine c_loopH (α := Nat × Option Addr × Nat) [0, 1, 2] (fun s => [(8, .slice s.2.1 s.1 s.2.2), (9, iV s.1)]) (fun s => s.1 ≤ xs.length) (fun s => [.own (iT (avL p xs ys s.1)) (.slice s.2.1 s.1 s.2.2)]) (fun s => xs.length - s.1) (0, some ⟨gb, 0, none⟩, 0) rfl sB ?_ ?_ ?_
  · exact Nat.zero_le _
  · exact fun w' c' => c'
  · rintro ⟨i, al, cl⟩ hi
    simp only at hi ⊢
    by_cases hin : i < xs.length
    · have b1 := inP_get hx.2.2 hin
      have b2 := inP_get hy.2.2 (show i < ys.length by omega)
      repeat' (first | (show oL; first | refine sMv rfl rfl ?_ | refine sLs rfl rfl rfl ?_ | refine sLn tabs rfl rfl rfl ?_) | refine xNt ?_ | (show oC; first | refine c_seq ?_ | refine c_region ?_ | refine c_skip (x_then ?_) | refine c_block ?_ | refine c_ift rfl aO ?_))
      refine c_all (Hp [] w []) kr (fun _ c => Hp.drew c) ?_
      refine h_take 0 rfl kr kr kr (by exact y_move rfl) rfl (fun w c => by exact c.drop) ?_
      refine h_take 1 rfl kr kr kr (by exact y_move rfl) rfl (fun w c => by exact c.drop) ?_
      refine h_take 2 rfl kr kr kr (by exact y_move rfl) rfl (fun w c => by exact c.drop) ?_
      refine h_take 3 rfl kr kr kr (by exact y_move rfl) rfl (fun w c => by exact c.drop) ?_
      refine h_take 4 rfl kr kr kr (by exact y_ix1 tabs (j := i) rfl rfl rfl hs rfl hin) rfl (fun w c => by exact c.drop) ?_
      refine h_take 5 rfl kr kr kr (by exact y_load tabs rfl rfl (hc_w0 (hg i hin))) rfl (fun w c => by exact c.drop) ?_
      refine h_take 6 rfl kr kr kr (by exact y_move rfl) rfl (fun w c => by exact c.drop) ?_
      refine h_take 7 rfl kr kr kr (by exact y_move rfl) rfl (fun w c => by exact c.drop) ?_
      refine h_take 8 rfl kr kr kr (by exact y_ix1 tabs (j := i) rfl rfl rfl hs' rfl om) rfl (fun w c => by exact c.drop) ?_
      refine h_take 9 rfl kr kr kr (by exact y_load tabs rfl rfl (hc_w0 (hg' i om))) rfl (fun w c => by exact c.drop) ?_
      refine h_take 10 rfl kr kr kr (by exact y_add rfl rfl om) rfl (fun w c => by exact c.drop) ?_
      refine h_only 11 rfl kr ?_
      first | (refine m_build1 tabs (us := [iV ((xs.getD i 0 + ys.getD i 0) % p)]) rfl rfl rfl rfl (by decide) rfl (fun g5 hg5 => ?_)) | (refine m_call (ent_of Tryz.func165 kr rfl) rfl rfl (fun w c => l2Mod_ok om om) ?_; rintro v H' ⟨rfl, rfl⟩) | (refine m_pushn 0 tabs rfl rfl rfl rfl rfl avL_len om (fun a9 c9 => ?_))
      refine c_nil (x_one (h_keep (fun w c => by exact c.drop) ?_))
      refine h_only 12 rfl kr ?_
      first | (refine m_build1 tabs (us := [iV ((xs.getD i 0 + ys.getD i 0) % p)]) rfl rfl rfl rfl (by decide) rfl (fun g5 hg5 => ?_)) | (refine m_call (ent_of Tryz.func165 kr rfl) rfl rfl (fun w c => l2Mod_ok om om) ?_; rintro v H' ⟨rfl, rfl⟩) | (refine m_pushn 0 tabs rfl rfl rfl rfl rfl avL_len om (fun a9 c9 => ?_))
      refine c_nil (x_one (h_keep (fun w c => by exact c.drop.drop) ?_))
      refine h_only 13 rfl kr ?_
      first | (refine m_build1 tabs (us := [iV ((xs.getD i 0 + ys.getD i 0) % p)]) rfl rfl rfl rfl (by decide) rfl (fun g5 hg5 => ?_)) | (refine m_call (ent_of Tryz.func165 kr rfl) rfl rfl (fun w c => l2Mod_ok om om) ?_; rintro v H' ⟨rfl, rfl⟩) | (refine m_pushn 0 tabs rfl rfl rfl rfl rfl avL_len om (fun a9 c9 => ?_))
      refine c_nil (x_one (h_keep (fun w c => by exact c.drop) ?_))
      refine h_take 14 rfl kr kr kr (by exact y_assign rfl) rfl (fun w c => by exact c.drop) ?_
      refine h_end kr ?_
      repeat' (first | (show oL; first | refine sMv rfl rfl ?_ | refine sAs rfl rfl ?_ | refine sAd rfl rfl om rfl ?_) | refine xNt ?_ | (show oC; refine c_region ?_) | (show AT _ _ _ _; first | refine x_then ?_ | refine x_blk ?_))
      exact x_nx (i + 1, a9, c9) sB (by simp only; omega) (fun w' c' => by simp only [avL_next] at c'; exact c') (by simp only; omega)
    · have : i = xs.length := by omega
      subst this
      refine AT.fact (own_sl 0 rfl) (fun hsl => ?_)
      obtain ⟨a4, c4, e4, hs4⟩ := hsl
      rw [avL_len] at e4 hs4
      cases e4
      repeat' (first | (show oL; first | refine sMv rfl rfl ?_ | refine sAs rfl rfl ?_ | refine sLs rfl rfl rfl ?_ | refine sLn tabs rfl rfl rfl ?_) | refine xNt ?_ | (show oC; first | refine c_seq ?_ | refine c_region ?_ | refine c_ret ?_ | refine c_exit ?_ | refine c_iff rfl nN ?_) | (show AT _ _ _ _; first | refine x_then ?_ | refine x_then_exit ?_ | refine x_blk_exit rfl ?_))
      exact x_ret2 Tryz.results115 (res_tmp rfl) (res_tmp rfl) (fun w' c' => ⟨_, _, rfl, ⟨_, _, rfl, hs4, rfl⟩, c'⟩)
theorem spec_ScaleVector_ok {w : World} {p k : Int} {xs : List Int} {u : Value} (hr : Rd w (iT xs) u) (hx : VecP p xs) :
    Does Tryz.prog 123 [iV p, iV k, u] w (fun r H => ∃ a c, r = .tuple #[.slice a xs.length c, .bool true] ∧ SA a xs.length ∧ H = [.own (iT (svL p k xs xs.length)) (.slice a xs.length c)]) := by
  have hp := fieldP_pos hx.1
  have hp5 : p ≤ 5 := by have := hx.1; unfold FieldP at this; omega
  have hx64 := hx.2.1
  have k0 := Int.emod_nonneg k (show p ≠ 0 by omega)
  have k1 := Int.emod_lt_of_pos k (show 0 < p by omega)
  obtain ⟨a, c, rfl, hs, hc1, hc2, hg⟩ := hr.ints
  refine fn_enter Tryz.func123 rfl Tryz.ntmps123 rfl ?_
  repeat' (first | (show oL; first | refine sMv rfl rfl ?_ | refine sAs rfl rfl ?_ | (show oA (.unOp _ _ _); refine st_y (y_notd rfl) rfl ?_) | (show oA (.call _); (refine m_call (ent_of Tryz.func105 kr rfl) rfl rfl (fun w c => spec_IsVector_ok (c.rd hr)) ?_; rintro v H' ⟨rfl, rfl⟩)) | (show oA (.buildSlice _ _ _); refine m_build0 tabs rfl rfl (fun gb hgb => ?_))) | refine xNt ?_ | (show oC; first | refine c_seq ?_ | refine c_region ?_ | refine c_skip (x_then ?_) | refine c_block ?_ | refine c_iff rfl nN ?_))
  all_goals first | exact absurd hx aS | skip
  refine c_loopH (α := Nat × Option Addr × Nat) [0, 1, 2] (fun s => [(8, .slice s.2.1 s.1 s.2.2), (9, iV s.1)]) (fun s => s.1 ≤ xs.length) (fun s => [.own (iT (svL p k xs s.1)) (.slice s.2.1 s.1 s.2.2)]) (fun s => xs.length - s.1) (0, some ⟨gb, 0, none⟩, 0) rfl sB ?_ ?_ ?_
  · exact Nat.zero_le _
  · exact fun w' c' => c'
  · rintro ⟨i, al, cl⟩ hi
    simp only at hi ⊢
    by_cases hin : i < xs.length
    · have b1 := inP_get hx.2.2 hin
      have b3 : 0 ≤ k % p * xs.getD i 0 ∧ k % p * xs.getD i 0 ≤ 16 := ⟨Int.mul_nonneg k0 b1.1, by have := Int.mul_le_mul (show k % p ≤ 4 by omega) (show xs.getD i 0 ≤ 4 by omega) b1.1 om; omega⟩
      repeat' (first | (show oL; first | refine sMv rfl rfl ?_ | refine sLs rfl rfl rfl ?_ | refine sLn tabs rfl rfl rfl ?_) | refine xNt ?_ | (show oC; first | refine c_seq ?_ | refine c_region ?_ | refine c_skip (x_then ?_) | refine c_block ?_ | refine c_ift rfl aO ?_))
      refine c_all (Hp [] w []) kr (fun _ c => Hp.drew c) ?_
      refine h_take 0 rfl kr kr kr (by exact y_move rfl) rfl (fun w c => by exact c.drop) ?_
      refine h_take 1 rfl kr kr kr (by exact y_move rfl) rfl (fun w c => by exact c.drop) ?_
      refine h_take 2 rfl kr kr kr (by exact y_move rfl) rfl (fun w c => by exact c.drop) ?_
      refine h_take 3 rfl kr kr kr (by exact y_move rfl) rfl (fun w c => by exact c.drop) ?_
      refine h_take 5 rfl kr kr kr (by exact y_move rfl) rfl (fun w c => by exact c.drop) ?_
      refine h_take 6 rfl kr kr kr (by exact y_move rfl) rfl (fun w c => by exact c.drop) ?_
      refine h_take 7 rfl kr kr kr (by exact y_ix1 tabs (j := i) rfl rfl rfl hs rfl hin) rfl (fun w c => by exact c.drop) ?_
      refine h_take 8 rfl kr kr kr (by exact y_load tabs rfl rfl (hc_w0 (hg i hin))) rfl (fun w c => by exact c.drop) ?_
      refine h_only 4 rfl kr ?_
      first | (refine m_build1 tabs (us := [iV ((k % p * xs.getD i 0) % p)]) rfl rfl rfl rfl (by decide) rfl (fun g5 hg5 => ?_)) | (refine m_call (ent_of Tryz.func165 kr rfl) rfl rfl (fun w c => l2Mod_ok om om) ?_; rintro v H' ⟨rfl, rfl⟩) | (refine m_pushn 0 tabs rfl rfl rfl rfl rfl svL_len om (fun a9 c9 => ?_))
      refine c_nil (x_one (h_keep (fun w c => by exact c.drop) ?_))
      refine h_take 9 rfl kr kr kr (by exact y_mul rfl rfl om) rfl (fun w c => by exact c.drop) ?_
      refine h_only 10 rfl kr ?_
      first | (refine m_build1 tabs (us := [iV ((k % p * xs.getD i 0) % p)]) rfl rfl rfl rfl (by decide) rfl (fun g5 hg5 => ?_)) | (refine m_call (ent_of Tryz.func165 kr rfl) rfl rfl (fun w c => l2Mod_ok om om) ?_; rintro v H' ⟨rfl, rfl⟩) | (refine m_pushn 0 tabs rfl rfl rfl rfl rfl svL_len om (fun a9 c9 => ?_))
      refine c_nil (x_one (h_keep (fun w c => by exact c.drop) ?_))
      refine h_only 11 rfl kr ?_
      first | (refine m_build1 tabs (us := [iV ((k % p * xs.getD i 0) % p)]) rfl rfl rfl rfl (by decide) rfl (fun g5 hg5 => ?_)) | (refine m_call (ent_of Tryz.func165 kr rfl) rfl rfl (fun w c => l2Mod_ok om om) ?_; rintro v H' ⟨rfl, rfl⟩) | (refine m_pushn 0 tabs rfl rfl rfl rfl rfl svL_len om (fun a9 c9 => ?_))
      refine c_nil (x_one (h_keep (fun w c => by exact c.drop.drop) ?_))
      refine h_only 12 rfl kr ?_
      first | (refine m_build1 tabs (us := [iV ((k % p * xs.getD i 0) % p)]) rfl rfl rfl rfl (by decide) rfl (fun g5 hg5 => ?_)) | (refine m_call (ent_of Tryz.func165 kr rfl) rfl rfl (fun w c => l2Mod_ok om om) ?_; rintro v H' ⟨rfl, rfl⟩) | (refine m_pushn 0 tabs rfl rfl rfl rfl rfl svL_len om (fun a9 c9 => ?_))
      refine c_nil (x_one (h_keep (fun w c => by exact c.drop) ?_))
      refine h_take 13 rfl kr kr kr (by exact y_assign rfl) rfl (fun w c => by exact c.drop) ?_
      refine h_end kr ?_
      repeat' (first | (show oL; first | refine sMv rfl rfl ?_ | refine sAs rfl rfl ?_ | refine sAd rfl rfl om rfl ?_) | refine xNt ?_ | (show oC; refine c_region ?_) | (show AT _ _ _ _; first | refine x_then ?_ | refine x_blk ?_))
      exact x_nx (i + 1, a9, c9) sB (by simp only; omega) (fun w' c' => by simp only [svL_next] at c'; exact c') (by simp only; omega)
    · have : i = xs.length := by omega
      subst this
      refine AT.fact (own_sl 0 rfl) (fun hsl => ?_)
      obtain ⟨a4, c4, e4, hs4⟩ := hsl
      rw [svL_len] at e4 hs4
      cases e4
      repeat' (first | (show oL; first | refine sMv rfl rfl ?_ | refine sAs rfl rfl ?_ | refine sLs rfl rfl rfl ?_ | refine sLn tabs rfl rfl rfl ?_) | refine xNt ?_ | (show oC; first | refine c_seq ?_ | refine c_region ?_ | refine c_ret ?_ | refine c_exit ?_ | refine c_iff rfl nN ?_) | (show AT _ _ _ _; first | refine x_then ?_ | refine x_then_exit ?_ | refine x_blk_exit rfl ?_))
      exact x_ret2 Tryz.results123 (res_tmp rfl) (res_tmp rfl) (fun w' c' => ⟨_, _, rfl, ⟨_, _, rfl, hs4, rfl⟩, c'⟩)
theorem spec_AddMatrices_ok {w : World} {p : Int} {a b : Mat} {u v : Value} (hr : Rd w (iT a.2.2) u) (hv : Rd w (iT b.2.2) v) : Does Tryz.prog 31 [iV p, .agg #[iV a.1, iV a.2.1, u], .agg #[iV b.1, iV b.2.1, v]] w (GivesMB (adM p a b) (decide (AdP p a b))) := by
  by_cases hA : AdP p a b
  · rw [decide_eq_true hA]
    have hM := hA.1
    have hN := hA.2.1
    obtain ⟨R, C, f, g, rfl, rfl, hR, hC, hF, hf, hg, e⟩ := adM_of hA
    rw [e]
    simp only at hr hv ⊢
    refine fn_enter Tryz.func31 rfl Tryz.ntmps31 rfl ?_
    repeat' (first | (show oL; first | refine sMv rfl rfl ?_ | refine sAs rfl rfl ?_ | refine sFd tabs rfl rfl rfl rfl ?_ | (show oA (.load _ _); first | refine sLd 1 tabs rfl rfl rfl rfl rfl ?_ | refine sLd 2 tabs rfl rfl rfl rfl rfl ?_ | refine sLd 3 tabs rfl rfl rfl rfl rfl ?_ | refine sLb 1 tabs rfl rfl rfl rfl rfl ?_ | refine sLb 2 tabs rfl rfl rfl rfl rfl ?_) | (show oA (.binOp _ _ _ _ _); refine st_y (y_neq rfl rfl) rfl ?_) | (show oA (.unOp _ _ _); refine st_y (y_notd rfl) rfl ?_) | (show oA (.call _); first | (refine m_call (ent_of Tryz.func22 kr rfl) rfl rfl (fun w c => spec_IsMatrix_ok (m := (↑R, ↑C, mk R C f)) (c.rd hr)) ?_; rintro v H' ⟨rfl, rfl⟩) | (refine m_call (ent_of Tryz.func22 kr rfl) rfl rfl (fun w c => spec_IsMatrix_ok (m := (↑R, ↑C, mk R C g)) (c.rd hv)) ?_; rintro v H' ⟨rfl, rfl⟩) | (refine m_call (ent_of Tryz.func115 kr rfl) rfl rfl (fun w c => spec_AddVectors_ok (c.rd hr) (c.rd hv) hM.2.2.2 hN.2.2.2 (by simp)) ?_; rw [mk_length, avL_mk]; rintro v H' ⟨a2, c2, rfl, hs2, rfl⟩)) | (show oA (.extract _ _); refine st_y (y_ext rfl rfl) rfl ?_) | (show oA (.pick _ _ _); first | refine st_y (y_pickt rfl aO rfl) rfl ?_ | refine st_y (y_pickf rfl aO rfl) rfl ?_ | refine st_y (y_pick rfl rfl rfl) rfl ?_) | (show oA (.store _ _ _); refine m_storeb 1 tabs rfl rfl rfl rfl rfl rfl rfl ?_) | (show oA (.box _ _); refine m_box rfl rfl (fun b5 hb5 => ?_)) | (show oA (.alloc _); refine m_alloc tabs rfl rfl (fun bq hbq => ?_)) | (show oA (.build _ _); refine st_y (y_bld3 (bld_mat2 _ _ _ _ _) rfl rfl rfl) rfl ?_) | refine st_gn rfl rfl rfl ?_ | refine st_gfy rfl rfl aO ?_ | refine st_gfn rfl rfl aO rfl ?_ | refine st_gd rfl rfl (fun h => ?_) (fun h => ?_)) | refine xNt ?_ | (show oC; first | refine c_seq ?_ | refine c_region ?_ | refine c_skip (x_then ?_) | refine c_ret ?_ | refine c_true rfl ?_ | refine c_iff rfl nN ?_))
    all_goals first
      | exact x_ret2 Tryz.results31 (res_cellb 1 tabs rfl rfl rfl rfl) (res_tmp rfl) (fun w' c' => ⟨_, _, rfl, ⟨a2, c2, by rw [mk_length], by rw [mk_length]; exact hs2, by rw [mk_length]⟩, c'.sub (.cons_cons _ (List.nil_sublist _))⟩)
      | exact absurd hM aS
      | exact absurd hN aS
  · rw [adM, if_neg hA, decide_eq_false hA]
    refine fn_enter Tryz.func31 rfl Tryz.ntmps31 rfl ?_
    repeat' (first | (show oL; first | refine sMv rfl rfl ?_ | refine sAs rfl rfl ?_ | refine sFd tabs rfl rfl rfl rfl ?_ | (show oA (.load _ _); first | refine sLd 1 tabs rfl rfl rfl rfl rfl ?_ | refine sLd 2 tabs rfl rfl rfl rfl rfl ?_ | refine sLb 1 tabs rfl rfl rfl rfl rfl ?_ | refine sLb 2 tabs rfl rfl rfl rfl rfl ?_) | (show oA (.binOp _ _ _ _ _); refine st_y (y_neq rfl rfl) rfl ?_) | (show oA (.unOp _ _ _); refine st_y (y_notd rfl) rfl ?_) | (show oA (.call _); first | (refine m_call (ent_of Tryz.func22 kr rfl) rfl rfl (fun w c => spec_IsMatrix_ok (m := a) (c.rd hr)) ?_; rintro v H' ⟨rfl, rfl⟩) | (refine m_call (ent_of Tryz.func22 kr rfl) rfl rfl (fun w c => spec_IsMatrix_ok (m := b) (c.rd hv)) ?_; rintro v H' ⟨rfl, rfl⟩)) | (show oA (.pick _ _ _); first | refine st_y (y_pickt rfl aS rfl) rfl ?_ | refine st_y (y_pickf rfl aS rfl) rfl ?_ | refine st_y (y_pick rfl rfl rfl) rfl ?_) | (show oA (.store _ _ _); refine m_storeb 0 tabs rfl rfl rfl rfl rfl rfl rfl ?_) | (show oA (.box _ _); refine m_box rfl rfl (fun b5 hb5 => ?_)) | (show oA (.alloc _); refine m_alloc tabs rfl rfl (fun bq hbq => ?_)) | (show oA (.build _ _); refine st_y (y_bld0 bld_mat0) rfl ?_) | refine st_gn rfl rfl rfl ?_ | refine st_gfy rfl rfl aS ?_ | refine st_gfn rfl rfl aS rfl ?_ | refine st_gd rfl rfl (fun h => ?_) (fun h => ?_)) | refine xNt ?_ | (show oC; first | refine c_seq ?_ | refine c_region ?_ | refine c_skip (x_then ?_) | refine c_ret ?_ | refine c_true rfl ?_ | refine c_ifnd rfl (fun h => ?_) (fun h => ?_)) | (show AT _ _ _ _; refine x_then_ret ?_))
    all_goals first
      | exact absurd ⟨by first | assumption | exact Decidable.not_not.1 aS, by first | assumption | exact Decidable.not_not.1 aS, by omega, by omega⟩ hA
      | exact x_ret2 Tryz.results31 (res_cellb 0 tabs rfl rfl rfl rfl) (res_tmp rfl) (fun w' c' => ⟨_, _, rfl, ⟨none, 0, rfl, .inl rfl, rfl⟩, Hp.nilp _ _ (c'.sub (List.nil_sublist _))⟩)
theorem spec_ScaleMatrix_ok {w : World} {p k : Int} {a : Mat} {u : Value} (hr : Rd w (iT a.2.2) u) : Does Tryz.prog 39 [iV p, iV k, .agg #[iV a.1, iV a.2.1, u]] w (GivesMB (scM p k a) (decide (MatP p a))) := by
  by_cases hA : MatP p a
  · rw [decide_eq_true hA]
    obtain ⟨R, C, f, rfl, hR, hC, hF, hf⟩ := matP_mk hA
    rw [scM_mk hA]
    simp only at hr ⊢
    refine fn_enter Tryz.func39 rfl Tryz.ntmps39 rfl ?_
    repeat' (first | (show oL; first | refine sMv rfl rfl ?_ | refine sAs rfl rfl ?_ | refine sFd tabs rfl rfl rfl rfl ?_ | (show oA (.load _ _); first | refine sLd 1 tabs rfl rfl rfl rfl rfl ?_ | refine sLd 2 tabs rfl rfl rfl rfl rfl ?_ | refine sLb 1 tabs rfl rfl rfl rfl rfl ?_) | (show oA (.unOp _ _ _); refine st_y (y_notd rfl) rfl ?_) | (show oA (.call _); first | (refine m_call (ent_of Tryz.func22 kr rfl) rfl rfl (fun w c => spec_IsMatrix_ok (m := (↑R, ↑C, mk R C f)) (c.rd hr)) ?_; rintro v H' ⟨rfl, rfl⟩) | (refine m_call (ent_of Tryz.func123 kr rfl) rfl rfl (fun w c => spec_ScaleVector_ok (k := k) (c.rd hr) hA.2.2.2) ?_; rw [mk_length, svL_mk]; rintro v H' ⟨a2, c2, rfl, hs2, rfl⟩)) | (show oA (.extract _ _); refine st_y (y_ext rfl rfl) rfl ?_) | (show oA (.store _ _ _); refine m_storeb 1 tabs rfl rfl rfl rfl rfl rfl rfl ?_) | (show oA (.box _ _); refine m_box rfl rfl (fun b5 hb5 => ?_)) | (show oA (.alloc _); refine m_alloc tabs rfl rfl (fun bq hbq => ?_)) | (show oA (.build _ _); refine st_y (y_bld3 (bld_mat2 _ _ _ _ _) rfl rfl rfl) rfl ?_)) | refine xNt ?_ | (show oC; first | refine c_seq ?_ | refine c_region ?_ | refine c_skip (x_then ?_) | refine c_ret ?_ | refine c_iff rfl nN ?_))
    all_goals first
      | exact x_ret2 Tryz.results39 (res_cellb 1 tabs rfl rfl rfl rfl) (res_tmp rfl) (fun w' c' => ⟨_, _, rfl, ⟨a2, c2, by rw [mk_length], by rw [mk_length]; exact hs2, by rw [mk_length]⟩, c'.sub (.cons_cons _ (List.nil_sublist _))⟩)
      | exact absurd hA aS
  · rw [scM, if_neg hA, decide_eq_false hA]
    refine fn_enter Tryz.func39 rfl Tryz.ntmps39 rfl ?_
    repeat' (first | (show oL; first | refine sMv rfl rfl ?_ | refine sAs rfl rfl ?_ | refine sLb 1 tabs rfl rfl rfl rfl rfl ?_ | (show oA (.unOp _ _ _); refine st_y (y_notd rfl) rfl ?_) | (show oA (.call _); (refine m_call (ent_of Tryz.func22 kr rfl) rfl rfl (fun w c => spec_IsMatrix_ok (m := a) (c.rd hr)) ?_; rintro v H' ⟨rfl, rfl⟩)) | (show oA (.store _ _ _); refine m_storeb 0 tabs rfl rfl rfl rfl rfl rfl rfl ?_) | (show oA (.box _ _); refine m_box rfl rfl (fun b5 hb5 => ?_)) | (show oA (.alloc _); refine m_alloc tabs rfl rfl (fun bq hbq => ?_)) | (show oA (.build _ _); refine st_y (y_bld0 bld_mat0) rfl ?_)) | refine xNt ?_ | (show oC; first | refine c_seq ?_ | refine c_region ?_ | refine c_ret ?_ | refine c_ift rfl aO ?_) | (show AT _ _ _ _; refine x_then_ret ?_))
    all_goals first
      | exact absurd (by first | assumption | exact Decidable.not_not.1 aS) hA
      | exact x_ret2 Tryz.results39 (res_cellb 0 tabs rfl rfl rfl rfl) (res_tmp rfl) (fun w' c' => ⟨_, _, rfl, ⟨none, 0, rfl, .inl rfl, rfl⟩, Hp.nilp _ _ (c'.sub (List.nil_sublist _))⟩)
end Go.Proofs.YtdnhmnnccfoliaaGreatDoor
