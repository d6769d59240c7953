import Derived.Test.YtcplmeajmpkpkaaGreatSpbqsp
namespace Go.Proofs.YtcplmeajmpkpkaaGreat
open Go.Lg Go.Proofs Go.RowKit
attribute [local irreducible] Code.wp wpList bodyPost Exit.then Exit.inBlock Hp Again Calls Y AT ResV QT Qn QI wpAny wpAnyQ
set_option maxRecDepth 20000
set_option maxHeartbeats 4000000

theorem y_slr {P : Program} {n : Nat} {K : World → Prop} {s : List (Nat × Value)} {ty t : Nat} {x lo' hi' : Operand} (T : Tabs P) {e k b m cap R C i : Nat} {z : List Value} {a : Option Addr} {p q : Int} (ht : lk T.sl t = some (e, k, b, z)) (hx : ev s x = some (.slice a m cap)) (hl : ev s lo' = some (.int .i64 p)) (hh : ev s hi' = some (.int .i64 q)) (hp : p = ((i * C : Nat) : Int)) (hq : q = ((i * C + C : Nat) : Int)) (hi : i < R) (hcap : R * C ≤ cap) :
    Y P n K s (.slice t x (some lo') (some hi') none) ty (.slice (subA a k (i * C) cap) C (cap - i * C)) := by
  have h1 : (i + 1) * C ≤ R * C := Nat.mul_le_mul_right C hi
  rw [Nat.succ_mul] at h1
  have h := y_slb (n := n) (C := K) (ty := ty) (lo := i * C) (hi := i * C + C) T ht hx hl hh hp hq om om
  rwa [show i * C + C - i * C = C by omega] at h
theorem l5Basis_ok {w : World} {p : Int} {C : Nat} {rs : List (List Int)} {u : Value} (hr : Rd w (iT (mk rs.length C (rowsF rs))) u) (hF : FieldP p) (hl : RowsP p C rs) (hb : rs.length ≤ 64) (hC : C ≤ 64) : Does Tryz.prog 73 [iV p, .agg #[iV rs.length, iV C, u]] w (GivesRows (basL p C rs)) := by
  have hp := fieldP_pos hF
  have hin := hl.inF
  have hpv := redTo_piv (p := p) (R := rs.length) (f := rowsF rs) C
  have hpl := redTo_in (p := p) om hin C
  have hRC := rc_le (R := rs.length) (C := C) om om
  refine fn_enter Tryz.func73 rfl Tryz.ntmps73 rfl ?_
  repeat' (first | (show oL; first | refine sMv rfl rfl ?_ | refine sAs rfl rfl ?_ | refine sLb 0 tabs rfl rfl rfl rfl rfl ?_ | (show oA (.call _); (refine m_call (ent_of Tryz.func82 kr rfl) rfl rfl (fun w c => l4ReduceK_ok (c.rd hr) hF om om hin) ?_; rintro v H' ⟨a, c, a', c', rfl, hs, hs', rfl⟩)) | (show oA (.extract _ _); refine st_y (y_ext rfl rfl) rfl ?_) | (show oA (.store _ _ _); refine m_storeb 0 tabs rfl rfl rfl rfl rfl rfl rfl ?_) | (show oA (.box _ _); refine m_box rfl rfl (fun b3 hb3 => ?_)) | (show oA (.alloc _); refine m_alloc tabs rfl rfl (fun b5 hb5 => ?_)) | (show oA (.buildSlice _ _ _); refine m_build0 tabs rfl rfl (fun gb hgb => ?_))) | refine xNt ?_ | (show oC; first | refine c_seq ?_ | refine c_region ?_ | refine c_block ?_))
  unfold basL
  generalize hre : redTo p rs.length (rowsF rs) C = red at *
  obtain ⟨g, piv⟩ := red
  obtain ⟨hgi, hpl⟩ := hpl
  simp only at hpv hpl hs hs' hgi ⊢
  refine AT.fact (p := rs.length * C ≤ c) (fun w cw => by have h := (cw.own_rd (i := 3) rfl).ints; simp only [mk_length] at h; obtain ⟨_, _, e, _, h, _⟩ := h; cases e; exact h) (fun hcap => ?_)
  refine c_loopH (α := Nat × Option Addr × Nat) [5, 6] (fun s => [(7, .slice s.2.1 s.1 s.2.2), (8, .int .i64 s.1)]) (fun s => s.1 ≤ piv.length) (fun s => [.own (rowsT 43 (rowL C g s.1)) (.slice s.2.1 s.1 s.2.2), .blk b5 #[iV rs.length, iV C, .slice a (rs.length * C) c] 47, .own (iT piv) (.slice a' piv.length c'), .own (iT (mk rs.length C g)) (.slice a (rs.length * C) c), .blk b3 #[iV rs.length, iV C, u] 47]) (fun s => piv.length - s.1) (0, some ⟨gb, 0, none⟩, 0) rfl sB ?_ ?_ ?_
  · exact Nat.zero_le _
  · exact fun w' c' => c'
  · rintro ⟨i, al, cl⟩ hi
    simp only at hi ⊢
    by_cases hif : i < piv.length
    · have hx : piv[i]? = some (piv.getD i 0) := getD_some hif
      have hb := hpv _ (List.mem_of_getElem? hx)
      have hiR : i < rs.length := by omega
      have hiC : (i + 1) * C ≤ rs.length * C := Nat.mul_le_mul_right C hiR
      rw [Nat.succ_mul] at hiC
      repeat' (first | (show oL; first | refine sMv rfl rfl ?_ | refine sFd tabs rfl rfl rfl rfl ?_ | refine sLd 2 tabs rfl rfl rfl rfl rfl ?_ | (show oA (.binOp _ _ _ _ _); first | refine st_y (y_muln rfl rfl rfl rfl om) rfl ?_ | refine st_y (y_addn (b := C) rfl rfl rfl rfl om) rfl ?_ | refine sLs rfl rfl rfl ?_) | (show oA (.call _); first | refine m_dup 0 tabs (ys := mkv C (g i)) rfl rfl rfl (by rw [mkv_length]; rfl) rfl (by rw [mkv_length]; omega) (fun w c => by rw [mkv_length]; exact row_rds (c.own_rd (i := 4) rfl) hiR) (fun az cz hsz => ?_) | refine sLn tabs rfl rfl rfl ?_) | (show oA (.buildSlice _ _ _); refine m_build0 tabs rfl rfl (fun gz hgz => ?_)) | (show oA (.slice _ _ _ _ _); refine st_y (y_slr tabs (R := rs.length) (C := C) (i := i) rfl rfl rfl rfl rfl rfl hiR hcap) rfl ?_)) | refine xNt ?_ | (show oC; first | refine c_seq ?_ | refine c_region ?_ | refine c_skip (x_then ?_) | refine c_block ?_ | refine c_ift rfl aO ?_))
      rw [mkv_length]
      repeat' (first | (show oL; first | refine sMv rfl rfl ?_ | refine sAs rfl rfl ?_ | refine sAd rfl rfl om rfl ?_ | (show oA (.call _); refine m_push1 [] 0 0 tabs (m' := i) rfl rfl rfl rfl rfl rfl rfl (by simp [rowT_map]) (by simp [rowT_map]; omega) (by decide) rfl rfl (fun a4 c4 => ?_)) | (show oA (.buildSlice _ _ _); refine m_build1 tabs (us := [.slice az C cz]) rfl rfl rfl rfl (by decide) rfl (fun g2 hg2 => ?_))) | (show oN; first | refine c_nil (x_then ?_) | refine c_nil ?_) | (show oC; refine c_region ?_) | (show AT _ _ _ _; first | refine x_then ?_ | refine x_blk ?_))
      refine x_nx (i + 1, a4, c4) sB (by simp only; omega) (fun w' c' => ?_) (by simp only; omega)
      have e0 : (rowL C g i).flatMap rowT ++ (List.map T.c [] ++ [iT (mkv C (g i))]) = (rowL C g (i + 1)).flatMap rowT := by rw [rowL_next, List.flatMap_append]; rfl
      rw [e0] at c'
      exact c'
    · have : i = piv.length := by omega
      subst this
      refine AT.fact (rows_sl 0 rfl) (fun hsl => ?_)
      rw [rowL_length] at hsl
      repeat' (first | (show oL; first | refine sMv rfl rfl ?_ | refine sAs rfl rfl ?_ | refine sLs rfl rfl rfl ?_ | refine sLn tabs rfl rfl rfl ?_) | refine xNt ?_ | (show oC; first | refine c_seq ?_ | refine c_region ?_ | refine c_ret ?_ | refine c_exit ?_ | refine c_iff rfl nN ?_) | (show AT _ _ _ _; first | refine x_then ?_ | refine x_then_exit ?_ | refine x_blk_exit rfl ?_))
      exact x_ret1 Tryz.results73 (res_tmp rfl) (fun w' c' => ⟨_, _, rfl, ⟨al, cl, by rw [rowL_length], by rw [rowL_length]; exact hsl, by rw [rowL_length]⟩, c'.sub (.cons_cons _ (List.nil_sublist _))⟩)
theorem l5Span_ok {w : World} {p : Int} {C e : Nat} {rs : List (List Int)} {v : Value} (hr : Rd w (rowsT e rs) v) (hF : FieldP p) (hl : RowsP p C rs) (hb : rs.length ≤ 64) (hC : C ≤ 64) : Does Tryz.prog 41 [iV p, iV C, v] w (GivesSp (↑C, basL p C rs)) := by
  refine fn_enter Tryz.func41 rfl Tryz.ntmps41 rfl ?_
  repeat' (first | (show oL; first | refine sMv rfl rfl ?_ | (show oA (.call _); first | (refine m_call (ent_of Tryz.func38 kr rfl) rfl rfl (fun w c => l5Rows_ok (c.rd hr) hl.len om om) ?_; rintro v H' ⟨a0, c0, rfl, hs0, rfl⟩) | (refine m_call (ent_of Tryz.func73 kr rfl) rfl rfl (fun w c => l5Basis_ok (c.own_rd (i := 0) rfl) hF hl om om) ?_; rintro v H' ⟨a, c, rfl, hs, rfl⟩)) | (show oA (.store _ _ _); refine m_storeb 2 tabs rfl rfl rfl rfl rfl rfl rfl ?_) | (show oA (.alloc _); refine m_alloc tabs rfl rfl (fun b5 hb5 => ?_)) | (show oA (.build _ _); refine st_y (y_bld2 (bld_sp _ _ _ _) rfl rfl) rfl ?_)) | refine xNt ?_ | (show oC; first | refine c_seq ?_ | refine c_region ?_ | refine c_ret ?_))
  exact x_ret1 Tryz.results41 (res_cellb 2 tabs rfl rfl rfl rfl) (fun w' c' => ⟨_, _, rfl, ⟨a, c, rfl, hs, rfl⟩, c'.sub (.cons_cons _ (List.nil_sublist _))⟩)

def GivesSpB (s : Sp) (b : Bool) (r : Value) (H : List HE) : Prop := ∃ a c, r = .tuple #[.agg #[iV s.1, .slice a s.2.length c], .bool b] ∧ SA a s.2.length ∧ H = [.own (rowsT 43 s.2) (.slice a s.2.length c)]
def spanS (p n : Int) (l : List (List Int)) : Sp := if FineP p n l then (n, basL p n.toNat l) else (0, [])
theorem spec_SpanOf_ok {w : World} {p n : Int} {e : Nat} {l : List (List Int)} {v : Value} (hr : Rd w (rowsT e l) v) : Does Tryz.prog 19 [iV p, iV n, v] w (GivesSpB (spanS p n l) (decide (FineP p n l))) := by
  by_cases hA : FineP p n l
  · obtain ⟨C, rfl, hC, hl⟩ := hA.rows
    rw [spanS, if_pos hA, decide_eq_true hA]
    simp only [Int.toNat_natCast]
    have hb := hA.2.2.1
    refine fn_enter Tryz.func19 rfl Tryz.ntmps19 rfl ?_
    repeat' (first | (show oL; first | refine sMv rfl rfl ?_ | refine sAs rfl rfl ?_ | (show oA (.unOp _ _ _); refine st_y (y_notd rfl) rfl ?_) | (show oA (.call _); first | (refine m_call (ent_of Tryz.func58 kr rfl) rfl rfl (fun w c => l5Fine_ok (c.rd hr)) ?_; rintro v H' ⟨rfl, rfl⟩) | (refine m_call (ent_of Tryz.func41 kr rfl) rfl rfl (fun w c => l5Span_ok (c.rd hr) hA.1 hl om om) ?_; rintro v H' ⟨a, c, rfl, hs, rfl⟩)) | (show oA (.store _ _ _); refine m_storeb 1 tabs rfl rfl rfl rfl rfl rfl rfl ?_) | (show oA (.alloc _); refine m_alloc tabs rfl rfl (fun b5 hb5 => ?_))) | refine xNt ?_ | (show oC; first | refine c_seq ?_ | refine c_region ?_ | refine c_skip (x_then ?_) | refine c_ret ?_ | refine c_iff rfl nN ?_))
    exact x_ret2 Tryz.results19 (res_cellb 1 tabs rfl rfl rfl rfl) (res_tmp rfl) (fun w' c' => ⟨_, _, rfl, ⟨a, c, rfl, hs, rfl⟩, c'.sub (.cons_cons _ (List.nil_sublist _))⟩)
  · rw [spanS, if_neg hA, decide_eq_false hA]
    refine fn_enter Tryz.func19 rfl Tryz.ntmps19 rfl ?_
    repeat' (first | (show oL; first | refine sMv rfl rfl ?_ | refine sAs rfl rfl ?_ | (show oA (.unOp _ _ _); refine st_y (y_notd rfl) rfl ?_) | (show oA (.call _); (refine m_call (ent_of Tryz.func58 kr rfl) rfl rfl (fun w c => l5Fine_ok (c.rd hr)) ?_; rintro v H' ⟨rfl, rfl⟩)) | (show oA (.store _ _ _); refine m_storeb 0 tabs rfl rfl rfl rfl rfl rfl rfl ?_) | (show oA (.alloc _); refine m_alloc tabs rfl rfl (fun b5 hb5 => ?_)) | (show oA (.build _ _); refine st_y (y_bld0 bld_sp0) rfl ?_)) | refine xNt ?_ | (show oC; first | refine c_seq ?_ | refine c_region ?_ | refine c_ret ?_ | refine c_ift rfl aO ?_) | (show AT _ _ _ _; refine x_then_ret ?_))
    exact x_ret2 Tryz.results19 (res_cellb 0 tabs rfl rfl rfl rfl) (res_tmp rfl) (fun w' c' => ⟨_, _, rfl, ⟨none, 0, rfl, .inl rfl, rfl⟩, Hp.nilp _ _ (c'.sub (List.nil_sublist _))⟩)
theorem impl_SpanOf_ok {w : World} {p n : Int} {e : Nat} {l : List (List Int)} {v : Value} (hr : Rd w (rowsT e l) v) : Does Tryz.prog 18 [iV p, iV n, v] w (GivesSpB (spanS p n l) (decide (FineP p n l))) := by
  by_cases hA : FineP p n l
  · obtain ⟨C, rfl, hC, hl⟩ := hA.rows
    rw [spanS, if_pos hA, decide_eq_true hA]
    simp only [Int.toNat_natCast]
    have hb := hA.2.2.1
    have hF := hA.1
    refine fn_enter Tryz.func18 rfl Tryz.ntmps18 rfl ?_
    repeat' (first | (show oL; first | refine sMv rfl rfl ?_ | refine sAs rfl rfl ?_ | (show oA (.unOp _ _ _); refine st_y (y_notd rfl) rfl ?_) | (show oA (.call _); first | (refine m_call (ent_of Tryz.func45 kr rfl) rfl rfl (fun w c => impl_IsField_ok p) ?_; rintro v H' ⟨rfl, rfl⟩) | (refine m_call (ent_of Tryz.func46 kr rfl) rfl rfl (fun w c => areVectors_ok (c.rd hr) hF) ?_; rintro v H' ⟨rfl, rfl⟩) | (refine m_call (ent_of Tryz.func47 kr rfl) rfl rfl (fun w c => span_ok (c.rd hr) hA.1 hl om om) ?_; rintro v H' ⟨a, c, rfl, hs, rfl⟩)) | (show oA (.pick _ _ _); first | refine st_y (y_pickt rfl aS rfl) rfl ?_ | refine st_y (y_pickf rfl aS rfl) rfl ?_) | (show oA (.store _ _ _); refine m_storeb 1 tabs rfl rfl rfl rfl rfl rfl rfl ?_) | (show oA (.alloc _); refine m_alloc tabs rfl rfl (fun b5 hb5 => ?_)) | refine st_gfy rfl rfl aS ?_ | refine st_gfn rfl rfl aS rfl ?_ | refine st_gd rfl rfl (fun h => ?_) (fun h => ?_)) | refine xNt ?_ | (show oC; first | refine c_seq ?_ | refine c_region ?_ | refine c_skip (x_then ?_) | refine c_ret ?_ | refine c_true rfl ?_ | refine c_iff rfl nN ?_))
    all_goals first | exact absurd hF aS | exact absurd hA aS | skip
    exact x_ret2 Tryz.results18 (res_cellb 1 tabs rfl rfl rfl rfl) (res_tmp rfl) (fun w' c' => ⟨_, _, rfl, ⟨a, c, rfl, hs, rfl⟩, c'.sub (.cons_cons _ (List.nil_sublist _))⟩)
  · rw [spanS, if_neg hA, decide_eq_false hA]
    by_cases hF : FieldP p
    all_goals
      refine fn_enter Tryz.func18 rfl Tryz.ntmps18 rfl ?_
      repeat' (first | (show oL; first | refine sMv rfl rfl ?_ | refine sAs rfl rfl ?_ | (show oA (.unOp _ _ _); refine st_y (y_notd rfl) rfl ?_) | (show oA (.call _); first | (refine m_call (ent_of Tryz.func45 kr rfl) rfl rfl (fun w c => impl_IsField_ok p) ?_; rintro v H' ⟨rfl, rfl⟩) | (refine m_call (ent_of Tryz.func46 kr rfl) rfl rfl (fun w c => areVectors_ok (c.rd hr) aS) ?_; rintro v H' ⟨rfl, rfl⟩)) | (show oA (.pick _ _ _); first | refine st_y (y_pickt rfl aS rfl) rfl ?_ | refine st_y (y_pickf rfl aS rfl) rfl ?_) | (show oA (.store _ _ _); refine m_storeb 0 tabs rfl rfl rfl rfl rfl rfl rfl ?_) | (show oA (.alloc _); refine m_alloc tabs rfl rfl (fun b5 hb5 => ?_)) | (show oA (.build _ _); refine st_y (y_bld0 bld_sp0) rfl ?_) | refine st_gfy rfl rfl aS ?_ | refine st_gfn rfl rfl aS rfl ?_ | refine st_gd rfl rfl (fun h => ?_) (fun h => ?_)) | refine xNt ?_ | (show oC; first | refine c_seq ?_ | refine c_region ?_ | refine c_ret ?_ | refine c_true rfl ?_ | refine c_ift rfl aO ?_) | (show AT _ _ _ _; refine x_then_ret ?_))
      all_goals first | exact absurd hF aS | skip
      all_goals exact x_ret2 Tryz.results18 (res_cellb 0 tabs rfl rfl rfl rfl) (res_tmp rfl) (fun w' c' => ⟨_, _, rfl, ⟨none, 0, rfl, .inl rfl, rfl⟩, Hp.nilp _ _ (c'.sub (List.nil_sublist _))⟩)
def SpcP (p : Int) (s : Sp) : Prop := FineP p s.1 s.2 ∧ basL p s.1.toNat s.2 = s.2
instance (p : Int) (s : Sp) : Decidable (SpcP p s) := by unfold SpcP; infer_instance
theorem impl_IsSpace_ok {w : World} {p : Int} {s : Sp} {u : Value} (hu : Rd w (rowsT 43 s.2) u) : Does Tryz.prog 12 [iV p, .agg #[iV s.1, u]] w (fun r H => r = .bool (decide (SpcP p s)) ∧ H = []) := by
  obtain ⟨n, rs⟩ := s
  simp only at hu ⊢
  by_cases hA : FineP p n rs
  · obtain ⟨C, rfl, hC, hl⟩ := hA.rows
    have hb := hA.2.2.1
    have hF := hA.1
    refine fn_enter Tryz.func12 rfl Tryz.ntmps12 rfl ?_
    repeat' (first | (show oL; first | refine sMv rfl rfl ?_ | refine sAs rfl rfl ?_ | refine sFd tabs rfl rfl rfl rfl ?_ | refine sLd 0 tabs rfl rfl rfl rfl rfl ?_ | (show oA (.unOp _ _ _); refine st_y (y_notd rfl) rfl ?_) | (show oA (.call _); first | (refine m_call (ent_of Tryz.func45 kr rfl) rfl rfl (fun w c => impl_IsField_ok p) ?_; rintro v H' ⟨rfl, rfl⟩) | (refine m_call (ent_of Tryz.func46 kr rfl) rfl rfl (fun w c => areVectors_ok (c.rd hu) hF) ?_; rintro v H' ⟨rfl, rfl⟩)) | (show oA (.pick _ _ _); first | refine st_y (y_pickt rfl aS rfl) rfl ?_ | refine st_y (y_pickf rfl aS rfl) rfl ?_) | (show oA (.box _ _); refine m_box rfl rfl (fun b hb => ?_)) | refine st_gfy rfl rfl aS ?_ | refine st_gfn rfl rfl aS rfl ?_ | refine st_gd rfl rfl (fun h => ?_) (fun h => ?_)) | refine xNt ?_ | (show oC; first | refine c_seq ?_ | refine c_region ?_ | refine c_skip (x_then ?_) | refine c_ret ?_ | refine c_true rfl ?_ | refine c_iff rfl nN ?_) | (show AT _ _ _ _; refine x_then_ret ?_))
    all_goals first | exact absurd hF aS | exact absurd hA aS | skip
    refine c_all (Hp [] w [.blk b #[iV C, u] 26]) kr (fun _ c => Hp.drew c) ?_
    refine h_take 0 rfl kr kr kr (by exact y_move rfl) rfl (fun _ c => c) ?_
    refine h_take 1 rfl kr kr kr (by exact y_field tabs rfl rfl rfl) rfl (fun _ c => c) ?_
    refine h_take 2 rfl kr kr kr (by exact y_load tabs rfl rfl (hc_blk 0 rfl rfl)) rfl (fun _ c => c) ?_
    refine h_take 3 rfl kr kr kr (by exact y_field tabs rfl rfl rfl) rfl (fun _ c => c) ?_
    refine h_take 4 rfl kr kr kr (by exact y_load tabs rfl rfl (hc_blk 0 rfl rfl)) rfl (fun _ c => c) ?_
    refine h_take 6 rfl kr kr kr (by first | exact y_loadb 0 tabs rfl rfl rfl rfl | exact y_loadb 0 tabs rfl rfl rfl rfl) rfl (fun _ c => c) ?_
    refine h_only 5 rfl kr ?_
    first | (refine m_call (ent_of Tryz.func47 kr rfl) rfl rfl (fun w c => span_ok (c.rd hu) hF hl om om) ?_; rintro v H' ⟨a, c, rfl, hs, rfl⟩) | (refine m_call (ent_of Tryz.func31 kr rfl) rfl rfl (fun w' c' => impl_EqualSpaces_ok w' (↑C, basL p C rs) (↑C, rs) _ _ (c'.own_rd (i := 0) rfl) (c'.rd hu)) ?_; rintro v H' ⟨rfl, rfl⟩)
    refine c_nil (x_one (h_keep (fun w c => by exact c.drop) ?_))
    refine h_only 7 rfl kr ?_
    first | (refine m_call (ent_of Tryz.func47 kr rfl) rfl rfl (fun w c => span_ok (c.rd hu) hF hl om om) ?_; rintro v H' ⟨a, c, rfl, hs, rfl⟩) | (refine m_call (ent_of Tryz.func31 kr rfl) rfl rfl (fun w' c' => impl_EqualSpaces_ok w' (↑C, basL p C rs) (↑C, rs) _ _ (c'.own_rd (i := 0) rfl) (c'.rd hu)) ?_; rintro v H' ⟨rfl, rfl⟩)
    refine c_nil (x_one (h_keep (fun w c => by exact c.drop) ?_))
    refine h_take 8 rfl kr kr kr (by exact y_assign rfl) rfl (fun w c => by exact c.drop) ?_
    refine h_end kr ?_
    repeat' (first | (show oC; refine c_ret ?_) | (show AT _ _ _ _; refine x_then ?_))
    refine x_ret1 Tryz.results12 (res_tmp rfl) (fun w' c' => ⟨_, _, rfl, ⟨congrArg Value.bool (decide_eq_decide.2 ?_), rfl⟩, c'.sub (List.nil_sublist _)⟩)
    simp [SpcP, hA]
  · have hno : ¬ SpcP p (n, rs) := fun h => hA h.1
    rw [decide_eq_false hno]
    by_cases hF : FieldP p
    all_goals
      refine fn_enter Tryz.func12 rfl Tryz.ntmps12 rfl ?_
      repeat' (first | (show oL; first | refine sMv rfl rfl ?_ | refine sAs rfl rfl ?_ | refine sFd tabs rfl rfl rfl rfl ?_ | refine sLd 0 tabs rfl rfl rfl rfl rfl ?_ | (show oA (.unOp _ _ _); refine st_y (y_notd rfl) rfl ?_) | (show oA (.call _); first | (refine m_call (ent_of Tryz.func45 kr rfl) rfl rfl (fun w c => impl_IsField_ok p) ?_; rintro v H' ⟨rfl, rfl⟩) | (refine m_call (ent_of Tryz.func46 kr rfl) rfl rfl (fun w c => areVectors_ok (c.rd hu) aS) ?_; rintro v H' ⟨rfl, rfl⟩)) | (show oA (.pick _ _ _); first | refine st_y (y_pickt rfl aS rfl) rfl ?_ | refine st_y (y_pickf rfl aS rfl) rfl ?_) | (show oA (.box _ _); refine m_box rfl rfl (fun b hb => ?_)) | refine st_gfy rfl rfl aS ?_ | refine st_gfn rfl rfl aS rfl ?_ | refine st_gd rfl rfl (fun h => ?_) (fun h => ?_)) | refine xNt ?_ | (show oC; first | refine c_seq ?_ | refine c_region ?_ | refine c_ret ?_ | refine c_true rfl ?_ | refine c_ift rfl aO ?_) | (show AT _ _ _ _; refine x_then_ret ?_))
      all_goals first | exact absurd hF aS | skip
      all_goals exact x_ret1 Tryz.results12 (res_tmp rfl) (fun w' c' => ⟨_, _, rfl, ⟨rfl, rfl⟩, c'.sub (List.nil_sublist _)⟩)
theorem spec_IsSpace_ok {w : World} {p : Int} {s : Sp} {u : Value} (hu : Rd w (rowsT 43 s.2) u) : Does Tryz.prog 32 [iV p, .agg #[iV s.1, u]] w (fun r H => r = .bool (decide (SpcP p s)) ∧ H = []) := by
  obtain ⟨n, rs⟩ := s
  simp only at hu ⊢
  by_cases hA : FineP p n rs
  · obtain ⟨C, rfl, hC, hl⟩ := hA.rows
    have hb := hA.2.2.1
    have hF := hA.1
    refine fn_enter Tryz.func32 rfl Tryz.ntmps32 rfl ?_
    repeat' (first | (show oL; first | refine sMv rfl rfl ?_ | refine sAs rfl rfl ?_ | refine sFd tabs rfl rfl rfl rfl ?_ | refine sLd 0 tabs rfl rfl rfl rfl rfl ?_ | (show oA (.unOp _ _ _); refine st_y (y_notd rfl) rfl ?_) | (show oA (.call _); (refine m_call (ent_of Tryz.func58 kr rfl) rfl rfl (fun w c => l5Fine_ok (c.rd hu)) ?_; rintro v H' ⟨rfl, rfl⟩)) | (show oA (.box _ _); refine m_box rfl rfl (fun b hb => ?_))) | refine xNt ?_ | (show oC; first | refine c_seq ?_ | refine c_region ?_ | refine c_skip (x_then ?_) | refine c_iff rfl nN ?_))
    refine c_all (Hp [] w [.blk b #[iV C, u] 26]) kr (fun _ c => Hp.drew c) ?_
    refine h_take 0 rfl kr kr kr (by exact y_move rfl) rfl (fun _ c => c) ?_
    refine h_take 1 rfl kr kr kr (by exact y_field tabs rfl rfl rfl) rfl (fun _ c => c) ?_
    refine h_take 2 rfl kr kr kr (by exact y_load tabs rfl rfl (hc_blk 0 rfl rfl)) rfl (fun _ c => c) ?_
    refine h_take 3 rfl kr kr kr (by exact y_field tabs rfl rfl rfl) rfl (fun _ c => c) ?_
    refine h_take 4 rfl kr kr kr (by exact y_load tabs rfl rfl (hc_blk 0 rfl rfl)) rfl (fun _ c => c) ?_
    refine h_take 7 rfl kr kr kr (by exact y_field tabs rfl rfl rfl) rfl (fun _ c => c) ?_
    refine h_take 8 rfl kr kr kr (by exact y_load tabs rfl rfl (hc_blk 0 rfl rfl)) rfl (fun _ c => c) ?_
    refine h_only 5 rfl kr ?_
    first | (refine m_call (ent_of Tryz.func38 kr rfl) rfl rfl (fun w c => l5Rows_ok (c.rd hu) hl.len om om) ?_; rintro v H' ⟨a0, c0, rfl, hs0, rfl⟩) | (refine m_call (ent_of Tryz.func73 kr rfl) rfl rfl (fun w c => l5Basis_ok (c.own_rd (i := 0) rfl) hF hl om om) ?_; rintro v H' ⟨a, c, rfl, hs, rfl⟩) | (refine m_call (ent_of Tryz.func43 kr rfl) rfl rfl (fun w' c' => l5Same_ok w' _ _ (basL p C rs) rs _ _ (c'.own_rd (i := 0) rfl) (c'.rd hu)) ?_; rintro v H' ⟨rfl, rfl⟩)
    refine c_nil (x_one (h_keep (fun w c => by exact c.drop) ?_))
    refine h_only 6 rfl kr ?_
    first | (refine m_call (ent_of Tryz.func38 kr rfl) rfl rfl (fun w c => l5Rows_ok (c.rd hu) hl.len om om) ?_; rintro v H' ⟨a0, c0, rfl, hs0, rfl⟩) | (refine m_call (ent_of Tryz.func73 kr rfl) rfl rfl (fun w c => l5Basis_ok (c.own_rd (i := 0) rfl) hF hl om om) ?_; rintro v H' ⟨a, c, rfl, hs, rfl⟩) | (refine m_call (ent_of Tryz.func43 kr rfl) rfl rfl (fun w' c' => l5Same_ok w' _ _ (basL p C rs) rs _ _ (c'.own_rd (i := 0) rfl) (c'.rd hu)) ?_; rintro v H' ⟨rfl, rfl⟩)
    refine c_nil (x_one (h_keep (fun w c => by exact c.drop.drop) ?_))
    refine h_only 9 rfl kr ?_
    first | (refine m_call (ent_of Tryz.func38 kr rfl) rfl rfl (fun w c => l5Rows_ok (c.rd hu) hl.len om om) ?_; rintro v H' ⟨a0, c0, rfl, hs0, rfl⟩) | (refine m_call (ent_of Tryz.func73 kr rfl) rfl rfl (fun w c => l5Basis_ok (c.own_rd (i := 0) rfl) hF hl om om) ?_; rintro v H' ⟨a, c, rfl, hs, rfl⟩) | (refine m_call (ent_of Tryz.func43 kr rfl) rfl rfl (fun w' c' => l5Same_ok w' _ _ (basL p C rs) rs _ _ (c'.own_rd (i := 0) rfl) (c'.rd hu)) ?_; rintro v H' ⟨rfl, rfl⟩)
    refine c_nil (x_one (h_keep (fun w c => by exact c.drop.drop) ?_))
    refine h_take 10 rfl kr kr kr (by exact y_assign rfl) rfl (fun w c => by exact c.drop.drop) ?_
    refine h_end kr ?_
    repeat' (first | (show oC; refine c_ret ?_) | (show AT _ _ _ _; refine x_then ?_))
    refine x_ret1 Tryz.results32 (res_tmp rfl) (fun w' c' => ⟨_, _, rfl, ⟨congrArg Value.bool (decide_eq_decide.2 ?_), rfl⟩, c'.sub (List.nil_sublist _)⟩)
    simp [SpcP, hA]
  · have hno : ¬ SpcP p (n, rs) := fun h => hA h.1
    rw [decide_eq_false hno]
    refine fn_enter Tryz.func32 rfl Tryz.ntmps32 rfl ?_
    repeat' (first | (show oL; first | refine sMv rfl rfl ?_ | refine sAs rfl rfl ?_ | refine sFd tabs rfl rfl rfl rfl ?_ | refine sLd 0 tabs rfl rfl rfl rfl rfl ?_ | (show oA (.unOp _ _ _); refine st_y (y_notd rfl) rfl ?_) | (show oA (.call _); (refine m_call (ent_of Tryz.func58 kr rfl) rfl rfl (fun w c => l5Fine_ok (c.rd hu)) ?_; rintro v H' ⟨rfl, rfl⟩)) | (show oA (.box _ _); refine m_box rfl rfl (fun b hb => ?_))) | refine xNt ?_ | (show oC; first | refine c_seq ?_ | refine c_region ?_ | refine c_ret ?_ | refine c_ift rfl aO ?_) | (show AT _ _ _ _; refine x_then_ret ?_))
    exact x_ret1 Tryz.results32 (res_tmp rfl) (fun w' c' => ⟨_, _, rfl, ⟨rfl, rfl⟩, c'.sub (List.nil_sublist _)⟩)
end Go.Proofs.YtcplmeajmpkpkaaGreat
