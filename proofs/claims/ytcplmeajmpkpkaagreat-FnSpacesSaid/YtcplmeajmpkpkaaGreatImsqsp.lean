import Derived.Test.YtcplmeajmpkpkaaGreatMulqsp
import Derived.Test.YtcplmeajmpkpkaaGreatSpgqsp
namespace Go.Proofs.YtcplmeajmpkpkaaGreat
open Go.Lg Go.Proofs Go.RowKit
attribute [local irreducible] Code.wp wpList bodyPost Exit.then Exit.inBlock Hp Again Calls Y AT ResV QT Qn QI wpAny wpAnyQ
set_option maxRecDepth 20000
set_option maxHeartbeats 4000000

theorem matP_cells0 {p : Int} {m : Mat} (h : MatP p m) : ∃ R C : Nat, m.1 = R ∧ m.2.1 = C ∧ R ≤ 8 ∧ C ≤ 8 ∧ m.2.2 = mk R C (matF m) ∧ inF p R C (matF m) := by
  obtain ⟨R, C, f, rfl, hR, hC, _, hin⟩ := matP_mk h
  refine ⟨R, C, rfl, rfl, hR, hC, mk_ext (fun i j hi hj => (matF_mk hi hj).symm), fun i j hi hj => ?_⟩
  rw [matF_mk hi hj]
  exact hin i j hi hj
theorem accF_congr {p : Int} {f f' g g' : Nat → Nat → Int} {i j i' j' : Nat} : ∀ n, (∀ k, k < n → f i k = f' i' k ∧ g k j = g' k j') → accF p f g i j n = accF p f' g' i' j' n
  | 0, _ => rfl
  | n + 1, h => by
    rw [accF, accF, accF_congr n (fun k hk => h k om), (h n om).1, (h n om).2]
def imv (p : Int) (C : Nat) (f : Nat → Nat → Int) (xs : List Int) (i : Nat) : Int := accF p f (fun k _ => xs.getD k 0) i 0 C
theorem mk_col {R : Nat} {g : Nat → Nat → Int} : mk R 1 g = mkv R (fun i => g i 0) := by
  apply List.ext_getElem?
  intro q
  by_cases hq : q < R
  · simp [mk, mkv, hq, Nat.div_one, Nat.mod_one]
  · rw [List.getElem?_eq_none (by simp; omega), List.getElem?_eq_none (by simp; omega)]
theorem list_col {xs : List Int} {C : Nat} (h : xs.length = C) : xs = mk C 1 (fun k _ => xs.getD k 0) := by
  rw [mk_col]; exact mkv_of h
theorem imv_eq {p : Int} {R C : Nat} {f : Nat → Nat → Int} {xs : List Int} : mk R 1 (mulF p C f (fromF [xs])) = mkv R (imv p C f xs) := by
  rw [mk_col]
  exact mkv_ext (fun i _ => accF_congr C (fun k _ => ⟨rfl, rfl⟩))
theorem imv_eq2 {p : Int} {R C : Nat} {f : Nat → Nat → Int} {xs : List Int} : mk R 1 (mulF p C f (fun k _ => xs.getD k 0)) = mkv R (imv p C f xs) := by
  rw [mk_col]; rfl
theorem imv_in {p : Int} {C : Nat} {f : Nat → Nat → Int} {xs : List Int} (hp : 0 < p) (i : Nat) : 0 ≤ imv p C f xs i ∧ imv p C f xs i < p := accF_in hp C
theorem inF_list {p : Int} {xs : List Int} {C : Nat} (hF : FieldP p) (hx : xs.length = C) (h : InP 0 (p - 1) xs) : inF p C 1 (fun k _ => xs.getD k 0) := fun i j hi _ => by
  have := inP_get h (i := i) om
  have := fieldP_pos hF
  show 0 ≤ xs.getD i 0 ∧ xs.getD i 0 < p
  exact ⟨by omega, by omega⟩
theorem inF_from {p : Int} {xs : List Int} {C : Nat} (hF : FieldP p) (hx : xs.length = C) (h : InP 0 (p - 1) xs) : inF p C 1 (fromF [xs]) := fun i j hi hj => by
  have hj0 : j = 0 := by omega
  subst hj0
  exact inF_list hF hx h i 0 hi hj
theorem rd_col {w : World} {xs : List Int} {v : Value} (h : Rd w (iT xs) v) : Rd w (iT (mk xs.length 1 (fun k _ => xs.getD k 0))) v := by
  rw [← list_col rfl]; exact h
theorem fld_mat2 (r k : Int) (a : Option Addr) (m c : Nat) (w : World) : (Instr.field 47 (.agg #[iV r, iV k, .slice a m c]) 2).run Tryz.prog w = .ok (.slice a m c) w := by kernel_rfl
theorem rd_blk1 {w0 w : World} {M : List Nat} {H : List HE} {g e e' : Nat} {xs : List Int} {u : Value} (i : Nat) (hi : H[i]? = some (.blk g #[u] e)) (c : Hp M w0 H w) (hr : Rd w (iT xs) u) : Rd w (rowsT e' [xs]) (.slice (some ⟨g, 0, none⟩) 1 1) := by
  simp only [rowT, Rd, List.flatMap_cons, List.flatMap_nil, List.append_nil]
  refine ⟨some ⟨g, 0, none⟩, 1, 1, rfl, Nat.le_refl _, by unfold maxLen; omega, by simp, ?_⟩
  simp only [RdL, and_true]
  exact ⟨g, 0, u, rfl, hc_blk i hi rfl w c, hr⟩
theorem apply_ok {w : World} {p : Int} {R C : Nat} {f : Nat → Nat → Int} {xs : List Int} {u v : Value} (hr : Rd w (iT (mk R C f)) u) (hv : Rd w (iT xs) v) (hF : FieldP p) (hR : R ≤ 64) (hC : C ≤ 64) (hf : inF p R C f) (hx : xs.length = C) (hxi : InP 0 (p - 1) xs) :
    Does Tryz.prog 104 [iV p, .agg #[iV R, iV C, u], v] w (Gives (iT (mkv R (imv p C f xs))) R) := by
  have hin := inF_from hF hx hxi
  obtain ⟨av, cv, rfl, _⟩ := hv.ints
  refine fn_enter Tryz.func104 rfl Tryz.ntmps104 rfl ?_
  repeat' (first | (show oL; first | refine sAs rfl rfl ?_ | (show oA (.box _ _); refine m_box rfl rfl (fun b1 hb1 => ?_))) | refine xNt ?_ | (show oC; first | refine c_seq ?_ | refine c_region ?_))
  refine c_all (Hp [] w [.blk b1 #[iV R, iV C, u] 47]) kr (fun _ c => Hp.drew c) ?_
  refine h_take 0 rfl kr kr kr (by exact y_move rfl) rfl (fun _ c => c) ?_
  refine h_take 1 rfl kr kr kr (by exact y_loadb 0 tabs rfl rfl rfl rfl) rfl (fun _ c => c) ?_
  refine h_take 2 rfl kr kr kr (by exact y_field tabs rfl rfl rfl) rfl (fun _ c => c) ?_
  refine h_take 3 rfl kr kr kr (by exact y_load tabs rfl rfl (hc_blk 0 rfl rfl)) rfl (fun _ c => c) ?_
  refine h_take 4 rfl kr kr kr (by exact y_move rfl) rfl (fun _ c => c) ?_
  refine h_only 5 rfl kr ?_
  first | (refine m_build1 tabs (us := [.slice av xs.length cv]) rfl rfl rfl rfl (by decide) rfl (fun g2 hg2 => ?_)) | (refine m_call (ent_of Tryz.func77 kr rfl) rfl rfl (fun w c => fromColumns_ok (e := 43) (R := C) (C := 1) (rd_blk1 0 rfl c (c.rd hv)) rfl om om (fun k ys h => by cases k with | zero => (simp at h; subst h; exact hx) | succ k => simp at h)) ?_; rintro v H' ⟨a3, c3, rfl, hs3, rfl⟩) | (refine m_call (ent_of Tryz.func122 kr rfl) rfl rfl (fun w c => times_ok (c.rd hr) (c.own_rd (i := 0) rfl) hF om om om hf hin) ?_; rintro v H' ⟨a4, c4, rfl, hs4, rfl⟩)
  refine c_nil (x_one (h_keep (fun w c => by exact c.drop) ?_))
  refine h_only 6 rfl kr ?_
  first | (refine m_build1 tabs (us := [.slice av xs.length cv]) rfl rfl rfl rfl (by decide) rfl (fun g2 hg2 => ?_)) | (refine m_call (ent_of Tryz.func77 kr rfl) rfl rfl (fun w c => fromColumns_ok (e := 43) (R := C) (C := 1) (rd_blk1 0 rfl c (c.rd hv)) rfl om om (fun k ys h => by cases k with | zero => (simp at h; subst h; exact hx) | succ k => simp at h)) ?_; rintro v H' ⟨a3, c3, rfl, hs3, rfl⟩) | (refine m_call (ent_of Tryz.func122 kr rfl) rfl rfl (fun w c => times_ok (c.rd hr) (c.own_rd (i := 0) rfl) hF om om om hf hin) ?_; rintro v H' ⟨a4, c4, rfl, hs4, rfl⟩)
  refine c_nil (x_one (h_keep (fun w c => by exact c.drop.drop) ?_))
  refine h_only 7 rfl kr ?_
  first | (refine m_build1 tabs (us := [.slice av xs.length cv]) rfl rfl rfl rfl (by decide) rfl (fun g2 hg2 => ?_)) | (refine m_call (ent_of Tryz.func77 kr rfl) rfl rfl (fun w c => fromColumns_ok (e := 43) (R := C) (C := 1) (rd_blk1 0 rfl c (c.rd hv)) rfl om om (fun k ys h => by cases k with | zero => (simp at h; subst h; exact hx) | succ k => simp at h)) ?_; rintro v H' ⟨a3, c3, rfl, hs3, rfl⟩) | (refine m_call (ent_of Tryz.func122 kr rfl) rfl rfl (fun w c => times_ok (c.rd hr) (c.own_rd (i := 0) rfl) hF om om om hf hin) ?_; rintro v H' ⟨a4, c4, rfl, hs4, rfl⟩)
  refine c_nil (x_one (h_keep sS ?_))
  refine h_take 8 rfl kr kr kr (by exact y_fld (fld_mat2 _ _ _ _ _) rfl) rfl sS ?_
  refine h_take 9 rfl kr kr kr (by exact y_assign rfl) rfl sS ?_
  refine h_end kr ?_
  repeat' (first | (show oC; refine c_ret ?_) | (show AT _ _ _ _; refine x_then ?_))
  rw [imv_eq]
  simp only [Nat.mul_one] at hs4 ⊢
  exact x_ret1 Tryz.results104 (res_tmp rfl) (fun w' c' => ⟨_, _, rfl, ⟨a4, c4, rfl, hs4, rfl⟩, c'.sub (.cons_cons _ (List.nil_sublist _))⟩)
theorem spec_ApplyMatrix_yes {w : World} {p : Int} {R C : Nat} {f : Nat → Nat → Int} {xs : List Int} {u v : Value} (hr : Rd w (iT (mk R C f)) u) (hv : Rd w (iT xs) v) (hM : MatP p (↑R, ↑C, mk R C f)) (hR : R ≤ 64) (hC : C ≤ 64) (hf : inF p R C f) (hx : xs.length = C) (hV : VecP p xs) :
    Does Tryz.prog 65 [iV p, .agg #[iV R, iV C, u], v] w (fun r H => ∃ a c, r = .tuple #[.slice a R c, .bool true] ∧ SA a R ∧ H = [.own (iT (mkv R (imv p C f xs))) (.slice a R c)]) := by
  have hF := hV.1
  have hxl := hV.2.1
  subst hx
  have hin := inF_list hF rfl hV.2.2
  obtain ⟨av, cv, rfl, _⟩ := hv.ints
  refine fn_enter Tryz.func65 rfl Tryz.ntmps65 rfl ?_
  repeat' (first | (show oL; first | refine sMv rfl rfl ?_ | refine sAs rfl rfl ?_ | refine sFd tabs rfl rfl rfl rfl ?_ | (show oA (.load _ _); first | refine sLb 0 tabs rfl rfl rfl rfl rfl ?_ | refine sLd 0 tabs rfl rfl rfl rfl rfl ?_) | (show oA (.binOp _ _ _ _ _); refine st_y (y_neq rfl rfl) rfl ?_) | (show oA (.unOp _ _ _); refine st_y (y_notd rfl) rfl ?_) | (show oA (.call _); first | (refine m_call (ent_of Tryz.func64 kr rfl) rfl rfl (fun w c => spec_IsMatrix_ok (m := (↑R, ↑xs.length, mk R xs.length f)) (c.rd hr)) ?_; rintro v H' ⟨rfl, rfl⟩) | (refine m_call (ent_of Tryz.func69 kr rfl) rfl rfl (fun w c => spec_IsVector_ok (c.rd hv)) ?_; rintro v H' ⟨rfl, rfl⟩) | refine sLn tabs rfl rfl rfl ?_) | (show oA (.pick _ _ _); first | refine st_y (y_pickt rfl aO rfl) rfl ?_ | refine st_y (y_pickf rfl aO rfl) rfl ?_ | refine st_y (y_pick rfl rfl rfl) rfl ?_) | (show oA (.box _ _); refine m_box rfl rfl (fun b1 hb1 => ?_)) | (show oA (.buildSlice _ _ _); refine m_build0 tabs rfl rfl (fun g hg => ?_)) | refine st_gn rfl rfl rfl ?_ | refine st_gfy rfl rfl aO ?_ | refine st_gfn rfl rfl aO rfl ?_ | refine st_gd rfl rfl (fun h => ?_) (fun h => ?_)) | refine xNt ?_ | (show oC; first | refine c_seq ?_ | refine c_region ?_ | refine c_skip (x_then ?_) | refine c_ret ?_ | refine c_true rfl ?_ | refine c_iff rfl nN ?_) | (show AT _ _ _ _; refine x_then_ret ?_))
  all_goals first | exact absurd hM aS | exact absurd hV aS | skip
  refine c_all (Hp [] w [.blk b1 #[iV R, iV xs.length, u] 47]) kr (fun _ c => Hp.drew c) ?_
  refine h_take 0 rfl kr kr kr (by exact y_move rfl) rfl (fun _ c => c) ?_
  refine h_take 1 rfl kr kr kr (by exact y_loadb 0 tabs rfl rfl rfl rfl) rfl (fun _ c => c) ?_
  refine h_take 2 rfl kr kr kr (by exact y_move rfl) rfl (fun _ c => c) ?_
  refine h_take 3 rfl kr kr kr (by exact y_len tabs rfl rfl) rfl (fun _ c => c) ?_
  refine h_take 5 rfl kr kr kr (by exact y_move rfl) rfl (fun _ c => c) ?_
  refine h_only 4 rfl kr ?_
  first | (refine m_build0 tabs rfl rfl (fun g hg => ?_)) | (refine m_dup 0 tabs rfl rfl rfl rfl rfl om (fun w c => c.rd hv) (fun a2 c2 hs2 => ?_)) | (refine m_call (ent_of Tryz.func105 kr rfl) rfl rfl (fun w c => l3Multiply_ok (C := 1) (c.rd hr) (rd_col (c.own_rd (i := 0) rfl)) hF om om om hf hin) ?_; rintro v H' ⟨a4, c4, rfl, hs4, rfl⟩)
  refine c_nil (x_one (h_keep (fun w c => by exact c.drop) ?_))
  refine h_only 6 rfl kr ?_
  first | (refine m_build0 tabs rfl rfl (fun g hg => ?_)) | (refine m_dup 0 tabs rfl rfl rfl rfl rfl om (fun w c => c.rd hv) (fun a2 c2 hs2 => ?_)) | (refine m_call (ent_of Tryz.func105 kr rfl) rfl rfl (fun w c => l3Multiply_ok (C := 1) (c.rd hr) (rd_col (c.own_rd (i := 0) rfl)) hF om om om hf hin) ?_; rintro v H' ⟨a4, c4, rfl, hs4, rfl⟩)
  refine c_nil (x_one (h_keep (fun w c => by exact c.drop) ?_))
  refine h_take 7 rfl kr kr kr (by exact y_bld3 (bld_mat _ _ _ _ _) rfl rfl rfl) rfl (fun w c => by exact c.drop) ?_
  refine h_only 8 rfl kr ?_
  first | (refine m_build0 tabs rfl rfl (fun g hg => ?_)) | (refine m_dup 0 tabs rfl rfl rfl rfl rfl om (fun w c => c.rd hv) (fun a2 c2 hs2 => ?_)) | (refine m_call (ent_of Tryz.func105 kr rfl) rfl rfl (fun w c => l3Multiply_ok (C := 1) (c.rd hr) (rd_col (c.own_rd (i := 0) rfl)) hF om om om hf hin) ?_; rintro v H' ⟨a4, c4, rfl, hs4, rfl⟩)
  refine c_nil (x_one (h_keep (fun w c => by exact c.drop.drop) ?_))
  refine h_take 9 rfl kr kr kr (by exact y_fld (fld_mat2 _ _ _ _ _) rfl) rfl (fun w c => by exact c.drop.drop) ?_
  refine h_take 10 rfl kr kr kr (by exact y_assign rfl) rfl (fun w c => by exact c.drop.drop) ?_
  refine h_take 11 rfl kr kr kr (by exact y_assign rfl) rfl (fun w c => by exact c.drop.drop) ?_
  refine h_end kr ?_
  repeat' (first | (show oC; refine c_ret ?_) | (show AT _ _ _ _; refine x_then ?_))
  rw [imv_eq2]
  simp only [Nat.mul_one] at hs4 ⊢
  exact x_ret2 Tryz.results65 (res_tmp rfl) (res_tmp rfl) (fun w' c' => ⟨_, _, rfl, ⟨a4, c4, rfl, hs4, rfl⟩, c'.sub (.cons_cons _ (List.nil_sublist _))⟩)
def imsL (p : Int) (R C : Nat) (f : Nat → Nat → Int) (l : List (List Int)) : List (List Int) := l.map (fun xs => mkv R (imv p C f xs))
@[simp] theorem imsL_length {p : Int} {R C : Nat} {f : Nat → Nat → Int} {l : List (List Int)} : (imsL p R C f l).length = l.length := by simp [imsL]
theorem imsL_next {p : Int} {R C i : Nat} {f : Nat → Nat → Int} {l : List (List Int)} {xs : List Int} (h : l[i]? = some xs) : (imsL p R C f (l.take i)).flatMap rowT ++ (List.map T.c [] ++ [iT (mkv R (imv p C f xs))]) = (imsL p R C f (l.take (i + 1))).flatMap rowT := by
  rw [List.take_add_one, h]
  simp [imsL, rowT_map]
theorem imsL_rows {p : Int} {R C : Nat} {f : Nat → Nat → Int} {l : List (List Int)} (hF : FieldP p) : RowsP p R (imsL p R C f l) := fun xs h => by
  obtain ⟨ys, _, rfl⟩ := List.mem_map.1 h
  have hp := fieldP_pos hF
  refine ⟨by simp, fun x hx => ?_⟩
  obtain ⟨i, _, rfl⟩ := List.mem_map.1 hx
  have := imv_in (p := p) (C := C) (f := f) (xs := ys) om i
  omega
theorem imageOf_ok {w : World} {p : Int} {R C : Nat} {f : Nat → Nat → Int} {A : List (List Int)} {n : Int} {u v : Value} (hr : Rd w (iT (mk R C f)) u) (hv : Rd w (rowsT 43 A) v) (hF : FieldP p) (hR : R ≤ 64) (hC : C ≤ 64) (hf : inF p R C f) (hA : RowsP p C A) (hb : A.length ≤ 64) :
    Does Tryz.prog 63 [iV p, .agg #[iV R, iV C, u], .agg #[iV n, v]] w (GivesSp (↑R, basL p R (imsL p R C f A))) := by
  obtain ⟨aA, cA, rfl, hsA, _, _, hgA⟩ := rd_rows hv
  refine fn_enter Tryz.func63 rfl Tryz.ntmps63 rfl ?_
  repeat' (first | (show oL; first | refine sMv rfl rfl ?_ | refine sAs rfl rfl ?_ | refine sFd tabs rfl rfl rfl rfl ?_ | refine sLd 1 tabs rfl rfl rfl rfl rfl ?_ | refine sLn tabs rfl rfl rfl ?_ | (show oA (.box _ _); refine m_box rfl rfl (fun b5 hb5 => ?_)) | (show oA (.alloc _); refine m_alloc tabs rfl rfl (fun b6 hb6 => ?_))) | refine xNt ?_ | (show oC; first | refine c_seq ?_ | refine c_region ?_ | refine c_block ?_))
  rename_i b4 hb4
  refine c_loopH (α := Nat × Option Addr × Nat) [0, 4, 6, 11, 12] (fun s => [(7, .slice s.2.1 s.1 s.2.2), (13, .int .i64 s.1)]) (fun s => s.1 ≤ A.length) (fun s => [.own (rowsT 43 (imsL p R C f (A.take s.1))) (.slice s.2.1 s.1 s.2.2), .blk b6 #[iV 0, .slice none 0 0] 26, .blk b5 #[iV n, .slice aA A.length cA] 26, .blk b4 #[iV R, iV C, u] 47]) (fun s => A.length - s.1) (0, none, 0) rfl sB ?_ ?_ ?_
  · exact Nat.zero_le _
  · exact fun w' c' => Hp.nilp _ _ c'
  · rintro ⟨i, al, cl⟩ hi
    simp only at hi ⊢
    have hln : (A.take i).length = i := by simp; omega
    by_cases hin : i < A.length
    · obtain ⟨xs, hx⟩ : ∃ xs, A[i]? = some xs := ⟨_, List.getElem?_eq_getElem hin⟩
      obtain ⟨a4, c4, g1, g2⟩ := hgA i xs hx
      obtain ⟨hxl, hxi⟩ := hA xs (List.mem_of_getElem? hx)
      repeat' (first | (show oL; first | refine sMv rfl rfl ?_ | refine sAs rfl rfl ?_ | (show oA (.load _ _); first | refine st_y (y_load tabs rfl rfl (hc_w0 g1)) rfl ?_ | refine sLb 3 tabs rfl rfl rfl rfl rfl ?_) | (show oA (.indexAddr _ _ _); refine st_y (y_ix1 tabs (j := i) rfl rfl rfl hsA rfl hin) rfl ?_) | (show oA (.binOp _ _ _ _ _); first | refine sAd rfl rfl om rfl ?_ | refine sLs rfl rfl rfl ?_) | (show oA (.call _); first | (refine m_call (ent_of Tryz.func104 kr rfl) rfl rfl (fun w c => apply_ok (c.rd hr) (c.rd g2) hF hR hC hf hxl hxi) ?_; rintro v H' ⟨a7, c7, rfl, hs7, rfl⟩) | refine m_push1 [] 0 0 tabs (m' := i) rfl rfl rfl rfl rfl rfl rfl (by simp [rowT_map, hln]) (by simp [rowT_map, hln]; omega) (by decide) rfl rfl (fun a10 c10 => ?_)) | (show oA (.buildSlice _ _ _); refine m_build1 tabs (us := [.slice a7 R c7]) rfl rfl rfl rfl (by decide) rfl (fun g5 hg5 => ?_))) | (show oN; first | refine c_nil (x_then ?_) | refine c_nil ?_) | (show oC; first | refine c_seq ?_ | refine c_region ?_ | refine c_skip (x_then ?_) | refine c_block ?_ | refine c_ift rfl aO ?_) | (show AT _ _ _ _; first | refine x_then ?_ | refine x_blk ?_))
      refine x_nx (i + 1, a10, c10) sB (by simp only; omega) (fun w' c' => ?_) (by simp only; omega)
      rw [imsL_next hx] at c'
      exact c'
    · have : i = A.length := by omega
      subst this
      have e0 : A.take A.length = A := List.take_length
      rw [e0]
      repeat' (first | (show oL; first | refine sMv rfl rfl ?_ | refine sFd tabs rfl rfl rfl rfl ?_ | refine sLd 3 tabs rfl rfl rfl rfl rfl ?_ | refine sLs rfl rfl rfl ?_ | (show oA (.call _); (refine m_call (ent_of Tryz.func47 kr rfl) rfl rfl (fun w c => span_ok (rs := imsL p R C f A) (c.own_rd (i := 0) rfl) hF (imsL_rows hF) (by simp; omega) hR) ?_; rintro v H' ⟨a7, c7, rfl, hs7, rfl⟩)) | (show oA (.store _ _ _); refine m_storeb 2 tabs rfl rfl rfl rfl rfl rfl rfl ?_)) | refine xNt ?_ | (show oC; first | refine c_seq ?_ | refine c_region ?_ | refine c_ret ?_ | refine c_exit ?_ | refine c_iff rfl nN ?_) | (show AT _ _ _ _; first | refine x_then ?_ | refine x_then_exit ?_ | refine x_blk_exit rfl ?_))
      exact x_ret1 Tryz.results63 (res_cellb 2 tabs rfl rfl rfl rfl) (fun w' c' => ⟨_, _, rfl, ⟨a7, c7, rfl, hs7, rfl⟩, c'.sub (.cons_cons _ (List.nil_sublist _))⟩)
def ImsP (p : Int) (m : Mat) (s : Sp) : Prop := MatP p m ∧ SpcP p s ∧ s.1 = m.2.1
instance (p : Int) (m : Mat) (s : Sp) : Decidable (ImsP p m s) := by unfold ImsP; infer_instance
def imsS (p : Int) (m : Mat) (s : Sp) : Sp := if ImsP p m s then (m.1, basL p m.1.toNat (imsL p m.1.toNat m.2.1.toNat (matF m) s.2)) else (0, [])
theorem impl_ImageOfSpace_ok {w : World} {p : Int} {m : Mat} {s : Sp} {u v : Value} (hr : Rd w (iT m.2.2) u) (hv : Rd w (rowsT 43 s.2) v) :
    Does Tryz.prog 22 [iV p, .agg #[iV m.1, iV m.2.1, u], .agg #[iV s.1, v]] w (GivesSpB (imsS p m s) (decide (ImsP p m s))) := by
  obtain ⟨av, cv, rfl, _⟩ := rd_rows hv
  obtain ⟨au, cu, rfl, _⟩ := hr.ints
  by_cases hI : ImsP p m s
  · rw [imsS, if_pos hI, decide_eq_true hI]
    obtain ⟨hM, hS, he⟩ := hI
    obtain ⟨C, hc, hC8, hl, hF, hn, _⟩ := hS.rows
    have hM0 := hM
    obtain ⟨R, C', e1, e2, hR, hC, e3, hin⟩ := matP_cells0 hM
    obtain ⟨x, y, z⟩ := m
    obtain ⟨n, A⟩ := s
    simp only at e1 e2 e3 hc he hl hn hr hv ⊢
    subst e1; subst e2
    have hCC : C = C' := by omega
    subst hCC; subst hc
    simp only [Int.toNat_natCast]
    have hr2 : Rd w (iT (mk R C (matF (↑R, ↑C, z)))) (.slice au z.length cu) := by rw [← e3]; exact hr
    refine fn_enter Tryz.func22 rfl Tryz.ntmps22 rfl ?_
    repeat' (first | (show oL; first | refine sMv rfl rfl ?_ | refine sAs rfl rfl ?_ | refine sFd tabs rfl rfl rfl rfl ?_ | (show oA (.load _ _); first | refine sLb 1 tabs rfl rfl rfl rfl rfl ?_ | refine sLb 2 tabs rfl rfl rfl rfl rfl ?_ | refine sLd 1 tabs rfl rfl rfl rfl rfl ?_ | refine sLd 2 tabs rfl rfl rfl rfl rfl ?_) | (show oA (.binOp _ _ _ _ _); refine st_y (y_neq rfl rfl) rfl ?_) | (show oA (.unOp _ _ _); refine st_y (y_notd rfl) rfl ?_) | (show oA (.call _); first | (refine m_call (ent_of Tryz.func62 kr rfl) rfl rfl (fun w c => impl_IsMatrix_ok (m := (↑R, ↑C, z)) (c.rd hr)) ?_; rintro v H' ⟨rfl, rfl⟩) | (refine m_call (ent_of Tryz.func12 kr rfl) rfl rfl (fun w c => impl_IsSpace_ok (s := (↑C, A)) (c.rd hv)) ?_; rintro v H' ⟨rfl, rfl⟩) | (refine m_call (ent_of Tryz.func63 kr rfl) rfl rfl (fun w c => imageOf_ok (R := R) (C := C) (A := A) (c.rd hr2) (c.rd hv) hF om om hin hl om) ?_; rintro v H' ⟨a7, c7, rfl, hs7, rfl⟩)) | (show oA (.pick _ _ _); first | refine st_y (y_pickt rfl aO rfl) rfl ?_ | refine st_y (y_pickf rfl aO rfl) rfl ?_ | refine st_y (y_pick rfl rfl rfl) rfl ?_) | (show oA (.store _ _ _); refine m_storeb 1 tabs rfl rfl rfl rfl rfl rfl rfl ?_) | (show oA (.box _ _); refine m_box rfl rfl (fun b5 hb5 => ?_)) | (show oA (.alloc _); refine m_alloc tabs rfl rfl (fun b6 hb6 => ?_)) | refine st_gn rfl rfl rfl ?_ | refine st_gfy rfl rfl aO ?_ | refine st_gfn rfl rfl aO rfl ?_ | refine st_gd rfl rfl (fun h => ?_) (fun h => ?_)) | refine xNt ?_ | (show oC; first | refine c_seq ?_ | refine c_region ?_ | refine c_skip (x_then ?_) | refine c_ret ?_ | refine c_true rfl ?_ | refine c_iff rfl nN ?_))
    all_goals first | exact absurd hM0 aS | exact absurd hS aS | exact absurd rfl aS | skip
    exact x_ret2 Tryz.results22 (res_cellb 1 tabs rfl rfl rfl rfl) (res_tmp rfl) (fun w' c' => ⟨_, _, rfl, ⟨a7, c7, rfl, hs7, rfl⟩, c'.sub (.cons_cons _ (List.nil_sublist _))⟩)
  · rw [imsS, if_neg hI, decide_eq_false hI]
    refine fn_enter Tryz.func22 rfl Tryz.ntmps22 rfl ?_
    repeat' (first | (show oL; first | refine sMv rfl rfl ?_ | refine sAs rfl rfl ?_ | refine sFd tabs rfl rfl rfl rfl ?_ | (show oA (.load _ _); first | refine sLb 1 tabs rfl rfl rfl rfl rfl ?_ | refine sLb 2 tabs rfl rfl rfl rfl rfl ?_ | refine sLd 1 tabs rfl rfl rfl rfl rfl ?_ | refine sLd 2 tabs rfl rfl rfl rfl rfl ?_) | (show oA (.binOp _ _ _ _ _); refine st_y (y_neq rfl rfl) rfl ?_) | (show oA (.unOp _ _ _); refine st_y (y_notd rfl) rfl ?_) | (show oA (.call _); first | (refine m_call (ent_of Tryz.func62 kr rfl) rfl rfl (fun w c => impl_IsMatrix_ok (m := m) (c.rd hr)) ?_; rintro v H' ⟨rfl, rfl⟩) | (refine m_call (ent_of Tryz.func12 kr rfl) rfl rfl (fun w c => impl_IsSpace_ok (s := s) (c.rd hv)) ?_; rintro v H' ⟨rfl, rfl⟩)) | (show oA (.pick _ _ _); first | refine st_y (y_pickt rfl aS rfl) rfl ?_ | refine st_y (y_pickf rfl aS rfl) rfl ?_ | refine st_y (y_pick rfl rfl rfl) rfl ?_) | (show oA (.store _ _ _); refine m_storeb 0 tabs rfl rfl rfl rfl rfl rfl rfl ?_) | (show oA (.box _ _); refine m_box rfl rfl (fun b5 hb5 => ?_)) | (show oA (.alloc _); refine m_alloc tabs rfl rfl (fun b6 hb6 => ?_)) | (show oA (.build _ _); refine st_y (y_bld0 bld_sp0) rfl ?_) | refine st_gn rfl rfl rfl ?_ | refine st_gfy rfl rfl aS ?_ | refine st_gfn rfl rfl aS rfl ?_ | refine st_gd rfl rfl (fun h => ?_) (fun h => ?_)) | refine xNt ?_ | (show oC; first | refine c_seq ?_ | refine c_region ?_ | refine c_skip (x_then ?_) | refine c_ret ?_ | refine c_true rfl ?_ | refine c_ifnd rfl (fun h => ?_) (fun h => ?_)) | (show AT _ _ _ _; refine x_then_ret ?_))
    all_goals first
      | exact (hI ⟨by first | assumption | exact Decidable.not_not.1 aS, by first | assumption | exact Decidable.not_not.1 aS, by first | assumption | exact Decidable.not_not.1 aS⟩).elim
      | exact x_ret2 Tryz.results22 (res_cellb 0 tabs rfl rfl rfl rfl) (res_tmp rfl) (fun w' c' => ⟨_, _, rfl, ⟨none, 0, rfl, .inl rfl, rfl⟩, Hp.nilp _ _ (c'.sub (List.nil_sublist _))⟩)
theorem spec_ImageOfSpace_ok {w : World} {p : Int} {m : Mat} {s : Sp} {u v : Value} (hr : Rd w (iT m.2.2) u) (hv : Rd w (rowsT 43 s.2) v) :
    Does Tryz.prog 23 [iV p, .agg #[iV m.1, iV m.2.1, u], .agg #[iV s.1, v]] w (GivesSpB (imsS p m s) (decide (ImsP p m s))) := by
  obtain ⟨aA, cA, rfl, hsA, _, _, hgA⟩ := rd_rows hv
  obtain ⟨au, cu, rfl, _⟩ := hr.ints
  by_cases hI : ImsP p m s
  · rw [imsS, if_pos hI, decide_eq_true hI]
    obtain ⟨hM, hS, he⟩ := hI
    obtain ⟨C, hc, hC8, hl, hF, hn, _⟩ := hS.rows
    have hM0 := hM
    obtain ⟨R, C', e1, e2, hR, hC, e3, hin⟩ := matP_cells0 hM
    obtain ⟨x, y, z⟩ := m
    obtain ⟨n, A⟩ := s
    simp only at e1 e2 e3 hc he hl hn hr hv hsA hgA ⊢
    subst e1; subst e2
    have hCC : C = C' := by omega
    subst hCC; subst hc
    simp only [Int.toNat_natCast]
    have hr2 : Rd w (iT (mk R C (matF (↑R, ↑C, z)))) (.slice au z.length cu) := by rw [← e3]; exact hr
    have hM2 : MatP p (↑R, ↑C, mk R C (matF (↑R, ↑C, z))) := by rw [← e3]; exact hM0
    refine fn_enter Tryz.func23 rfl Tryz.ntmps23 rfl ?_
    repeat' (first | (show oL; first | refine sMv rfl rfl ?_ | refine sAs rfl rfl ?_ | refine sFd tabs rfl rfl rfl rfl ?_ | (show oA (.load _ _); first | refine sLb 1 tabs rfl rfl rfl rfl rfl ?_ | refine sLb 2 tabs rfl rfl rfl rfl rfl ?_ | refine sLd 1 tabs rfl rfl rfl rfl rfl ?_ | refine sLd 2 tabs rfl rfl rfl rfl rfl ?_) | (show oA (.binOp _ _ _ _ _); refine st_y (y_neq rfl rfl) rfl ?_) | (show oA (.unOp _ _ _); refine st_y (y_notd rfl) rfl ?_) | (show oA (.call _); first | (refine m_call (ent_of Tryz.func64 kr rfl) rfl rfl (fun w c => spec_IsMatrix_ok (m := (↑R, ↑C, z)) (c.rd hr)) ?_; rintro v H' ⟨rfl, rfl⟩) | (refine m_call (ent_of Tryz.func32 kr rfl) rfl rfl (fun w c => spec_IsSpace_ok (s := (↑C, A)) (c.rd hv)) ?_; rintro v H' ⟨rfl, rfl⟩)) | (show oA (.pick _ _ _); first | refine st_y (y_pickt rfl aO rfl) rfl ?_ | refine st_y (y_pickf rfl aO rfl) rfl ?_ | refine st_y (y_pick rfl rfl rfl) rfl ?_) | (show oA (.box _ _); refine m_box rfl rfl (fun b5 hb5 => ?_)) | (show oA (.alloc _); refine m_alloc tabs rfl rfl (fun b6 hb6 => ?_)) | (show oA (.buildSlice _ _ _); refine m_build0 tabs rfl rfl (fun g hg => ?_)) | refine st_gn rfl rfl rfl ?_ | refine st_gfy rfl rfl aO ?_ | refine st_gfn rfl rfl aO rfl ?_ | refine st_gd rfl rfl (fun h => ?_) (fun h => ?_)) | refine xNt ?_ | (show oC; first | refine c_seq ?_ | refine c_region ?_ | refine c_skip (x_then ?_) | refine c_block ?_ | refine c_true rfl ?_ | refine c_iff rfl nN ?_))
    all_goals first | exact absurd hM0 aS | exact absurd hS aS | exact absurd rfl aS | skip
    rename_i b4 hb4 _
    refine c_loopH (α := Nat × Option Addr × Nat) [0, 4, 5, 6] (fun s => [(8, .slice s.2.1 s.1 s.2.2), (9, .int .i64 s.1)]) (fun s => s.1 ≤ A.length) (fun s => [.own (rowsT 43 (imsL p R C (matF (↑R, ↑C, z)) (A.take s.1))) (.slice s.2.1 s.1 s.2.2), .blk b6 #[iV 0, .slice none 0 0] 26, .blk b5 #[iV C, .slice aA A.length cA] 26, .blk b4 #[iV R, iV C, .slice au z.length cu] 47]) (fun s => A.length - s.1) (0, some ⟨g, 0, none⟩, 0) rfl sB ?_ ?_ ?_
    · exact Nat.zero_le _
    · exact fun w' c' => c'.sub sL
    · rintro ⟨i, al, cl⟩ hi
      simp only at hi ⊢
      have hln : (A.take i).length = i := by simp; omega
      by_cases hix : i < A.length
      · obtain ⟨xs, hx⟩ : ∃ xs, A[i]? = some xs := ⟨_, List.getElem?_eq_getElem hix⟩
        obtain ⟨a4, c4, g1, g2⟩ := hgA i xs hx
        obtain ⟨hxl, hxi⟩ := hl xs (List.mem_of_getElem? hx)
        have hV : VecP p xs := ⟨hF, by omega, hxi⟩
        repeat' (first | (show oL; first | refine sMv rfl rfl ?_ | refine sFd tabs rfl rfl rfl rfl ?_ | refine sLd 2 tabs rfl rfl rfl rfl rfl ?_ | refine sLs rfl rfl rfl ?_ | refine sLn tabs rfl rfl rfl ?_) | refine xNt ?_ | (show oC; first | refine c_seq ?_ | refine c_region ?_ | refine c_skip (x_then ?_) | refine c_block ?_ | refine c_ift rfl aO ?_))
        refine c_all (Hp [] w [.blk b5 #[iV C, .slice aA A.length cA] 26, .blk b4 #[iV R, iV C, .slice au z.length cu] 47]) kr (fun _ c => Hp.drew c) ?_
        refine h_take 0 rfl kr kr kr (by exact y_move rfl) rfl (fun w c => by exact c.drop.drop) ?_
        refine h_take 1 rfl kr kr kr (by first | exact y_loadb 1 tabs rfl rfl rfl rfl | exact y_loadb 1 tabs rfl rfl rfl rfl) rfl (fun w c => by exact c.drop.drop) ?_
        refine h_take 2 rfl kr kr kr (by exact y_field tabs rfl rfl rfl) rfl (fun w c => by exact c.drop.drop) ?_
        refine h_take 3 rfl kr kr kr (by exact y_load tabs rfl rfl (hc_blk 0 rfl rfl)) rfl (fun w c => by exact c.drop.drop) ?_
        refine h_take 4 rfl kr kr kr (by exact y_move rfl) rfl (fun w c => by exact c.drop.drop) ?_
        refine h_take 5 rfl kr kr kr (by exact y_ix1 tabs (j := i) rfl rfl rfl hsA rfl hix) rfl (fun w c => by exact c.drop.drop) ?_
        refine h_take 6 rfl kr kr kr (by exact y_load tabs rfl rfl (hc_w0 g1)) rfl (fun w c => by exact c.drop.drop) ?_
        refine h_only 7 rfl kr ?_
        (refine m_call (ent_of Tryz.func65 kr rfl) rfl rfl (fun w c => spec_ApplyMatrix_yes (R := R) (C := C) (f := matF (↑R, ↑C, z)) (c.rd hr2) (c.rd g2) hM2 om om hin hxl hV) ?_; rintro v H' ⟨a7, c7, rfl, hs7, rfl⟩)
        refine c_nil (x_one (h_keep sS ?_))
        refine h_take 8 rfl kr kr kr (by exact y_move rfl) rfl sS ?_
        refine h_take 9 rfl kr kr kr (by exact y_ext rfl rfl) rfl sS ?_
        refine h_take 10 rfl kr kr kr (by exact y_ext rfl rfl) rfl sS ?_
        refine h_take 11 rfl kr kr kr (by exact y_assign rfl) rfl sS ?_
        refine h_take 12 rfl kr kr kr (by exact y_assign rfl) rfl sS ?_
        refine h_end kr ?_
        repeat' (first | (show oL; first | refine sMv rfl rfl ?_ | refine sAs rfl rfl ?_ | refine sAd rfl rfl om rfl ?_ | (show oA (.call _); refine m_push1 [] 0 0 tabs (m' := i) rfl rfl rfl rfl rfl rfl rfl (by simp [rowT_map, hln]) (by simp [rowT_map, hln]; omega) (by decide) rfl rfl (fun a10 c10 => ?_)) | (show oA (.buildSlice _ _ _); refine m_build1 tabs (us := [.slice a7 R c7]) rfl rfl rfl rfl (by decide) rfl (fun g5 hg5 => ?_))) | (show oN; first | refine c_nil (x_then ?_) | refine c_nil ?_) | (show oC; refine c_region ?_) | (show AT _ _ _ _; first | refine x_then ?_ | refine x_blk ?_))
        refine x_nx (i + 1, a10, c10) sB (by simp only; omega) (fun w' c' => ?_) (by simp only; omega)
        rw [imsL_next hx] at c'
        exact c'
      · have : i = A.length := by omega
        subst this
        have e0 : A.take A.length = A := List.take_length
        rw [e0]
        repeat' (first | (show oL; first | refine sMv rfl rfl ?_ | refine sAs rfl rfl ?_ | refine sFd tabs rfl rfl rfl rfl ?_ | (show oA (.load _ _); first | refine sLd 3 tabs rfl rfl rfl rfl rfl ?_ | refine sLd 2 tabs rfl rfl rfl rfl rfl ?_) | refine sLs rfl rfl rfl ?_ | (show oA (.call _); first | (refine m_call (ent_of Tryz.func41 kr rfl) rfl rfl (fun w c => l5Span_ok (rs := imsL p R C (matF (↑R, ↑C, z)) A) (c.own_rd (i := 0) rfl) hF (imsL_rows hF) (by simp; omega) om) ?_; rintro v H' ⟨a7, c7, rfl, hs7, rfl⟩) | refine sLn tabs rfl rfl rfl ?_) | (show oA (.store _ _ _); refine m_storeb 2 tabs rfl rfl rfl rfl rfl rfl rfl ?_)) | refine xNt ?_ | (show oC; first | refine c_seq ?_ | refine c_region ?_ | refine c_ret ?_ | refine c_exit ?_ | refine c_iff rfl nN ?_) | (show AT _ _ _ _; first | refine x_then ?_ | refine x_then_exit ?_ | refine x_blk_exit rfl ?_))
        exact x_ret2 Tryz.results23 (res_cellb 2 tabs rfl rfl rfl rfl) (res_tmp rfl) (fun w' c' => ⟨_, _, rfl, ⟨a7, c7, rfl, hs7, rfl⟩, c'.sub (.cons_cons _ (List.nil_sublist _))⟩)
  · rw [imsS, if_neg hI, decide_eq_false hI]
    refine fn_enter Tryz.func23 rfl Tryz.ntmps23 rfl ?_
    repeat' (first | (show oL; first | refine sMv rfl rfl ?_ | refine sAs rfl rfl ?_ | refine sFd tabs rfl rfl rfl rfl ?_ | (show oA (.load _ _); first | refine sLb 1 tabs rfl rfl rfl rfl rfl ?_ | refine sLb 2 tabs rfl rfl rfl rfl rfl ?_ | refine sLd 1 tabs rfl rfl rfl rfl rfl ?_ | refine sLd 2 tabs rfl rfl rfl rfl rfl ?_) | (show oA (.binOp _ _ _ _ _); refine st_y (y_neq rfl rfl) rfl ?_) | (show oA (.unOp _ _ _); refine st_y (y_notd rfl) rfl ?_) | (show oA (.call _); first | (refine m_call (ent_of Tryz.func64 kr rfl) rfl rfl (fun w c => spec_IsMatrix_ok (m := m) (c.rd hr)) ?_; rintro v H' ⟨rfl, rfl⟩) | (refine m_call (ent_of Tryz.func32 kr rfl) rfl rfl (fun w c => spec_IsSpace_ok (s := s) (c.rd hv)) ?_; rintro v H' ⟨rfl, rfl⟩)) | (show oA (.pick _ _ _); first | refine st_y (y_pickt rfl aS rfl) rfl ?_ | refine st_y (y_pickf rfl aS rfl) rfl ?_ | refine st_y (y_pick rfl rfl rfl) rfl ?_) | (show oA (.store _ _ _); refine m_storeb 0 tabs rfl rfl rfl rfl rfl rfl rfl ?_) | (show oA (.box _ _); refine m_box rfl rfl (fun b5 hb5 => ?_)) | (show oA (.alloc _); refine m_alloc tabs rfl rfl (fun b6 hb6 => ?_)) | (show oA (.buildSlice _ _ _); refine m_build0 tabs rfl rfl (fun g hg => ?_)) | (show oA (.build _ _); refine st_y (y_bld0 bld_sp0) rfl ?_) | refine st_gn rfl rfl rfl ?_ | refine st_gfy rfl rfl aS ?_ | refine st_gfn rfl rfl aS rfl ?_ | refine st_gd rfl rfl (fun h => ?_) (fun h => ?_)) | refine xNt ?_ | (show oC; first | refine c_seq ?_ | refine c_region ?_ | refine c_skip (x_then ?_) | refine c_block ?_ | refine c_ret ?_ | refine c_true rfl ?_ | refine c_ifnd rfl (fun h => ?_) (fun h => ?_)) | (show AT _ _ _ _; refine x_then_ret ?_))
    all_goals first
      | exact (hI ⟨by first | assumption | exact Decidable.not_not.1 aS, by first | assumption | exact Decidable.not_not.1 aS, by first | assumption | exact Decidable.not_not.1 (by first | assumption | (intro hh; exact absurd hh.symm aS))⟩).elim
      | exact (hI ⟨by first | assumption | exact Decidable.not_not.1 aS, by first | assumption | exact Decidable.not_not.1 aS, by omega⟩).elim
      | exact x_ret2 Tryz.results23 (res_cellb 0 tabs rfl rfl rfl rfl) (res_tmp rfl) (fun w' c' => ⟨_, _, rfl, ⟨none, 0, rfl, .inl rfl, rfl⟩, Hp.nilp _ _ (c'.sub (List.nil_sublist _))⟩)
end Go.Proofs.YtcplmeajmpkpkaaGreat
