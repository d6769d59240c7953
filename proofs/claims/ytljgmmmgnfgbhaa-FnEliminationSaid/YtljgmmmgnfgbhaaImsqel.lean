import Derived.Test.YtljgmmmgnfgbhaaMulqel
import Derived.Test.YtljgmmmgnfgbhaaSpgqel
namespace Go.Proofs.Ytljgmmmgnfgbhaa
open Go.Lg Go.Proofs Go.RowKit
attribute [local irreducible] Code.wp wpList bodyPost Exit.then Exit.inBlock Hp Again Calls Y AT ResV QT Qn QI wpAny wpAnyQ
set_option maxRecDepth 20000
set_option maxHeartbeats 4000000

/-! ### the image of a space -/
theorem accF_congr {p : Int} {f f' g g' : Nat → Nat → Int} {i j i' j' : Nat} : ∀ n, (∀ k, k < n → f i k = f' i' k ∧ g k j = g' k j') → accF p f g i j n = accF p f' g' i' j' n
  | 0, _ => rfl
  | n + 1, h => by
    rw [accF, accF, accF_congr n (fun k hk => h k (by omega)), (h n (by omega)).1, (h n (by omega)).2]
def imv (p : Int) (C : Nat) (f : Nat → Nat → Int) (xs : List Int) (i : Nat) : Int := accF p f (fun k _ => xs.getD k 0) i 0 C
theorem mk_col {R : Nat} {g : Nat → Nat → Int} : mk R 1 g = mkv R (fun i => g i 0) := by
  apply List.ext_getElem?
  intro q
  by_cases hq : q < R
  · simp [mk, mkv, hq, Nat.div_one, Nat.mod_one]
  · rw [List.getElem?_eq_none (by simp; omega), List.getElem?_eq_none (by simp; omega)]
theorem list_col {xs : List Int} {C : Nat} (h : xs.length = C) : xs = mk C 1 (fun k _ => xs.getD k 0) := by
  rw [mk_col]; exact mkv_of h
theorem imv_eq {p : Int} {R C : Nat} {f : Nat → Nat → Int} {xs : List Int} : mk R 1 (mulF p C f (fromF [xs])) = mkv R (imv p C f xs) := by
  rw [mk_col]
  exact mkv_ext (fun i _ => accF_congr C (fun k _ => ⟨rfl, rfl⟩))
theorem imv_eq2 {p : Int} {R C : Nat} {f : Nat → Nat → Int} {xs : List Int} : mk R 1 (mulF p C f (fun k _ => xs.getD k 0)) = mkv R (imv p C f xs) := by
  rw [mk_col]; rfl
theorem inF_list {p : Int} {xs : List Int} {C : Nat} (hF : FieldP p) (hx : xs.length = C) (h : InP 0 (p - 1) xs) : inF p C 1 (fun k _ => xs.getD k 0) := fun i j hi _ => by
  have := inP_get h (i := i) (by omega)
  have := fieldP_pos hF
  show 0 ≤ xs.getD i 0 ∧ xs.getD i 0 < p
  exact ⟨by omega, by omega⟩
theorem inF_from {p : Int} {xs : List Int} {C : Nat} (hF : FieldP p) (hx : xs.length = C) (h : InP 0 (p - 1) xs) : inF p C 1 (fromF [xs]) := fun i j hi hj => by
  have hj0 : j = 0 := by omega
  subst hj0
  exact inF_list hF hx h i 0 hi hj
theorem rd_col {w : World} {xs : List Int} {v : Value} (h : Rd w (iT xs) v) : Rd w (iT (mk xs.length 1 (fun k _ => xs.getD k 0))) v := by
  rw [← list_col rfl]; exact h
theorem fld_mat2 (r k : Int) (a : Option Addr) (m c : Nat) (w : World) : (Instr.field 46 (.agg #[iV r, iV k, .slice a m c]) 2).run Try.prog w = .ok (.slice a m c) w := by kernel_rfl
theorem rd_blk1 {w0 w : World} {M : List Nat} {H : List HE} {g e e' : Nat} {xs : List Int} {u : Value} (i : Nat) (hi : H[i]? = some (.blk g #[u] e)) (c : Hp M w0 H w) (hr : Rd w (iT xs) u) : Rd w (rowsT e' [xs]) (.slice (some ⟨g, 0, none⟩) 1 1) := by
  simp only [rowT, Rd, List.flatMap_cons, List.flatMap_nil, List.append_nil]
  refine ⟨some ⟨g, 0, none⟩, 1, 1, rfl, Nat.le_refl _, by unfold maxLen; omega, by simp, ?_⟩
  simp only [RdL, and_true]
  exact ⟨g, 0, u, rfl, hc_blk i hi rfl w c, hr⟩
theorem apply_ok {w : World} {p : Int} {R C : Nat} {f : Nat → Nat → Int} {xs : List Int} {u v : Value} (hr : Rd w (iT (mk R C f)) u) (hv : Rd w (iT xs) v) (hF : FieldP p) (hR : R ≤ 64) (hC : C ≤ 64) (hf : inF p R C f) (hx : xs.length = C) (hxi : InP 0 (p - 1) xs) :
    Does Try.prog 72 [iV p, .agg #[iV R, iV C, u], v] w (Gives (iT (mkv R (imv p C f xs))) R) := by
  have hin := inF_from hF hx hxi
  obtain ⟨av, cv, rfl, _⟩ := hv.ints
  refine fn_enter Try.func72 rfl Try.ntmps72 rfl ?_
  repeat' (first
    | (show AT _ _ _ (wpList _ _ _ (_ :: _)); first
       | (show AT _ _ _ (wpList _ _ _ (⟨_, Op.assign _, _, _, _, _⟩ :: _)); refine st_y (y_assign rfl) rfl ?_)
       | (show AT _ _ _ (wpList _ _ _ (⟨_, Op.box _ _, _, _, _, _⟩ :: _)); refine m_box rfl rfl (fun b1 hb1 => ?_)))
    | (show AT _ _ _ (wpList _ _ _ []); refine c_nil (x_then ?_))
    | (show AT _ _ _ (Code.wp _ _ _); first | refine c_seq ?_ | refine c_region ?_))
  refine c_all (Hp [] w [.blk b1 #[iV R, iV C, u] 46]) (by kernel_rfl) (fun _ c => Hp.drew c) ?_
  refine h_take 0 rfl (by kernel_rfl) (by kernel_rfl) (by kernel_rfl) (by exact y_move rfl) rfl (fun _ c => c) ?_
  refine h_take 1 rfl (by kernel_rfl) (by kernel_rfl) (by kernel_rfl) (by exact y_loadb 0 tabs rfl rfl rfl rfl) rfl (fun _ c => c) ?_
  refine h_take 2 rfl (by kernel_rfl) (by kernel_rfl) (by kernel_rfl) (by exact y_field tabs rfl rfl rfl) rfl (fun _ c => c) ?_
  refine h_take 3 rfl (by kernel_rfl) (by kernel_rfl) (by kernel_rfl) (by exact y_load tabs rfl rfl (hc_blk 0 rfl rfl)) rfl (fun _ c => c) ?_
  refine h_take 4 rfl (by kernel_rfl) (by kernel_rfl) (by kernel_rfl) (by exact y_move rfl) rfl (fun _ c => c) ?_
  refine h_only 5 rfl (by kernel_rfl) ?_
  first | (refine m_build1 tabs (us := [.slice av xs.length cv]) rfl rfl rfl rfl (by decide) rfl (fun g2 hg2 => ?_)) | (refine m_call (ent_of Try.func108 (by kernel_rfl) rfl) rfl rfl (fun w c => fromColumns_ok (e := 22) (R := C) (C := 1) (rd_blk1 0 rfl c (c.rd hv)) rfl (by omega) (by omega) (fun k ys h => by cases k with | zero => (simp at h; subst h; exact hx) | succ k => simp at h)) ?_; rintro v H' ⟨a3, c3, rfl, hs3, rfl⟩) | (refine m_call (ent_of Try.func87 (by kernel_rfl) rfl) rfl rfl (fun w c => times_ok (c.rd hr) (c.own_rd (i := 0) rfl) hF (by omega) (by omega) (by omega) hf hin) ?_; rintro v H' ⟨a4, c4, rfl, hs4, rfl⟩)
  refine c_nil (x_one (h_keep (fun w c => by exact c.drop) ?_))
  refine h_only 6 rfl (by kernel_rfl) ?_
  first | (refine m_build1 tabs (us := [.slice av xs.length cv]) rfl rfl rfl rfl (by decide) rfl (fun g2 hg2 => ?_)) | (refine m_call (ent_of Try.func108 (by kernel_rfl) rfl) rfl rfl (fun w c => fromColumns_ok (e := 22) (R := C) (C := 1) (rd_blk1 0 rfl c (c.rd hv)) rfl (by omega) (by omega) (fun k ys h => by cases k with | zero => (simp at h; subst h; exact hx) | succ k => simp at h)) ?_; rintro v H' ⟨a3, c3, rfl, hs3, rfl⟩) | (refine m_call (ent_of Try.func87 (by kernel_rfl) rfl) rfl rfl (fun w c => times_ok (c.rd hr) (c.own_rd (i := 0) rfl) hF (by omega) (by omega) (by omega) hf hin) ?_; rintro v H' ⟨a4, c4, rfl, hs4, rfl⟩)
  refine c_nil (x_one (h_keep (fun w c => by exact c.drop.drop) ?_))
  refine h_only 7 rfl (by kernel_rfl) ?_
  first | (refine m_build1 tabs (us := [.slice av xs.length cv]) rfl rfl rfl rfl (by decide) rfl (fun g2 hg2 => ?_)) | (refine m_call (ent_of Try.func108 (by kernel_rfl) rfl) rfl rfl (fun w c => fromColumns_ok (e := 22) (R := C) (C := 1) (rd_blk1 0 rfl c (c.rd hv)) rfl (by omega) (by omega) (fun k ys h => by cases k with | zero => (simp at h; subst h; exact hx) | succ k => simp at h)) ?_; rintro v H' ⟨a3, c3, rfl, hs3, rfl⟩) | (refine m_call (ent_of Try.func87 (by kernel_rfl) rfl) rfl rfl (fun w c => times_ok (c.rd hr) (c.own_rd (i := 0) rfl) hF (by omega) (by omega) (by omega) hf hin) ?_; rintro v H' ⟨a4, c4, rfl, hs4, rfl⟩)
  refine c_nil (x_one (h_keep (fun w c => by exact c.sub (by repeat' first | exact List.Sublist.refl _ | exact List.nil_sublist _ | apply List.Sublist.cons_cons | apply List.Sublist.cons)) ?_))
  refine h_take 8 rfl (by kernel_rfl) (by kernel_rfl) (by kernel_rfl) (by exact y_fld (fld_mat2 _ _ _ _ _) rfl) rfl (fun w c => by exact c.sub (by repeat' first | exact List.Sublist.refl _ | exact List.nil_sublist _ | apply List.Sublist.cons_cons | apply List.Sublist.cons)) ?_
  refine h_take 9 rfl (by kernel_rfl) (by kernel_rfl) (by kernel_rfl) (by exact y_assign rfl) rfl (fun w c => by exact c.sub (by repeat' first | exact List.Sublist.refl _ | exact List.nil_sublist _ | apply List.Sublist.cons_cons | apply List.Sublist.cons)) ?_
  refine h_end (by kernel_rfl) ?_
  repeat' (first
    | (show AT _ _ _ (Code.wp _ _ _); refine c_ret ?_)
    | (show AT _ _ _ _; refine x_then ?_))
  rw [imv_eq]
  simp only [Nat.mul_one] at hs4 ⊢
  exact x_ret1 Try.results72 (res_tmp rfl) (fun w' c' => ⟨_, _, rfl, ⟨a4, c4, rfl, hs4, rfl⟩, c'.sub (.cons_cons _ (List.nil_sublist _))⟩)
theorem spec_ApplyMatrix_yes {w : World} {p : Int} {R C : Nat} {f : Nat → Nat → Int} {xs : List Int} {u v : Value} (hr : Rd w (iT (mk R C f)) u) (hv : Rd w (iT xs) v) (hM : MatP p (↑R, ↑C, mk R C f)) (hR : R ≤ 64) (hC : C ≤ 64) (hf : inF p R C f) (hx : xs.length = C) (hV : VecP p xs) :
    Does Try.prog 77 [iV p, .agg #[iV R, iV C, u], v] w (fun r H => ∃ a c, r = .tuple #[.slice a R c, .bool true] ∧ SA a R ∧ H = [.own (iT (mkv R (imv p C f xs))) (.slice a R c)]) := by
  have hF := hV.1
  have hxl := hV.2.1
  subst hx
  have hin := inF_list hF rfl hV.2.2
  obtain ⟨av, cv, rfl, _⟩ := hv.ints
  refine fn_enter Try.func77 rfl Try.ntmps77 rfl ?_
  repeat' (first
    | (show AT _ _ _ (wpList _ _ _ (_ :: _)); first
       | (show AT _ _ _ (wpList _ _ _ (⟨_, Op.move _, _, _, _, _⟩ :: _)); refine st_y (y_move rfl) rfl ?_)
       | (show AT _ _ _ (wpList _ _ _ (⟨_, Op.assign _, _, _, _, _⟩ :: _)); refine st_y (y_assign rfl) rfl ?_)
       | (show AT _ _ _ (wpList _ _ _ (⟨_, Op.fieldAddr _ _ _, _, _, _, _⟩ :: _)); refine st_y (y_field tabs rfl rfl rfl) rfl ?_)
       | (show AT _ _ _ (wpList _ _ _ (⟨_, Op.load _ _, _, _, _, _⟩ :: _)); first | refine st_y (y_loadb 0 tabs rfl rfl rfl rfl) rfl ?_ | refine st_y (y_load tabs rfl rfl (hc_blk 0 rfl rfl)) rfl ?_)
       | (show AT _ _ _ (wpList _ _ _ (⟨_, Op.binOp _ _ _ _ _, _, _, _, _⟩ :: _)); refine st_y (y_neq rfl rfl) rfl ?_)
       | (show AT _ _ _ (wpList _ _ _ (⟨_, Op.unOp _ _ _, _, _, _, _⟩ :: _)); refine st_y (y_notd rfl) rfl ?_)
       | (show AT _ _ _ (wpList _ _ _ (⟨_, Op.call _, _, _, _, _⟩ :: _)); first | (refine m_call (ent_of Try.func65 (by kernel_rfl) rfl) rfl rfl (fun w c => spec_IsMatrix_ok (m := (↑R, ↑xs.length, mk R xs.length f)) (c.rd hr)) ?_; rintro v H' ⟨rfl, rfl⟩) | (refine m_call (ent_of Try.func80 (by kernel_rfl) rfl) rfl rfl (fun w c => spec_IsVector_ok (c.rd hv)) ?_; rintro v H' ⟨rfl, rfl⟩) | refine st_y (y_len tabs rfl rfl) rfl ?_)
       | (show AT _ _ _ (wpList _ _ _ (⟨_, Op.pick _ _ _, _, _, _, _⟩ :: _)); first | refine st_y (y_pickt rfl (by first | assumption | omega) rfl) rfl ?_ | refine st_y (y_pickf rfl (by first | assumption | omega) rfl) rfl ?_ | refine st_y (y_pick rfl rfl rfl) rfl ?_)
       | (show AT _ _ _ (wpList _ _ _ (⟨_, Op.box _ _, _, _, _, _⟩ :: _)); refine m_box rfl rfl (fun b1 hb1 => ?_))
       | (show AT _ _ _ (wpList _ _ _ (⟨_, Op.buildSlice _ _ _, _, _, _, _⟩ :: _)); refine m_build0 tabs rfl rfl (fun g hg => ?_))
       | refine st_gn rfl rfl rfl ?_ | refine st_gfy rfl rfl (by first | assumption | omega) ?_ | refine st_gfn rfl rfl (by first | assumption | omega) rfl ?_ | refine st_gd rfl rfl (fun h => ?_) (fun h => ?_))
    | (show AT _ _ _ (wpList _ _ _ []); refine c_nil (x_then ?_))
    | (show AT _ _ _ (Code.wp _ _ _); first | refine c_seq ?_ | refine c_region ?_ | refine c_skip (x_then ?_) | refine c_ret ?_ | refine c_true rfl ?_ | refine c_iff rfl (by first | assumption | exact not_not_intro (by assumption) | omega) ?_)
    | (show AT _ _ _ _; refine x_then_ret ?_))
  all_goals first | exact absurd hM (by assumption) | exact absurd hV (by assumption) | skip
  refine c_all (Hp [] w [.blk b1 #[iV R, iV xs.length, u] 46]) (by kernel_rfl) (fun _ c => Hp.drew c) ?_
  refine h_take 0 rfl (by kernel_rfl) (by kernel_rfl) (by kernel_rfl) (by exact y_move rfl) rfl (fun _ c => c) ?_
  refine h_take 1 rfl (by kernel_rfl) (by kernel_rfl) (by kernel_rfl) (by exact y_loadb 0 tabs rfl rfl rfl rfl) rfl (fun _ c => c) ?_
  refine h_take 2 rfl (by kernel_rfl) (by kernel_rfl) (by kernel_rfl) (by exact y_move rfl) rfl (fun _ c => c) ?_
  refine h_take 3 rfl (by kernel_rfl) (by kernel_rfl) (by kernel_rfl) (by exact y_len tabs rfl rfl) rfl (fun _ c => c) ?_
  refine h_take 5 rfl (by kernel_rfl) (by kernel_rfl) (by kernel_rfl) (by exact y_move rfl) rfl (fun _ c => c) ?_
  refine h_only 4 rfl (by kernel_rfl) ?_
  first | (refine m_build0 tabs rfl rfl (fun g hg => ?_)) | (refine m_dup 0 tabs rfl rfl rfl rfl rfl (by omega) (fun w c => c.rd hv) (fun a2 c2 hs2 => ?_)) | (refine m_call (ent_of Try.func50 (by kernel_rfl) rfl) rfl rfl (fun w c => l3Multiply_ok (C := 1) (c.rd hr) (rd_col (c.own_rd (i := 0) rfl)) hF (by omega) (by omega) (by omega) hf hin) ?_; rintro v H' ⟨a4, c4, rfl, hs4, rfl⟩)
  refine c_nil (x_one (h_keep (fun w c => by exact c.drop) ?_))
  refine h_only 6 rfl (by kernel_rfl) ?_
  first | (refine m_build0 tabs rfl rfl (fun g hg => ?_)) | (refine m_dup 0 tabs rfl rfl rfl rfl rfl (by omega) (fun w c => c.rd hv) (fun a2 c2 hs2 => ?_)) | (refine m_call (ent_of Try.func50 (by kernel_rfl) rfl) rfl rfl (fun w c => l3Multiply_ok (C := 1) (c.rd hr) (rd_col (c.own_rd (i := 0) rfl)) hF (by omega) (by omega) (by omega) hf hin) ?_; rintro v H' ⟨a4, c4, rfl, hs4, rfl⟩)
  refine c_nil (x_one (h_keep (fun w c => by exact c.drop) ?_))
  refine h_take 7 rfl (by kernel_rfl) (by kernel_rfl) (by kernel_rfl) (by exact y_bld3 (bld_mat _ _ _ _ _) rfl rfl rfl) rfl (fun w c => by exact c.drop) ?_
  refine h_only 8 rfl (by kernel_rfl) ?_
  first | (refine m_build0 tabs rfl rfl (fun g hg => ?_)) | (refine m_dup 0 tabs rfl rfl rfl rfl rfl (by omega) (fun w c => c.rd hv) (fun a2 c2 hs2 => ?_)) | (refine m_call (ent_of Try.func50 (by kernel_rfl) rfl) rfl rfl (fun w c => l3Multiply_ok (C := 1) (c.rd hr) (rd_col (c.own_rd (i := 0) rfl)) hF (by omega) (by omega) (by omega) hf hin) ?_; rintro v H' ⟨a4, c4, rfl, hs4, rfl⟩)
  refine c_nil (x_one (h_keep (fun w c => by exact c.drop.drop) ?_))
  refine h_take 9 rfl (by kernel_rfl) (by kernel_rfl) (by kernel_rfl) (by exact y_fld (fld_mat2 _ _ _ _ _) rfl) rfl (fun w c => by exact c.drop.drop) ?_
  refine h_take 10 rfl (by kernel_rfl) (by kernel_rfl) (by kernel_rfl) (by exact y_assign rfl) rfl (fun w c => by exact c.drop.drop) ?_
  refine h_take 11 rfl (by kernel_rfl) (by kernel_rfl) (by kernel_rfl) (by exact y_assign rfl) rfl (fun w c => by exact c.drop.drop) ?_
  refine h_end (by kernel_rfl) ?_
  repeat' (first
    | (show AT _ _ _ (Code.wp _ _ _); refine c_ret ?_)
    | (show AT _ _ _ _; refine x_then ?_))
  rw [imv_eq2]
  simp only [Nat.mul_one] at hs4 ⊢
  exact x_ret2 Try.results77 (res_tmp rfl) (res_tmp rfl) (fun w' c' => ⟨_, _, rfl, ⟨a4, c4, rfl, hs4, rfl⟩, c'.sub (.cons_cons _ (List.nil_sublist _))⟩)
end Go.Proofs.Ytljgmmmgnfgbhaa
