import Derived.Test.YtdnhmnnccfoliaaGreatDoorCobqmt
import Derived.Test.YtdnhmnnccfoliaaGreatDoorEqmqmt
import Derived.Test.YtdnhmnnccfoliaaGreatDoorImgqmt
import Derived.Test.YtdnhmnnccfoliaaGreatDoorLCqmt
import Derived.Test.YtdnhmnnccfoliaaGreatDoorLEqmt
import Derived.Test.YtdnhmnnccfoliaaGreatDoorLinqmt
import Derived.Test.YtdnhmnnccfoliaaGreatDoorMorqmt
import Derived.Test.YtdnhmnnccfoliaaGreatDoorMulqmt
import Derived.Test.YtdnhmnnccfoliaaGreatDoorMxfqmt
import Derived.Test.YtdnhmnnccfoliaaGreatDoorQuiqmt
import Derived.Test.YtdnhmnnccfoliaaGreatDoorRdIqmt
import Derived.Test.YtdnhmnnccfoliaaGreatDoorRdPqmt
import Derived.Test.YtdnhmnnccfoliaaGreatDoorSpmqmt
import Derived.Test.YtdnhmnnccfoliaaGreatDoorWthqmt
import Derived.Test.YtdnhmnnccfoliaaGreatDoorZerqmt
namespace Go.Proofs.YtdnhmnnccfoliaaGreatDoor
open Go.Lg Go.Proofs Go.RowKit
theorem y_fld {P : Program} {n : Nat} {K : World → Prop} {s : List (Nat × Value)} {ty t fi : Nat} {x : Operand} {v0 v : Value} (hb : ∀ w, (Instr.field t v0 fi).run P w = .ok v w) (hx : ev s x = some v0) : Y P n K s (.field t x fi) ty v := fun a w f c d pos af g => by
  simp [execOp, f.ev hx, hb]
attribute [local irreducible] Code.wp wpList bodyPost Exit.then Exit.inBlock Hp Again Calls Y AT ResV QT Qn QI wpAny wpAnyQ
set_option maxRecDepth 20000
set_option maxHeartbeats 4000000

end Go.Proofs.YtdnhmnnccfoliaaGreatDoor

namespace Go.Proofs.YtdnhmnnccfoliaaGreatDoor
open Go.Lg Go.Proofs Go.RowKit
attribute [local irreducible] Code.wp wpList bodyPost Exit.then Exit.inBlock Hp Again Calls Y AT ResV QT Qn QI wpAny wpAnyQ
set_option maxRecDepth 20000
set_option maxHeartbeats 4000000

theorem accF_congr {p : Int} {f f' g g' : Nat → Nat → Int} {i j i' j' : Nat} : ∀ n, (∀ k, k < n → f i k = f' i' k ∧ g k j = g' k j') → accF p f g i j n = accF p f' g' i' j' n
  | 0, _ => rfl
  | n + 1, h => by
    rw [accF, accF, accF_congr n (fun k hk => h k om), (h n om).1, (h n om).2]
def imv (p : Int) (C : Nat) (f : Nat → Nat → Int) (xs : List Int) (i : Nat) : Int := accF p f (fun k _ => xs.getD k 0) i 0 C
theorem mk_col {R : Nat} {g : Nat → Nat → Int} : mk R 1 g = mkv R (fun i => g i 0) := by
  apply List.ext_getElem?
  intro q
  by_cases hq : q < R
  · simp [mk, mkv, hq, Nat.div_one, Nat.mod_one]
  · rw [List.getElem?_eq_none (by simp; omega), List.getElem?_eq_none (by simp; omega)]
theorem list_col {xs : List Int} {C : Nat} (h : xs.length = C) : xs = mk C 1 (fun k _ => xs.getD k 0) := by
  rw [mk_col]; exact mkv_of h
theorem imv_eq {p : Int} {R C : Nat} {f : Nat → Nat → Int} {xs : List Int} : mk R 1 (mulF p C f (fromF [xs])) = mkv R (imv p C f xs) := by
  rw [mk_col]
  exact mkv_ext (fun i _ => accF_congr C (fun k _ => ⟨rfl, rfl⟩))
theorem imv_eq2 {p : Int} {R C : Nat} {f : Nat → Nat → Int} {xs : List Int} : mk R 1 (mulF p C f (fun k _ => xs.getD k 0)) = mkv R (imv p C f xs) := by
  rw [mk_col]; rfl
theorem inF_list {p : Int} {xs : List Int} {C : Nat} (hF : FieldP p) (hx : xs.length = C) (h : InP 0 (p - 1) xs) : inF p C 1 (fun k _ => xs.getD k 0) := fun i j hi _ => by
  have := inP_get h (i := i) om
  have := fieldP_pos hF
  show 0 ≤ xs.getD i 0 ∧ xs.getD i 0 < p
  exact ⟨by omega, by omega⟩
theorem inF_from {p : Int} {xs : List Int} {C : Nat} (hF : FieldP p) (hx : xs.length = C) (h : InP 0 (p - 1) xs) : inF p C 1 (fromF [xs]) := fun i j hi hj => by
  have hj0 : j = 0 := by omega
  subst hj0
  exact inF_list hF hx h i 0 hi hj
theorem rd_col {w : World} {xs : List Int} {v : Value} (h : Rd w (iT xs) v) : Rd w (iT (mk xs.length 1 (fun k _ => xs.getD k 0))) v := by
  rw [← list_col rfl]; exact h
theorem fld_mat2 (r k : Int) (a : Option Addr) (m c : Nat) (w : World) : (Instr.field 41 (.agg #[iV r, iV k, .slice a m c]) 2).run Tryz.prog w = .ok (.slice a m c) w := by kernel_rfl
theorem rd_blk1 {w0 w : World} {M : List Nat} {H : List HE} {g e e' : Nat} {xs : List Int} {u : Value} (i : Nat) (hi : H[i]? = some (.blk g #[u] e)) (c : Hp M w0 H w) (hr : Rd w (iT xs) u) : Rd w (rowsT e' [xs]) (.slice (some ⟨g, 0, none⟩) 1 1) := by
  simp only [rowT, Rd, List.flatMap_cons, List.flatMap_nil, List.append_nil]
  refine ⟨some ⟨g, 0, none⟩, 1, 1, rfl, Nat.le_refl _, by unfold maxLen; omega, by simp, ?_⟩
  simp only [RdL, and_true]
  exact ⟨g, 0, u, rfl, hc_blk i hi rfl w c, hr⟩
theorem apply_ok {w : World} {p : Int} {R C : Nat} {f : Nat → Nat → Int} {xs : List Int} {u v : Value} (hr : Rd w (iT (mk R C f)) u) (hv : Rd w (iT xs) v) (hF : FieldP p) (hR : R ≤ 64) (hC : C ≤ 64) (hf : inF p R C f) (hx : xs.length = C) (hxi : InP 0 (p - 1) xs) :
    Does Tryz.prog 120 [iV p, .agg #[iV R, iV C, u], v] w (Gives (iT (mkv R (imv p C f xs))) R) := by
  have hin := inF_from hF hx hxi
  obtain ⟨av, cv, rfl, _⟩ := hv.ints
  refine fn_enter Tryz.func120 rfl Tryz.ntmps120 rfl ?_
  repeat' (first | (show oL; first | refine sAs rfl rfl ?_ | (show oA (.box _ _); refine m_box rfl rfl (fun b1 hb1 => ?_))) | refine xNt ?_ | (show oC; first | refine c_seq ?_ | refine c_region ?_))
  refine c_all (Hp [] w [.blk b1 #[iV R, iV C, u] 41]) kr (fun _ c => Hp.drew c) ?_
  refine h_take 0 rfl kr kr kr (by exact y_move rfl) rfl (fun _ c => c) ?_
  refine h_take 1 rfl kr kr kr (by exact y_loadb 0 tabs rfl rfl rfl rfl) rfl (fun _ c => c) ?_
  refine h_take 2 rfl kr kr kr (by exact y_field tabs rfl rfl rfl) rfl (fun _ c => c) ?_
  refine h_take 3 rfl kr kr kr (by exact y_load tabs rfl rfl (hc_blk 0 rfl rfl)) rfl (fun _ c => c) ?_
  refine h_take 4 rfl kr kr kr (by exact y_move rfl) rfl (fun _ c => c) ?_
  refine h_only 5 rfl kr ?_
  first | (refine m_build1 tabs (us := [.slice av xs.length cv]) rfl rfl rfl rfl (by decide) rfl (fun g2 hg2 => ?_)) | (refine m_call (ent_of Tryz.func112 kr rfl) rfl rfl (fun w c => fromColumns_ok (e := 22) (R := C) (C := 1) (rd_blk1 0 rfl c (c.rd hv)) rfl om om (fun k ys h => by cases k with | zero => (simp at h; subst h; exact hx) | succ k => simp at h)) ?_; rintro v H' ⟨a3, c3, rfl, hs3, rfl⟩) | (refine m_call (ent_of Tryz.func110 kr rfl) rfl rfl (fun w c => times_ok (c.rd hr) (c.own_rd (i := 0) rfl) hF om om om hf hin) ?_; rintro v H' ⟨a4, c4, rfl, hs4, rfl⟩)
  refine c_nil (x_one (h_keep (fun w c => by exact c.drop) ?_))
  refine h_only 6 rfl kr ?_
  first | (refine m_build1 tabs (us := [.slice av xs.length cv]) rfl rfl rfl rfl (by decide) rfl (fun g2 hg2 => ?_)) | (refine m_call (ent_of Tryz.func112 kr rfl) rfl rfl (fun w c => fromColumns_ok (e := 22) (R := C) (C := 1) (rd_blk1 0 rfl c (c.rd hv)) rfl om om (fun k ys h => by cases k with | zero => (simp at h; subst h; exact hx) | succ k => simp at h)) ?_; rintro v H' ⟨a3, c3, rfl, hs3, rfl⟩) | (refine m_call (ent_of Tryz.func110 kr rfl) rfl rfl (fun w c => times_ok (c.rd hr) (c.own_rd (i := 0) rfl) hF om om om hf hin) ?_; rintro v H' ⟨a4, c4, rfl, hs4, rfl⟩)
  refine c_nil (x_one (h_keep (fun w c => by exact c.drop.drop) ?_))
  refine h_only 7 rfl kr ?_
  first | (refine m_build1 tabs (us := [.slice av xs.length cv]) rfl rfl rfl rfl (by decide) rfl (fun g2 hg2 => ?_)) | (refine m_call (ent_of Tryz.func112 kr rfl) rfl rfl (fun w c => fromColumns_ok (e := 22) (R := C) (C := 1) (rd_blk1 0 rfl c (c.rd hv)) rfl om om (fun k ys h => by cases k with | zero => (simp at h; subst h; exact hx) | succ k => simp at h)) ?_; rintro v H' ⟨a3, c3, rfl, hs3, rfl⟩) | (refine m_call (ent_of Tryz.func110 kr rfl) rfl rfl (fun w c => times_ok (c.rd hr) (c.own_rd (i := 0) rfl) hF om om om hf hin) ?_; rintro v H' ⟨a4, c4, rfl, hs4, rfl⟩)
  refine c_nil (x_one (h_keep sS ?_))
  refine h_take 8 rfl kr kr kr (by exact y_fld (fld_mat2 _ _ _ _ _) rfl) rfl sS ?_
  refine h_take 9 rfl kr kr kr (by exact y_assign rfl) rfl sS ?_
  refine h_end kr ?_
  repeat' (first | (show oC; refine c_ret ?_) | (show AT _ _ _ _; refine x_then ?_))
  rw [imv_eq]
  simp only [Nat.mul_one] at hs4 ⊢
  exact x_ret1 Tryz.results120 (res_tmp rfl) (fun w' c' => ⟨_, _, rfl, ⟨a4, c4, rfl, hs4, rfl⟩, c'.sub (.cons_cons _ (List.nil_sublist _))⟩)
theorem spec_ApplyMatrix_yes {w : World} {p : Int} {R C : Nat} {f : Nat → Nat → Int} {xs : List Int} {u v : Value} (hr : Rd w (iT (mk R C f)) u) (hv : Rd w (iT xs) v) (hM : MatP p (↑R, ↑C, mk R C f)) (hR : R ≤ 64) (hC : C ≤ 64) (hf : inF p R C f) (hx : xs.length = C) (hV : VecP p xs) :
    Does Tryz.prog 36 [iV p, .agg #[iV R, iV C, u], v] w (fun r H => ∃ a c, r = .tuple #[.slice a R c, .bool true] ∧ SA a R ∧ H = [.own (iT (mkv R (imv p C f xs))) (.slice a R c)]) := by
  have hF := hV.1
  have hxl := hV.2.1
  subst hx
  have hin := inF_list hF rfl hV.2.2
  obtain ⟨av, cv, rfl, _⟩ := hv.ints
  refine fn_enter Tryz.func36 rfl Tryz.ntmps36 rfl ?_
  repeat' (first | (show oL; first | refine sMv rfl rfl ?_ | refine sAs rfl rfl ?_ | refine sFd tabs rfl rfl rfl rfl ?_ | (show oA (.load _ _); first | refine sLb 0 tabs rfl rfl rfl rfl rfl ?_ | refine sLd 0 tabs rfl rfl rfl rfl rfl ?_) | (show oA (.binOp _ _ _ _ _); refine st_y (y_neq rfl rfl) rfl ?_) | (show oA (.unOp _ _ _); refine st_y (y_notd rfl) rfl ?_) | (show oA (.call _); first | (refine m_call (ent_of Tryz.func22 kr rfl) rfl rfl (fun w c => spec_IsMatrix_ok (m := (↑R, ↑xs.length, mk R xs.length f)) (c.rd hr)) ?_; rintro v H' ⟨rfl, rfl⟩) | (refine m_call (ent_of Tryz.func105 kr rfl) rfl rfl (fun w c => spec_IsVector_ok (c.rd hv)) ?_; rintro v H' ⟨rfl, rfl⟩) | refine sLn tabs rfl rfl rfl ?_) | (show oA (.pick _ _ _); first | refine st_y (y_pickt rfl aO rfl) rfl ?_ | refine st_y (y_pickf rfl aO rfl) rfl ?_ | refine st_y (y_pick rfl rfl rfl) rfl ?_) | (show oA (.box _ _); refine m_box rfl rfl (fun b1 hb1 => ?_)) | (show oA (.buildSlice _ _ _); refine m_build0 tabs rfl rfl (fun g hg => ?_)) | refine st_gn rfl rfl rfl ?_ | refine st_gfy rfl rfl aO ?_ | refine st_gfn rfl rfl aO rfl ?_ | refine st_gd rfl rfl (fun h => ?_) (fun h => ?_)) | refine xNt ?_ | (show oC; first | refine c_seq ?_ | refine c_region ?_ | refine c_skip (x_then ?_) | refine c_ret ?_ | refine c_true rfl ?_ | refine c_iff rfl nN ?_) | (show AT _ _ _ _; refine x_then_ret ?_))
  all_goals first | exact absurd hM aS | exact absurd hV aS | skip
  refine c_all (Hp [] w [.blk b1 #[iV R, iV xs.length, u] 41]) kr (fun _ c => Hp.drew c) ?_
  refine h_take 0 rfl kr kr kr (by exact y_move rfl) rfl (fun _ c => c) ?_
  refine h_take 1 rfl kr kr kr (by exact y_loadb 0 tabs rfl rfl rfl rfl) rfl (fun _ c => c) ?_
  refine h_take 2 rfl kr kr kr (by exact y_move rfl) rfl (fun _ c => c) ?_
  refine h_take 3 rfl kr kr kr (by exact y_len tabs rfl rfl) rfl (fun _ c => c) ?_
  refine h_take 5 rfl kr kr kr (by exact y_move rfl) rfl (fun _ c => c) ?_
  refine h_only 4 rfl kr ?_
  first | (refine m_build0 tabs rfl rfl (fun g hg => ?_)) | (refine m_dup 0 tabs rfl rfl rfl rfl rfl om (fun w c => c.rd hv) (fun a2 c2 hs2 => ?_)) | (refine m_call (ent_of Tryz.func111 kr rfl) rfl rfl (fun w c => l3Multiply_ok (C := 1) (c.rd hr) (rd_col (c.own_rd (i := 0) rfl)) hF om om om hf hin) ?_; rintro v H' ⟨a4, c4, rfl, hs4, rfl⟩)
  refine c_nil (x_one (h_keep (fun w c => by exact c.drop) ?_))
  refine h_only 6 rfl kr ?_
  first | (refine m_build0 tabs rfl rfl (fun g hg => ?_)) | (refine m_dup 0 tabs rfl rfl rfl rfl rfl om (fun w c => c.rd hv) (fun a2 c2 hs2 => ?_)) | (refine m_call (ent_of Tryz.func111 kr rfl) rfl rfl (fun w c => l3Multiply_ok (C := 1) (c.rd hr) (rd_col (c.own_rd (i := 0) rfl)) hF om om om hf hin) ?_; rintro v H' ⟨a4, c4, rfl, hs4, rfl⟩)
  refine c_nil (x_one (h_keep (fun w c => by exact c.drop) ?_))
  refine h_take 7 rfl kr kr kr (by exact y_bld3 (bld_mat _ _ _ _ _) rfl rfl rfl) rfl (fun w c => by exact c.drop) ?_
  refine h_only 8 rfl kr ?_
  first | (refine m_build0 tabs rfl rfl (fun g hg => ?_)) | (refine m_dup 0 tabs rfl rfl rfl rfl rfl om (fun w c => c.rd hv) (fun a2 c2 hs2 => ?_)) | (refine m_call (ent_of Tryz.func111 kr rfl) rfl rfl (fun w c => l3Multiply_ok (C := 1) (c.rd hr) (rd_col (c.own_rd (i := 0) rfl)) hF om om om hf hin) ?_; rintro v H' ⟨a4, c4, rfl, hs4, rfl⟩)
  refine c_nil (x_one (h_keep (fun w c => by exact c.drop.drop) ?_))
  refine h_take 9 rfl kr kr kr (by exact y_fld (fld_mat2 _ _ _ _ _) rfl) rfl (fun w c => by exact c.drop.drop) ?_
  refine h_take 10 rfl kr kr kr (by exact y_assign rfl) rfl (fun w c => by exact c.drop.drop) ?_
  refine h_take 11 rfl kr kr kr (by exact y_assign rfl) rfl (fun w c => by exact c.drop.drop) ?_
  refine h_end kr ?_
  repeat' (first | (show oC; refine c_ret ?_) | (show AT _ _ _ _; refine x_then ?_))
  rw [imv_eq2]
  simp only [Nat.mul_one] at hs4 ⊢
  exact x_ret2 Tryz.results36 (res_tmp rfl) (res_tmp rfl) (fun w' c' => ⟨_, _, rfl, ⟨a4, c4, rfl, hs4, rfl⟩, c'.sub (.cons_cons _ (List.nil_sublist _))⟩)
end Go.Proofs.YtdnhmnnccfoliaaGreatDoor

namespace Go.Proofs.YtdnhmnnccfoliaaGreatDoor
open Go.Lg Go.Proofs Go.RowKit

theorem mulF_sum {p : Int} {N : Nat} {f g : Nat → Nat → Int} {i j : Nat} : mulF p N f g i j = sumN (fun k => f i k * g k j) N % p := accF_sum N
theorem emod_dvd {p x y : Int} (h : p ∣ x - y) : x % p = y % p := by
  obtain ⟨c, hc⟩ := h
  have : x = y + p * c := by omega
  rw [this, Int.add_mul_emod_self_left]
theorem mulF_congr {p : Int} {N : Nat} {f f' g g' : Nat → Nat → Int} {i j : Nat} (h : ∀ k, k < N → p ∣ f i k - f' i k) (h' : ∀ k, k < N → p ∣ g k j - g' k j) : mulF p N f g i j = mulF p N f' g' i j := by
  rw [mulF_sum, mulF_sum]
  refine emod_dvd (dvd_sumN (fun k hk => ?_))
  obtain ⟨a, ha⟩ := h k hk
  obtain ⟨b, hb⟩ := h' k hk
  exact ⟨a * g k j + f' i k * b, by grind⟩
theorem mulF_ext {p : Int} {N : Nat} {f f' g g' : Nat → Nat → Int} {i j : Nat} (h : ∀ k, k < N → f i k = f' i k) (h' : ∀ k, k < N → g k j = g' k j) : mulF p N f g i j = mulF p N f' g' i j :=
  mulF_congr (fun k hk => by rw [h k hk, Int.sub_self]; exact Int.dvd_zero p) (fun k hk => by rw [h' k hk, Int.sub_self]; exact Int.dvd_zero p)
end Go.Proofs.YtdnhmnnccfoliaaGreatDoor

namespace Go.Proofs.YtdnhmnnccfoliaaGreatDoor
open Go.Lg Go.Proofs Go.RowKit
attribute [local irreducible] Code.wp wpList bodyPost Exit.then Exit.inBlock Hp Again Calls Y AT ResV QT Qn QI wpAny wpAnyQ
set_option maxRecDepth 20000
set_option maxHeartbeats 4000000

def szV (da db : List Int) (v : Nat) : Nat := (da.getD v 0).toNat * (db.getD v 0).toNat
def offN (da db : List Int) : Nat → Nat
  | 0 => 0
  | v + 1 => offN da db v + szV da db v
def at1 (a b : Rp) (i k j : Nat) : Nat := offN a.d b.d (a.q.2.1.getD i 0).toNat + (j * dN a.d (a.q.2.1.getD i 0) + k)
end Go.Proofs.YtdnhmnnccfoliaaGreatDoor

namespace Go.Proofs.YtdnhmnnccfoliaaGreatDoor
open Go.Lg Go.Proofs Go.RowKit
attribute [local irreducible] Code.wp wpList bodyPost Exit.then Exit.inBlock Hp Again Calls Y AT ResV QT Qn QI wpAny wpAnyQ
set_option maxRecDepth 20000
set_option maxHeartbeats 4000000

abbrev GivesIB (x : List Int) (b : Bool) (r : Value) (H : List HE) : Prop := ∃ a c, r = .tuple #[.slice a x.length c, .bool b] ∧ SA a x.length ∧ H = [.own (iT x) (.slice a x.length c)]
end Go.Proofs.YtdnhmnnccfoliaaGreatDoor

namespace Go.Proofs.YtdnhmnnccfoliaaGreatDoor
open Go.Lg Go.Proofs Go.RowKit
attribute [local irreducible] Code.wp wpList bodyPost Exit.then Exit.inBlock Hp Again Calls Y AT ResV QT Qn QI wpAny wpAnyQ
set_option maxRecDepth 20000
set_option maxHeartbeats 4000000

def AppP (p : Int) (m : Mat) (v : List Int) : Prop := MatP p m ∧ VecP p v ∧ (v.length : Int) = m.2.1
instance (p : Int) (m : Mat) (v : List Int) : Decidable (AppP p m v) := by unfold AppP; infer_instance
def appX (p : Int) (m : Mat) (v : List Int) : List Int := if AppP p m v then mkv m.1.toNat (imv p m.2.1.toNat (matF m) v) else []
theorem imv_mk {p : Int} {R C : Nat} {f : Nat → Nat → Int} {xs : List Int} : mkv R (imv p C (matF ((R : Int), (C : Int), mk R C f)) xs) = mkv R (imv p C f xs) := mkv_ext (fun _ hi => accF_congr C (fun _ hk => ⟨matF_mk hi hk, rfl⟩))
theorem impl_ApplyMatrix_ok {w : World} {p : Int} {m : Mat} {v : List Int} {u u' : Value} (hr : Rd w (iT m.2.2) u) (hr' : Rd w (iT v) u') :
    Does Tryz.prog 35 [iV p, .agg #[iV m.1, iV m.2.1, u], u'] w (GivesIB (appX p m v) (decide (AppP p m v))) := by
  obtain ⟨av, cv, rfl, hsv, hv1, hv2, _⟩ := hr'.ints
  unfold maxLen at hv2
  by_cases hA : AppP p m v
  · rw [appX, if_pos hA, decide_eq_true hA]
    obtain ⟨hM, hV, hvl⟩ := hA
    obtain ⟨R, C, f, rfl, hR, hC, hF, hin⟩ := matP_mk hM
    have hvl' : v.length = C := by simp only at hvl; omega
    simp only [Int.toNat_natCast] at hr hvl ⊢
    rw [imv_mk]
    refine fn_enter Tryz.func35 rfl Tryz.ntmps35 rfl ?_
    repeat' (first | (show oL; first | refine sMv rfl rfl ?_ | refine sAs rfl rfl ?_ | refine sFd tabs rfl rfl rfl rfl ?_ | (show oA (.load _ _); first | refine sLd 0 tabs rfl rfl rfl rfl rfl ?_ | refine sLb 0 tabs rfl rfl rfl rfl rfl ?_) | (show oA (.binOp _ _ _ _ _); refine st_y (y_neq rfl rfl) rfl ?_) | (show oA (.unOp _ _ _); refine st_y (y_notd rfl) rfl ?_) | (show oA (.call _); first | (refine m_call (ent_of Tryz.func24 kr rfl) rfl rfl (fun w c => impl_IsMatrix_ok (m := (↑R, ↑C, mk R C f)) (c.rd hr)) ?_; rintro v H' ⟨rfl, rfl⟩) | (refine m_call (ent_of Tryz.func107 kr rfl) rfl rfl (fun w c => impl_IsVector_ok (c.rd hr')) ?_; rintro v H' ⟨rfl, rfl⟩) | (refine m_call (ent_of Tryz.func120 kr rfl) rfl rfl (fun w c => apply_ok (c.rd hr) (c.rd hr') hF om om hin hvl' hV.2.2) ?_; rintro v H' ⟨a2, c2, rfl, hs2, rfl⟩) | refine sLn tabs rfl rfl rfl ?_) | (show oA (.pick _ _ _); first | refine st_y (y_pickt rfl aO rfl) rfl ?_ | refine st_y (y_pickf rfl aO rfl) rfl ?_ | refine st_y (y_pick rfl rfl rfl) rfl ?_) | (show oA (.box _ _); refine m_box rfl rfl (fun b hb => ?_)) | refine st_gn rfl rfl rfl ?_ | refine st_gfy rfl rfl aO ?_ | refine st_gfn rfl rfl aO rfl ?_ | refine st_gd rfl rfl (fun h => ?_) (fun h => ?_)) | refine xNt ?_ | (show oC; first | refine c_seq ?_ | refine c_region ?_ | refine c_skip (x_then ?_) | refine c_ret ?_ | refine c_true rfl ?_ | refine c_iff rfl nN ?_) | (show AT _ _ _ _; refine x_then_ret ?_))
    all_goals first
      | exact x_ret2 Tryz.results35 (res_tmp rfl) (res_tmp rfl) (fun w' c' => ⟨_, _, rfl, ⟨a2, c2, by rw [mkv_length], by rw [mkv_length]; exact hs2, by rw [mkv_length]⟩, c'.sub (.cons_cons _ (List.nil_sublist _))⟩)
      | exact absurd hM aS
      | exact absurd hV aS
  · rw [appX, if_neg hA, decide_eq_false hA]
    refine fn_enter Tryz.func35 rfl Tryz.ntmps35 rfl ?_
    repeat' (first | (show oL; first | refine sMv rfl rfl ?_ | refine sAs rfl rfl ?_ | refine sFd tabs rfl rfl rfl rfl ?_ | (show oA (.load _ _); first | refine sLd 0 tabs rfl rfl rfl rfl rfl ?_ | refine sLb 0 tabs rfl rfl rfl rfl rfl ?_) | (show oA (.binOp _ _ _ _ _); refine st_y (y_neq rfl rfl) rfl ?_) | (show oA (.unOp _ _ _); refine st_y (y_notd rfl) rfl ?_) | (show oA (.call _); first | (refine m_call (ent_of Tryz.func24 kr rfl) rfl rfl (fun w c => impl_IsMatrix_ok (m := m) (c.rd hr)) ?_; rintro v H' ⟨rfl, rfl⟩) | (refine m_call (ent_of Tryz.func107 kr rfl) rfl rfl (fun w c => impl_IsVector_ok (c.rd hr')) ?_; rintro v H' ⟨rfl, rfl⟩) | refine sLn tabs rfl rfl rfl ?_) | (show oA (.pick _ _ _); first | refine st_y (y_pickt rfl aS rfl) rfl ?_ | refine st_y (y_pickf rfl aS rfl) rfl ?_ | refine st_y (y_pick rfl rfl rfl) rfl ?_) | (show oA (.box _ _); refine m_box rfl rfl (fun b hb => ?_)) | refine st_gn rfl rfl rfl ?_ | refine st_gfy rfl rfl aS ?_ | refine st_gfn rfl rfl aS rfl ?_ | refine st_gd rfl rfl (fun h => ?_) (fun h => ?_)) | refine xNt ?_ | (show oC; first | refine c_seq ?_ | refine c_region ?_ | refine c_skip (x_then ?_) | refine c_ret ?_ | refine c_true rfl ?_ | refine c_ifnd rfl (fun h => ?_) (fun h => ?_)) | (show AT _ _ _ _; refine x_then_ret ?_))
    all_goals first
      | exact absurd ⟨Decidable.not_not.1 aS, Decidable.not_not.1 aS, by omega⟩ hA
      | exact absurd ⟨by first | assumption | exact Decidable.not_not.1 aS, by first | assumption | exact Decidable.not_not.1 aS, by omega⟩ hA
      | exact x_ret2 Tryz.results35 (res_tmp rfl) (res_tmp rfl) (fun w' c' => ⟨_, _, rfl, ⟨none, 0, rfl, .inl rfl, rfl⟩, Hp.nilp _ _ (c'.sub (List.nil_sublist _))⟩)
theorem spec_ApplyMatrix_ok {w : World} {p : Int} {m : Mat} {v : List Int} {u u' : Value} (hr : Rd w (iT m.2.2) u) (hr' : Rd w (iT v) u') :
    Does Tryz.prog 36 [iV p, .agg #[iV m.1, iV m.2.1, u], u'] w (GivesIB (appX p m v) (decide (AppP p m v))) := by
  by_cases hA : AppP p m v
  · rw [appX, if_pos hA, decide_eq_true hA]
    obtain ⟨hM, hV, hvl⟩ := hA
    obtain ⟨R, C, f, rfl, hR, hC, hF, hin⟩ := matP_mk hM
    have hvl' : v.length = C := by simp only at hvl; omega
    simp only [Int.toNat_natCast] at hr hvl ⊢
    rw [imv_mk]
    refine (spec_ApplyMatrix_yes hr hr' hM om om hin hvl' hV).mono ?_
    rintro e w' ⟨r, H, rfl, ⟨a, c, rfl, hs, rfl⟩, hp⟩
    exact ⟨_, _, rfl, ⟨a, c, by rw [mkv_length], by rw [mkv_length]; exact hs, by rw [mkv_length]⟩, hp⟩
  · rw [appX, if_neg hA, decide_eq_false hA]
    obtain ⟨av, cv, rfl, hsv, hv1, hv2, _⟩ := hr'.ints
    unfold maxLen at hv2
    refine fn_enter Tryz.func36 rfl Tryz.ntmps36 rfl ?_
    repeat' (first | (show oL; first | refine sMv rfl rfl ?_ | refine sAs rfl rfl ?_ | refine sFd tabs rfl rfl rfl rfl ?_ | (show oA (.load _ _); first | refine sLd 0 tabs rfl rfl rfl rfl rfl ?_ | refine sLb 0 tabs rfl rfl rfl rfl rfl ?_) | (show oA (.binOp _ _ _ _ _); refine st_y (y_neq rfl rfl) rfl ?_) | (show oA (.unOp _ _ _); refine st_y (y_notd rfl) rfl ?_) | (show oA (.call _); first | (refine m_call (ent_of Tryz.func22 kr rfl) rfl rfl (fun w c => spec_IsMatrix_ok (m := m) (c.rd hr)) ?_; rintro v H' ⟨rfl, rfl⟩) | (refine m_call (ent_of Tryz.func105 kr rfl) rfl rfl (fun w c => spec_IsVector_ok (c.rd hr')) ?_; rintro v H' ⟨rfl, rfl⟩) | refine sLn tabs rfl rfl rfl ?_) | (show oA (.pick _ _ _); first | refine st_y (y_pickt rfl aS rfl) rfl ?_ | refine st_y (y_pickf rfl aS rfl) rfl ?_ | refine st_y (y_pick rfl rfl rfl) rfl ?_) | (show oA (.box _ _); refine m_box rfl rfl (fun b hb => ?_)) | (show oA (.buildSlice _ _ _); refine m_build0 tabs rfl rfl (fun g hg => ?_)) | refine st_gn rfl rfl rfl ?_ | refine st_gfy rfl rfl aS ?_ | refine st_gfn rfl rfl aS rfl ?_ | refine st_gd rfl rfl (fun h => ?_) (fun h => ?_)) | refine xNt ?_ | (show oC; first | refine c_seq ?_ | refine c_region ?_ | refine c_skip (x_then ?_) | refine c_ret ?_ | refine c_true rfl ?_ | refine c_ifnd rfl (fun h => ?_) (fun h => ?_)) | (show AT _ _ _ _; refine x_then_ret ?_))
    all_goals first
      | exact absurd ⟨Decidable.not_not.1 aS, Decidable.not_not.1 aS, by omega⟩ hA
      | exact absurd ⟨by first | assumption | exact Decidable.not_not.1 aS, by first | assumption | exact Decidable.not_not.1 aS, by omega⟩ hA
      | exact x_ret2 Tryz.results36 (res_tmp rfl) (res_tmp rfl) (fun w' c' => ⟨_, _, rfl, ⟨some ⟨g, 0, none⟩, 0, rfl, .inl rfl, rfl⟩, c'.sub (.cons_cons _ (List.nil_sublist _))⟩)
theorem matP_of {p : Int} {R C : Nat} {f : Nat → Nat → Int} (hF : FieldP p) (hR : R ≤ 8) (hC : C ≤ 8) (h : inF p R C f) : MatP p ((R : Int), (C : Int), mk R C f) := by
  have hRC : R * C ≤ 64 := Nat.mul_le_mul hR hC
  refine ⟨⟨by simp only; omega, by simp only; omega⟩, ⟨by simp only; omega, by simp only; omega⟩, by simp, hF, ?_, inP_mk h⟩
  rw [mk_length]; exact hRC
end Go.Proofs.YtdnhmnnccfoliaaGreatDoor
