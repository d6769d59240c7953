import Derived.Test.YtdnhmnnccfoliaaGreatDoorLBqmt
import Derived.Test.YtdnhmnnccfoliaaGreatDoorLCqmt
import Derived.Test.YtdnhmnnccfoliaaGreatDoorPrdqmt
namespace Go.Proofs.YtdnhmnnccfoliaaGreatDoor
open Go.Lg Go.Proofs Go.RowKit
attribute [local irreducible] Code.wp wpList bodyPost Exit.then Exit.inBlock Hp Again Calls Y AT ResV QT
set_option maxRecDepth 20000
set_option maxHeartbeats 4000000

theorem fieldP_pos {p : Int} (h : FieldP p) : 2 ≤ p ∧ p ≤ 5 := by unfold FieldP at h; omega
def invM (p x : Int) : Int := if p = 5 ∧ x = 2 then 3 else if p = 5 ∧ x = 3 then 2 else x

theorem l2Mod_ok {w : World} {p x : Int} (hp : 0 < p) (hp' : p ≤ 9223372036854775807) : Does Tryz.prog 165 [iV p, iV x] w (fun v H => v = iV (x % p) ∧ H = []) := by
  have hh := tmod_fix (x := x) hp
  have h1 := Int.emod_nonneg x (show p ≠ 0 by omega)
  have h2 := Int.emod_lt_of_pos x hp
  refine fn_enter Tryz.func165 rfl Tryz.ntmps165 rfl ?_
  repeat' (first | (show oL; first | refine sMv rfl rfl ?_ | refine sAs rfl rfl ?_ | (show oA (.binOp _ _ _ _ _); first | refine st_y (y_rem rfl rfl om) rfl ?_ | refine st_y (y_add rfl rfl (by have := hh; split at this <;> omega)) rfl ?_ | refine sLs rfl rfl rfl ?_)) | refine xNt ?_ | (show oC; first | refine c_seq ?_ | refine c_region ?_ | refine c_skip (x_then ?_) | refine c_ret ?_ | refine c_if rfl (fun h => ?_) (fun h => ?_)))
  all_goals refine x_ret1 Tryz.results165 (res_tmp rfl) (fun w c => ⟨_, _, rfl, ⟨congrArg iV ?_, rfl⟩, c⟩)
  · rw [if_pos h] at hh; exact hh
  · rw [if_neg h] at hh; exact hh

theorem ReduceMod_ok {w : World} {p x : Int} (hp : FieldP p) : Does Tryz.prog 122 [iV p, iV x] w (fun v H => v = iV (x % p) ∧ H = []) := by
  have ⟨hp1, hp2⟩ := fieldP_pos hp
  have h := tmod_fix (x := x) (p := p) om
  have h1 := Int.emod_nonneg x (show p ≠ 0 by omega)
  have h2 := Int.emod_lt_of_pos x (show 0 < p by omega)
  have h0 : -p ≤ x.tmod p ∧ x.tmod p < p := by split at h <;> omega
  refine fn_enter Tryz.func122 rfl Tryz.ntmps122 rfl ?_
  repeat' (first | (show oL; first | refine sMv rfl rfl ?_ | refine sAs rfl rfl ?_ | (show oA (.binOp _ _ _ _ _); first | refine st_y (y_rem rfl rfl om) rfl ?_ | refine sAd rfl rfl om rfl ?_) | (show oA (.unOp _ _ _); refine st_y (y_notd rfl) rfl ?_) | (show oA (.call _); (refine m_call (ent_of Tryz.func131 kr rfl) rfl rfl (fun w c => impl_IsField_ok p) ?_; rintro v H' ⟨rfl, rfl⟩))) | refine xNt ?_ | (show oC; first | refine c_seq ?_ | refine c_region ?_ | refine c_skip (x_then ?_) | refine c_ret ?_ | refine c_iff rfl nN ?_))
  all_goals refine x_ret1 Tryz.results122 (res_tmp rfl) (fun w c => ⟨_, _, rfl, ⟨congrArg iV ?_, rfl⟩, c⟩)
  rw [tmod_pos om]
  split at h
  · rw [← h, Int.emod_eq_of_lt om om]
  · rw [Int.add_emod_right, Int.emod_eq_of_lt om om]; exact h

theorem mul_small {a b : Int} (ha : 0 ≤ a ∧ a ≤ 5) (hb : 0 ≤ b ∧ b ≤ 5) : 0 ≤ a * b ∧ a * b ≤ 25 := ⟨Int.mul_nonneg ha.1 hb.1, by have := Int.mul_le_mul ha.2 hb.2 hb.1 om; omega⟩

end Go.Proofs.YtdnhmnnccfoliaaGreatDoor

namespace Go.Proofs.YtdnhmnnccfoliaaGreatDoor
open Go.Lg Go.Proofs Go.RowKit

def mk (R C : Nat) (f : Nat → Nat → Int) : List Int := (List.range (R * C)).map (fun q => f (q / C) (q % C))
@[simp] theorem mk_length {R C : Nat} {f : Nat → Nat → Int} : (mk R C f).length = R * C := by simp [mk]
theorem cell_lt {R C i j : Nat} (hi : i < R) (hj : j < C) : i * C + j < R * C := by
  have : (i + 1) * C ≤ R * C := Nat.mul_le_mul_right C hi
  rw [Nat.succ_mul] at this
  omega
theorem cell_div {C i j : Nat} (hj : j < C) : (i * C + j) / C = i := by
  rw [Nat.mul_comm, Nat.mul_add_div om, Nat.div_eq_of_lt hj, Nat.add_zero]
theorem cell_mod {C i j : Nat} (hj : j < C) : (i * C + j) % C = j := by
  rw [Nat.mul_comm, Nat.mul_add_mod, Nat.mod_eq_of_lt hj]
theorem mk_get {R C i j : Nat} {f : Nat → Nat → Int} (hi : i < R) (hj : j < C) : (mk R C f).getD (i * C + j) 0 = f i j := by
  have h := cell_lt hi hj
  simp [mk, List.getD, h, cell_div hj, cell_mod hj]
theorem mk_ext {R C : Nat} {f g : Nat → Nat → Int} (h : ∀ i j, i < R → j < C → f i j = g i j) : mk R C f = mk R C g := by
  apply List.map_congr_left
  intro q hq
  have hq' : q < R * C := List.mem_range.1 hq
  have hC : 0 < C := by
    rcases Nat.eq_zero_or_pos C with h0 | h0
    · subst h0; simp at hq'
    · exact h0
  exact h _ _ (Nat.div_lt_of_lt_mul (by rw [Nat.mul_comm]; exact hq')) (Nat.mod_lt _ hC)
def upd (f : Nat → Nat → Int) (i j : Nat) (v : Int) : Nat → Nat → Int := fun a b => if a = i ∧ b = j then v else f a b
theorem mk_set {R C i j : Nat} {f : Nat → Nat → Int} {v : Int} (_hi : i < R) (hj : j < C) : (mk R C f).set (i * C + j) v = mk R C (upd f i j v) := by
  apply List.ext_getElem?
  intro q
  by_cases hq : q < R * C
  · rw [List.getElem?_set]
    by_cases hqe : i * C + j = q
    · subst hqe
      simp [mk, hq, upd, cell_div hj, cell_mod hj]
    · have hne : ¬ (q / C = i ∧ q % C = j) := fun ⟨h1, h2⟩ => hqe (by rw [← h1, ← h2, Nat.mul_comm]; exact Nat.div_add_mod q C)
      simp [mk, hq, upd, hqe, hne]
  · rw [List.getElem?_eq_none (by simp; omega), List.getElem?_eq_none (by simp; omega)]
theorem mk_of {R C : Nat} {l : List Int} (h : l.length = R * C) : l = mk R C (fun i j => l.getD (i * C + j) 0) := by
  apply List.ext_getElem?
  intro q
  by_cases hq : q < R * C
  · have : q / C * C + q % C = q := by rw [Nat.mul_comm]; exact Nat.div_add_mod q C
    simp [mk, hq, this, h]
  · rw [List.getElem?_eq_none om, List.getElem?_eq_none (by simp; omega)]

def findAt (f : Nat → Nat → Int) (k R r : Nat) : Nat := ((List.range R).find? (fun i => decide (r ≤ i ∧ f i k ≠ 0))).getD R
def swapF (f : Nat → Nat → Int) (r a : Nat) : Nat → Nat → Int := fun i j => if i = r then f a j else if i = a then f r j else f i j
def scaleF (p v : Int) (f : Nat → Nat → Int) (r : Nat) : Nat → Nat → Int := fun i j => if i = r then v * f r j % p else f i j
def elimF (p : Int) (f : Nat → Nat → Int) (r k : Nat) : Nat → Nat → Int := fun i j => if i = r then f i j else (f i j - f i k * f r j) % p
def colStep (p : Int) (R k : Nat) (st : (Nat → Nat → Int) × List Int) : (Nat → Nat → Int) × List Int :=
  let r := st.2.length
  let a := findAt st.1 k R r
  if a < R then
    let g := swapF st.1 r a
    (elimF p (scaleF p (invM p (g r k)) g r) r k, st.2 ++ [(k : Int)])
  else st
def redTo (p : Int) (R : Nat) (f : Nat → Nat → Int) : Nat → (Nat → Nat → Int) × List Int
  | 0 => (f, [])
  | k + 1 => colStep p R k (redTo p R f k)
def matF (m : Mat) : Nat → Nat → Int := fun i j => m.2.2.getD (i * m.2.1.toNat + j) 0
end Go.Proofs.YtdnhmnnccfoliaaGreatDoor

namespace Go.Proofs.YtdnhmnnccfoliaaGreatDoor
open Go.Lg Go.Proofs Go.RowKit
attribute [local irreducible] Code.wp wpList bodyPost Exit.then Exit.inBlock Hp Again Calls Y AT ResV QT
set_option maxRecDepth 20000
set_option maxHeartbeats 4000000

theorem Clone_ok {w : World} {v : Value} {xs : List Int} (hr : Rd w (iT xs) v) (hb : xs.length ≤ 1048576) : Does Tryz.prog 138 [v] w (fun r H => Gives (iT xs) xs.length r H) := by
  obtain ⟨a, c, rfl, hs, hc1, hc2, hget⟩ := hr.ints
  refine fn_enter Tryz.func138 rfl Tryz.ntmps138 rfl ?_
  repeat' (first | (show oL; first | refine sMv rfl rfl ?_ | refine sAs rfl rfl ?_ | (show oA (.binOp _ _ _ _ _); refine st_y (y_eqsnil tabs rfl rfl rfl) rfl ?_) | (show oA (.call _); refine m_appi 0 tabs (xs := []) rfl rfl rfl rfl rfl (by simp; omega) (fun w c => rd_src (c.rd hr)) (fun a2 c2 => ?_)) | (show oA (.buildSlice _ _ _); refine m_build0 tabs rfl rfl (fun g hg => ?_))) | refine xNt ?_ | (show oC; first | refine c_seq ?_ | refine c_region ?_ | refine c_skip (x_then ?_) | refine c_ret ?_ | refine c_if rfl (fun h => ?_) (fun h => ?_)) | (show AT _ _ _ _; refine x_then_ret ?_))
  · subst h
    have h0 : xs = [] := by
      rcases hs with h | h
      · exact List.length_eq_zero_iff.1 h
      · cases h
    subst h0
    refine x_ret1 Tryz.results138 (res_tmp rfl) (fun w' c' => ⟨_, _, rfl, ⟨none, 0, rfl, .inl rfl, rfl⟩, Hp.nilp _ _ c'⟩)
  · refine AT.fact (own_sl 0 rfl) (fun hsl => ?_)
    obtain ⟨a3, c3, e3, hs3⟩ := hsl
    simp at e3
    obtain ⟨rfl, rfl⟩ := e3
    refine x_ret1 Tryz.results138 (res_tmp rfl) (fun w' c' => ⟨.slice a2 xs.length c2, [.own (iT xs) (.slice a2 xs.length c2)], by simp, ⟨a2, c2, rfl, by simpa using hs3, rfl⟩, by simpa using c'⟩)

theorem clone_ok {w : World} {m : Mat} {u : Value} (hr : Rd w (iT m.2.2) u) (hb : m.2.2.length ≤ 1048576) : Does Tryz.prog 166 [.agg #[iV m.1, iV m.2.1, u]] w (GivesM m) := by
  obtain ⟨r, k, xs⟩ := m
  simp only at hr hb ⊢
  refine fn_enter Tryz.func166 rfl Tryz.ntmps166 rfl ?_
  repeat' (first | (show oL; first | refine sFd tabs rfl rfl rfl rfl ?_ | (show oA (.load _ _); first | refine sLb 2 tabs rfl rfl rfl rfl rfl ?_ | refine sLd 1 tabs rfl rfl rfl rfl rfl ?_) | (show oA (.call _); (refine m_call (ent_of Tryz.func138 kr rfl) rfl rfl (fun w c => Clone_ok (c.rd hr) hb) ?_; rintro v H' ⟨a2, c2, rfl, hs2, rfl⟩)) | (show oA (.store _ _ _); first | refine m_storef 2 tabs rfl rfl rfl rfl rfl rfl ?_ | refine m_storeb 1 tabs rfl rfl rfl rfl rfl rfl rfl ?_) | (show oA (.box _ _); refine m_box rfl rfl (fun b hb1 => ?_)) | (show oA (.alloc _); refine m_alloc tabs rfl rfl (fun b2 hb2 => ?_))) | refine xNt ?_ | (show oC; first | refine c_seq ?_ | refine c_region ?_ | refine c_ret ?_))
  refine x_ret1 Tryz.results166 (res_cellb 1 tabs rfl rfl rfl rfl) (fun w c => ⟨_, _, rfl, ⟨a2, c2, rfl, hs2, rfl⟩, ?_⟩)
  exact c.sub (.cons_cons _ (List.nil_sublist _))

theorem bld_mat (r k : Int) (a : Option Addr) (m c : Nat) (w : World) : (Instr.build 41 #[(0, iV r), (1, iV k), (2, .slice a m c)]).run Tryz.prog w = .ok (.agg #[iV r, iV k, .slice a m c]) w := by kernel_rfl
theorem l3Copy_ok {w : World} {m : Mat} {u : Value} (hr : Rd w (iT m.2.2) u) (hb : m.2.2.length ≤ 1048576) : Does Tryz.prog 128 [.agg #[iV m.1, iV m.2.1, u]] w (GivesM m) := by
  obtain ⟨r, k, xs⟩ := m
  simp only at hr hb ⊢
  obtain ⟨a, c, rfl, hs, hc1, hc2, hget⟩ := hr.ints
  refine fn_enter Tryz.func128 rfl Tryz.ntmps128 rfl ?_
  refine c_seq (c_region (m_box rfl rfl fun b1 hb1 => m_alloc tabs rfl rfl fun b2 hb2 => c_nil (x_then ?_)))
  refine c_seq ?_
  refine c_mixR (Hp [] w [.blk b2 #[iV 0, iV 0, .slice none 0 0] 41, .blk b1 #[iV r, iV k, .slice a xs.length c] 41]) 9 kr kr kr kr kr (fun _ c => Hp.drew c) ?_
  refine h_take 0 rfl kr kr kr (by exact y_field tabs rfl rfl rfl) rfl (fun _ c => c) ?_
  refine h_take 1 rfl kr kr kr (by exact y_load tabs rfl rfl (hc_blk 1 rfl rfl)) rfl (fun _ c => c) ?_
  refine h_take 2 rfl kr kr kr (by exact y_field tabs rfl rfl rfl) rfl (fun _ c => c) ?_
  refine h_take 3 rfl kr kr kr (by exact y_load tabs rfl rfl (hc_blk 1 rfl rfl)) rfl (fun _ c => c) ?_
  refine h_take 5 rfl kr kr kr (by exact y_field tabs rfl rfl rfl) rfl (fun _ c => c) ?_
  refine h_take 6 rfl kr kr kr (by exact y_load tabs rfl rfl (hc_blk 1 rfl rfl)) rfl (fun _ c => c) ?_
  refine h_only 4 rfl kr ?_
  first | (refine m_build0 tabs rfl rfl (fun g hg => ?_)) | (refine m_appi 0 tabs (xs := []) rfl rfl rfl rfl rfl (by simp; omega) (fun w c => rd_src (c.rd hr)) (fun a2 c2 => ?_))
  refine c_nil (x_one (h_keep (fun w c => by exact c.drop) ?_))
  refine h_only 7 rfl kr ?_
  first | (refine m_build0 tabs rfl rfl (fun g hg => ?_)) | (refine m_appi 0 tabs (xs := []) rfl rfl rfl rfl rfl (by simp; omega) (fun w c => rd_src (c.rd hr)) (fun a2 c2 => ?_))
  refine c_nil (x_one (h_keep (fun w c => by exact c.drop) ?_))
  refine h_take 8 rfl kr kr kr (by exact y_bld3 (bld_mat _ _ _ _ _) rfl rfl rfl) rfl (fun w c => by exact c.drop) ?_
  refine h_end kr ?_
  refine AT.fact (own_sl 0 rfl) (fun hsl => ?_)
  obtain ⟨a3, c3, e3, hs3⟩ := hsl
  simp at e3
  obtain ⟨rfl, rfl⟩ := e3
  repeat' (first | (show oL; first | (show oA (.store _ _ _); refine m_storeb 1 tabs rfl rfl rfl rfl rfl rfl rfl ?_)) | refine xNt ?_ | (show oC; refine c_ret ?_))
  refine x_ret1 Tryz.results128 (res_cellb 1 tabs rfl rfl rfl rfl) (fun w' c' => ⟨.agg #[iV r, iV k, .slice a2 xs.length c2], [.own (iT xs) (.slice a2 xs.length c2)], by simp, ⟨a2, c2, rfl, by simpa using hs3, rfl⟩, ?_⟩)
  have := Hp.sub (H' := [HE.own (ints 3 ([] ++ xs)) (.slice a2 (([] : List Int).length + xs.length) c2)]) (.cons_cons _ (List.nil_sublist _)) c'
  simpa using this
end Go.Proofs.YtdnhmnnccfoliaaGreatDoor
