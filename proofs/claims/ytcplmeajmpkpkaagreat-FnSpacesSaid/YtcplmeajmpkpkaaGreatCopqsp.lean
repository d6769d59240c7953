import Derived.Test.YtcplmeajmpkpkaaGreatLBqsp
import Derived.Test.YtcplmeajmpkpkaaGreatLCqsp
import Derived.Test.YtcplmeajmpkpkaaGreatPrdqsp
namespace Go.Proofs.YtcplmeajmpkpkaaGreat
open Go.Lg Go.Proofs Go.RowKit
attribute [local irreducible] Code.wp wpList bodyPost Exit.then Exit.inBlock Hp Again Calls Y AT ResV QT
set_option maxRecDepth 20000
set_option maxHeartbeats 4000000

theorem fieldP_pos {p : Int} (h : FieldP p) : 2 ≤ p ∧ p ≤ 5 := by unfold FieldP at h; omega
def invM (p x : Int) : Int := if p = 5 ∧ x = 2 then 3 else if p = 5 ∧ x = 3 then 2 else x

theorem l2Mod_ok {w : World} {p x : Int} (hp : 0 < p) (hp' : p ≤ 9223372036854775807) : Does Tryz.prog 40 [iV p, iV x] w (fun v H => v = iV (x % p) ∧ H = []) := by
  have hh := tmod_fix (x := x) hp
  have h1 := Int.emod_nonneg x (show p ≠ 0 by omega)
  have h2 := Int.emod_lt_of_pos x hp
  refine fn_enter Tryz.func40 rfl Tryz.ntmps40 rfl ?_
  repeat' (first | (show oL; first | refine sMv rfl rfl ?_ | refine sAs rfl rfl ?_ | (show oA (.binOp _ _ _ _ _); first | refine st_y (y_rem rfl rfl om) rfl ?_ | refine st_y (y_add rfl rfl (by have := hh; split at this <;> omega)) rfl ?_ | refine sLs rfl rfl rfl ?_)) | refine xNt ?_ | (show oC; first | refine c_seq ?_ | refine c_region ?_ | refine c_skip (x_then ?_) | refine c_ret ?_ | refine c_if rfl (fun h => ?_) (fun h => ?_)))
  all_goals refine x_ret1 Tryz.results40 (res_tmp rfl) (fun w c => ⟨_, _, rfl, ⟨congrArg iV ?_, rfl⟩, c⟩)
  · rw [if_pos h] at hh; exact hh
  · rw [if_neg h] at hh; exact hh

theorem ReduceMod_ok {w : World} {p x : Int} (hp : FieldP p) : Does Tryz.prog 143 [iV p, iV x] w (fun v H => v = iV (x % p) ∧ H = []) := by
  have ⟨hp1, hp2⟩ := fieldP_pos hp
  have h := tmod_fix (x := x) (p := p) om
  have h1 := Int.emod_nonneg x (show p ≠ 0 by omega)
  have h2 := Int.emod_lt_of_pos x (show 0 < p by omega)
  have h0 : -p ≤ x.tmod p ∧ x.tmod p < p := by split at h <;> omega
  refine fn_enter Tryz.func143 rfl Tryz.ntmps143 rfl ?_
  repeat' (first | (show oL; first | refine sMv rfl rfl ?_ | refine sAs rfl rfl ?_ | (show oA (.binOp _ _ _ _ _); first | refine st_y (y_rem rfl rfl om) rfl ?_ | refine sAd rfl rfl om rfl ?_) | (show oA (.unOp _ _ _); refine st_y (y_notd rfl) rfl ?_) | (show oA (.call _); (refine m_call (ent_of Tryz.func45 kr rfl) rfl rfl (fun w c => impl_IsField_ok p) ?_; rintro v H' ⟨rfl, rfl⟩))) | refine xNt ?_ | (show oC; first | refine c_seq ?_ | refine c_region ?_ | refine c_skip (x_then ?_) | refine c_ret ?_ | refine c_iff rfl nN ?_))
  all_goals refine x_ret1 Tryz.results143 (res_tmp rfl) (fun w c => ⟨_, _, rfl, ⟨congrArg iV ?_, rfl⟩, c⟩)
  rw [tmod_pos om]
  split at h
  · rw [← h, Int.emod_eq_of_lt om om]
  · rw [Int.add_emod_right, Int.emod_eq_of_lt om om]; exact h

theorem invM_of {p x y : Int} (hp : FieldP p) (hx : 0 ≤ x ∧ x < p) (hy : 1 ≤ y ∧ y < p) (h : x % p * y % p = 1) : y = invM p x := by
  rcases hp with rfl | rfl | rfl
  · rcases (by omega : x = 0 ∨ x = 1) with rfl | rfl <;> simp [invM] at h ⊢ <;> omega
  · rcases (by omega : x = 0 ∨ x = 1 ∨ x = 2) with rfl | rfl | rfl <;> simp [invM] at h ⊢ <;> omega
  · rcases (by omega : x = 0 ∨ x = 1 ∨ x = 2 ∨ x = 3 ∨ x = 4) with rfl | rfl | rfl | rfl | rfl <;> simp [invM] at h ⊢ <;> omega
theorem invM_is {p x : Int} (hp : FieldP p) (hx : 0 < x ∧ x < p) : x % p * invM p x % p = 1 ∧ 1 ≤ invM p x ∧ invM p x < p := by
  rcases hp with rfl | rfl | rfl
  · rcases (by omega : x = 1) with rfl; simp [invM]
  · rcases (by omega : x = 1 ∨ x = 2) with rfl | rfl <;> simp [invM]
  · rcases (by omega : x = 1 ∨ x = 2 ∨ x = 3 ∨ x = 4) with rfl | rfl | rfl | rfl <;> simp [invM]
theorem invM_in {p x : Int} (hp : FieldP p) (hx : 0 ≤ x ∧ x < p) : 0 ≤ invM p x ∧ invM p x < p := by
  by_cases h0 : x = 0
  · subst h0; simp [invM]; omega
  · have := invM_is hp (x := x) om; omega
theorem mul_small {a b : Int} (ha : 0 ≤ a ∧ a ≤ 5) (hb : 0 ≤ b ∧ b ≤ 5) : 0 ≤ a * b ∧ a * b ≤ 25 := ⟨Int.mul_nonneg ha.1 hb.1, by have := Int.mul_le_mul ha.2 hb.2 hb.1 om; omega⟩

theorem spec_InverseMod_ok {w : World} {p x : Int} (hp : FieldP p) (hx : 0 ≤ x ∧ x < p) : Does Tryz.prog 111 [iV p, iV x] w (fun v H => v = iV (invM p x) ∧ H = []) := by
  have ⟨hp1, hp2⟩ := fieldP_pos hp
  have h1 := Int.emod_nonneg x (show p ≠ 0 by omega)
  have h2 := Int.emod_lt_of_pos x (show 0 < p by omega)
  refine fn_enter Tryz.func111 rfl Tryz.ntmps111 rfl ?_
  repeat' (first | (show oL; first | refine sAs rfl rfl ?_) | refine xNt ?_ | (show oC; first | refine c_seq ?_ | refine c_region ?_ | refine c_block ?_))
  refine c_loop (fun y : Nat => [(0, iV p), (1, iV x), (5, .int .i64 y)])
    (fun y w' => (1 ≤ y ∧ y ≤ p ∧ ∀ z : Int, 1 ≤ z → z < y → x % p * z % p ≠ 1) ∧ Hp [] w [] w') (fun y => p.toNat - y) 1 ?_ ?_ ?_
  · exact sB
  · intro w' c'
    exact ⟨⟨by omega, by omega, fun z h3 h4 => by omega⟩, c'⟩
  · intro y
    refine AT.pr (fun ⟨hy1, hy2, hn⟩ => ?_)
    have hm := mul_small (a := x % p) (b := y) om om
    repeat' (first | (show oL; first | refine sMv rfl rfl ?_ | refine sAs rfl rfl ?_ | (show oA (.binOp _ _ _ _ _); first | refine st_y (y_mul rfl rfl om) rfl ?_ | refine sAd rfl rfl om rfl ?_ | refine sLs rfl rfl rfl ?_ | refine st_y (y_eql rfl rfl) rfl ?_) | (show oA (.call _); first | (refine m_call (ent_of Tryz.func74 kr rfl) rfl rfl (fun w c => spec_IsField_ok p) ?_; rintro v H' ⟨rfl, rfl⟩) | (refine m_call (ent_of Tryz.func40 kr rfl) rfl rfl (fun w c => l2Mod_ok om om) ?_; rintro v H' ⟨rfl, rfl⟩)) | (show oA (.pick _ _ _); first | refine st_y (y_pickt rfl aS rfl) rfl ?_ | refine st_y (y_pickf rfl aS rfl) rfl ?_) | refine st_gdy rfl rfl aS ?_ | refine st_gdn rfl rfl aS rfl ?_ | refine st_gd rfl rfl (fun h => ?_) (fun h => ?_)) | refine xNt ?_ | (show oC; first | refine c_seq ?_ | refine c_region ?_ | refine c_skip (x_then ?_) | refine c_skip (x_blk ?_) | refine c_block ?_ | refine c_ret ?_ | refine c_exit ?_ | refine c_false rfl ?_ | refine c_ift rfl aO ?_ | refine c_if rfl (fun h => ?_) (fun h => ?_)) | (show AT _ _ _ _; first | refine x_then ?_ | refine x_then_ret ?_ | refine x_blk_ret ?_ | refine x_then_exit ?_ | refine x_blk_exit rfl ?_))
    · refine x_ret1 Tryz.results111 (res_tmp rfl) (fun w c => ⟨_, _, rfl, ⟨congrArg iV ?_, rfl⟩, c⟩)
      exact invM_of hp hx om aS
    · refine x_next (y + 1) sB (fun w' c' => ⟨⟨by omega, by omega, fun z h3 h4 => ?_⟩, c'⟩) om
      by_cases hz : z = y
      · subst hz; assumption
      · exact hn z h3 om
    all_goals refine x_ret1 Tryz.results111 (res_tmp rfl) (fun w c => ⟨_, _, rfl, ⟨congrArg iV ?_, rfl⟩, c⟩)
    all_goals
      by_cases h0 : x = 0
      · subst h0; simp [invM]
      · have hh := invM_is hp (x := x) om
        exact absurd hh.1 (hn _ hh.2.1 om)

def powM (p x : Int) : Nat → Int
  | 0 => 1
  | i + 1 => powM p x i * (x % p) % p
theorem powM_in {p x : Int} (hp : 2 ≤ p) : ∀ i, 0 ≤ powM p x i ∧ powM p x i < p
  | 0 => by simp [powM]; omega
  | i + 1 => ⟨Int.emod_nonneg _ om, Int.emod_lt_of_pos _ om⟩
theorem powM_inv {p x : Int} (hp : FieldP p) (hx : 0 ≤ x ∧ x < p) : powM p x (max (p - 2) 1).toNat = invM p x := by
  rcases hp with rfl | rfl | rfl
  · rcases (by omega : x = 0 ∨ x = 1) with rfl | rfl <;> decide
  · rcases (by omega : x = 0 ∨ x = 1 ∨ x = 2) with rfl | rfl | rfl <;> decide
  · rcases (by omega : x = 0 ∨ x = 1 ∨ x = 2 ∨ x = 3 ∨ x = 4) with rfl | rfl | rfl | rfl | rfl <;> decide

theorem PowerMod_ok {w : World} {p x n : Int} (hp : FieldP p) (hn : 0 ≤ n ∧ n ≤ 1000) : Does Tryz.prog 127 [iV p, iV x, iV n] w (fun v H => v = iV (powM p x n.toNat) ∧ H = []) := by
  have ⟨hp1, hp2⟩ := fieldP_pos hp
  have h1 := Int.emod_nonneg x (show p ≠ 0 by omega)
  have h2 := Int.emod_lt_of_pos x (show 0 < p by omega)
  refine fn_enter Tryz.func127 rfl Tryz.ntmps127 rfl ?_
  repeat' (first | (show oL; first | refine sMv rfl rfl ?_ | refine sAs rfl rfl ?_ | (show oA (.unOp _ _ _); refine st_y (y_notd rfl) rfl ?_) | (show oA (.call _); first | (refine m_call (ent_of Tryz.func45 kr rfl) rfl rfl (fun w c => impl_IsField_ok p) ?_; rintro v H' ⟨rfl, rfl⟩) | (refine m_call (ent_of Tryz.func51 kr rfl) rfl rfl (fun w c => within_ok _ _ _) ?_; rintro v H' ⟨rfl, rfl⟩)) | (show oA (.pick _ _ _); first | refine st_y (y_pickt rfl aS rfl) rfl ?_ | refine st_y (y_pickf rfl aS rfl) rfl ?_) | refine st_gfy rfl rfl aS ?_ | refine st_gfn rfl rfl aS rfl ?_ | refine st_gd rfl rfl (fun h => ?_) (fun h => ?_)) | refine xNt ?_ | (show oC; first | refine c_seq ?_ | refine c_region ?_ | refine c_skip (x_then ?_) | refine c_block ?_ | refine c_ret ?_ | refine c_true rfl ?_ | refine c_iff rfl nN ?_) | (show AT _ _ _ _; refine x_then_ret ?_))
  · exact absurd hp aS
  · refine c_loop (fun i : Nat => [(0, iV p), (1, iV x), (7, iV (powM p x i)), (16, iV n), (17, .int .i64 i)])
      (fun i w' => (i : Int) ≤ n ∧ Hp [] w [] w') (fun i => n.toNat - i) 0 ?_ ?_ ?_
    · exact sB
    · intro w' c'
      exact ⟨by omega, c'⟩
    · intro i
      refine AT.pr (fun hi => ?_)
      have hb := powM_in (p := p) (x := x) om i
      have hm := mul_small (a := powM p x i) (b := x % p) om om
      repeat' (first | (show oL; first | refine sMv rfl rfl ?_ | refine sAs rfl rfl ?_ | (show oA (.binOp _ _ _ _ _); first | refine st_y (y_mul rfl rfl om) rfl ?_ | refine st_y (y_rem rfl rfl om) rfl ?_ | refine sAd rfl rfl om rfl ?_ | refine sLs rfl rfl rfl ?_) | (show oA (.call _); (refine m_call (ent_of Tryz.func143 kr rfl) rfl rfl (fun w c => ReduceMod_ok hp) ?_; rintro v H' ⟨rfl, rfl⟩))) | (show oN; first | refine c_nil (x_then ?_) | refine c_nil ?_) | (show oC; first | refine c_seq ?_ | refine c_region ?_ | refine c_skip (x_then ?_) | refine c_block ?_ | refine c_ret ?_ | refine c_exit ?_ | refine c_if rfl (fun h => ?_) (fun h => ?_)) | (show AT _ _ _ _; first | refine x_then ?_ | refine x_then_exit ?_ | refine x_blk_exit rfl ?_ | refine x_blk ?_))
      · refine x_next (i + 1) ?_ (fun w' c' => ⟨by omega, c'⟩) om
        refine Sub.cons rfl (Sub.cons rfl (Sub.consi rfl ?_ (Sub.cons rfl (Sub.consi rfl om Sub.nil))))
        rw [tmod_pos hm.1]; rfl
      · refine x_ret1 Tryz.results127 (res_tmp rfl) (fun w c => ⟨_, _, rfl, ⟨?_, rfl⟩, c⟩)
        rw [show n.toNat = i by omega]

theorem impl_InverseMod_ok {w : World} {p x : Int} (hp : FieldP p) (hx : 0 ≤ x ∧ x < p) : Does Tryz.prog 114 [iV p, iV x] w (fun v H => v = iV (invM p x) ∧ H = []) := by
  have ⟨hp1, hp2⟩ := fieldP_pos hp
  refine fn_enter Tryz.func114 rfl Tryz.ntmps114 rfl ?_
  repeat' (first | (show oL; first | refine sMv rfl rfl ?_ | refine sAs rfl rfl ?_ | (show oA (.binOp _ _ _ _ _); refine st_y (y_sub rfl rfl om) rfl ?_) | (show oA (.unOp _ _ _); refine st_y (y_notd rfl) rfl ?_) | (show oA (.call _); first | (refine m_call (ent_of Tryz.func45 kr rfl) rfl rfl (fun w c => impl_IsField_ok p) ?_; rintro v H' ⟨rfl, rfl⟩) | refine st_y (y_max rfl rfl) rfl ?_ | (refine m_call (ent_of Tryz.func127 kr rfl) rfl rfl (fun w c => PowerMod_ok hp om) ?_; rintro v H' ⟨rfl, rfl⟩))) | refine xNt ?_ | (show oC; first | refine c_seq ?_ | refine c_region ?_ | refine c_skip (x_then ?_) | refine c_ret ?_ | refine c_iff rfl nN ?_))
  all_goals first | exact absurd hp aS | skip
  refine x_ret1 Tryz.results114 (res_tmp rfl) (fun w c => ⟨_, _, rfl, ⟨congrArg iV (powM_inv hp hx), rfl⟩, c⟩)
end Go.Proofs.YtcplmeajmpkpkaaGreat

namespace Go.Proofs.YtcplmeajmpkpkaaGreat
open Go.Lg Go.Proofs Go.RowKit

def mk (R C : Nat) (f : Nat → Nat → Int) : List Int := (List.range (R * C)).map (fun q => f (q / C) (q % C))
@[simp] theorem mk_length {R C : Nat} {f : Nat → Nat → Int} : (mk R C f).length = R * C := by simp [mk]
theorem cell_lt {R C i j : Nat} (hi : i < R) (hj : j < C) : i * C + j < R * C := by
  have : (i + 1) * C ≤ R * C := Nat.mul_le_mul_right C hi
  rw [Nat.succ_mul] at this
  omega
theorem cell_div {C i j : Nat} (hj : j < C) : (i * C + j) / C = i := by
  rw [Nat.mul_comm, Nat.mul_add_div om, Nat.div_eq_of_lt hj, Nat.add_zero]
theorem cell_mod {C i j : Nat} (hj : j < C) : (i * C + j) % C = j := by
  rw [Nat.mul_comm, Nat.mul_add_mod, Nat.mod_eq_of_lt hj]
theorem mk_get {R C i j : Nat} {f : Nat → Nat → Int} (hi : i < R) (hj : j < C) : (mk R C f).getD (i * C + j) 0 = f i j := by
  have h := cell_lt hi hj
  simp [mk, List.getD, h, cell_div hj, cell_mod hj]
theorem mk_ext {R C : Nat} {f g : Nat → Nat → Int} (h : ∀ i j, i < R → j < C → f i j = g i j) : mk R C f = mk R C g := by
  apply List.map_congr_left
  intro q hq
  have hq' : q < R * C := List.mem_range.1 hq
  have hC : 0 < C := by
    rcases Nat.eq_zero_or_pos C with h0 | h0
    · subst h0; simp at hq'
    · exact h0
  exact h _ _ (Nat.div_lt_of_lt_mul (by rw [Nat.mul_comm]; exact hq')) (Nat.mod_lt _ hC)
def upd (f : Nat → Nat → Int) (i j : Nat) (v : Int) : Nat → Nat → Int := fun a b => if a = i ∧ b = j then v else f a b
theorem mk_set {R C i j : Nat} {f : Nat → Nat → Int} {v : Int} (_hi : i < R) (hj : j < C) : (mk R C f).set (i * C + j) v = mk R C (upd f i j v) := by
  apply List.ext_getElem?
  intro q
  by_cases hq : q < R * C
  · rw [List.getElem?_set]
    by_cases hqe : i * C + j = q
    · subst hqe
      simp [mk, hq, upd, cell_div hj, cell_mod hj]
    · have hne : ¬ (q / C = i ∧ q % C = j) := fun ⟨h1, h2⟩ => hqe (by rw [← h1, ← h2, Nat.mul_comm]; exact Nat.div_add_mod q C)
      simp [mk, hq, upd, hqe, hne]
  · rw [List.getElem?_eq_none (by simp; omega), List.getElem?_eq_none (by simp; omega)]
theorem mk_of {R C : Nat} {l : List Int} (h : l.length = R * C) : l = mk R C (fun i j => l.getD (i * C + j) 0) := by
  apply List.ext_getElem?
  intro q
  by_cases hq : q < R * C
  · have : q / C * C + q % C = q := by rw [Nat.mul_comm]; exact Nat.div_add_mod q C
    simp [mk, hq, this, h]
  · rw [List.getElem?_eq_none om, List.getElem?_eq_none (by simp; omega)]

def findAt (f : Nat → Nat → Int) (k R r : Nat) : Nat := ((List.range R).find? (fun i => decide (r ≤ i ∧ f i k ≠ 0))).getD R
def swapF (f : Nat → Nat → Int) (r a : Nat) : Nat → Nat → Int := fun i j => if i = r then f a j else if i = a then f r j else f i j
def scaleF (p v : Int) (f : Nat → Nat → Int) (r : Nat) : Nat → Nat → Int := fun i j => if i = r then v * f r j % p else f i j
def elimF (p : Int) (f : Nat → Nat → Int) (r k : Nat) : Nat → Nat → Int := fun i j => if i = r then f i j else (f i j - f i k * f r j) % p
def colStep (p : Int) (R k : Nat) (st : (Nat → Nat → Int) × List Int) : (Nat → Nat → Int) × List Int :=
  let r := st.2.length
  let a := findAt st.1 k R r
  if a < R then
    let g := swapF st.1 r a
    (elimF p (scaleF p (invM p (g r k)) g r) r k, st.2 ++ [(k : Int)])
  else st
def redTo (p : Int) (R : Nat) (f : Nat → Nat → Int) : Nat → (Nat → Nat → Int) × List Int
  | 0 => (f, [])
  | k + 1 => colStep p R k (redTo p R f k)
def matF (m : Mat) : Nat → Nat → Int := fun i j => m.2.2.getD (i * m.2.1.toNat + j) 0
def redM (p : Int) (m : Mat) : Mat := (m.1, m.2.1, mk m.1.toNat m.2.1.toNat (redTo p m.1.toNat (matF m) m.2.1.toNat).1)
def redL (p : Int) (m : Mat) : List Int := (redTo p m.1.toNat (matF m) m.2.1.toNat).2

theorem findAt_le {f : Nat → Nat → Int} {k R r : Nat} : findAt f k R r ≤ R := by
  unfold findAt
  cases h : (List.range R).find? (fun i => decide (r ≤ i ∧ f i k ≠ 0)) with
  | none => simp
  | some i =>
    have := List.mem_of_find?_eq_some h
    simp at this ⊢; omega
theorem findAt_spec {f : Nat → Nat → Int} {k R r : Nat} (h : findAt f k R r < R) : r ≤ findAt f k R r ∧ f (findAt f k R r) k ≠ 0 := by
  unfold findAt at h ⊢
  cases h1 : (List.range R).find? (fun i => decide (r ≤ i ∧ f i k ≠ 0)) with
  | none => rw [h1] at h; simp at h
  | some i =>
    have := List.find?_some h1
    simpa using this
theorem findAt_min {f : Nat → Nat → Int} {k R r i : Nat} (hi : i < R) (hr : r ≤ i) (hf : f i k ≠ 0) : findAt f k R r ≤ i := by
  unfold findAt
  cases h1 : (List.range R).find? (fun i => decide (r ≤ i ∧ f i k ≠ 0)) with
  | none =>
    have := List.find?_eq_none.1 h1 i (List.mem_range.2 hi)
    simp at this
    omega
  | some j =>
    simp only [Option.getD_some]
    rcases Nat.lt_or_ge i j with h2 | h2
    · have h3 := List.find?_range_eq_some.1 h1
      have := h3.2.2 i h2
      simp at this
      omega
    · exact h2
theorem findAt_eq {f : Nat → Nat → Int} {k R r a : Nat} (ha : a < R) (hr : r ≤ a) (hf : f a k ≠ 0) (hz : ∀ i, r ≤ i → i < a → f i k = 0) : findAt f k R r = a := by
  have h1 := findAt_min ha hr hf
  have h2 := findAt_spec (f := f) (k := k) (R := R) (r := r) om
  rcases Nat.lt_or_ge (findAt f k R r) a with h3 | h3
  · exact absurd (hz _ h2.1 h3) h2.2
  · omega
theorem findAt_none {f : Nat → Nat → Int} {k R r : Nat} (hz : ∀ i, r ≤ i → i < R → f i k = 0) : findAt f k R r = R := by
  have h1 := findAt_le (f := f) (k := k) (R := R) (r := r)
  rcases Nat.lt_or_ge (findAt f k R r) R with h3 | h3
  · have h2 := findAt_spec h3
    exact absurd (hz _ h2.1 h3) h2.2
  · omega
end Go.Proofs.YtcplmeajmpkpkaaGreat

namespace Go.Proofs.YtcplmeajmpkpkaaGreat
open Go.Lg Go.Proofs Go.RowKit
attribute [local irreducible] Code.wp wpList bodyPost Exit.then Exit.inBlock Hp Again Calls Y AT ResV QT
set_option maxRecDepth 20000
set_option maxHeartbeats 4000000

theorem Clone_ok {w : World} {v : Value} {xs : List Int} (hr : Rd w (iT xs) v) (hb : xs.length ≤ 1048576) : Does Tryz.prog 89 [v] w (fun r H => Gives (iT xs) xs.length r H) := by
  obtain ⟨a, c, rfl, hs, hc1, hc2, hget⟩ := hr.ints
  refine fn_enter Tryz.func89 rfl Tryz.ntmps89 rfl ?_
  repeat' (first | (show oL; first | refine sMv rfl rfl ?_ | refine sAs rfl rfl ?_ | (show oA (.binOp _ _ _ _ _); refine st_y (y_eqsnil tabs rfl rfl rfl) rfl ?_) | (show oA (.call _); refine m_appi 0 tabs (xs := []) rfl rfl rfl rfl rfl (by simp; omega) (fun w c => rd_src (c.rd hr)) (fun a2 c2 => ?_)) | (show oA (.buildSlice _ _ _); refine m_build0 tabs rfl rfl (fun g hg => ?_))) | refine xNt ?_ | (show oC; first | refine c_seq ?_ | refine c_region ?_ | refine c_skip (x_then ?_) | refine c_ret ?_ | refine c_if rfl (fun h => ?_) (fun h => ?_)) | (show AT _ _ _ _; refine x_then_ret ?_))
  · subst h
    have h0 : xs = [] := by
      rcases hs with h | h
      · exact List.length_eq_zero_iff.1 h
      · cases h
    subst h0
    refine x_ret1 Tryz.results89 (res_tmp rfl) (fun w' c' => ⟨_, _, rfl, ⟨none, 0, rfl, .inl rfl, rfl⟩, Hp.nilp _ _ c'⟩)
  · refine AT.fact (own_sl 0 rfl) (fun hsl => ?_)
    obtain ⟨a3, c3, e3, hs3⟩ := hsl
    simp at e3
    obtain ⟨rfl, rfl⟩ := e3
    refine x_ret1 Tryz.results89 (res_tmp rfl) (fun w' c' => ⟨.slice a2 xs.length c2, [.own (iT xs) (.slice a2 xs.length c2)], by simp, ⟨a2, c2, rfl, by simpa using hs3, rfl⟩, by simpa using c'⟩)

theorem clone_ok {w : World} {m : Mat} {u : Value} (hr : Rd w (iT m.2.2) u) (hb : m.2.2.length ≤ 1048576) : Does Tryz.prog 113 [.agg #[iV m.1, iV m.2.1, u]] w (GivesM m) := by
  obtain ⟨r, k, xs⟩ := m
  simp only at hr hb ⊢
  refine fn_enter Tryz.func113 rfl Tryz.ntmps113 rfl ?_
  repeat' (first | (show oL; first | refine sFd tabs rfl rfl rfl rfl ?_ | (show oA (.load _ _); first | refine sLb 2 tabs rfl rfl rfl rfl rfl ?_ | refine sLd 1 tabs rfl rfl rfl rfl rfl ?_) | (show oA (.call _); (refine m_call (ent_of Tryz.func89 kr rfl) rfl rfl (fun w c => Clone_ok (c.rd hr) hb) ?_; rintro v H' ⟨a2, c2, rfl, hs2, rfl⟩)) | (show oA (.store _ _ _); first | refine m_storef 2 tabs rfl rfl rfl rfl rfl rfl ?_ | refine m_storeb 1 tabs rfl rfl rfl rfl rfl rfl rfl ?_) | (show oA (.box _ _); refine m_box rfl rfl (fun b hb1 => ?_)) | (show oA (.alloc _); refine m_alloc tabs rfl rfl (fun b2 hb2 => ?_))) | refine xNt ?_ | (show oC; first | refine c_seq ?_ | refine c_region ?_ | refine c_ret ?_))
  refine x_ret1 Tryz.results113 (res_cellb 1 tabs rfl rfl rfl rfl) (fun w c => ⟨_, _, rfl, ⟨a2, c2, rfl, hs2, rfl⟩, ?_⟩)
  exact c.sub (.cons_cons _ (List.nil_sublist _))

theorem row_ok {w : World} {R C i : Nat} {g o cap : Nat} (hR : R ≤ 1024) (hC : 0 < C ∧ C ≤ 1024) (hi : i < R) (hcap : R * C ≤ cap) :
    Does Tryz.prog 90 [.agg #[iV R, iV C, .slice (some ⟨g, o, none⟩) (R * C) cap], iV i] w (fun r H => r = .slice (some ⟨g, o + i * C, none⟩) C (cap - i * C) ∧ H = []) := by
  have h1 : (i + 1) * C ≤ R * C := Nat.mul_le_mul_right C hi
  have h2 : R * C ≤ 1024 * 1024 := Nat.mul_le_mul hR hC.2
  have h3 : (i + 1) * C = i * C + C := Nat.succ_mul i C
  have e1 : (i : Int) * (C : Int) = ((i * C : Nat) : Int) := by simp
  have e2 : ((i : Int) + 1) * (C : Int) = (((i + 1) * C : Nat) : Int) := by simp
  refine fn_enter Tryz.func90 rfl Tryz.ntmps90 rfl ?_
  repeat' (first | (show oL; first | refine sMv rfl rfl ?_ | refine sAs rfl rfl ?_ | refine sFd tabs rfl rfl rfl rfl ?_ | refine sLd 0 tabs rfl rfl rfl rfl rfl ?_ | (show oA (.binOp _ _ _ _ _); first | refine st_y (y_mul rfl rfl (by first | (rw [e1]; omega) | (rw [e2]; omega))) rfl ?_ | refine sAd rfl rfl om rfl ?_) | (show oA (.box _ _); refine m_box rfl rfl (fun b hb => ?_)) | (show oA (.slice _ _ _ _ _); refine st_y (y_slc tabs (lo := i * C) (hi := (i + 1) * C) rfl rfl rfl rfl e1 e2 om om om) rfl ?_)) | refine xNt ?_ | (show oC; first | refine c_seq ?_ | refine c_region ?_ | refine c_ret ?_))
  refine x_ret1 Tryz.results90 (res_tmp rfl) (fun w' c' => ⟨_, _, rfl, ⟨?_, rfl⟩, c'.sub (List.nil_sublist _)⟩)
  rw [show (i + 1) * C - i * C = C by omega]

theorem bld_mat (r k : Int) (a : Option Addr) (m c : Nat) (w : World) : (Instr.build 47 #[(0, iV r), (1, iV k), (2, .slice a m c)]).run Tryz.prog w = .ok (.agg #[iV r, iV k, .slice a m c]) w := by kernel_rfl
theorem l3Copy_ok {w : World} {m : Mat} {u : Value} (hr : Rd w (iT m.2.2) u) (hb : m.2.2.length ≤ 1048576) : Does Tryz.prog 110 [.agg #[iV m.1, iV m.2.1, u]] w (GivesM m) := by
  obtain ⟨r, k, xs⟩ := m
  simp only at hr hb ⊢
  obtain ⟨a, c, rfl, hs, hc1, hc2, hget⟩ := hr.ints
  refine fn_enter Tryz.func110 rfl Tryz.ntmps110 rfl ?_
  refine c_seq (c_region (m_box rfl rfl fun b1 hb1 => m_alloc tabs rfl rfl fun b2 hb2 => c_nil (x_then ?_)))
  refine c_seq ?_
  refine c_mixR (Hp [] w [.blk b2 #[iV 0, iV 0, .slice none 0 0] 47, .blk b1 #[iV r, iV k, .slice a xs.length c] 47]) 9 kr kr kr kr kr (fun _ c => Hp.drew c) ?_
  refine h_take 0 rfl kr kr kr (by exact y_field tabs rfl rfl rfl) rfl (fun _ c => c) ?_
  refine h_take 1 rfl kr kr kr (by exact y_load tabs rfl rfl (hc_blk 1 rfl rfl)) rfl (fun _ c => c) ?_
  refine h_take 2 rfl kr kr kr (by exact y_field tabs rfl rfl rfl) rfl (fun _ c => c) ?_
  refine h_take 3 rfl kr kr kr (by exact y_load tabs rfl rfl (hc_blk 1 rfl rfl)) rfl (fun _ c => c) ?_
  refine h_take 5 rfl kr kr kr (by exact y_field tabs rfl rfl rfl) rfl (fun _ c => c) ?_
  refine h_take 6 rfl kr kr kr (by exact y_load tabs rfl rfl (hc_blk 1 rfl rfl)) rfl (fun _ c => c) ?_
  refine h_only 4 rfl kr ?_
  first | (refine m_build0 tabs rfl rfl (fun g hg => ?_)) | (refine m_appi 0 tabs (xs := []) rfl rfl rfl rfl rfl (by simp; omega) (fun w c => rd_src (c.rd hr)) (fun a2 c2 => ?_))
  refine c_nil (x_one (h_keep (fun w c => by exact c.drop) ?_))
  refine h_only 7 rfl kr ?_
  first | (refine m_build0 tabs rfl rfl (fun g hg => ?_)) | (refine m_appi 0 tabs (xs := []) rfl rfl rfl rfl rfl (by simp; omega) (fun w c => rd_src (c.rd hr)) (fun a2 c2 => ?_))
  refine c_nil (x_one (h_keep (fun w c => by exact c.drop) ?_))
  refine h_take 8 rfl kr kr kr (by exact y_bld3 (bld_mat _ _ _ _ _) rfl rfl rfl) rfl (fun w c => by exact c.drop) ?_
  refine h_end kr ?_
  refine AT.fact (own_sl 0 rfl) (fun hsl => ?_)
  obtain ⟨a3, c3, e3, hs3⟩ := hsl
  simp at e3
  obtain ⟨rfl, rfl⟩ := e3
  repeat' (first | (show oL; first | (show oA (.store _ _ _); refine m_storeb 1 tabs rfl rfl rfl rfl rfl rfl rfl ?_)) | refine xNt ?_ | (show oC; refine c_ret ?_))
  refine x_ret1 Tryz.results110 (res_cellb 1 tabs rfl rfl rfl rfl) (fun w' c' => ⟨.agg #[iV r, iV k, .slice a2 xs.length c2], [.own (iT xs) (.slice a2 xs.length c2)], by simp, ⟨a2, c2, rfl, by simpa using hs3, rfl⟩, ?_⟩)
  have := Hp.sub (H' := [HE.own (ints 3 ([] ++ xs)) (.slice a2 (([] : List Int).length + xs.length) c2)]) (.cons_cons _ (List.nil_sublist _)) c'
  simpa using this
end Go.Proofs.YtcplmeajmpkpkaaGreat
