import Derived.Test.YtdnhmnnccfoliaaGreatDoorLBqpr
import Derived.Test.YtdnhmnnccfoliaaGreatDoorLCqpr
import Derived.Test.YtdnhmnnccfoliaaGreatDoorPrdqpr
namespace Go.Proofs.YtdnhmnnccfoliaaGreatDoor
open Go.Lg Go.Proofs Go.RowKit
attribute [local irreducible] Code.wp wpList bodyPost Exit.then Exit.inBlock Hp Again Calls Y AT ResV QT
set_option maxRecDepth 20000
set_option maxHeartbeats 4000000

theorem fieldP_pos {p : Int} (h : FieldP p) : 2 ≤ p ∧ p ≤ 5 := by unfold FieldP at h; omega
def invM (p x : Int) : Int := if p = 5 ∧ x = 2 then 3 else if p = 5 ∧ x = 3 then 2 else x

end Go.Proofs.YtdnhmnnccfoliaaGreatDoor

namespace Go.Proofs.YtdnhmnnccfoliaaGreatDoor
open Go.Lg Go.Proofs Go.RowKit

def mk (R C : Nat) (f : Nat → Nat → Int) : List Int := (List.range (R * C)).map (fun q => f (q / C) (q % C))
@[simp] theorem mk_length {R C : Nat} {f : Nat → Nat → Int} : (mk R C f).length = R * C := by simp [mk]
theorem cell_lt {R C i j : Nat} (hi : i < R) (hj : j < C) : i * C + j < R * C := by
  have : (i + 1) * C ≤ R * C := Nat.mul_le_mul_right C hi
  rw [Nat.succ_mul] at this
  omega
theorem cell_div {C i j : Nat} (hj : j < C) : (i * C + j) / C = i := by
  rw [Nat.mul_comm, Nat.mul_add_div om, Nat.div_eq_of_lt hj, Nat.add_zero]
theorem cell_mod {C i j : Nat} (hj : j < C) : (i * C + j) % C = j := by
  rw [Nat.mul_comm, Nat.mul_add_mod, Nat.mod_eq_of_lt hj]
theorem mk_get {R C i j : Nat} {f : Nat → Nat → Int} (hi : i < R) (hj : j < C) : (mk R C f).getD (i * C + j) 0 = f i j := by
  have h := cell_lt hi hj
  simp [mk, List.getD, h, cell_div hj, cell_mod hj]
theorem mk_of {R C : Nat} {l : List Int} (h : l.length = R * C) : l = mk R C (fun i j => l.getD (i * C + j) 0) := by
  apply List.ext_getElem?
  intro q
  by_cases hq : q < R * C
  · have : q / C * C + q % C = q := by rw [Nat.mul_comm]; exact Nat.div_add_mod q C
    simp [mk, hq, this, h]
  · rw [List.getElem?_eq_none om, List.getElem?_eq_none (by simp; omega)]

def findAt (f : Nat → Nat → Int) (k R r : Nat) : Nat := ((List.range R).find? (fun i => decide (r ≤ i ∧ f i k ≠ 0))).getD R
def swapF (f : Nat → Nat → Int) (r a : Nat) : Nat → Nat → Int := fun i j => if i = r then f a j else if i = a then f r j else f i j
def scaleF (p v : Int) (f : Nat → Nat → Int) (r : Nat) : Nat → Nat → Int := fun i j => if i = r then v * f r j % p else f i j
def elimF (p : Int) (f : Nat → Nat → Int) (r k : Nat) : Nat → Nat → Int := fun i j => if i = r then f i j else (f i j - f i k * f r j) % p
def colStep (p : Int) (R k : Nat) (st : (Nat → Nat → Int) × List Int) : (Nat → Nat → Int) × List Int :=
  let r := st.2.length
  let a := findAt st.1 k R r
  if a < R then
    let g := swapF st.1 r a
    (elimF p (scaleF p (invM p (g r k)) g r) r k, st.2 ++ [(k : Int)])
  else st
def redTo (p : Int) (R : Nat) (f : Nat → Nat → Int) : Nat → (Nat → Nat → Int) × List Int
  | 0 => (f, [])
  | k + 1 => colStep p R k (redTo p R f k)
end Go.Proofs.YtdnhmnnccfoliaaGreatDoor

namespace Go.Proofs.YtdnhmnnccfoliaaGreatDoor
open Go.Lg Go.Proofs Go.RowKit
attribute [local irreducible] Code.wp wpList bodyPost Exit.then Exit.inBlock Hp Again Calls Y AT ResV QT
set_option maxRecDepth 20000
set_option maxHeartbeats 4000000

theorem Clone_ok {w : World} {v : Value} {xs : List Int} (hr : Rd w (iT xs) v) (hb : xs.length ≤ 1048576) : Does Tryz.prog 138 [v] w (fun r H => Gives (iT xs) xs.length r H) := by
  obtain ⟨a, c, rfl, hs, hc1, hc2, hget⟩ := hr.ints
  refine fn_enter Tryz.func138 rfl Tryz.ntmps138 rfl ?_
  repeat' (first | (show oL; first | refine sMv rfl rfl ?_ | refine sAs rfl rfl ?_ | (show oA (.binOp _ _ _ _ _); refine st_y (y_eqsnil tabs rfl rfl rfl) rfl ?_) | (show oA (.call _); refine m_appi 0 tabs (xs := []) rfl rfl rfl rfl rfl (by simp; omega) (fun w c => rd_src (c.rd hr)) (fun a2 c2 => ?_)) | (show oA (.buildSlice _ _ _); refine m_build0 tabs rfl rfl (fun g hg => ?_))) | refine xNt ?_ | (show oC; first | refine c_seq ?_ | refine c_region ?_ | refine c_skip (x_then ?_) | refine c_ret ?_ | refine c_if rfl (fun h => ?_) (fun h => ?_)) | (show AT _ _ _ _; refine x_then_ret ?_))
  · subst h
    have h0 : xs = [] := by
      rcases hs with h | h
      · exact List.length_eq_zero_iff.1 h
      · cases h
    subst h0
    refine x_ret1 Tryz.results138 (res_tmp rfl) (fun w' c' => ⟨_, _, rfl, ⟨none, 0, rfl, .inl rfl, rfl⟩, Hp.nilp _ _ c'⟩)
  · refine AT.fact (own_sl 0 rfl) (fun hsl => ?_)
    obtain ⟨a3, c3, e3, hs3⟩ := hsl
    simp at e3
    obtain ⟨rfl, rfl⟩ := e3
    refine x_ret1 Tryz.results138 (res_tmp rfl) (fun w' c' => ⟨.slice a2 xs.length c2, [.own (iT xs) (.slice a2 xs.length c2)], by simp, ⟨a2, c2, rfl, by simpa using hs3, rfl⟩, by simpa using c'⟩)

end Go.Proofs.YtdnhmnnccfoliaaGreatDoor
