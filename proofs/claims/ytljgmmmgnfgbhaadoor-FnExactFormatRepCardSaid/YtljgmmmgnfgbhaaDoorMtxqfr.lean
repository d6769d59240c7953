import Derived.Test.YtljgmmmgnfgbhaaDoorModqfr
namespace Go.Proofs.YtljgmmmgnfgbhaaDoor
open Go.Lg Go.Proofs Go.RowKit

/-! ### matrices as functions -/
def mk (R C : Nat) (f : Nat → Nat → Int) : List Int := (List.range (R * C)).map (fun q => f (q / C) (q % C))
@[simp] theorem mk_length {R C : Nat} {f : Nat → Nat → Int} : (mk R C f).length = R * C := by simp [mk]
theorem cell_lt {R C i j : Nat} (hi : i < R) (hj : j < C) : i * C + j < R * C := by
  have : (i + 1) * C ≤ R * C := Nat.mul_le_mul_right C hi
  rw [Nat.succ_mul] at this
  omega
theorem cell_div {C i j : Nat} (hj : j < C) : (i * C + j) / C = i := by
  rw [Nat.mul_comm, Nat.mul_add_div (by omega), Nat.div_eq_of_lt hj, Nat.add_zero]
theorem cell_mod {C i j : Nat} (hj : j < C) : (i * C + j) % C = j := by
  rw [Nat.mul_comm, Nat.mul_add_mod, Nat.mod_eq_of_lt hj]
theorem mk_get {R C i j : Nat} {f : Nat → Nat → Int} (hi : i < R) (hj : j < C) : (mk R C f).getD (i * C + j) 0 = f i j := by
  have h := cell_lt hi hj
  simp [mk, List.getD, h, cell_div hj, cell_mod hj]
theorem mk_of {R C : Nat} {l : List Int} (h : l.length = R * C) : l = mk R C (fun i j => l.getD (i * C + j) 0) := by
  apply List.ext_getElem?
  intro q
  by_cases hq : q < R * C
  · have : q / C * C + q % C = q := by rw [Nat.mul_comm]; exact Nat.div_add_mod q C
    simp [mk, hq, this, h]
  · rw [List.getElem?_eq_none (by omega), List.getElem?_eq_none (by simp; omega)]

/-! ### row reduction -/
/-- the least row from r on whose number in column k is not 0, or R -/
def findAt (f : Nat → Nat → Int) (k R r : Nat) : Nat := ((List.range R).find? (fun i => decide (r ≤ i ∧ f i k ≠ 0))).getD R
def swapF (f : Nat → Nat → Int) (r a : Nat) : Nat → Nat → Int := fun i j => if i = r then f a j else if i = a then f r j else f i j
def scaleF (p v : Int) (f : Nat → Nat → Int) (r : Nat) : Nat → Nat → Int := fun i j => if i = r then v * f r j % p else f i j
def elimF (p : Int) (f : Nat → Nat → Int) (r k : Nat) : Nat → Nat → Int := fun i j => if i = r then f i j else (f i j - f i k * f r j) % p
/-- one column -/
def colStep (p : Int) (R k : Nat) (st : (Nat → Nat → Int) × List Int) : (Nat → Nat → Int) × List Int :=
  let r := st.2.length
  let a := findAt st.1 k R r
  if a < R then
    let g := swapF st.1 r a
    (elimF p (scaleF p (invM p (g r k)) g r) r k, st.2 ++ [(k : Int)])
  else st
/-- the first k columns -/
def redTo (p : Int) (R : Nat) (f : Nat → Nat → Int) : Nat → (Nat → Nat → Int) × List Int
  | 0 => (f, [])
  | k + 1 => colStep p R k (redTo p R f k)
end Go.Proofs.YtljgmmmgnfgbhaaDoor
