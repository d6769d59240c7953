import Derived.Test.YtfhgpkdhhclpbaaInvqcb
import Derived.Test.YtfhgpkdhhclpbaaKerqcb
import Derived.Test.YtfhgpkdhhclpbaaLEqcb
import Derived.Test.YtfhgpkdhhclpbaaMphqcb
import Derived.Test.YtfhgpkdhhclpbaaMssqcb
import Derived.Test.YtfhgpkdhhclpbaaRrfqcb
import Derived.Test.YtfhgpkdhhclpbaaSupqcb
namespace Go.Proofs.Ytfhgpkdhhclpbaa
open Go.Lg Go.Proofs Go.RowKit
attribute [local irreducible] Code.wp wpList bodyPost Exit.then Exit.inBlock Hp Again Calls Y AT ResV QT Qn QI wpAny wpAnyQ
set_option maxRecDepth 20000
set_option maxHeartbeats 4000000

/-! ### lists of made matrices; products of matrices vertex by vertex -/
def tabM (F : Nat → Mat) (n : Nat) : List Mat := (List.range n).map F
@[simp] theorem tabM_length {F : Nat → Mat} {n : Nat} : (tabM F n).length = n := by simp [tabM]
theorem tabM_sz {F : Nat → Mat} {k : Nat} : ∀ {n : Nat}, (∀ i, i < n → (F i).2.2.length ≤ k) → szMs (tabM F n) ≤ n * (k + 1) := fun {n} h => by
  have h1 := szMs_le (k := k) (l := tabM F n) (fun m hm => by
    simp only [tabM, List.mem_map, List.mem_range] at hm
    obtain ⟨i, hi, rfl⟩ := hm
    exact h i hi)
  rwa [tabM_length] at h1
end Go.Proofs.Ytfhgpkdhhclpbaa

namespace Go.Proofs.Ytfhgpkdhhclpbaa
open Go.Lg Go.Proofs Go.RowKit
attribute [local irreducible] Code.wp wpList bodyPost Exit.then Exit.inBlock Hp Again Calls Y AT ResV QT Qn QI wpAny wpAnyQ
set_option maxRecDepth 20000
set_option maxHeartbeats 4000000

/-! ### the cells of all matrices between two representations; the equations of the morphisms, in plain -/
def szV (da db : List Int) (v : Nat) : Nat := (da.getD v 0).toNat * (db.getD v 0).toNat
def offN (da db : List Int) : Nat → Nat
  | 0 => 0
  | v + 1 => offN da db v + szV da db v
theorem offN_mono {da db : List Int} {u : Nat} : ∀ {v : Nat}, u ≤ v → offN da db u ≤ offN da db v
  | 0, h => by rw [Nat.le_zero.1 h]; exact Nat.le_refl _
  | v + 1, h => by
    by_cases e : u = v + 1
    · rw [e]; exact Nat.le_refl _
    · have := offN_mono (da := da) (db := db) (u := u) (v := v) (by omega)
      rw [offN]; omega
/-- matrices cut out of a list of cells -/
def cutM (da db : List Int) (x : List Int) (v : Nat) : Mat := (((db.getD v 0).toNat : Nat), ((da.getD v 0).toNat : Nat), (x.drop (offN da db v)).take (szV da db v))
theorem cut_len {da db x : List Int} {v n : Nat} (hv : v < n) (hx : x.length = offN da db n) : (cutM da db x v).2.2.length = szV da db v := by
  have h1 := offN_mono (da := da) (db := db) (u := v + 1) (v := n) hv
  rw [offN] at h1
  simp only [cutM, List.length_take, List.length_drop]
  omega
def cutL (da db x : List Int) : List Mat := tabM (cutM da db x) da.length
theorem tabM_get {F : Nat → Mat} {n i : Nat} (h : i < n) : (tabM F n)[i]? = some (F i) := by simp [tabM, h]
/-- the entry of the equation of a cell of an arrow at a cell of a vertex -/
def at1 (a b : Rp) (i k j : Nat) : Nat := offN a.d b.d (a.q.2.1.getD i 0).toNat + (j * dN a.d (a.q.2.1.getD i 0) + k)
def at2 (a b : Rp) (i r j : Nat) : Nat := offN a.d b.d (a.q.2.2.getD i 0).toNat + (r * dN a.d (a.q.2.2.getD i 0) + j)
def sum1 (a b : Rp) (i r k c n : Nat) : Int := sumN (fun j => if at1 a b i k j = c then matF (b.m.getD i mat0) r j else 0) n
def sum2 (a b : Rp) (i r k c n : Nat) : Int := sumN (fun j => if at2 a b i r j = c then matF (a.m.getD i mat0) j k else 0) n
def eqE (a b : Rp) (i r k c : Nat) : Int := (sum1 a b i r k c (dN b.d (a.q.2.1.getD i 0)) - sum2 a b i r k c (dN a.d (a.q.2.2.getD i 0))) % a.p
/-! the rows, one for each cell of each arrow -/
def rowsI (a b : Rp) (i : Nat) : List (Nat × Nat × Nat) := (List.range (dN b.d (a.q.2.2.getD i 0))).flatMap (fun r => (List.range (dN a.d (a.q.2.1.getD i 0))).map (fun k => (i, r, k)))
def idxN (a b : Rp) (n : Nat) : List (Nat × Nat × Nat) := (List.range n).flatMap (rowsI a b)
/-! the rows so far, in the midst of an arrow -/
/-- the matrix of the equations -/
def eqsF (a b : Rp) : Nat → Nat → Int := fun t c => eqE a b ((idxN a b a.q.2.1.length).getD t (0, 0, 0)).1 ((idxN a b a.q.2.1.length).getD t (0, 0, 0)).2.1 ((idxN a b a.q.2.1.length).getD t (0, 0, 0)).2.2 c
/-! the rows of the reference, step by step -/
end Go.Proofs.Ytfhgpkdhhclpbaa

namespace Go.Proofs.Ytfhgpkdhhclpbaa
open Go.Lg Go.Proofs Go.RowKit
attribute [local irreducible] Code.wp wpList bodyPost Exit.then Exit.inBlock Hp Again Calls Y AT ResV QT Qn QI wpAny wpAnyQ
set_option maxRecDepth 20000
set_option maxHeartbeats 4000000

/-! ### dimensions and numbers of morphisms, in plain -/
def powI (p : Int) : Nat → Int
  | 0 => 1
  | i + 1 => powI p i * p
/-- how many morphisms there are -/
def cntN (p : Int) (n : Nat) : Int := if powI p n ≤ 100000 then powI p n else -2
def homN (a b : Rp) : Nat := (freeN (redTo a.p (idxN a b a.q.2.1.length).length (eqsF a b) (offN a.d b.d a.d.length)).2 (offN a.d b.d a.d.length)).length
theorem offN_sum {da db : List Int} (hb : ∀ n, db.getD n 0 ≤ 4) (ha : ∀ n, 0 ≤ da.getD n 0) : ∀ n, n ≤ da.length → ((offN da db n : Nat) : Int) ≤ 4 * (da.take n).sum
  | 0, _ => by simp [offN]
  | n + 1, h => by
    have ih := offN_sum hb ha n (by omega)
    have hb' := hb n
    have ha' := ha n
    have h1 : szV da db n ≤ (da.getD n 0).toNat * 4 := Nat.mul_le_mul (Nat.le_refl _) (by omega)
    have e1 : da[n]? = some (da.getD n 0) := by rw [List.getD, List.getElem?_eq_getElem (by omega)]; rfl
    rw [List.take_add_one, e1, offN]
    simp only [Option.toList_some, List.sum_append, List.sum_cons, List.sum_nil]
    omega
theorem off_le {a b : Rp} (hF : FitP a b) : offN a.d b.d a.d.length ≤ 32 := by
  have h := offN_sum (da := a.d) (db := b.d) (fun n => by have := hF.2.1.dg n; omega) (fun n => by have := hF.1.dg n; omega) a.d.length (Nat.le_refl _)
  rw [List.take_length] at h
  have := hF.1.2.1.2.2.2
  omega
end Go.Proofs.Ytfhgpkdhhclpbaa

namespace Go.Proofs.Ytfhgpkdhhclpbaa
open Go.Lg Go.Proofs Go.RowKit
attribute [local irreducible] Code.wp wpList bodyPost Exit.then Exit.inBlock Hp Again Calls Y AT ResV QT Qn QI wpAny wpAnyQ
set_option maxRecDepth 20000
set_option maxHeartbeats 4000000

/-! ### cells of matrices, one after the other -/
def flatL (ms : List Mat) : List Int := ms.flatMap (fun m => m.2.2)
theorem flatL_next {ms : List Mat} {i : Nat} {m : Mat} (h : ms[i]? = some m) : flatL (ms.take i) ++ m.2.2 = flatL (ms.take (i + 1)) := by
  rw [List.take_add_one, h]
  simp [flatL]
theorem flatL_le {ms : List Mat} {i : Nat} : (flatL (ms.take i)).length ≤ (flatL ms).length := by
  have e : flatL ms = flatL (ms.take i) ++ flatL (ms.drop i) := by rw [flatL, flatL, flatL, ← List.flatMap_append, List.take_append_drop]
  rw [e, List.length_append]; omega
/-! ### parts of a list of ints -/
theorem it_part {xs : List Int} {lo n : Nat} : ((it xs).drop (lo * 1)).take (n * 1) = it ((xs.drop lo).take n) := by
  rw [Nat.mul_one, Nat.mul_one, it, it, List.map_take, List.map_drop]
theorem rd_part {w : World} {e m c lo hi : Nat} {xs : List Int} {a : Option Addr} (hr : Rd w (ints e xs) (.slice a m c)) (h1 : lo ≤ hi) (h2 : hi ≤ m) : Rd w (ints e ((xs.drop lo).take (hi - lo))) (.slice (subA a 1 lo c) (hi - lo) (c - lo)) := by
  have := Rd.part (lo := lo) (hi := hi) hr h1 h2
  rwa [it_part] at this
theorem cut_next {da db x : List Int} {i : Nat} : (tabM (cutM da db x) i).flatMap matT ++ (List.map T.c [iV ((db.getD i 0).toNat : Nat), iV ((da.getD i 0).toNat : Nat)] ++ [iT ((x.drop (offN da db i)).take (szV da db i))]) = (tabM (cutM da db x) (i + 1)).flatMap matT := by
  have e1 : tabM (cutM da db x) (i + 1) = tabM (cutM da db x) i ++ [cutM da db x i] := by simp [tabM, List.range_succ]
  rw [e1, List.flatMap_append]; rfl
end Go.Proofs.Ytfhgpkdhhclpbaa
