import Derived.Test.YtcplmeajmpkpkaaGreatAloqsp
import Derived.Test.YtcplmeajmpkpkaaGreatCopqsp
import Derived.Test.YtcplmeajmpkpkaaGreatMorqsp
import Derived.Test.YtcplmeajmpkpkaaGreatMulqsp
import Derived.Test.YtcplmeajmpkpkaaGreatSpmqsp
namespace Go.Proofs.YtcplmeajmpkpkaaGreat
open Go.Lg Go.Proofs Go.RowKit

theorem sumN_split {f : Nat → Int} {n : Nat} : ∀ m, sumN f (n + m) = sumN f n + sumN (fun i => f (n + i)) m
  | 0 => by simp [sumN]
  | m + 1 => by
    rw [← Nat.add_assoc, sumN, sumN_split m, sumN]
    omega
theorem sumN_comm {F : Nat → Nat → Int} {m : Nat} : ∀ n, sumN (fun i => sumN (fun j => F i j) m) n = sumN (fun j => sumN (fun i => F i j) n) m
  | 0 => by simp only [sumN]; rw [sumN_zero]
  | n + 1 => by
    simp only [sumN]
    rw [sumN_comm n, ← sumN_add]
theorem sumN_mull {f : Nat → Int} {x : Int} {n : Nat} : sumN (fun i => x * f i) n = x * sumN f n := by
  rw [sumN_congr (g := fun i => f i * x) (fun i _ => Int.mul_comm ..), sumN_mul, Int.mul_comm]
theorem sumN_neg {f : Nat → Int} {n : Nat} : sumN (fun i => - f i) n = - sumN f n := by
  have := sumN_mul (f := f) (x := -1) (n := n)
  rw [sumN_congr (g := fun i => f i * -1) (fun i _ => by omega), this]; omega
theorem mulF_sum {p : Int} {N : Nat} {f g : Nat → Nat → Int} {i j : Nat} : mulF p N f g i j = sumN (fun k => f i k * g k j) N % p := accF_sum N
end Go.Proofs.YtcplmeajmpkpkaaGreat

namespace Go.Proofs.YtcplmeajmpkpkaaGreat
open Go.Lg Go.Proofs Go.RowKit
attribute [local irreducible] Code.wp wpList bodyPost Exit.then Exit.inBlock Hp Again Calls Y AT ResV QT Qn QI wpAny wpAnyQ
set_option maxRecDepth 20000
set_option maxHeartbeats 4000000

def CellsP (p : Int) (m : Mat) (R C : Nat) : Prop := m.1 = R ∧ m.2.1 = C ∧ m.2.2 = mk R C (matF m) ∧ inF p R C (matF m)
theorem cellsP_of {p : Int} {m : Mat} {R C : Nat} (h : MatP p m) (h1 : m.1 = R) (h2 : m.2.1 = C) : CellsP p m R C := by
  obtain ⟨R', C', e1, e2, _, _, e3, e4⟩ := matP_cells h
  have r1 : R' = R := by omega
  have r2 : C' = C := by omega
  subst r1; subst r2
  exact ⟨e1, e2, e3, e4⟩
def dN (d : List Int) (v : Int) : Nat := (d.getD v.toNat 0).toNat
end Go.Proofs.YtcplmeajmpkpkaaGreat
