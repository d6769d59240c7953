import Derived.Test.YtfhgpkdhhclpbaaCobqch
namespace Go.Proofs.Ytfhgpkdhhclpbaa
open Go.Lg Go.Proofs Go.RowKit
attribute [local irreducible] Code.wp wpList bodyPost Exit.then Exit.inBlock Hp Again Calls Y AT ResV QT Qn QI wpAny wpAnyQ
set_option maxRecDepth 20000
set_option maxHeartbeats 4000000

/-! ### lists of made matrices; products of matrices vertex by vertex -/
def tabM (F : Nat → Mat) (n : Nat) : List Mat := (List.range n).map F
@[simp] theorem tabM_length {F : Nat → Mat} {n : Nat} : (tabM F n).length = n := by simp [tabM]
theorem tabM_sz {F : Nat → Mat} {k : Nat} : ∀ {n : Nat}, (∀ i, i < n → (F i).2.2.length ≤ k) → szMs (tabM F n) ≤ n * (k + 1) := fun {n} h => by
  have h1 := szMs_le (k := k) (l := tabM F n) (fun m hm => by
    simp only [tabM, List.mem_map, List.mem_range] at hm
    obtain ⟨i, hi, rfl⟩ := hm
    exact h i hi)
  rwa [tabM_length] at h1
end Go.Proofs.Ytfhgpkdhhclpbaa
