import Derived.Test.YtdnhmnnccfoliaaGreatDoorRows
import Derived.Test.YtdnhmnnccfoliaaGreatDoorDatqpr
import Derived.Test.YtdnhmnnccfoliaaGreatDoorLBqpr
namespace Go.Proofs.YtdnhmnnccfoliaaGreatDoor
open Go.Lg Go.Proofs Go.RowKit Go.WideShapes Go.ChangeShapes

theorem Tryz.own : ownKnob Tryz.prog.godebug = Option.none := by kernel_rfl
theorem Tryz.laidOut : laidOutB Tryz.prog = true := by kernel_rfl

set_option maxRecDepth 100000

section
variable {H : Type} {enc : TypeId × Value → H} {w : World} {base : Nat} {spare : Nat → Bool} {held : Bool}

theorem flat_one {l : List Int} : l.flatMap (fun n => [T.c (iV n)]) = it l := by
  induction l with
  | nil => rfl
  | cons x l ih => rw [List.flatMap_cons, ih]; rfl
theorem tr_ints {fuel : Nat} {cs : List Value} {x : DataW H × List MemPlace} (h : DataW.trod enc Tryz.prog w base spare held fuel 22 cs = some x) : ∃ v xs, cs = [v] ∧ Rd w (iT xs) v ∧ ∀ n ∈ xs, Rng n := by
  obtain ⟨v, l, h1, h2, h3⟩ := tr_slice (e' := 3) (f := fun n => [T.c (iV n)]) (G := Rng) Tryz.underlying22 kr (by decide) (fun _ => rfl) (fun fuel cs x hx => by
    obtain ⟨n, rfl, hn⟩ := tr_int Tryz.underlying3 hx
    refine ⟨n, ⟨rfl, fun j t u ht hu => ?_⟩, hn⟩
    cases j with
    | zero => simp at ht hu; subst ht; subst hu; simp only [Rd]
    | succ j => simp at ht) h
  rw [flat_one] at h2
  exact ⟨v, l, h1, h2, h3⟩

variable {r : Reach} {b0 : Nat} {v : Value} {d : DataW H} {p : List MemPlace}
theorem opn_int (hv : Value.okWide Tryz.prog w r b0 3 v) (h : DataW.Trod enc Tryz.prog w base spare held 3 v d p) : ∃ n, v = iV n ∧ Rng n := by
  obtain ⟨fuel, hf⟩ := h
  obtain ⟨x, rfl, _, _, _⟩ := open_int Tryz.underlying3 hv ⟨fuel, hf⟩
  obtain ⟨n, e, g⟩ := tr_int Tryz.underlying3 hf
  simp [Value.cells] at e
  subst e
  exact ⟨_, rfl, g⟩
end
end Go.Proofs.YtdnhmnnccfoliaaGreatDoor
