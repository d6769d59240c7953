import Derived.Test.YtdnhmnnccfoliaaGreatDoorOpnqpr
import Derived.Test.YtdnhmnnccfoliaaGreatDoorQuiqpr
namespace Go.Proofs.YtdnhmnnccfoliaaGreatDoor
open Go.Lg Go.Proofs Go.RowKit Go.WideShapes Go.ChangeShapes

set_option maxRecDepth 100000

abbrev RngQ (q : Qv) : Prop := Rng q.1 ∧ (∀ n ∈ q.2.1, Rng n) ∧ ∀ n ∈ q.2.2, Rng n
section
variable {H : Type} {enc : TypeId × Value → H} {w : World} {base : Nat} {spare : Nat → Bool} {held : Bool}

theorem tr_quiver {fuel : Nat} {cs : List Value} {x : DataW H × List MemPlace} (h : DataW.trod enc Tryz.prog w base spare held fuel 24 cs = some x) :
    ∃ q : Qv, ∃ u u', cs = [iV q.1, u, u'] ∧ Rd w (iT q.2.1) u ∧ Rd w (iT q.2.2) u' ∧ RngQ q := by
  obtain ⟨xs, n, _, _, hl, hx, hall⟩ := DataW.trod_struct Tryz.underlying24 h
  have hc : Tryz.prog.cellsOf 24 = 3 := by kernel_rfl
  rw [hc] at hl
  match cs, hl with
  | [c0, c1, c2], _ =>
    match xs, hx with
    | [x0, x1, x2], _ =>
      have f0 : DataW.trod enc Tryz.prog w base spare held n 3 [c0] = some x0 := hall 0 _ rfl
      have f1 : DataW.trod enc Tryz.prog w base spare held n 22 [c1] = some x1 := hall 1 _ rfl
      have f2 : DataW.trod enc Tryz.prog w base spare held n 22 [c2] = some x2 := hall 2 _ rfl
      obtain ⟨r, e0, g0⟩ := tr_int Tryz.underlying3 f0
      obtain ⟨v, ys, e1, r1, g1⟩ := tr_ints f1
      obtain ⟨v', zs, e2, r2, g2⟩ := tr_ints f2
      simp at e0 e1 e2
      subst e0; subst e1; subst e2
      exact ⟨(r, ys, zs), c1, c2, rfl, r1, r2, g0, g1, g2⟩
variable {r : Reach} {b0 : Nat} {v : Value} {d : DataW H} {p : List MemPlace}
theorem opn_quiver (hv : Value.okWide Tryz.prog w r b0 24 v) (h : DataW.Trod enc Tryz.prog w base spare held 24 v d p) : ∃ q : Qv, ∃ u u', v = .agg #[iV q.1, u, u'] ∧ Rd w (iT q.2.1) u ∧ Rd w (iT q.2.2) u' ∧ RngQ q := by
  obtain ⟨fuel, hf⟩ := h
  obtain ⟨cs, rfl, _⟩ := okWide_struct Tryz.underlying24 hv
  obtain ⟨q, u, u', e, g1, g2, g3⟩ := tr_quiver hf
  refine ⟨q, u, u', ?_, g1, g2, g3⟩
  have : cs = #[iV q.1, u, u'] := by apply Array.ext'; simpa [Value.cells] using e
  rw [this]
end
end Go.Proofs.YtdnhmnnccfoliaaGreatDoor
