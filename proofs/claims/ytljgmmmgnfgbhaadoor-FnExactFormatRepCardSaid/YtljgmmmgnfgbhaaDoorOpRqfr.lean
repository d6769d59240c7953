import Derived.Test.YtljgmmmgnfgbhaaDoorOpnqfr
import Derived.Test.YtljgmmmgnfgbhaaDoorQuiqfr
namespace Go.Proofs.YtljgmmmgnfgbhaaDoor
open Go.Lg Go.Proofs Go.RowKit Go.WideShapes Go.ChangeShapes

set_option maxRecDepth 100000

abbrev RngQ (q : Qv) : Prop := Rng q.1 ∧ (∀ n ∈ q.2.1, Rng n) ∧ ∀ n ∈ q.2.2, Rng n
abbrev RngRp (r : Rp) : Prop := Rng r.p ∧ RngQ r.q ∧ (∀ n ∈ r.d, Rng n) ∧ ∀ m ∈ r.m, RngM m

section
variable {H : Type} {enc : TypeId × Value → H} {w : World} {base : Nat} {spare : Nat → Bool} {held : Bool}

theorem tr_quiver {fuel : Nat} {cs : List Value} {x : DataW H × List MemPlace} (h : DataW.trod enc Tryd.prog w base spare held fuel 24 cs = some x) :
    ∃ q : Qv, ∃ u u', cs = [iV q.1, u, u'] ∧ Rd w (iT q.2.1) u ∧ Rd w (iT q.2.2) u' ∧ RngQ q := by
  obtain ⟨xs, n, _, _, hl, hx, hall⟩ := DataW.trod_struct Tryd.underlying24 h
  have hc : Tryd.prog.cellsOf 24 = 3 := by kernel_rfl
  rw [hc] at hl
  match cs, hl with
  | [c0, c1, c2], _ =>
    match xs, hx with
    | [x0, x1, x2], _ =>
      have f0 : DataW.trod enc Tryd.prog w base spare held n 3 [c0] = some x0 := hall 0 _ rfl
      have f1 : DataW.trod enc Tryd.prog w base spare held n 22 [c1] = some x1 := hall 1 _ rfl
      have f2 : DataW.trod enc Tryd.prog w base spare held n 22 [c2] = some x2 := hall 2 _ rfl
      obtain ⟨r, e0, g0⟩ := tr_int Tryd.underlying3 f0
      obtain ⟨v, ys, e1, r1, g1⟩ := tr_ints f1
      obtain ⟨v', zs, e2, r2, g2⟩ := tr_ints f2
      simp at e0 e1 e2
      subst e0; subst e1; subst e2
      exact ⟨(r, ys, zs), c1, c2, rfl, r1, r2, g0, g1, g2⟩
theorem tr_rep {fuel : Nat} {cs : List Value} {x : DataW H × List MemPlace} (h : DataW.trod enc Tryd.prog w base spare held fuel 27 cs = some x) :
    ∃ r : Rp, ∃ u0 u1 u2 u3, cs = [iV r.p, iV r.q.1, u0, u1, u2, u3] ∧ Rd w (iT r.q.2.1) u0 ∧ Rd w (iT r.q.2.2) u1 ∧ Rd w (iT r.d) u2 ∧ Rd w (matsT 53 r.m) u3 ∧ RngRp r := by
  obtain ⟨xs, n, _, _, hl, hx, hall⟩ := DataW.trod_struct Tryd.underlying27 h
  have hc : Tryd.prog.cellsOf 27 = 6 := by kernel_rfl
  rw [hc] at hl
  match cs, hl with
  | [c0, c1, c2, c3, c4, c5], _ =>
    match xs, hx with
    | [x0, x1, x2, x3], _ =>
      have f0 : DataW.trod enc Tryd.prog w base spare held n 3 [c0] = some x0 := hall 0 _ rfl
      have f1 : DataW.trod enc Tryd.prog w base spare held n 24 [c1, c2, c3] = some x1 := hall 1 _ rfl
      have f2 : DataW.trod enc Tryd.prog w base spare held n 22 [c4] = some x2 := hall 2 _ rfl
      have f3 : DataW.trod enc Tryd.prog w base spare held n 25 [c5] = some x3 := hall 3 _ rfl
      obtain ⟨p, e0, g0⟩ := tr_int Tryd.underlying3 f0
      obtain ⟨q, v1, v2, e1, r1, r2, g1⟩ := tr_quiver f1
      obtain ⟨v, ds, e2, r3, g2⟩ := tr_ints f2
      obtain ⟨v', ms, e3, r4, g3⟩ := tr_mats f3
      simp at e0 e1 e2 e3
      obtain ⟨e1, e1', e1''⟩ := e1
      subst e0; subst e1; subst e1'; subst e1''; subst e2; subst e3
      exact ⟨⟨p, q, ds, ms⟩, c2, c3, c4, c5, rfl, r1, r2, r3, r4, g0, g1, g2, g3⟩

variable {r : Reach} {b0 : Nat} {v : Value} {d : DataW H} {p : List MemPlace}
theorem opn_rep (hv : Value.okWide Tryd.prog w r b0 27 v) (h : DataW.Trod enc Tryd.prog w base spare held 27 v d p) : ∃ r : Rp, ∃ u0 u1 u2 u3, v = .agg #[iV r.p, iV r.q.1, u0, u1, u2, u3] ∧
    Rd w (iT r.q.2.1) u0 ∧ Rd w (iT r.q.2.2) u1 ∧ Rd w (iT r.d) u2 ∧ Rd w (matsT 53 r.m) u3 ∧ RngRp r := by
  obtain ⟨fuel, hf⟩ := h
  obtain ⟨cs, rfl, _⟩ := okWide_struct Tryd.underlying27 hv
  obtain ⟨q, u0, u1, u2, u3, e, g⟩ := tr_rep hf
  refine ⟨q, u0, u1, u2, u3, ?_, g⟩
  have : cs = #[iV q.p, iV q.q.1, u0, u1, u2, u3] := by apply Array.ext'; simpa [Value.cells] using e
  rw [this]
end
end Go.Proofs.YtljgmmmgnfgbhaaDoor
