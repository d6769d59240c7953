import Derived.Test.YtnmhdmkfhacdbaaGreatOpnqA
import Derived.Test.YtnmhdmkfhacdbaaGreatRowqA
namespace Go.Proofs.YtnmhdmkfhacdbaaGreat
open Go.Lg Go.Proofs Go.RowKit Go.WideShapes Go.ChangeShapes

set_option maxRecDepth 100000

abbrev RngR (rs : List (List Int)) : Prop := ∀ xs ∈ rs, ∀ n ∈ xs, Rng n
abbrev RngSp (s : Sp) : Prop := Rng s.1 ∧ RngR s.2

section
variable {H : Type} {enc : TypeId × Value → H} {w : World} {base : Nat} {spare : Nat → Bool} {held : Bool}

theorem rdC1 {t0 : T} {c0 : Value} (h0 : Rd w t0 c0) : RdC w [t0] [c0] := ⟨rfl, fun j t u ht hu => by
  match j, ht, hu with
  | 0, ht, hu => simp at ht hu; subst ht; subst hu; exact h0⟩
theorem rdC2 {t0 t1 : T} {c0 c1 : Value} (h0 : Rd w t0 c0) (h1 : Rd w t1 c1) : RdC w [t0, t1] [c0, c1] := ⟨rfl, fun j t u ht hu => by
  match j, ht, hu with
  | 0, ht, hu => simp at ht hu; subst ht; subst hu; exact h0
  | 1, ht, hu => simp at ht hu; subst ht; subst hu; exact h1⟩
theorem tr_rows {fuel : Nat} {cs : List Value} {x : DataW H × List MemPlace} (h : DataW.trod enc Tryz.prog w base spare held fuel 49 cs = some x) :
    ∃ v rs, cs = [v] ∧ Rd w (rowsT 22 rs) v ∧ RngR rs := by
  obtain ⟨v, l, h1, h2, h3⟩ := tr_slice (e' := 22) (f := rowT) (G := fun xs => ∀ n ∈ xs, Rng n) Tryz.underlying49 (by kernel_rfl) (by decide) rowT_length (fun fuel cs x hx => by
    obtain ⟨u, xs, rfl, hu, hg⟩ := tr_ints hx
    exact ⟨xs, rdC1 hu, hg⟩) h
  exact ⟨v, l, h1, h2, h3⟩
theorem tr_space {fuel : Nat} {cs : List Value} {x : DataW H × List MemPlace} (h : DataW.trod enc Tryz.prog w base spare held fuel 51 cs = some x) :
    ∃ s : Sp, ∃ u, cs = [iV s.1, u] ∧ Rd w (rowsT 22 s.2) u ∧ RngSp s := by
  obtain ⟨xs, n, _, _, hl, hx, hall⟩ := DataW.trod_struct Tryz.underlying51 h
  have hc : Tryz.prog.cellsOf 51 = 2 := by kernel_rfl
  rw [hc] at hl
  match cs, hl with
  | [c0, c1], _ =>
    match xs, hx with
    | [x0, x1], _ =>
      have f0 : DataW.trod enc Tryz.prog w base spare held n 3 [c0] = some x0 := hall 0 _ rfl
      have f1 : DataW.trod enc Tryz.prog w base spare held n 49 [c1] = some x1 := hall 1 _ rfl
      obtain ⟨r, e0, g0⟩ := tr_int Tryz.underlying3 f0
      obtain ⟨v, rs, e1, r1, g1⟩ := tr_rows f1
      simp at e0 e1
      subst e0; subst e1
      exact ⟨(r, rs), c1, rfl, r1, g0, g1⟩
theorem tr_spaces {fuel : Nat} {cs : List Value} {x : DataW H × List MemPlace} (h : DataW.trod enc Tryz.prog w base spare held fuel 28 cs = some x) :
    ∃ v l, cs = [v] ∧ Rd w (spsT 51 l) v ∧ ∀ s ∈ l, RngSp s := by
  obtain ⟨v, l, h1, h2, h3⟩ := tr_slice (e' := 51) (f := spT) (G := RngSp) Tryz.underlying28 (by kernel_rfl) (by decide) spT_length (fun fuel cs x hx => by
    obtain ⟨s, u, rfl, hu, hg⟩ := tr_space hx
    exact ⟨s, rdC2 (by simp only [Rd]) hu, hg⟩) h
  exact ⟨v, l, h1, h2, h3⟩

variable {r : Reach} {b0 : Nat} {v : Value} {d : DataW H} {p : List MemPlace}
theorem opn_spaces (hv : Value.okWide Tryz.prog w r b0 28 v) (h : DataW.Trod enc Tryz.prog w base spare held 28 v d p) : ∃ l, Rd w (spsT 51 l) v ∧ ∀ s ∈ l, RngSp s := by
  obtain ⟨fuel, hf⟩ := h
  obtain ⟨a, n, c, rfl⟩ := okWide_slice Tryz.underlying28 hv
  obtain ⟨v', ms, e, g1, g2⟩ := tr_spaces hf
  simp [Value.cells] at e
  subst e
  exact ⟨ms, g1, g2⟩
end
end Go.Proofs.YtnmhdmkfhacdbaaGreat
