import Derived.Test.YtljgmmmgnfgbhaaDoorRows
import Derived.Test.YtljgmmmgnfgbhaaDoorDatqfr
import Derived.Test.YtljgmmmgnfgbhaaDoorLBqfr
namespace Go.Proofs.YtljgmmmgnfgbhaaDoor
open Go.Lg Go.Proofs Go.RowKit Go.WideShapes Go.ChangeShapes

theorem Tryd.own : ownKnob Tryd.prog.godebug = Option.none := by kernel_rfl
theorem Tryd.laidOut : laidOutB Tryd.prog = true := by kernel_rfl

set_option maxRecDepth 100000

abbrev RngM (m : Mat) : Prop := Rng m.1 ∧ Rng m.2.1 ∧ ∀ x ∈ m.2.2, Rng x

section
variable {H : Type} {enc : TypeId × Value → H} {w : World} {base : Nat} {spare : Nat → Bool} {held : Bool}

theorem flat_one {l : List Int} : l.flatMap (fun n => [T.c (iV n)]) = it l := by
  induction l with
  | nil => rfl
  | cons x l ih => rw [List.flatMap_cons, ih]; rfl
theorem tr_ints {fuel : Nat} {cs : List Value} {x : DataW H × List MemPlace} (h : DataW.trod enc Tryd.prog w base spare held fuel 22 cs = some x) : ∃ v xs, cs = [v] ∧ Rd w (iT xs) v ∧ ∀ n ∈ xs, Rng n := by
  obtain ⟨v, l, h1, h2, h3⟩ := tr_slice (e' := 3) (f := fun n => [T.c (iV n)]) (G := Rng) Tryd.underlying22 (by kernel_rfl) (by decide) (fun _ => rfl) (fun fuel cs x hx => by
    obtain ⟨n, rfl, hn⟩ := tr_int Tryd.underlying3 hx
    refine ⟨n, ⟨rfl, fun j t u ht hu => ?_⟩, hn⟩
    cases j with
    | zero => simp at ht hu; subst ht; subst hu; simp only [Rd]
    | succ j => simp at ht) h
  rw [flat_one] at h2
  exact ⟨v, l, h1, h2, h3⟩

theorem rdC3 {t0 t1 t2 : T} {c0 c1 c2 : Value} (h0 : Rd w t0 c0) (h1 : Rd w t1 c1) (h2 : Rd w t2 c2) : RdC w [t0, t1, t2] [c0, c1, c2] := ⟨rfl, fun j t u ht hu => by
  match j, ht, hu with
  | 0, ht, hu => simp at ht hu; subst ht; subst hu; exact h0
  | 1, ht, hu => simp at ht hu; subst ht; subst hu; exact h1
  | 2, ht, hu => simp at ht hu; subst ht; subst hu; exact h2⟩

theorem tr_mat {fuel : Nat} {cs : List Value} {x : DataW H × List MemPlace} (h : DataW.trod enc Tryd.prog w base spare held fuel 53 cs = some x) :
    ∃ m : Mat, ∃ u, cs = [iV m.1, iV m.2.1, u] ∧ Rd w (iT m.2.2) u ∧ RngM m := by
  obtain ⟨xs, n, _, _, hl, hx, hall⟩ := DataW.trod_struct Tryd.underlying53 h
  have hc : Tryd.prog.cellsOf 53 = 3 := by kernel_rfl
  have hi : Tryd.prog.cellsOf 3 = 1 := by kernel_rfl
  have hs : Tryd.prog.cellsOf 22 = 1 := by kernel_rfl
  rw [hc] at hl
  match cs, hl with
  | [c0, c1, c2], _ =>
    match xs, hx with
    | [x0, x1, x2], _ =>
      have f0 : DataW.trod enc Tryd.prog w base spare held n 3 [c0] = some x0 := hall 0 _ rfl
      have f1 : DataW.trod enc Tryd.prog w base spare held n 3 [c1] = some x1 := hall 1 _ rfl
      have f2 : DataW.trod enc Tryd.prog w base spare held n 22 [c2] = some x2 := hall 2 _ rfl
      obtain ⟨r, e0, g0⟩ := tr_int Tryd.underlying3 f0
      obtain ⟨c, e1, g1⟩ := tr_int Tryd.underlying3 f1
      obtain ⟨v, ys, e2, r2, g2⟩ := tr_ints f2
      simp at e0 e1 e2
      subst e0; subst e1; subst e2
      exact ⟨(r, c, ys), c2, rfl, r2, g0, g1, g2⟩

theorem tr_mats {fuel : Nat} {cs : List Value} {x : DataW H × List MemPlace} (h : DataW.trod enc Tryd.prog w base spare held fuel 25 cs = some x) :
    ∃ v ms, cs = [v] ∧ Rd w (matsT 53 ms) v ∧ ∀ m ∈ ms, RngM m := by
  obtain ⟨v, l, h1, h2, h3⟩ := tr_slice (e' := 53) (f := matT) (G := RngM) Tryd.underlying25 (by kernel_rfl) (by decide) matT_length (fun fuel cs x hx => by
    obtain ⟨m, u, rfl, hu, hg⟩ := tr_mat hx
    exact ⟨m, rdC3 (by simp only [Rd]) (by simp only [Rd]) hu, hg⟩) h
  exact ⟨v, l, h1, h2, h3⟩

/-! ### the arguments of a law -/
variable {r : Reach} {b0 : Nat} {v : Value} {d : DataW H} {p : List MemPlace}
end
end Go.Proofs.YtljgmmmgnfgbhaaDoor
