import Derived.Test.YtfhgpkdhhclpbaaMstqcb
import Derived.Test.YtfhgpkdhhclpbaaOpnqcb
import Derived.Test.YtfhgpkdhhclpbaaRowqcb
namespace Go.Proofs.Ytfhgpkdhhclpbaa
open Go.Lg Go.Proofs Go.RowKit Go.WideShapes Go.ChangeShapes

set_option maxRecDepth 100000

section
variable {H : Type} {enc : TypeId × Value → H} {w : World} {base : Nat} {spare : Nat → Bool} {held : Bool}

theorem rdC1 {t0 : T} {c0 : Value} (h0 : Rd w t0 c0) : RdC w [t0] [c0] := ⟨rfl, fun j t u ht hu => by
  match j, ht, hu with
  | 0, ht, hu => simp at ht hu; subst ht; subst hu; exact h0⟩
variable {r : Reach} {b0 : Nat} {v : Value} {d : DataW H} {p : List MemPlace}
end
end Go.Proofs.Ytfhgpkdhhclpbaa

namespace Go.Proofs.Ytfhgpkdhhclpbaa
open Go.Lg Go.Proofs Go.RowKit Go.WideShapes Go.ChangeShapes

set_option maxRecDepth 100000

section
variable {H : Type} {enc : TypeId × Value → H} {w : World} {base : Nat} {spare : Nat → Bool} {held : Bool}
theorem tr_mss {fuel : Nat} {cs : List Value} {x : DataW H × List MemPlace} (h : DataW.trod enc Try.prog w base spare held fuel 60 cs = some x) :
    ∃ v l, cs = [v] ∧ Rd w (mssT 25 79 l) v ∧ ∀ ms ∈ l, ∀ m ∈ ms, RngM m := by
  obtain ⟨v, l, h1, h2, h3⟩ := tr_slice (e' := 25) (f := msT 79) (G := fun ms => ∀ m ∈ ms, RngM m) Try.underlying60 (by kernel_rfl) (by decide) (msT_length _) (fun fuel cs x hx => by
    obtain ⟨u, xs, rfl, hu, hg⟩ := tr_mats hx
    exact ⟨xs, rdC1 hu, hg⟩) h
  exact ⟨v, l, h1, h2, h3⟩
variable {r : Reach} {b0 : Nat} {v : Value} {d : DataW H} {p : List MemPlace}
theorem rd_mssE {e e' f f' : Nat} {l : List (List Mat)} (h : Rd w (mssT e e' l) v) : Rd w (mssT f f' l) v := by
  obtain ⟨a, c, rfl, hs, h1, h2, hg⟩ := rd_mss h
  simp only [Rd]
  refine ⟨a, l.length, c, rfl, h1, h2, by rw [flatMap_length (msT_length _), Nat.mul_one], ?_⟩
  rcases Nat.eq_zero_or_pos l.length with h0 | h0
  · obtain rfl := List.length_eq_zero_iff.1 h0
    exact RdL.none
  · rw [hs.get h0]
    refine RdL.of_get (fun i t ht => ?_)
    have hi : i < l.length := by
      have := (List.getElem?_eq_some_iff.1 ht).1
      rw [flatMap_length (msT_length _)] at this
      omega
    obtain ⟨ms, hm⟩ : ∃ ms, l[i]? = some ms := ⟨_, List.getElem?_eq_getElem hi⟩
    obtain ⟨a2, c2, g1, g2⟩ := hg i ms hm
    have e1 := flatMap_get (f := msT f') (k := 1) (msT_length _) hm (q := 0) (by omega)
    rw [Nat.mul_one, Nat.add_zero] at e1
    rw [e1] at ht
    have e2 : t = matsT f' ms := (Option.some.inj ht).symm
    subst e2
    exact ⟨_, by rw [Nat.zero_add]; exact g1, by simpa only [matsT, Rd] using g2⟩
theorem opn_mss (hv : Value.okWide Try.prog w r b0 60 v) (h : DataW.Trod enc Try.prog w base spare held 60 v d p) : ∃ l, Rd w (mslT 25 l) v ∧ ∀ ms ∈ l, ∀ m ∈ ms, RngM m := by
  obtain ⟨fuel, hf⟩ := h
  obtain ⟨a, n, c, rfl⟩ := okWide_slice Try.underlying60 hv
  obtain ⟨v', ms, e, g1, g2⟩ := tr_mss hf
  simp [Value.cells] at e
  subst e
  exact ⟨ms, rd_mssE g1, g2⟩
end
end Go.Proofs.Ytfhgpkdhhclpbaa
