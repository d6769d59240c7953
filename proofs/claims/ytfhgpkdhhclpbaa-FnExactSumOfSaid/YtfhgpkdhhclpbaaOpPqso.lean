import Derived.Test.YtfhgpkdhhclpbaaOpRqso
import Derived.Test.YtfhgpkdhhclpbaaOpnqso
import Derived.Test.YtfhgpkdhhclpbaaRowqso
import Derived.Test.YtfhgpkdhhclpbaaRpsqso
namespace Go.Proofs.Ytfhgpkdhhclpbaa
open Go.Lg Go.Proofs Go.RowKit Go.WideShapes Go.ChangeShapes

set_option maxRecDepth 100000

section
variable {H : Type} {enc : TypeId × Value → H} {w : World} {base : Nat} {spare : Nat → Bool} {held : Bool}
instance : Inhabited Rp := ⟨rp0⟩
theorem rdC6 {t0 t1 t2 t3 t4 t5 : T} {c0 c1 c2 c3 c4 c5 : Value} (h0 : Rd w t0 c0) (h1 : Rd w t1 c1) (h2 : Rd w t2 c2) (h3 : Rd w t3 c3) (h4 : Rd w t4 c4) (h5 : Rd w t5 c5) : RdC w [t0, t1, t2, t3, t4, t5] [c0, c1, c2, c3, c4, c5] := ⟨rfl, fun j t u ht hu => by
  match j, ht, hu with
  | 0, ht, hu => simp at ht hu; subst ht; subst hu; exact h0
  | 1, ht, hu => simp at ht hu; subst ht; subst hu; exact h1
  | 2, ht, hu => simp at ht hu; subst ht; subst hu; exact h2
  | 3, ht, hu => simp at ht hu; subst ht; subst hu; exact h3
  | 4, ht, hu => simp at ht hu; subst ht; subst hu; exact h4
  | 5, ht, hu => simp at ht hu; subst ht; subst hu; exact h5⟩
theorem rd_matsE {e e' : Nat} {l : List Mat} {v : Value} (h : Rd w (matsT e l) v) : Rd w (matsT e' l) v := by
  simpa only [matsT, Rd] using h
theorem tr_rps {fuel : Nat} {cs : List Value} {x : DataW H × List MemPlace} (h : DataW.trod enc Try.prog w base spare held fuel 66 cs = some x) :
    ∃ v l, cs = [v] ∧ Rd w (rpsT 27 l) v ∧ ∀ r ∈ l, RngRp r := by
  obtain ⟨v, l, h1, h2, h3⟩ := tr_slice (e' := 27) (f := rpT) (G := RngRp) Try.underlying66 (by kernel_rfl) (by decide) rpT_length (fun fuel cs x hx => by
    obtain ⟨r, u0, u1, u2, u3, rfl, g0, g1, g2, g3, g⟩ := tr_rep hx
    exact ⟨r, rdC6 (by simp only [Rd]) (by simp only [Rd]) g0 g1 g2 (rd_matsE g3), g⟩) h
  exact ⟨v, l, h1, h2, h3⟩
variable {r : Reach} {b0 : Nat} {v : Value} {d : DataW H} {p : List MemPlace}
theorem opn_rps (hv : Value.okWide Try.prog w r b0 66 v) (h : DataW.Trod enc Try.prog w base spare held 66 v d p) : ∃ l, Rd w (rpsT 27 l) v ∧ ∀ r ∈ l, RngRp r := by
  obtain ⟨fuel, hf⟩ := h
  obtain ⟨a, n, c, rfl⟩ := okWide_slice Try.underlying66 hv
  obtain ⟨v', ms, e, g1, g2⟩ := tr_rps hf
  simp [Value.cells] at e
  subst e
  exact ⟨ms, g1, g2⟩
end
end Go.Proofs.Ytfhgpkdhhclpbaa
