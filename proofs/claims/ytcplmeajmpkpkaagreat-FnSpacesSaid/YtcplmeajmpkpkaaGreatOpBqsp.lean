import Derived.Test.YtcplmeajmpkpkaaGreatDrwqsp
import Derived.Test.YtcplmeajmpkpkaaGreatOpnqsp
namespace Go.Proofs.YtcplmeajmpkpkaaGreat
open Go.Lg Go.Proofs Go.RowKit Go.WideShapes Go.ChangeShapes
set_option maxRecDepth 100000
section
variable {H : Type} {enc : TypeId × Value → H} {w : World} {base : Nat} {spare : Nat → Bool} {held : Bool} {r : Reach} {b0 : Nat} {v : Value} {d : DataW H} {p : List MemPlace}
theorem tr_u8 {t fuel : Nat} {cs : List Value} {x : DataW H × List MemPlace} (ht : Tryz.prog.underlying t = some (.int .u8)) (h : DataW.trod enc Tryz.prog w base spare held fuel t cs = some x) : ∃ n : Int, cs = [.int .u8 n] ∧ (0 ≤ n ∧ n ≤ 255) := by
  obtain ⟨n, h1, _, h3⟩ := DataW.trod_int ht h
  refine ⟨n, h1, ?_⟩
  have := h3
  simp only [Lit.wf] at this
  simp [IntKind.min, IntKind.max, IntKind.signed, IntKind.bits] at this
  omega
theorem flat_byte {l : List Int} : l.flatMap (fun n => [T.c (.int .u8 n)]) = l.map (fun x => T.c (.int .u8 x)) := by
  induction l with
  | nil => rfl
  | cons x l ih => rw [List.flatMap_cons, ih]; rfl
theorem tr_bytes {fuel : Nat} {cs : List Value} {x : DataW H × List MemPlace} (h : DataW.trod enc Tryz.prog w base spare held fuel 22 cs = some x) : ∃ v xs, cs = [v] ∧ Rd w (byT xs) v ∧ ∀ n ∈ xs, 0 ≤ n ∧ n ≤ 255 := by
  obtain ⟨v, l, h1, h2, h3⟩ := tr_slice (e' := 5) (f := fun n => [T.c (.int .u8 n)]) (G := fun n : Int => 0 ≤ n ∧ n ≤ 255) Tryz.underlying22 kr (by decide) (fun _ => rfl) (fun fuel cs x hx => by
    obtain ⟨n, rfl, hn⟩ := tr_u8 Tryz.underlying5 hx
    refine ⟨n, ⟨rfl, fun j t u ht hu => ?_⟩, hn⟩
    cases j with
    | zero => simp at ht hu; subst ht; subst hu; simp only [Rd]
    | succ j => simp at ht) h
  rw [flat_byte] at h2
  exact ⟨v, l, h1, h2, h3⟩
theorem opn_bytes (hv : Value.okWide Tryz.prog w r b0 22 v) (h : DataW.Trod enc Tryz.prog w base spare held 22 v d p) : ∃ xs, Rd w (byT xs) v ∧ Byt xs := by
  obtain ⟨fuel, hf⟩ := h
  obtain ⟨a, n, c, rfl⟩ := okWide_slice Tryz.underlying22 hv
  obtain ⟨v', xs, e, g1, g2⟩ := tr_bytes hf
  simp [Value.cells] at e
  subst e
  exact ⟨xs, g1, fun j hj => g2 _ (by simp [List.getD, hj])⟩
theorem codeF_of {w : World} {xs : List Int} {u : Value} (h : Rd w (byT xs) u) (g : Byt xs) (hl : xs.length ≤ 1048576) : CodeF w [] u := ⟨xs, RdOut.of_rd h, g, hl⟩
theorem bytes_sl {w : World} {xs : List Int} {u : Value} (h : Rd w (byT xs) u) : ∃ a c, u = .slice a xs.length c := by
  obtain ⟨a, m, cap, h1, _, _, _, h5, _⟩ := Rd.open (by decide) h
  have hm : xs.length = m := by simpa using h5
  subst hm
  exact ⟨a, cap, h1⟩
end
end Go.Proofs.YtcplmeajmpkpkaaGreat
