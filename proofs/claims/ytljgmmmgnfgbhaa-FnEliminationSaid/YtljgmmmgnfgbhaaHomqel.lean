import Derived.Test.YtljgmmmgnfgbhaaBndqel
import Derived.Test.YtljgmmmgnfgbhaaKerqel
import Derived.Test.YtljgmmmgnfgbhaaRrfqel
namespace Go.Proofs.Ytljgmmmgnfgbhaa
open Go.Lg Go.Proofs Go.RowKit
attribute [local irreducible] Code.wp wpList bodyPost Exit.then Exit.inBlock Hp Again Calls Y AT ResV QT Qn QI wpAny wpAnyQ
set_option maxRecDepth 20000
set_option maxHeartbeats 4000000

/-! ### dimensions and numbers of morphisms, in plain -/
theorem freeN_part {l : List Int} {K : Nat} (h0 : ∀ t, t < l.length → 0 ≤ l.getD t 0 ∧ l.getD t 0 < K) (h1 : ∀ t s, t < s → s < l.length → l.getD t 0 < l.getD s 0) :
    ∀ k, ∃ t, t ≤ l.length ∧ (freeN l k).length + t = k ∧ (∀ s, s < t → l.getD s 0 < k) ∧ ∀ s, t ≤ s → s < l.length → (k : Int) ≤ l.getD s 0
  | 0 => ⟨0, Nat.zero_le _, rfl, fun s hs => absurd hs (by omega), fun s _ hs => by have := h0 s hs; omega⟩
  | k + 1 => by
    obtain ⟨t, ht, hl, ha, hb⟩ := freeN_part h0 h1 k
    by_cases hk : t < l.length ∧ l.getD t 0 = k
    · have hm : (k : Int) ∈ l := by rw [← hk.2, getD_ix hk.1]; exact List.getElem_mem _
      refine ⟨t + 1, hk.1, by rw [freeN_yes hm]; omega, fun s hs => ?_, fun s hs hsl => ?_⟩
      · by_cases e : s = t
        · subst e; omega
        · have := ha s (by omega); omega
      · have := h1 t s (by omega) hsl; omega
    · have hm : ¬ (k : Int) ∈ l := fun hm => by
        obtain ⟨s, hs, e⟩ := List.getElem_of_mem hm
        rw [← getD_ix hs] at e
        rcases Nat.lt_trichotomy s t with h | h | h
        · have := ha s h; omega
        · subst h; exact hk ⟨hs, e⟩
        · have h2 := h1 t s h hs
          have h3 := hb t (Nat.le_refl _) (by omega)
          omega
      refine ⟨t, ht, by rw [freeN_no hm, List.length_append, List.length_singleton]; omega, fun s hs => by have := ha s hs; omega, fun s hs hsl => ?_⟩
      have h3 := hb s hs hsl
      by_cases e : l.getD s 0 = k
      · exact absurd (by rw [← e, getD_ix hsl]; exact List.getElem_mem _) hm
      · omega
/-- there are as many free columns as there are no pivots -/
theorem freeN_len {l : List Int} {K : Nat} (h0 : ∀ t, t < l.length → 0 ≤ l.getD t 0 ∧ l.getD t 0 < K) (h1 : ∀ t s, t < s → s < l.length → l.getD t 0 < l.getD s 0) : (freeN l K).length + l.length = K := by
  obtain ⟨t, ht, hl, _, hb⟩ := freeN_part h0 h1 K
  have : t = l.length := by
    refine Decidable.byContradiction (fun hn => ?_)
    have h2 := hb t (Nat.le_refl _) (by omega)
    have h3 := h0 t (by omega)
    omega
  omega
theorem ker_len {p : Int} {R C : Nat} {f : Nat → Nat → Int} (hF : FieldP p) (h : inF p R C f) : (freeN (redTo p R f C).2 C).length + (redTo p R f C).2.length = C := by
  have hr := redTo_rr hF h C (Nat.le_refl _)
  exact freeN_len hr.2.1 hr.2.2.1
end Go.Proofs.Ytljgmmmgnfgbhaa
