import Derived.Test.YtfhgpkdhhclpbaaBndqhb
import Derived.Test.YtfhgpkdhhclpbaaKerqhb
import Derived.Test.YtfhgpkdhhclpbaaRrfqhb
namespace Go.Proofs.Ytfhgpkdhhclpbaa
open Go.Lg Go.Proofs Go.RowKit
attribute [local irreducible] Code.wp wpList bodyPost Exit.then Exit.inBlock Hp Again Calls Y AT ResV QT Qn QI wpAny wpAnyQ
set_option maxRecDepth 20000
set_option maxHeartbeats 4000000

/-! ### dimensions and numbers of morphisms, in plain -/
theorem freeN_part {l : List Int} {K : Nat} (h0 : ∀ t, t < l.length → 0 ≤ l.getD t 0 ∧ l.getD t 0 < K) (h1 : ∀ t s, t < s → s < l.length → l.getD t 0 < l.getD s 0) :
    ∀ k, ∃ t, t ≤ l.length ∧ (freeN l k).length + t = k ∧ (∀ s, s < t → l.getD s 0 < k) ∧ ∀ s, t ≤ s → s < l.length → (k : Int) ≤ l.getD s 0
  | 0 => ⟨0, Nat.zero_le _, rfl, fun s hs => absurd hs (by omega), fun s _ hs => by have := h0 s hs; omega⟩
  | k + 1 => by
    obtain ⟨t, ht, hl, ha, hb⟩ := freeN_part h0 h1 k
    by_cases hk : t < l.length ∧ l.getD t 0 = k
    · have hm : (k : Int) ∈ l := by rw [← hk.2, getD_ix hk.1]; exact List.getElem_mem _
      refine ⟨t + 1, hk.1, by rw [freeN_yes hm]; omega, fun s hs => ?_, fun s hs hsl => ?_⟩
      · by_cases e : s = t
        · subst e; omega
        · have := ha s (by omega); omega
      · have := h1 t s (by omega) hsl; omega
    · have hm : ¬ (k : Int) ∈ l := fun hm => by
        obtain ⟨s, hs, e⟩ := List.getElem_of_mem hm
        rw [← getD_ix hs] at e
        rcases Nat.lt_trichotomy s t with h | h | h
        · have := ha s h; omega
        · subst h; exact hk ⟨hs, e⟩
        · have h2 := h1 t s h hs
          have h3 := hb t (Nat.le_refl _) (by omega)
          omega
      refine ⟨t, ht, by rw [freeN_no hm, List.length_append, List.length_singleton]; omega, fun s hs => by have := ha s hs; omega, fun s hs hsl => ?_⟩
      have h3 := hb s hs hsl
      by_cases e : l.getD s 0 = k
      · exact absurd (by rw [← e, getD_ix hsl]; exact List.getElem_mem _) hm
      · omega
/-- there are as many free columns as there are no pivots -/
theorem freeN_len {l : List Int} {K : Nat} (h0 : ∀ t, t < l.length → 0 ≤ l.getD t 0 ∧ l.getD t 0 < K) (h1 : ∀ t s, t < s → s < l.length → l.getD t 0 < l.getD s 0) : (freeN l K).length + l.length = K := by
  obtain ⟨t, ht, hl, _, hb⟩ := freeN_part h0 h1 K
  have : t = l.length := by
    refine Decidable.byContradiction (fun hn => ?_)
    have h2 := hb t (Nat.le_refl _) (by omega)
    have h3 := h0 t (by omega)
    omega
  omega
theorem ker_len {p : Int} {R C : Nat} {f : Nat → Nat → Int} (hF : FieldP p) (h : inF p R C f) : (freeN (redTo p R f C).2 C).length + (redTo p R f C).2.length = C := by
  have hr := redTo_rr hF h C (Nat.le_refl _)
  exact freeN_len hr.2.1 hr.2.2.1
def homN (a b : Rp) : Nat := (freeN (redTo a.p (idxN a b a.q.2.1.length).length (eqsF a b) (offN a.d b.d a.d.length)).2 (offN a.d b.d a.d.length)).length
theorem offN_sum {da db : List Int} (hb : ∀ n, db.getD n 0 ≤ 4) (ha : ∀ n, 0 ≤ da.getD n 0) : ∀ n, n ≤ da.length → ((offN da db n : Nat) : Int) ≤ 4 * (da.take n).sum
  | 0, _ => by simp [offN]
  | n + 1, h => by
    have ih := offN_sum hb ha n (by omega)
    have hb' := hb n
    have ha' := ha n
    have h1 : szV da db n ≤ (da.getD n 0).toNat * 4 := Nat.mul_le_mul (Nat.le_refl _) (by omega)
    have e1 : da[n]? = some (da.getD n 0) := by rw [List.getD, List.getElem?_eq_getElem (by omega)]; rfl
    rw [List.take_add_one, e1, offN]
    simp only [Option.toList_some, List.sum_append, List.sum_cons, List.sum_nil]
    omega
theorem off_le {a b : Rp} (hF : FitP a b) : offN a.d b.d a.d.length ≤ 32 := by
  have h := offN_sum (da := a.d) (db := b.d) (fun n => by have := hF.2.1.dg n; omega) (fun n => by have := hF.1.dg n; omega) a.d.length (Nat.le_refl _)
  rw [List.take_length] at h
  have := hF.1.2.1.2.2.2
  omega
theorem idxN_le {a b : Rp} (hF : FitP a b) : ∀ n, (idxN a b n).length ≤ 16 * n
  | 0 => Nat.le_refl _
  | n + 1 => by
    have h1 := hF.1.dg ((a.q.2.1.getD n 0).toNat)
    have h2 := hF.2.1.dg ((a.q.2.2.getD n 0).toNat)
    rw [idxN_succ, List.length_append, rowsI_length]
    have h3 := idxN_le hF n
    have h4 : dN b.d (a.q.2.2.getD n 0) * dN a.d (a.q.2.1.getD n 0) ≤ 4 * 4 := Nat.mul_le_mul (by unfold dN; omega) (by unfold dN; omega)
    omega
theorem idx_le {a b : Rp} (hF : FitP a b) : (idxN a b a.q.2.1.length).length ≤ 96 := by
  have h1 := idxN_le hF a.q.2.1.length
  have := hF.1.2.1.1.2.1
  omega
theorem homN_le {a b : Rp} (hF : FitP a b) : homN a b ≤ 32 := by
  have h1 := ker_len (f := eqsF a b) (R := (idxN a b a.q.2.1.length).length) (C := offN a.d b.d a.d.length) hF.1.1 (eqs_in hF.1.1)
  have h2 := off_le hF
  unfold homN
  omega
end Go.Proofs.Ytfhgpkdhhclpbaa
