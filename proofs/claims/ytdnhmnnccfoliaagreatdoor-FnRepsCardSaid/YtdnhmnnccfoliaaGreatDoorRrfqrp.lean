import Derived.Test.YtdnhmnnccfoliaaGreatDoorMxfqrp
namespace Go.Proofs.YtdnhmnnccfoliaaGreatDoor
open Go.Lg Go.Proofs Go.RowKit

theorem findAt_congr {f f' : Nat → Nat → Int} {k k' R r : Nat} (h : ∀ i, i < R → f i k = f' i k') : findAt f k R r = findAt f' k' R r := by
  unfold findAt
  rw [find_congr (fun i hi => by rw [h i (List.mem_range.1 hi)])]
def stepF (p : Int) (g : Nat → Nat → Int) (r a k : Nat) : Nat → Nat → Int := elimF p (scaleF p (invM p (swapF g r a r k)) (swapF g r a) r) r k
theorem colStep_yes {p : Int} {R k : Nat} {g : Nat → Nat → Int} {l : List Int} (h : findAt g k R l.length < R) : colStep p R k (g, l) = (stepF p g l.length (findAt g k R l.length) k, l ++ [(k : Int)]) := by
  simp only [colStep, stepF]
  rw [if_pos h]
theorem colStep_no {p : Int} {R k : Nat} {g : Nat → Nat → Int} {l : List Int} (h : ¬ findAt g k R l.length < R) : colStep p R k (g, l) = (g, l) := by
  simp only [colStep]
  rw [if_neg h]
theorem swap_col {R r a j j' : Nat} {g g' : Nat → Nat → Int} (hr : r < R) (ha : a < R) (h : ∀ i, i < R → g i j = g' i j') : ∀ i, i < R → swapF g r a i j = swapF g' r a i j' := fun i hi => by
  unfold swapF
  split
  · exact h a ha
  · split
    · exact h r hr
    · exact h i hi
theorem stepF_col {p : Int} {R r a k j j' : Nat} {g g' : Nat → Nat → Int} (hr : r < R) (ha : a < R) (hk : ∀ i, i < R → g i k = g' i k) (h : ∀ i, i < R → g i j = g' i j') : ∀ i, i < R → stepF p g r a k i j = stepF p g' r a k i j' := fun i hi => by
  have sk := swap_col hr ha hk
  have sj := swap_col hr ha h
  simp only [stepF, elimF, scaleF, sk r hr, sj r hr, sk i hi, sj i hi]
theorem redTo_cols {p : Int} {R : Nat} {f f' : Nat → Nat → Int} : ∀ k, (∀ i j, i < R → j < k → f i j = f' i j) →
    (redTo p R f k).2 = (redTo p R f' k).2 ∧ ∀ j j', (∀ i, i < R → f i j = f' i j') → ∀ i, i < R → (redTo p R f k).1 i j = (redTo p R f' k).1 i j'
  | 0, _ => ⟨rfl, fun j j' h => h⟩
  | k + 1, h => by
    obtain ⟨h1, h2⟩ := redTo_cols (p := p) k (fun i j hi hj => h i j hi om)
    have hk := h2 k k (fun i hi => h i k hi om)
    simp only [redTo]
    generalize redTo p R f k = st at h1 h2 hk ⊢
    generalize redTo p R f' k = st' at h1 h2 hk ⊢
    obtain ⟨g, l⟩ := st
    obtain ⟨g', l'⟩ := st'
    simp only at h1 h2 hk
    subst h1
    have ha : findAt g k R l.length = findAt g' k R l.length := findAt_congr hk
    by_cases hlt : findAt g k R l.length < R
    · rw [colStep_yes hlt, colStep_yes (ha ▸ hlt), ← ha]
      have hsp := findAt_spec hlt
      exact ⟨rfl, fun j j' hj => stepF_col om hlt hk (h2 j j' hj)⟩
    · rw [colStep_no hlt, colStep_no (ha ▸ hlt)]
      exact ⟨rfl, h2⟩

def pv (l : List Int) (t : Nat) : Nat := (l.getD t 0).toNat
theorem getD_app {l : List Int} {x : Int} {t : Nat} : (l ++ [x]).getD t 0 = if t < l.length then l.getD t 0 else if t = l.length then x else 0 := by
  simp only [List.getD_eq_getElem?_getD, List.getElem?_append]
  split
  · rfl
  · split
    · rename_i h; subst h; simp
    · rw [List.getElem?_eq_none (by simp; omega)]; rfl
def RR (R : Nat) (g : Nat → Nat → Int) (l : List Int) (k : Nat) : Prop :=
  l.length ≤ R ∧ (∀ t, t < l.length → 0 ≤ l.getD t 0 ∧ l.getD t 0 < k) ∧ (∀ t s, t < s → s < l.length → l.getD t 0 < l.getD s 0) ∧
  (∀ t i, t < l.length → i < R → g i (pv l t) = if i = t then 1 else 0) ∧ (∀ i j, l.length ≤ i → i < R → j < k → g i j = 0) ∧ ∀ t j, t < l.length → j < pv l t → g t j = 0
theorem emod_small {p x : Int} (h : 0 ≤ x ∧ x < p) : x % p = x := Int.emod_eq_of_lt h.1 h.2
theorem stepF_at {p : Int} {R C r a k : Nat} {g : Nat → Nat → Int} (hF : FieldP p) (h : inF p R C g) (hr : r ≤ a) (ha : a < R) (hk : k < C) (hz : ∀ i j, r ≤ i → i < R → j < k → g i j = 0) (hne : g a k ≠ 0) :
    (∀ i j, i < R → j < k → stepF p g r a k i j = if i < r then g i j else 0) ∧ ∀ i, i < R → stepF p g r a k i k = if i = r then 1 else 0 := by
  have hp := fieldP_pos hF
  have hsin := inF_swap h (show r < R by omega) ha
  have hx := h a k ha hk
  have hsr : swapF g r a r k = g a k := by simp [swapF]
  have hv := invM_is hF (x := g a k) om
  have hsz : ∀ i j, i < R → j < k → swapF g r a i j = if i < r then g i j else 0 := fun i j hi hj => by
    unfold swapF
    split
    · rw [if_neg om, hz a j hr ha hj]
    · split
      · rw [if_neg om, hz r j (Nat.le_refl _) om hj]
      · split
        · rfl
        · exact hz i j om hi hj
  have hone : invM p (g a k) * g a k % p = 1 := by
    have h1 := hv.1
    rw [emod_small (p := p) (x := g a k) ⟨hx.1, hx.2⟩, Int.mul_comm] at h1
    exact h1
  refine ⟨fun i j hi hj => ?_, fun i hi => ?_⟩
  · have e1 := hsz r j om hj
    rw [if_neg om] at e1
    have e2 := hsz i j hi hj
    simp only [stepF, elimF, scaleF, e1, Int.mul_zero, Int.zero_emod]
    split
    · subst_vars; simp
    · rw [e2]
      split
      · simp only [if_true, Int.mul_zero, Int.sub_zero]
        exact emod_small (h i j hi om)
      · simp
  · simp only [stepF, elimF, scaleF, hsr, hone]
    split
    · simp
    · simp [Int.sub_self]
theorem redTo_rr {p : Int} {R C : Nat} {f : Nat → Nat → Int} (hF : FieldP p) (h : inF p R C f) : ∀ k, k ≤ C → RR R (redTo p R f k).1 (redTo p R f k).2 k
  | 0, _ => by
    refine ⟨?_, ?_, ?_, ?_, ?_, ?_⟩ <;> simp [redTo]
  | k + 1, hk => by
    have hp := fieldP_pos hF
    have hin := (redTo_in om h k).1
    have ih := redTo_rr hF h k om
    simp only [redTo]
    generalize redTo p R f k = st at hin ih ⊢
    obtain ⟨g, l⟩ := st
    simp only at hin ih
    obtain ⟨h0, h1, h2, h3, h4, h5⟩ := ih
    by_cases hlt : findAt g k R l.length < R
    · rw [colStep_yes hlt]
      have hsp := findAt_spec hlt
      generalize findAt g k R l.length = a at hlt hsp ⊢
      obtain ⟨s1, s2⟩ := stepF_at hF hin om hlt om h4 hsp.2
      have hpv : ∀ t, t < l.length → pv (l ++ [(k : Int)]) t = pv l t ∧ pv l t < k := fun t ht => by
        have := h1 t ht
        unfold pv
        rw [getD_app, if_pos ht]
        exact ⟨rfl, by omega⟩
      have hpk : pv (l ++ [(k : Int)]) l.length = k := by
        unfold pv
        rw [getD_app, if_neg om, if_pos rfl]
        simp
      have hll : (l ++ [(k : Int)]).length = l.length + 1 := by simp
      simp only
      refine ⟨by omega, fun t ht => ?_, fun t s hts hs => ?_, fun t i ht hi => ?_, fun i j hi hi2 hj => ?_, fun t j ht hj => ?_⟩
      · rw [getD_app]
        by_cases htl : t < l.length
        · rw [if_pos htl]; have := h1 t htl; omega
        · rw [if_neg htl, if_pos om]; omega
      · rw [getD_app, getD_app]
        by_cases hsl : s < l.length
        · rw [if_pos hsl, if_pos om]; exact h2 t s hts hsl
        · rw [if_neg hsl, if_pos om, if_pos (show s = l.length by omega)]
          exact (h1 t om).2
      · by_cases htl : t < l.length
        · obtain ⟨e1, e2⟩ := hpv t htl
          rw [e1, s1 i _ hi e2]
          split
          · exact h3 t i htl hi
          · rw [if_neg om]
        · have : t = l.length := by omega
          subst this
          rw [hpk]
          exact s2 i hi
      · rcases Nat.lt_or_ge j k with hjk | hjk
        · rw [s1 i j hi2 hjk, if_neg om]
        · have : j = k := by omega
          subst this
          rw [s2 i hi2, if_neg om]
      · by_cases htl : t < l.length
        · obtain ⟨e1, e2⟩ := hpv t htl
          rw [e1] at hj
          rw [s1 t j om om, if_pos htl]
          exact h5 t j htl hj
        · have : t = l.length := by omega
          subst this
          rw [hpk] at hj
          rw [s1 _ j om hj, if_neg om]
    · rw [colStep_no hlt]
      simp only
      refine ⟨h0, fun t ht => ?_, h2, h3, fun i j hi hi2 hj => ?_, h5⟩
      · have := h1 t ht; omega
      · rcases Nat.lt_or_ge j k with hjk | hjk
        · exact h4 i j hi hi2 hjk
        · have : j = k := by omega
          subst this
          exact Decidable.byContradiction (fun hn => by
            have := findAt_min (f := g) (k := j) (R := R) (r := l.length) (i := i) hi2 hi hn
            omega)

def sumN (f : Nat → Int) : Nat → Int
  | 0 => 0
  | n + 1 => sumN f n + f n
theorem sumN_congr {f g : Nat → Int} : ∀ {n : Nat}, (∀ i, i < n → f i = g i) → sumN f n = sumN g n
  | 0, _ => rfl
  | n + 1, h => by rw [sumN, sumN, sumN_congr (fun i hi => h i om), h n om]
theorem sumN_zero {n : Nat} : sumN (fun _ => 0) n = 0 := by
  induction n with
  | zero => rfl
  | succ n ih => rw [sumN, ih]; rfl
theorem sumN_add {f g : Nat → Int} {n : Nat} : sumN (fun i => f i + g i) n = sumN f n + sumN g n := by
  induction n with
  | zero => rfl
  | succ n ih => rw [sumN, sumN, sumN, ih]; omega
theorem sumN_mul {f : Nat → Int} {x : Int} {n : Nat} : sumN (fun i => f i * x) n = sumN f n * x := by
  induction n with
  | zero => simp [sumN]
  | succ n ih => rw [sumN, sumN, ih, Int.add_mul]
theorem dvd_sumN {p : Int} {f g : Nat → Int} {n : Nat} (h : ∀ i, i < n → p ∣ f i - g i) : p ∣ sumN f n - sumN g n := by
  induction n with
  | zero => exact ⟨0, by simp [sumN]⟩
  | succ n ih =>
    obtain ⟨x, hx⟩ := ih (fun i hi => h i om)
    obtain ⟨y, hy⟩ := h n om
    refine ⟨x + y, ?_⟩
    rw [sumN, sumN, Int.mul_add]
    omega
theorem emod_sub {p x : Int} : p ∣ x % p - x := ⟨-(x / p), by rw [Int.emod_def, Int.mul_neg]; omega⟩

end Go.Proofs.YtdnhmnnccfoliaaGreatDoor
