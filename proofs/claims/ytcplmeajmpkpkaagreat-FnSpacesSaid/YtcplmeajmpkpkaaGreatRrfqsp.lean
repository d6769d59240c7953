import Derived.Test.YtcplmeajmpkpkaaGreatMxfqsp
namespace Go.Proofs.YtcplmeajmpkpkaaGreat
open Go.Lg Go.Proofs Go.RowKit

def stepF (p : Int) (g : Nat → Nat → Int) (r a k : Nat) : Nat → Nat → Int := elimF p (scaleF p (invM p (swapF g r a r k)) (swapF g r a) r) r k
theorem colStep_yes {p : Int} {R k : Nat} {g : Nat → Nat → Int} {l : List Int} (h : findAt g k R l.length < R) : colStep p R k (g, l) = (stepF p g l.length (findAt g k R l.length) k, l ++ [(k : Int)]) := by
  simp only [colStep, stepF]
  rw [if_pos h]
theorem colStep_no {p : Int} {R k : Nat} {g : Nat → Nat → Int} {l : List Int} (h : ¬ findAt g k R l.length < R) : colStep p R k (g, l) = (g, l) := by
  simp only [colStep]
  rw [if_neg h]
def pv (l : List Int) (t : Nat) : Nat := (l.getD t 0).toNat
theorem getD_app {l : List Int} {x : Int} {t : Nat} : (l ++ [x]).getD t 0 = if t < l.length then l.getD t 0 else if t = l.length then x else 0 := by
  simp only [List.getD_eq_getElem?_getD, List.getElem?_append]
  split
  · rfl
  · split
    · rename_i h; subst h; simp
    · rw [List.getElem?_eq_none (by simp; omega)]; rfl
def RR (R : Nat) (g : Nat → Nat → Int) (l : List Int) (k : Nat) : Prop :=
  l.length ≤ R ∧ (∀ t, t < l.length → 0 ≤ l.getD t 0 ∧ l.getD t 0 < k) ∧ (∀ t s, t < s → s < l.length → l.getD t 0 < l.getD s 0) ∧
  (∀ t i, t < l.length → i < R → g i (pv l t) = if i = t then 1 else 0) ∧ (∀ i j, l.length ≤ i → i < R → j < k → g i j = 0) ∧ ∀ t j, t < l.length → j < pv l t → g t j = 0
theorem emod_small {p x : Int} (h : 0 ≤ x ∧ x < p) : x % p = x := Int.emod_eq_of_lt h.1 h.2
theorem stepF_at {p : Int} {R C r a k : Nat} {g : Nat → Nat → Int} (hF : FieldP p) (h : inF p R C g) (hr : r ≤ a) (ha : a < R) (hk : k < C) (hz : ∀ i j, r ≤ i → i < R → j < k → g i j = 0) (hne : g a k ≠ 0) :
    (∀ i j, i < R → j < k → stepF p g r a k i j = if i < r then g i j else 0) ∧ ∀ i, i < R → stepF p g r a k i k = if i = r then 1 else 0 := by
  have hp := fieldP_pos hF
  have hsin := inF_swap h (show r < R by omega) ha
  have hx := h a k ha hk
  have hsr : swapF g r a r k = g a k := by simp [swapF]
  have hv := invM_is hF (x := g a k) om
  have hsz : ∀ i j, i < R → j < k → swapF g r a i j = if i < r then g i j else 0 := fun i j hi hj => by
    unfold swapF
    split
    · rw [if_neg om, hz a j hr ha hj]
    · split
      · rw [if_neg om, hz r j (Nat.le_refl _) om hj]
      · split
        · rfl
        · exact hz i j om hi hj
  have hone : invM p (g a k) * g a k % p = 1 := by
    have h1 := hv.1
    rw [emod_small (p := p) (x := g a k) ⟨hx.1, hx.2⟩, Int.mul_comm] at h1
    exact h1
  refine ⟨fun i j hi hj => ?_, fun i hi => ?_⟩
  · have e1 := hsz r j om hj
    rw [if_neg om] at e1
    have e2 := hsz i j hi hj
    simp only [stepF, elimF, scaleF, e1, Int.mul_zero, Int.zero_emod]
    split
    · subst_vars; simp
    · rw [e2]
      split
      · simp only [if_true, Int.mul_zero, Int.sub_zero]
        exact emod_small (h i j hi om)
      · simp
  · simp only [stepF, elimF, scaleF, hsr, hone]
    split
    · simp
    · simp [Int.sub_self]
theorem redTo_rr {p : Int} {R C : Nat} {f : Nat → Nat → Int} (hF : FieldP p) (h : inF p R C f) : ∀ k, k ≤ C → RR R (redTo p R f k).1 (redTo p R f k).2 k
  | 0, _ => by
    refine ⟨?_, ?_, ?_, ?_, ?_, ?_⟩ <;> simp [redTo]
  | k + 1, hk => by
    have hp := fieldP_pos hF
    have hin := (redTo_in om h k).1
    have ih := redTo_rr hF h k om
    simp only [redTo]
    generalize redTo p R f k = st at hin ih ⊢
    obtain ⟨g, l⟩ := st
    simp only at hin ih
    obtain ⟨h0, h1, h2, h3, h4, h5⟩ := ih
    by_cases hlt : findAt g k R l.length < R
    · rw [colStep_yes hlt]
      have hsp := findAt_spec hlt
      generalize findAt g k R l.length = a at hlt hsp ⊢
      obtain ⟨s1, s2⟩ := stepF_at hF hin om hlt om h4 hsp.2
      have hpv : ∀ t, t < l.length → pv (l ++ [(k : Int)]) t = pv l t ∧ pv l t < k := fun t ht => by
        have := h1 t ht
        unfold pv
        rw [getD_app, if_pos ht]
        exact ⟨rfl, by omega⟩
      have hpk : pv (l ++ [(k : Int)]) l.length = k := by
        unfold pv
        rw [getD_app, if_neg om, if_pos rfl]
        simp
      have hll : (l ++ [(k : Int)]).length = l.length + 1 := by simp
      simp only
      refine ⟨by omega, fun t ht => ?_, fun t s hts hs => ?_, fun t i ht hi => ?_, fun i j hi hi2 hj => ?_, fun t j ht hj => ?_⟩
      · rw [getD_app]
        by_cases htl : t < l.length
        · rw [if_pos htl]; have := h1 t htl; omega
        · rw [if_neg htl, if_pos om]; omega
      · rw [getD_app, getD_app]
        by_cases hsl : s < l.length
        · rw [if_pos hsl, if_pos om]; exact h2 t s hts hsl
        · rw [if_neg hsl, if_pos om, if_pos (show s = l.length by omega)]
          exact (h1 t om).2
      · by_cases htl : t < l.length
        · obtain ⟨e1, e2⟩ := hpv t htl
          rw [e1, s1 i _ hi e2]
          split
          · exact h3 t i htl hi
          · rw [if_neg om]
        · have : t = l.length := by omega
          subst this
          rw [hpk]
          exact s2 i hi
      · rcases Nat.lt_or_ge j k with hjk | hjk
        · rw [s1 i j hi2 hjk, if_neg om]
        · have : j = k := by omega
          subst this
          rw [s2 i hi2, if_neg om]
      · by_cases htl : t < l.length
        · obtain ⟨e1, e2⟩ := hpv t htl
          rw [e1] at hj
          rw [s1 t j om om, if_pos htl]
          exact h5 t j htl hj
        · have : t = l.length := by omega
          subst this
          rw [hpk] at hj
          rw [s1 _ j om hj, if_neg om]
    · rw [colStep_no hlt]
      simp only
      refine ⟨h0, fun t ht => ?_, h2, h3, fun i j hi hi2 hj => ?_, h5⟩
      · have := h1 t ht; omega
      · rcases Nat.lt_or_ge j k with hjk | hjk
        · exact h4 i j hi hi2 hjk
        · have : j = k := by omega
          subst this
          exact Decidable.byContradiction (fun hn => by
            have := findAt_min (f := g) (k := j) (R := R) (r := l.length) (i := i) hi2 hi hn
            omega)

def sumN (f : Nat → Int) : Nat → Int
  | 0 => 0
  | n + 1 => sumN f n + f n
theorem sumN_congr {f g : Nat → Int} : ∀ {n : Nat}, (∀ i, i < n → f i = g i) → sumN f n = sumN g n
  | 0, _ => rfl
  | n + 1, h => by rw [sumN, sumN, sumN_congr (fun i hi => h i om), h n om]
theorem sumN_zero {n : Nat} : sumN (fun _ => 0) n = 0 := by
  induction n with
  | zero => rfl
  | succ n ih => rw [sumN, ih]; rfl
theorem sumN_add {f g : Nat → Int} {n : Nat} : sumN (fun i => f i + g i) n = sumN f n + sumN g n := by
  induction n with
  | zero => rfl
  | succ n ih => rw [sumN, sumN, sumN, ih]; omega
theorem sumN_mul {f : Nat → Int} {x : Int} {n : Nat} : sumN (fun i => f i * x) n = sumN f n * x := by
  induction n with
  | zero => simp [sumN]
  | succ n ih => rw [sumN, sumN, ih, Int.add_mul]
theorem sumN_one {f : Nat → Int} {r : Nat} : ∀ {n : Nat}, r < n → sumN f n = sumN (fun i => if i = r then 0 else f i) n + f r
  | 0, h => absurd h om
  | n + 1, h => by
    by_cases hr : r = n
    · subst hr
      rw [sumN, sumN, if_pos rfl, sumN_congr (f := fun i => if i = r then 0 else f i) (g := f) (fun i hi => if_neg om)]
      omega
    · rw [sumN, sumN, sumN_one (r := r) (n := n) om, if_neg (show ¬ n = r by omega)]
      omega
theorem dvd_sumN {p : Int} {f g : Nat → Int} {n : Nat} (h : ∀ i, i < n → p ∣ f i - g i) : p ∣ sumN f n - sumN g n := by
  induction n with
  | zero => exact ⟨0, by simp [sumN]⟩
  | succ n ih =>
    obtain ⟨x, hx⟩ := ih (fun i hi => h i om)
    obtain ⟨y, hy⟩ := h n om
    refine ⟨x + y, ?_⟩
    rw [sumN, sumN, Int.mul_add]
    omega
theorem dvd_of_sub {p x y : Int} (h : p ∣ x - y) (hx : p ∣ x) : p ∣ y := by
  obtain ⟨a, ha⟩ := h
  obtain ⟨b, hb⟩ := hx
  exact ⟨b - a, by rw [Int.mul_sub]; omega⟩
theorem emod_sub {p x : Int} : p ∣ x % p - x := ⟨-(x / p), by rw [Int.emod_def, Int.mul_neg]; omega⟩

def Ind (p : Int) (R : Nat) (g : Nat → Nat → Int) (a b : Nat) : Prop := ∀ c : Nat → Int, (∀ j, a ≤ j → j < b → p ∣ sumN (fun i => c i * g i j) R) → ∀ i, i < R → p ∣ c i
theorem ind_of {p : Int} {R a b : Nat} {g g' : Nat → Nat → Int} (t : (Nat → Int) → Nat → Int) (h : Ind p R g a b)
    (h1 : ∀ c j, p ∣ sumN (fun i => c i * g' i j) R - sumN (fun i => t c i * g i j) R) (h2 : ∀ c, (∀ i, i < R → p ∣ t c i) → ∀ i, i < R → p ∣ c i) : Ind p R g' a b := fun c hc =>
  h2 c (h (t c) (fun j ha hb => dvd_of_sub (h1 c j) (hc j ha hb)))
theorem ind_swap {p : Int} {R a b r s : Nat} {g : Nat → Nat → Int} (hr : r < R) (hs : s < R) (h : Ind p R g a b) : Ind p R (swapF g r s) a b := by
  refine ind_of (fun c i => if i = r then c s else if i = s then c r else c i) h (fun c j => ⟨0, ?_⟩) (fun c hc i hi => ?_)
  · rw [Int.mul_zero]
    by_cases hrs : r = s
    · subst hrs
      rw [sumN_congr (g := fun i => (if i = r then c r else if i = r then c r else c i) * g i j) (fun i hi => ?_)]
      · omega
      · unfold swapF
        split
        · subst_vars; rfl
        · rfl
    · rw [sumN_one hr, sumN_one (f := fun i => if i = r then 0 else c i * swapF g r s i j) hs, sumN_one (f := fun i => (if i = r then c s else if i = s then c r else c i) * g i j) hr, sumN_one (f := fun i => if i = r then 0 else (if i = r then c s else if i = s then c r else c i) * g i j) hs]
      rw [sumN_congr (f := fun i => if i = s then 0 else if i = r then 0 else c i * swapF g r s i j) (g := fun i => if i = s then 0 else if i = r then 0 else (if i = r then c s else if i = s then c r else c i) * g i j) (fun i hi => ?_)]
      · simp only [swapF, if_pos, if_neg (Ne.symm hrs), if_neg hrs]
        omega
      · unfold swapF
        split
        · rfl
        · split
          · rfl
          · rfl
  · by_cases h1 : i = r
    · subst h1
      have := hc s hs
      simp only at this
      by_cases h3 : s = i
      · rw [if_pos h3, h3] at this; exact this
      · rw [if_neg h3] at this; simpa using this
    · by_cases h2 : i = s
      · subst h2
        have := hc r hr
        simp only [if_true] at this
        exact this
      · have := hc i hi
        simp only [if_neg h1, if_neg h2] at this
        exact this
theorem ind_scale {p v x : Int} {R a b r : Nat} {g : Nat → Nat → Int} (hr : r < R) (hx : v * x % p = 1) (h : Ind p R g a b) : Ind p R (scaleF p v g r) a b := by
  refine ind_of (fun c i => if i = r then c i * v else c i) h (fun c j => dvd_sumN (fun i hi => ?_)) (fun c hc i hi => ?_)
  · unfold scaleF
    split
    · obtain ⟨y, hy⟩ := emod_sub (p := p) (x := v * g r j)
      subst_vars
      refine ⟨c i * y, ?_⟩
      have : c i * (v * g i j % p) - c i * v * g i j = c i * (v * g i j % p - v * g i j) := by grind
      rw [this, hy]; grind
    · exact ⟨0, by omega⟩
  · have := hc i hi
    by_cases h1 : i = r
    · rw [if_pos h1] at this
      obtain ⟨y, hy⟩ := this
      obtain ⟨z, hz⟩ := emod_sub (p := p) (x := v * x)
      rw [hx] at hz
      refine ⟨y * x + c i * z, ?_⟩
      have e : c i = c i * (1 - v * x) + c i * v * x := by grind
      rw [e, hz, hy]; grind
    · rwa [if_neg h1] at this
theorem ind_elim {p : Int} {R a b r k : Nat} {g : Nat → Nat → Int} (hr : r < R) (h : Ind p R g a b) : Ind p R (elimF p g r k) a b := by
  refine ind_of (fun c i => if i = r then c r - sumN (fun i => if i = r then 0 else c i * g i k) R else c i) h (fun c j => ?_) (fun c hc i hi => ?_)
  · rw [sumN_one (f := fun i => (if i = r then c r - sumN (fun i => if i = r then 0 else c i * g i k) R else c i) * g i j) hr, sumN_one (f := fun i => c i * elimF p g r k i j) hr]
    simp only [if_true]
    have h1 : p ∣ sumN (fun i => if i = r then 0 else c i * elimF p g r k i j) R - sumN (fun i => (if i = r then 0 else c i * g i j) + (if i = r then 0 else c i * g i k) * (-g r j)) R := dvd_sumN (fun i hi => by
      unfold elimF
      split
      · exact ⟨0, by omega⟩
      · obtain ⟨y, hy⟩ := emod_sub (p := p) (x := g i j - g i k * g r j)
        refine ⟨c i * y, ?_⟩
        have : c i * ((g i j - g i k * g r j) % p) - (c i * g i j + c i * g i k * -g r j) = c i * ((g i j - g i k * g r j) % p - (g i j - g i k * g r j)) := by grind
        rw [this, hy]; grind)
    rw [sumN_add, sumN_mul] at h1
    have h2 : sumN (fun i => if i = r then 0 else (if i = r then c r - sumN (fun i => if i = r then 0 else c i * g i k) R else c i) * g i j) R = sumN (fun i => if i = r then 0 else c i * g i j) R := sumN_congr (fun i hi => by
      split
      · rfl
      · rfl)
    have h3 : elimF p g r k r j = g r j := by simp [elimF]
    rw [h2, h3]
    obtain ⟨y, hy⟩ := h1
    refine ⟨y, ?_⟩
    rw [← hy]
    grind
  · have hoth : ∀ i, i < R → i ≠ r → p ∣ c i := fun i hi hn => by
      have := hc i hi
      simp only [if_neg hn] at this
      exact this
    by_cases h1 : i = r
    · subst h1
      have := hc i hi
      simp only [if_true] at this
      have h2 : p ∣ sumN (fun q => if q = i then 0 else c q * g q k) R := by
        have := dvd_sumN (p := p) (f := fun q => if q = i then 0 else c q * g q k) (g := fun _ => 0) (n := R) (fun q hq => by
          split
          · exact ⟨0, by omega⟩
          · obtain ⟨y, hy⟩ := hoth q hq aS
            exact ⟨y * g q k, by rw [hy]; grind⟩)
        rw [sumN_zero] at this
        simpa using this
      obtain ⟨y, hy⟩ := this
      obtain ⟨z, hz⟩ := h2
      exact ⟨y + z, by rw [Int.mul_add]; omega⟩
    · exact hoth i hi h1
theorem ind_red {p : Int} {R C a b : Nat} {f : Nat → Nat → Int} (hF : FieldP p) (hin : inF p R C f) (h : Ind p R f a b) : ∀ k, k ≤ C → Ind p R (redTo p R f k).1 a b
  | 0, _ => h
  | k + 1, hk => by
    have hp := fieldP_pos hF
    have ih := ind_red hF hin h k om
    have hgi := (redTo_in om hin k).1
    simp only [redTo]
    generalize redTo p R f k = st at ih hgi ⊢
    obtain ⟨g, l⟩ := st
    simp only at ih hgi
    by_cases hlt : findAt g k R l.length < R
    · rw [colStep_yes hlt]
      have hsp := findAt_spec hlt
      have hr : l.length < R := by omega
      have hx := hgi _ k hlt om
      have hsr : swapF g l.length (findAt g k R l.length) l.length k = g (findAt g k R l.length) k := by simp [swapF]
      have hv := (invM_is hF (x := g (findAt g k R l.length) k) om).1
      rw [emod_small (p := p) ⟨hx.1, hx.2⟩, Int.mul_comm] at hv
      exact ind_elim hr (ind_scale hr (x := g (findAt g k R l.length) k) (by rw [hsr]; exact hv) (ind_swap hr hlt ih))
    · rw [colStep_no hlt]; exact ih
end Go.Proofs.YtcplmeajmpkpkaaGreat
