import Derived.Test.YtcplmeajmpkpkaaGreatRrfqsp
namespace Go.Proofs.YtcplmeajmpkpkaaGreat
open Go.Lg Go.Proofs Go.RowKit

inductive Spn (p : Int) (R C : Nat) (g : Nat → Nat → Int) : (Nat → Int) → Prop where
  | nil {v : Nat → Int} (h : ∀ j, j < C → p ∣ v j) : Spn p R C g v
  | add {u v : Nat → Int} (i : Nat) (c : Int) (hi : i < R) (hu : Spn p R C g u) (h : ∀ j, j < C → p ∣ v j - (u j + c * g i j)) : Spn p R C g v
theorem dvd_add2 {p a b c : Int} (h1 : p ∣ a) (h2 : p ∣ b) (h : c = a + b) : p ∣ c := h ▸ Int.dvd_add h1 h2
theorem Spn.congr {p : Int} {R C : Nat} {g : Nat → Nat → Int} {v v' : Nat → Int} (h : Spn p R C g v) (e : ∀ j, j < C → p ∣ v' j - v j) : Spn p R C g v' := by
  cases h with
  | nil h => exact .nil (fun j hj => dvd_add2 (e j hj) (h j hj) om)
  | add i c hi hu h => exact .add i c hi hu (fun j hj => dvd_add2 (e j hj) (h j hj) om)
theorem Spn.row {p : Int} {R C i : Nat} {g : Nat → Nat → Int} (hi : i < R) : Spn p R C g (g i) :=
  .add (u := fun _ => 0) i 1 hi (.nil (fun j _ => Int.dvd_zero p)) (fun j _ => by rw [show g i j - (0 + 1 * g i j) = 0 by omega]; exact Int.dvd_zero p)
theorem Spn.plus {p : Int} {R C : Nat} {g : Nat → Nat → Int} {u v : Nat → Int} (hu : Spn p R C g u) (hv : Spn p R C g v) : Spn p R C g (fun j => u j + v j) := by
  induction hv with
  | nil h => exact hu.congr (fun j hj => by rw [show u j + _ - u j = _ by rw [Int.add_comm, Int.add_sub_cancel]]; exact h j hj)
  | add i c hi _ h ih => exact .add i c hi ih (fun j hj => by have := h j hj; exact dvd_add2 this (Int.dvd_zero p) om)
theorem Spn.mul {p : Int} {R C : Nat} {g : Nat → Nat → Int} {u : Nat → Int} (x : Int) (hu : Spn p R C g u) : Spn p R C g (fun j => x * u j) := by
  induction hu with
  | nil h => exact .nil (fun j hj => Int.dvd_trans (h j hj) (Int.dvd_mul_left ..))
  | add i c hi _ h ih => exact .add i (x * c) hi ih (fun j hj => by
      obtain ⟨y, hy⟩ := h j hj
      exact ⟨x * y, by grind⟩)
theorem Spn.mono {p : Int} {R R' C : Nat} {g g' : Nat → Nat → Int} {v : Nat → Int} (h : ∀ i, i < R → Spn p R' C g' (g i)) (hv : Spn p R C g v) : Spn p R' C g' v := by
  induction hv with
  | nil h => exact .nil h
  | add i c hi _ e ih => exact (ih.plus ((h i hi).mul c)).congr e
theorem sumN_pick {f : Nat → Int} {i : Nat} : ∀ n, sumN (fun t => if t = i then f t else 0) n = if i < n then f i else 0
  | 0 => by simp [sumN]
  | n + 1 => by
    simp only [sumN, sumN_pick n]
    by_cases h : n = i
    · subst h; simp
    · rw [if_neg h]
      by_cases h2 : i < n
      · rw [if_pos h2, if_pos om]; omega
      · rw [if_neg h2, if_neg om]; omega
theorem dvd_sumN0 {p : Int} {f : Nat → Int} {n : Nat} (h : ∀ i, i < n → p ∣ f i) : p ∣ sumN f n := by
  have := dvd_sumN (p := p) (f := f) (g := fun _ => 0) (n := n) (fun i hi => by simpa using h i hi)
  rw [sumN_zero] at this
  simpa using this
theorem pv_lt {R k t : Nat} {g : Nat → Nat → Int} {l : List Int} (h : RR R g l k) (ht : t < l.length) : pv l t < k := by
  have := h.2.1 t ht
  unfold pv
  omega
theorem spn_lin {p : Int} {R C : Nat} {g : Nat → Nat → Int} {l : List Int} {v : Nat → Int} (hR : RR R g l C) (h : Spn p R C g v) : ∀ j, j < C → p ∣ v j - sumN (fun t => v (pv l t) * g t j) l.length := by
  have hpl := fun t (ht : t < l.length) => pv_lt hR ht
  obtain ⟨h0, h1, h2, h3, h4, h5⟩ := hR
  induction h with
  | @nil v hv => exact fun j hj => Int.dvd_sub (hv j hj) (dvd_sumN0 (fun t ht => Int.dvd_trans (hv _ (hpl t ht)) (Int.dvd_mul_right ..)))
  | @add u v i c hi _ he ih =>
    intro j hj
    have e1 : p ∣ sumN (fun t => v (pv l t) * g t j) l.length - sumN (fun t => u (pv l t) * g t j + (if t = i then c * g t j else 0)) l.length := dvd_sumN (fun t ht => by
      obtain ⟨y, hy⟩ := he _ (hpl t ht)
      rw [h3 t i ht hi] at hy
      refine ⟨y * g t j, ?_⟩
      by_cases hti : t = i
      · rw [if_pos hti]; rw [if_pos hti.symm] at hy; grind
      · rw [if_neg hti]; rw [if_neg (fun e => hti e.symm)] at hy; grind)
    rw [sumN_add, sumN_pick (f := fun t => c * g t j)] at e1
    have e2 : (if i < l.length then c * g i j else 0) = c * g i j := by
      split
      · rfl
      · rw [h4 i j om hi hj]; simp
    rw [e2] at e1
    have := Int.dvd_sub (dvd_add2 (he j hj) (ih j hj) rfl) e1
    refine dvd_add2 this (Int.dvd_zero p) om
theorem spn_zero {p : Int} {R C : Nat} {g : Nat → Nat → Int} {l : List Int} {v : Nat → Int} (hR : RR R g l C) (h : Spn p R C g v) (hz : ∀ t, t < l.length → p ∣ v (pv l t)) : ∀ j, j < C → p ∣ v j := fun j hj => by
  have := spn_lin hR h j hj
  have h2 := dvd_sumN0 (p := p) (f := fun t => v (pv l t) * g t j) (n := l.length) (fun t ht => Int.dvd_trans (hz t ht) (Int.dvd_mul_right ..))
  exact dvd_add2 this h2 om
theorem spn_lead {p : Int} {R C j0 : Nat} {g : Nat → Nat → Int} {l : List Int} {v : Nat → Int} (hR : RR R g l C) (h : Spn p R C g v) (hj : j0 < C) (hz : ∀ j, j < j0 → p ∣ v j) (h0 : ¬ p ∣ v j0) : ∃ t, t < l.length ∧ pv l t = j0 := by
  refine Decidable.byContradiction (fun hn => h0 ?_)
  have := spn_lin hR h j0 hj
  have h2 := dvd_sumN0 (p := p) (f := fun t => v (pv l t) * g t j0) (n := l.length) (fun t ht => by
    rcases Nat.lt_trichotomy (pv l t) j0 with h1 | h1 | h1
    · exact Int.dvd_trans (hz _ h1) (Int.dvd_mul_right ..)
    · exact absurd ⟨t, ht, h1⟩ hn
    · rw [hR.2.2.2.2.2 t j0 ht h1, Int.mul_zero]; exact Int.dvd_zero p)
  exact dvd_add2 this h2 om

theorem spn_swap {p : Int} {R C r a : Nat} {g : Nat → Nat → Int} (hr : r < R) (ha : a < R) : (∀ i, i < R → Spn p R C g (swapF g r a i)) ∧ ∀ i, i < R → Spn p R C (swapF g r a) (g i) := by
  refine ⟨fun i hi => ?_, fun i hi => ?_⟩
  · by_cases h1 : i = r
    · have : swapF g r a i = g a := by funext j; simp [swapF, h1]
      rw [this]; exact Spn.row ha
    · by_cases h2 : i = a
      · have : swapF g r a i = g r := by
          funext j
          simp only [swapF]
          rw [if_neg h1, if_pos h2]
        rw [this]; exact Spn.row hr
      · have : swapF g r a i = g i := by
          funext j
          simp only [swapF]
          rw [if_neg h1, if_neg h2]
        rw [this]; exact Spn.row hi
  · by_cases h1 : i = r
    · have : g i = swapF g r a a := by
        funext j
        simp only [swapF]
        by_cases h3 : a = r
        · rw [if_pos h3, h1, h3]
        · rw [if_neg h3]; simp [h1]
      rw [this]; exact Spn.row ha
    · by_cases h2 : i = a
      · have : g i = swapF g r a r := by funext j; simp [swapF, h2]
        rw [this]; exact Spn.row hr
      · have : g i = swapF g r a i := by
          funext j
          simp only [swapF]
          rw [if_neg h1, if_neg h2]
        rw [this]; exact Spn.row hi
theorem spn_scale {p v x : Int} {R C r : Nat} {g : Nat → Nat → Int} (hr : r < R) (hx : v * x % p = 1) : (∀ i, i < R → Spn p R C g (scaleF p v g r i)) ∧ ∀ i, i < R → Spn p R C (scaleF p v g r) (g i) := by
  refine ⟨fun i hi => ?_, fun i hi => ?_⟩
  · by_cases h1 : i = r
    · refine ((Spn.row (p := p) (C := C) (g := g) hr).mul v).congr (fun j hj => ?_)
      simp only [scaleF, if_pos h1]
      exact emod_sub
    · have : scaleF p v g r i = g i := by funext j; simp [scaleF, h1]
      rw [this]; exact Spn.row hi
  · by_cases h1 : i = r
    · subst h1
      refine ((Spn.row (p := p) (C := C) (g := scaleF p v g i) hr).mul x).congr (fun j hj => ?_)
      simp only [scaleF, if_pos]
      obtain ⟨y, hy⟩ := emod_sub (p := p) (x := v * g i j)
      obtain ⟨z, hz⟩ := emod_sub (p := p) (x := v * x)
      rw [hx] at hz
      refine ⟨z * g i j - x * y, ?_⟩
      have e : g i j - x * (v * g i j % p) = (1 - v * x) * g i j - x * (v * g i j % p - v * g i j) := by grind
      rw [e, hy, hz]; grind
    · have : g i = scaleF p v g r i := by funext j; simp [scaleF, h1]
      rw [this]; exact Spn.row hi
theorem spn_elim {p : Int} {R C r k : Nat} {g : Nat → Nat → Int} (hr : r < R) : (∀ i, i < R → Spn p R C g (elimF p g r k i)) ∧ ∀ i, i < R → Spn p R C (elimF p g r k) (g i) := by
  have er : elimF p g r k r = g r := by funext j; simp [elimF]
  refine ⟨fun i hi => ?_, fun i hi => ?_⟩
  · by_cases h1 : i = r
    · rw [h1, er]; exact Spn.row hr
    · refine ((Spn.row (p := p) (C := C) (g := g) hi).plus ((Spn.row hr).mul (-g i k))).congr (fun j hj => ?_)
      simp only [elimF, if_neg h1]
      obtain ⟨y, hy⟩ := emod_sub (p := p) (x := g i j - g i k * g r j)
      exact ⟨y, by rw [← hy]; grind⟩
  · by_cases h1 : i = r
    · rw [h1]
      have := Spn.row (p := p) (C := C) (g := elimF p g r k) hr
      rwa [er] at this
    · refine ((Spn.row (p := p) (C := C) (g := elimF p g r k) hi).plus ((Spn.row (p := p) (C := C) (g := elimF p g r k) hr).mul (g i k))).congr (fun j hj => ?_)
      rw [er]
      simp only [elimF, if_neg h1]
      obtain ⟨y, hy⟩ := emod_sub (p := p) (x := g i j - g i k * g r j)
      exact ⟨-y, by grind⟩
theorem redTo_spn {p : Int} {R C : Nat} {f : Nat → Nat → Int} (hF : FieldP p) (hin : inF p R C f) : ∀ k, k ≤ C → (∀ i, i < R → Spn p R C f ((redTo p R f k).1 i)) ∧ ∀ i, i < R → Spn p R C (redTo p R f k).1 (f i)
  | 0, _ => ⟨fun i hi => Spn.row hi, fun i hi => Spn.row hi⟩
  | k + 1, hk => by
    have hp := fieldP_pos hF
    have ih := redTo_spn hF hin k om
    have hgi := (redTo_in om hin k).1
    simp only [redTo]
    generalize redTo p R f k = st at ih hgi ⊢
    obtain ⟨g, l⟩ := st
    simp only at ih hgi
    by_cases hlt : findAt g k R l.length < R
    · rw [colStep_yes hlt]
      have hsp := findAt_spec hlt
      have hr : l.length < R := by omega
      have hx := hgi _ k hlt om
      have hsr : swapF g l.length (findAt g k R l.length) l.length k = g (findAt g k R l.length) k := by simp [swapF]
      have hv := (invM_is hF (x := g (findAt g k R l.length) k) om).1
      rw [emod_small (p := p) ⟨hx.1, hx.2⟩, Int.mul_comm] at hv
      obtain ⟨a1, a2⟩ := spn_swap (p := p) (C := C) (g := g) hr hlt
      generalize hsw : swapF g l.length (findAt g k R l.length) = g1 at a1 a2 hsr
      obtain ⟨b1, b2⟩ := spn_scale (p := p) (C := C) (g := g1) hr hv
      have e : stepF p g l.length (findAt g k R l.length) k = elimF p (scaleF p (invM p (g (findAt g k R l.length) k)) g1 l.length) l.length k := by
        unfold stepF
        rw [hsw, hsr]
      rw [e]
      obtain ⟨c1, c2⟩ := spn_elim (p := p) (C := C) (k := k) (g := scaleF p (invM p (g (findAt g k R l.length) k)) g1 l.length) hr
      exact ⟨fun i hi => (((c1 i hi).mono b1).mono a1).mono ih.1, fun i hi => (((ih.2 i hi).mono a2).mono b2).mono c2⟩
    · rw [colStep_no hlt]; exact ih

theorem seq_in {a b : Nat → Nat} {n k : Nat} (ha : ∀ t s, t < s → s < n → a t < a s) (hb : ∀ t s, t < s → s < k → b t < b s) (h : ∀ t, t < n → ∃ s, s < k ∧ b s = a t) : n ≤ k ∧ (n = k → ∀ t, t < n → a t = b t) := by
  have inj : ∀ s s', s < k → s' < k → b s < b s' → s < s' := fun s s' h1 h2 h3 => Decidable.byContradiction (fun hn => by
    rcases Nat.lt_or_ge s' s with h4 | h4
    · have := hb s' s h4 h1; omega
    · have : s = s' := by omega
      subst this; omega)
  have A : ∀ t s, t < n → s < k → b s = a t → t ≤ s := fun t => by
    induction t with
    | zero => intro s _ _ _; omega
    | succ t ih =>
      intro s ht hs he
      obtain ⟨s', h1, h2⟩ := h t om
      have := ha t (t + 1) om ht
      have := inj s' s h1 hs om
      have := ih s' om h1 h2
      omega
  have B : ∀ d t s, t + d + 1 = n → s < k → b s = a t → s + d + 1 ≤ k := fun d => by
    induction d with
    | zero => intro t s _ hs _; omega
    | succ d ih =>
      intro t s ht hs he
      obtain ⟨s', h1, h2⟩ := h (t + 1) om
      have := ha t (t + 1) om om
      have := inj s s' hs h1 om
      have := ih (t + 1) s' om h1 h2
      omega
  refine ⟨?_, fun hnk t ht => ?_⟩
  · rcases Nat.eq_zero_or_pos n with h1 | h1
    · omega
    · obtain ⟨s, hs, he⟩ := h (n - 1) om
      have := A (n - 1) s om hs he
      omega
  · obtain ⟨s, hs, he⟩ := h t ht
    have h1 := A t s ht hs he
    have h2 := B (n - t - 1) t s om hs he
    have : s = t := by omega
    subst this
    exact he.symm
theorem pv_mono {R k t s : Nat} {g : Nat → Nat → Int} {l : List Int} (h : RR R g l k) (hts : t < s) (hs : s < l.length) : pv l t < pv l s := by
  have h1 := h.2.2.1 t s hts hs
  have h2 := h.2.1 t om
  have h3 := h.2.1 s hs
  unfold pv
  omega
theorem not_dvd_one {p : Int} (hp : 2 ≤ p) : ¬ p ∣ 1 := fun ⟨y, hy⟩ => by
  rcases Int.lt_trichotomy y 0 with h | h | h
  · have := Int.mul_lt_mul_of_pos_left h (show 0 < p by omega); omega
  · subst h; omega
  · have := Int.mul_le_mul_of_nonneg_left (show 1 ≤ y by omega) (show 0 ≤ p by omega); omega
theorem dvd_eq {p x y : Int} (h : p ∣ x - y) (hx : 0 ≤ x ∧ x < p) (hy : 0 ≤ y ∧ y < p) : x = y := by
  have := Int.emod_emod_of_dvd
  have h1 : x % p = y % p := Int.emod_eq_emod_iff_emod_sub_eq_zero.2 (Int.emod_eq_zero_of_dvd h)
  rwa [Int.emod_eq_of_lt hx.1 hx.2, Int.emod_eq_of_lt hy.1 hy.2] at h1
theorem rr_sub {p : Int} {R S C : Nat} {b g : Nat → Nat → Int} {l m : List Int} (hp : 2 ≤ p) (hb : RR R b l C) (hg : RR S g m C) (ib : inF p R C b) (ig : inF p S C g) (h : ∀ i, i < l.length → Spn p S C g (b i)) :
    l.length ≤ m.length ∧ (l.length = m.length → l = m ∧ ∀ t j, t < l.length → j < C → b t j = g t j) := by
  have hlead : ∀ t, t < l.length → ∃ s, s < m.length ∧ pv m s = pv l t := fun t ht =>
    spn_lead hg (h t ht) (pv_lt hb ht) (fun j hj => by rw [hb.2.2.2.2.2 t j ht hj]; exact Int.dvd_zero p) (by
      rw [hb.2.2.2.1 t t ht (by have := hb.1; omega), if_pos rfl]; exact not_dvd_one hp)
  obtain ⟨h1, h2⟩ := seq_in (a := pv l) (b := pv m) (fun t s h1 h2 => pv_mono hb h1 h2) (fun t s h1 h2 => pv_mono hg h1 h2) hlead
  refine ⟨h1, fun he => ⟨?_, fun t j ht hj => ?_⟩⟩
  · apply List.ext_getElem he
    intro t h3 h4
    have e := h2 he t h3
    have n1 := hb.2.1 t h3
    have n2 := hg.2.1 t h4
    have g1 : l.getD t 0 = l[t] := by simp [List.getD, h3]
    have g2 : m.getD t 0 = m[t] := by simp [List.getD, h4]
    unfold pv at e
    omega
  · have hR := hb.1
    have hS := hg.1
    have hd : Spn p S C g (fun j => b t j + (-1) * g t j) := (h t ht).plus ((Spn.row om).mul (-1))
    have := spn_zero hg hd (fun s hs => by
      have e := h2 he s om
      have b1 := hb.2.2.2.1 s t om om
      have g1 := hg.2.2.2.1 s t hs om
      rw [e] at b1
      rw [b1, g1]
      split <;> simp) j hj
    exact dvd_eq (by simpa using dvd_add2 this (Int.dvd_zero p) (show b t j - g t j = _ by omega)) (ib t j om hj) (ig t j om hj)
theorem red_sub {p : Int} {R S C : Nat} {f f' : Nat → Nat → Int} (hF : FieldP p) (i1 : inF p R C f) (i2 : inF p S C f') (h : ∀ i, i < R → Spn p S C f' (f i)) :
    (redTo p R f C).2.length ≤ (redTo p S f' C).2.length ∧ ((redTo p R f C).2.length = (redTo p S f' C).2.length → (redTo p R f C).2 = (redTo p S f' C).2 ∧ ∀ t j, t < (redTo p R f C).2.length → j < C → (redTo p R f C).1 t j = (redTo p S f' C).1 t j) := by
  have hp := fieldP_pos hF
  have r1 := redTo_rr hF i1 C (Nat.le_refl _)
  have r2 := redTo_rr hF i2 C (Nat.le_refl _)
  have s1 := redTo_spn hF i1 C (Nat.le_refl _)
  have s2 := redTo_spn hF i2 C (Nat.le_refl _)
  exact rr_sub hp.1 r1 r2 (redTo_in om i1 C).1 (redTo_in om i2 C).1 (fun i hi => ((s1.1 i (by have := r1.1; omega)).mono h).mono s2.2)
end Go.Proofs.YtcplmeajmpkpkaaGreat
