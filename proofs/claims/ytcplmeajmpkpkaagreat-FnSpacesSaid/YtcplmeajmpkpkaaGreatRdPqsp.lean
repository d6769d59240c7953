import Derived.Test.YtcplmeajmpkpkaaGreatCopqsp
namespace Go.Proofs.YtcplmeajmpkpkaaGreat
open Go.Lg Go.Proofs Go.RowKit

theorem findAt_step {f : Nat → Nat → Int} {k R t : Nat} (h : t < R) : findAt f k R t = if f t k = 0 then findAt f k R (t + 1) else t := by
  split
  · rename_i hz
    rcases Nat.lt_or_ge (findAt f k R (t + 1)) R with h1 | h1
    · have h2 := findAt_spec h1
      refine findAt_eq h1 om h2.2 (fun i hi hj => ?_)
      by_cases hit : i = t
      · subst hit; exact hz
      · exact Decidable.byContradiction (fun hn => by
          have := findAt_min (f := f) (k := k) (R := R) (r := t + 1) (i := i) om om hn
          omega)
    · have h3 := findAt_le (f := f) (k := k) (R := R) (r := t + 1)
      have h4 : findAt f k R (t + 1) = R := by omega
      rw [h4]
      refine findAt_none (fun i hi hj => ?_)
      by_cases hit : i = t
      · subst hit; exact hz
      · exact Decidable.byContradiction (fun hn => by
          have := findAt_min (f := f) (k := k) (R := R) (r := t + 1) (i := i) om om hn
          omega)
  · rename_i hz
    exact findAt_eq h (Nat.le_refl _) hz (fun i hi hj => by omega)
theorem findAt_ge {f : Nat → Nat → Int} {k R t : Nat} (h : R ≤ t) : findAt f k R t = R := findAt_none (fun i hi hj => by omega)
def atv (f : Nat → Nat → Int) (k R t : Nat) : Int := if findAt f k R t < R then (findAt f k R t : Int) else -1

theorem atv_hit {f : Nat → Nat → Int} {k R t : Nat} (h : t < R) (hf : f t k ≠ 0) : atv f k R t = t := by
  unfold atv
  rw [findAt_step h, if_neg hf, if_pos h]
theorem atv_miss {f : Nat → Nat → Int} {k R t : Nat} (h : t < R) (hf : f t k = 0) : atv f k R t = atv f k R (t + 1) := by
  unfold atv
  rw [findAt_step h, if_pos hf]
def inF (p : Int) (R C : Nat) (f : Nat → Nat → Int) : Prop := ∀ i j, i < R → j < C → 0 ≤ f i j ∧ f i j < p
theorem inF_swap {p : Int} {R C r a : Nat} {f : Nat → Nat → Int} (h : inF p R C f) (hr : r < R) (ha : a < R) : inF p R C (swapF f r a) := fun i j hi hj => by
  unfold swapF
  split
  · exact h a j ha hj
  · split
    · exact h r j hr hj
    · exact h i j hi hj
theorem inF_scale {p v : Int} {R C r : Nat} {f : Nat → Nat → Int} (hp : 0 < p) (h : inF p R C f) : inF p R C (scaleF p v f r) := fun i j hi hj => by
  unfold scaleF
  split
  · exact ⟨Int.emod_nonneg _ om, Int.emod_lt_of_pos _ hp⟩
  · exact h i j hi hj
theorem inF_elim {p : Int} {R C r k : Nat} {f : Nat → Nat → Int} (hp : 0 < p) (h : inF p R C f) : inF p R C (elimF p f r k) := fun i j hi hj => by
  unfold elimF
  split
  · exact h i j hi hj
  · exact ⟨Int.emod_nonneg _ om, Int.emod_lt_of_pos _ hp⟩
theorem colStep_in {p : Int} {R C k : Nat} {st : (Nat → Nat → Int) × List Int} (hp : 0 < p) (h : inF p R C st.1) (hl : st.2.length ≤ R) : inF p R C (colStep p R k st).1 ∧ (colStep p R k st).2.length ≤ R := by
  unfold colStep
  simp only
  split
  · rename_i ha
    have h1 := findAt_spec ha
    refine ⟨inF_elim hp (inF_scale hp (inF_swap h om ha)), ?_⟩
    simp; omega
  · exact ⟨h, hl⟩
theorem redTo_in {p : Int} {R C : Nat} {f : Nat → Nat → Int} (hp : 0 < p) (h : inF p R C f) : ∀ k, inF p R C (redTo p R f k).1 ∧ (redTo p R f k).2.length ≤ R
  | 0 => ⟨h, by simp [redTo]⟩
  | k + 1 => colStep_in hp (redTo_in hp h k).1 (redTo_in hp h k).2
theorem redTo_skip {p : Int} {R : Nat} {f : Nat → Nat → Int} {k : Nat} (h : findAt (redTo p R f k).1 k R (redTo p R f k).2.length = R) : redTo p R f (k + 1) = redTo p R f k := by
  simp only [redTo, colStep]
  rw [if_neg om]
theorem redTo_full {p : Int} {R : Nat} {f : Nat → Nat → Int} {k : Nat} (h : R ≤ (redTo p R f k).2.length) : ∀ d, redTo p R f (k + d) = redTo p R f k
  | 0 => rfl
  | d + 1 => by
    have ih := redTo_full h d
    rw [← Nat.add_assoc, redTo_skip (findAt_ge (by rw [ih]; exact h)), ih]
theorem redTo_next {p : Int} {R : Nat} {f : Nat → Nat → Int} {k : Nat} (h : findAt (redTo p R f k).1 k R (redTo p R f k).2.length < R) :
    redTo p R f (k + 1) = (elimF p (scaleF p (invM p (swapF (redTo p R f k).1 (redTo p R f k).2.length (findAt (redTo p R f k).1 k R (redTo p R f k).2.length) (redTo p R f k).2.length k)) (swapF (redTo p R f k).1 (redTo p R f k).2.length (findAt (redTo p R f k).1 k R (redTo p R f k).2.length)) (redTo p R f k).2.length) (redTo p R f k).2.length k, (redTo p R f k).2 ++ [(k : Int)]) := by
  simp only [redTo, colStep]
  rw [if_pos h]
theorem redL_length {p : Int} {R : Nat} {f : Nat → Nat → Int} : ∀ k, (redTo p R f k).2.length ≤ k
  | 0 => by simp [redTo]
  | k + 1 => by
    have := redL_length (p := p) (R := R) (f := f) k
    simp only [redTo, colStep]
    split
    · simp; omega
    · omega

def MatG (p : Int) (m : Mat) : Prop := FieldP p ∧ (0 ≤ m.1 ∧ m.1 ≤ 1024) ∧ (0 ≤ m.2.1 ∧ m.2.1 ≤ 1024) ∧ (m.2.2.length : Int) = m.1 * m.2.1 ∧ InP 0 (p - 1) m.2.2
theorem MatP.g {p : Int} {m : Mat} (h : MatP p m) : MatG p m := by
  obtain ⟨⟨h1, h2⟩, ⟨h3, h4⟩, h5, h6, h7, h8⟩ := h
  exact ⟨h6, ⟨h1, by omega⟩, ⟨h3, by omega⟩, h5, h8⟩
theorem matG_size {R C : Nat} (hR : (R : Int) ≤ 1024) (hC : (C : Int) ≤ 1024) : R * C ≤ 1048576 := by
  have := Nat.mul_le_mul (show R ≤ 1024 by omega) (show C ≤ 1024 by omega)
  omega

def swapTo (f : Nat → Nat → Int) (r a c : Nat) : Nat → Nat → Int := fun i j => if j < c then swapF f r a i j else f i j
def scaleTo (p v : Int) (f : Nat → Nat → Int) (r c : Nat) : Nat → Nat → Int := fun i j => if j < c then scaleF p v f r i j else f i j
def elimTo (p : Int) (f : Nat → Nat → Int) (r k n : Nat) : Nat → Nat → Int := fun i j => if i < n then elimF p f r k i j else f i j
def elimAt (p : Int) (f : Nat → Nat → Int) (r k n c : Nat) : Nat → Nat → Int := fun i j => if i < n ∨ (i = n ∧ j < c) then elimF p f r k i j else f i j
theorem swapTo_next {f : Nat → Nat → Int} {r a c : Nat} : upd (upd (swapTo f r a c) r c (f a c)) a c (f r c) = swapTo f r a (c + 1) := by
  funext i j
  unfold upd swapTo swapF
  grind
theorem scaleTo_next {p v : Int} {f : Nat → Nat → Int} {r c : Nat} : upd (scaleTo p v f r c) r c (v * f r c % p) = scaleTo p v f r (c + 1) := by
  funext i j
  unfold upd scaleTo scaleF
  grind
theorem elimAt_next {p : Int} {f : Nat → Nat → Int} {r k n c : Nat} (h : n ≠ r) : upd (elimAt p f r k n c) n c ((f n c - f n k * f r c) % p) = elimAt p f r k n (c + 1) := by
  funext i j
  unfold upd elimAt elimF
  grind
theorem elimAt_zero {p : Int} {f : Nat → Nat → Int} {r k n : Nat} : elimAt p f r k n 0 = elimTo p f r k n := by
  funext i j
  unfold elimAt elimTo
  grind
theorem elimAt_self {p : Int} {f : Nat → Nat → Int} {r k c : Nat} : elimAt p f r k r c = elimTo p f r k (r + 1) := by
  funext i j
  unfold elimAt elimTo elimF
  grind
theorem elimAt_full {p : Int} {f : Nat → Nat → Int} {R C r k n : Nat} : mk R C (elimAt p f r k n C) = mk R C (elimTo p f r k (n + 1)) := mk_ext (fun i j hi hj => by
  unfold elimAt elimTo
  grind)
theorem elimAt_row {p : Int} {f : Nat → Nat → Int} {r k n c j : Nat} : elimAt p f r k n c r j = f r j := by
  unfold elimAt elimF
  grind
theorem elimAt_cur {p : Int} {f : Nat → Nat → Int} {r k n c : Nat} : elimAt p f r k n c n c = f n c := by
  unfold elimAt
  grind
end Go.Proofs.YtcplmeajmpkpkaaGreat
