import Derived.Test.YtljgmmmgnfgbhaaAlgqel
import Derived.Test.YtljgmmmgnfgbhaaCrdqel
import Derived.Test.YtljgmmmgnfgbhaaHomqel
import Derived.Test.YtljgmmmgnfgbhaaImsqel
import Derived.Test.YtljgmmmgnfgbhaaIvsqel
namespace Go.Proofs.Ytljgmmmgnfgbhaa
open Go.Lg Go.Proofs Go.RowKit

/-! ### what elimination gives (plain) -/
theorem red_ort {p : Int} {R C : Nat} {f : Nat → Nat → Int} {x : Nat → Int} (hF : FieldP p) (hin : inF p R C f) (h : ∀ i, i < R → p ∣ sumN (fun j => (redTo p R f C).1 i j * x j) C) : ∀ i, i < R → p ∣ sumN (fun j => f i j * x j) C :=
  fun i hi => spn_ort h ((redTo_spn hF hin C (Nat.le_refl _)).2 i hi)
theorem ort_red {p : Int} {R C : Nat} {f : Nat → Nat → Int} {x : Nat → Int} (hF : FieldP p) (hin : inF p R C f) (h : ∀ i, i < R → p ∣ sumN (fun j => f i j * x j) C) : ∀ i, i < R → p ∣ sumN (fun j => (redTo p R f C).1 i j * x j) C :=
  fun i hi => spn_ort h ((redTo_spn hF hin C (Nat.le_refl _)).1 i hi)
theorem imv_sum {p : Int} {C i : Nat} {f : Nat → Nat → Int} {xs : List Int} : imv p C f xs i = sumN (fun j => f i j * xs.getD j 0) C % p := by rw [imv, accF_sum]
theorem ker_apply {p : Int} {R C : Nat} {f : Nat → Nat → Int} {xs : List Int} (hF : FieldP p) (hin : inF p R C f) (h : xs ∈ kerL p C (redTo p R f C).1 (redTo p R f C).2 (freeN (redTo p R f C).2 C)) : ∀ i, i < R → imv p C f xs i = 0 := fun i hi => by
  obtain ⟨k, hk, rfl⟩ := List.mem_map.1 h
  have hf := freeN_mem hk
  have hn := freeN_not hk
  have hR := redTo_rr hF hin C (Nat.le_refl _)
  have h1 := red_ort hF hin (x := kerV p (redTo p R f C).1 (redTo p R f C).2 k.toNat (redTo p R f C).2.length) (fun i hi => ker_ort (k := k.toNat) hR (by omega) (by rw [Int.toNat_of_nonneg hf.1]; exact hn) hi) i hi
  rw [imv_sum, sumN_congr (g := fun j => f i j * kerV p (redTo p R f C).1 (redTo p R f C).2 k.toNat (redTo p R f C).2.length j) (fun j hj => by rw [mkv_get hj])]
  exact Int.emod_eq_zero_of_dvd h1
theorem solG_s {g : Nat → Nat → Int} {C q m : Nat} {l : List Int} : solG g C l (m + 1) q = if q = pv l m then g m C else solG g C l m q := rfl
theorem sys_lt {C j i : Nat} {f : Nat → Nat → Int} {v : List Int} (h : j < C) : sysF C f v i j = f i j := if_pos h
theorem aug_lt {n j i : Nat} {f : Nat → Nat → Int} (h : j < n) : augF n f i j = f i j := if_pos h
theorem aug_ge {n j i : Nat} {f : Nat → Nat → Int} : augF n f i (n + j) = idF i j := by
  show (if n + j < n then _ else _) = _
  rw [if_neg (by omega), Nat.add_sub_cancel_left]
theorem solG_un {g : Nat → Nat → Int} {C q : Nat} {l : List Int} : ∀ m, (∀ s, s < m → q ≠ pv l s) → solG g C l m q = 0
  | 0, _ => rfl
  | m + 1, h => by
    rw [solG_s, if_neg (h m (by omega))]
    exact solG_un m (fun s hs => h s (by omega))
theorem sol_apply {p : Int} {R C : Nat} {f : Nat → Nat → Int} {v : List Int} (hF : FieldP p) (hin : inF p R C f) (hv : InP 0 (p - 1) v) (hl : v.length = R) (hb : solB p R C f v = true) : ∀ i, i < R → imv p C f (solX p R C f v) i = v.getD i 0 := fun i hi => by
  have hsy := inF_sys hin hv hl
  have hR := redTo_rr hF hsy (C + 1) (Nat.le_refl _)
  have hnot : ¬ (C : Int) ∈ (redTo p R (sysF C f v) (C + 1)).2 := by simpa [solB] using hb
  have hort := red_ort hF hsy (x := fun j => if j = C then -1 else (solX p R C f v).getD j 0)
  rw [solX, if_neg hnot] at hort ⊢
  generalize (redTo p R (sysF C f v) (C + 1)).1 = g at hR hort ⊢
  generalize (redTo p R (sysF C f v) (C + 1)).2 = l at hR hort hnot ⊢
  have hpc : ∀ t, t < l.length → pv l t < C := fun t ht => by
    have h1 := hR.2.1 t ht
    have h2 := pv_ne hnot hR t ht
    unfold pv at h2 ⊢
    omega
  have key : ∀ t, t < R → ∀ m, m ≤ l.length → sumN (fun j => g t j * solG g C l m j) C = if t < m then g t C else 0 := fun t ht m => by
    induction m with
    | zero => intro _; rw [if_neg (by omega), sumN_congr (g := fun _ => 0) (fun j _ => by rw [solG, Int.mul_zero]), sumN_zero]
    | succ m ih =>
      intro hm
      have h1 := hR.2.2.2.1 m t (by omega) ht
      have h0 : solG g C l m (pv l m) = 0 := solG_un m (fun s hs => pv_inj hR (by omega) (by omega) (by omega))
      rw [sum_two (g := fun j => g t j * solG g C l m j) (hpc m (by omega)) (fun j _ hj => by rw [solG_s, if_neg hj]), ih (by omega), h0, h1, solG_s, if_pos rfl]
      by_cases htm : t = m
      · subst htm; rw [if_neg (by omega), if_pos rfl, if_pos (by omega)]; omega
      · rw [if_neg htm]
        by_cases h : t < m
        · rw [if_pos h, if_pos (by omega)]; omega
        · rw [if_neg h, if_neg (by omega)]; omega
  have h1 := hort (fun t ht => by
    rw [sumN, if_pos rfl, sumN_congr (g := fun j => g t j * solG g C l l.length j) (fun j hj => by rw [if_neg (by omega), mkv_get hj]), key t ht _ (Nat.le_refl _)]
    by_cases h : t < l.length
    · rw [if_pos h]; exact ⟨0, by omega⟩
    · rw [if_neg h, hR.2.2.2.2.1 t C (by omega) ht (by omega)]; exact ⟨0, by omega⟩) i hi
  rw [sumN, if_pos rfl, sumN_congr (g := fun j => f i j * (mkv C (solG g C l l.length)).getD j 0) (fun j hj => by rw [if_neg (by omega), sys_lt hj])] at h1
  have hvi := inP_get hv (i := i) (by omega)
  have e : sysF C f v i C = v.getD i 0 := by simp [besF, vF]
  rw [e] at h1
  rw [imv_sum, emod_dvd (y := v.getD i 0) (by obtain ⟨c, hc⟩ := h1; exact ⟨c, by omega⟩)]
  exact Int.emod_eq_of_lt hvi.1 (by omega)
/-- both sides of an inverse -/
theorem inv_sides {p : Int} {n : Nat} {f : Nat → Nat → Int} (hF : FieldP p) (hin : inF p n n f) (h : (redTo p n f n).2.length = n) : (∀ i j, i < n → j < n → mulF p n f (invF p n f) i j = idF i j) ∧ ∀ i j, i < n → j < n → mulF p n (invF p n f) f i j = idF i j := by
  have hp := fieldP_pos hF
  have hau : inF p n (n + n) (augF n f) := inF_bes hin (inF_id (by omega))
  have hla : (redTo p n (augF n f) n).2 = (redTo p n f n).2 := by
    rcases Nat.eq_zero_or_pos n with h0 | h0
    · subst h0; rfl
    · exact (unit_cols (p := p) (f := f) h0).2.2.symm
  have hfa := redTo_full (p := p) (R := n) (f := augF n f) (k := n) (by rw [hla]; omega) n
  have hrr := redTo_rr hF hau n (by omega)
  have hpv := full_piv hrr (by rw [hla]; exact h)
  have hd : ∀ i q, i < n → q < n → (redTo p n (augF n f) (n + n)).1 i q = idF i q := fun i q hi hq => by
    rw [hfa]
    have h1 := hrr.2.2.2.1 q i (by rw [hla]; omega) hi
    have e : pv (redTo p n (augF n f) n).2 q = q := by unfold pv; rw [hpv q hq]; omega
    rw [e] at h1
    exact h1
  have mod1 : ∀ (S : Int) (i j : Nat), p ∣ S - idF i j → S % p = idF i j := fun S i j hS => by
    rw [emod_dvd hS]
    exact Int.emod_eq_of_lt (by unfold idF; split <;> omega) (by unfold idF; split <;> omega)
  constructor
  · intro i j hi hj
    have h1 := red_ort hF hau (x := fun q => if q < n then invF p n f q j else if q = n + j then -1 else 0) (fun i hi => by
      rw [sumN_split, sumN_congr (g := fun q => if q = i then invF p n f q j else 0) (fun q hq => by
        rw [hd i q hi hq, if_pos hq]; unfold idF
        by_cases e : i = q
        · rw [if_pos e, if_pos e.symm, Int.one_mul]
        · rw [if_neg e, if_neg (fun e' => e e'.symm), Int.zero_mul]), sumN_pick (f := fun q => invF p n f q j), if_pos hi,
        sumN_congr (g := fun q => if q = j then (-1) * invF p n f i q else 0) (fun q hq => by
          rw [if_neg (by omega)]
          by_cases e : q = j
          · rw [if_pos (by omega), if_pos e, Int.mul_comm]; rfl
          · rw [if_neg (by omega), if_neg e, Int.mul_zero]), sumN_pick (f := fun q => (-1) * invF p n f i q), if_pos hj]
      exact ⟨0, by omega⟩) i hi
    rw [sumN_split, sumN_congr (g := fun q => f i q * invF p n f q j) (fun q hq => by rw [if_pos hq, aug_lt hq]),
      sumN_congr (f := fun q => augF n f i (n + q) * _) (g := fun q => if q = j then (-1) * idF i q else 0) (fun q hq => by
        rw [if_neg (by omega), aug_ge]
        by_cases e : q = j
        · rw [if_pos (by omega), if_pos e, Int.mul_comm]
        · rw [if_neg (by omega), if_neg e, Int.mul_zero]), sumN_pick (f := fun q => (-1) * idF i q), if_pos hj] at h1
    rw [mulF_sum]
    exact mod1 _ i j (by obtain ⟨c, hc⟩ := h1; exact ⟨c, by omega⟩)
  · intro i j hi hj
    have h1 := ort_red hF hau (x := fun q => if q < n then (if q = j then -1 else 0) else f (q - n) j) (fun i hi => by
      rw [sumN_split, sumN_congr (g := fun q => if q = j then (-1) * f i q else 0) (fun q hq => by
        rw [if_pos hq, aug_lt hq]
        by_cases e : q = j
        · rw [if_pos e, if_pos e, Int.mul_comm]
        · rw [if_neg e, if_neg e, Int.mul_zero]), sumN_pick (f := fun q => (-1) * f i q), if_pos hj,
        sumN_congr (f := fun q => augF n f i (n + q) * _) (g := fun q => if q = i then f q j else 0) (fun q hq => by
          rw [if_neg (by omega), aug_ge, Nat.add_sub_cancel_left]; unfold idF
          by_cases e : i = q
          · rw [if_pos e, if_pos e.symm, Int.one_mul]
          · rw [if_neg e, if_neg (fun e' => e e'.symm), Int.zero_mul]), sumN_pick (f := fun q => f q j), if_pos hi]
      exact ⟨0, by omega⟩) i hi
    rw [sumN_split, sumN_congr (g := fun q => if q = j then (-1) * idF i q else 0) (fun q hq => by
        rw [if_pos hq, hd i q hi hq]
        by_cases e : q = j
        · rw [if_pos e, if_pos e, Int.mul_comm]
        · rw [if_neg e, if_neg e, Int.mul_zero]), sumN_pick (f := fun q => (-1) * idF i q), if_pos hj,
      sumN_congr (f := fun q => (redTo p n (augF n f) (n + n)).1 i (n + q) * _) (g := fun q => invF p n f i q * f q j) (fun q hq => by rw [if_neg (by omega), Nat.add_sub_cancel_left]; rfl)] at h1
    rw [mulF_sum]
    exact mod1 _ i j (by obtain ⟨c, hc⟩ := h1; exact ⟨c, by omega⟩)
theorem rank_zero {p : Int} {R C : Nat} {f : Nat → Nat → Int} (hF : FieldP p) (hin : inF p R C f) : (redTo p R f C).2.length = 0 ↔ ∀ i j, i < R → j < C → f i j = 0 := by
  have hp := fieldP_pos hF
  have hR := redTo_rr hF hin C (Nat.le_refl _)
  have hs := redTo_spn hF hin C (Nat.le_refl _)
  have zs : ∀ {g : Nat → Nat → Int} {v : Nat → Int}, (∀ i j, i < R → j < C → p ∣ g i j) → Spn p R C g v → ∀ j, j < C → p ∣ v j := fun {g v} hz h => by
    induction h with
    | nil h => exact h
    | add i c hi _ h ih => intro j hj; have h1 := h j hj; have h2 := ih j hj; obtain ⟨a, ha⟩ := h1; obtain ⟨b, hb⟩ := h2; obtain ⟨d, hd⟩ := hz i j hi hj; exact ⟨a + b + c * d, by grind⟩
  constructor
  · intro h0 i j hi hj
    have h1 := zs (fun i j hi hj => by rw [hR.2.2.2.2.1 i j (by omega) hi hj]; exact Int.dvd_zero p) (hs.2 i hi) j hj
    have h2 := hin i j hi hj
    obtain ⟨c, hc⟩ := h1
    exact dvd_eq (p := p) ⟨c, by omega⟩ h2 ⟨by omega, by omega⟩
  · intro hz
    refine Nat.eq_zero_of_not_pos (fun h => ?_)
    have h0R : 0 < R := by have := hR.1; omega
    have h1 := zs (fun i j hi hj => by rw [hz i j hi hj]; exact Int.dvd_zero p) (hs.1 0 h0R) (pv (redTo p R f C).2 0) (pv_lt hR h)
    rw [hR.2.2.2.1 0 0 h h0R, if_pos rfl] at h1
    exact not_dvd_one (by omega) h1
def powF (p : Int) (n : Nat) (f : Nat → Nat → Int) : Nat → Nat → Nat → Int
  | 0 => idF
  | k + 1 => mulF p n (powF p n f k) f
theorem powF_in {p : Int} {n : Nat} {f : Nat → Nat → Int} (hp : 2 ≤ p) : ∀ k, inF p n n (powF p n f k)
  | 0 => inF_id hp
  | _ + 1 => inF_mul (by omega)
/-- an invertible matrix has no power 0 -/
theorem inv_nil {p : Int} {n : Nat} {f : Nat → Nat → Int} (hF : FieldP p) (hin : inF p n n f) (h : (redTo p n f n).2.length = n) (hn : 0 < n) : ∀ k, ¬ ∀ i j, i < n → j < n → powF p n f k i j = 0
  | 0, hz => by have := hz 0 0 hn hn; simp [powF, idF] at this
  | k + 1, hz => inv_nil hF hin h hn k (fun i j hi hj => by
    have hp := fieldP_pos hF
    have h1 := (inv_sides hF hin h).1
    rw [← mul_idr (p := p) hj (powF_in (by omega) k i j hi hj), mulF_ext (f' := powF p n f k) (g' := mulF p n f (invF p n f)) (fun _ _ => rfl) (fun q hq => (h1 q j hq hj).symm), ← mul_assocF, mulF_sum,
      sumN_congr (g := fun _ => 0) (fun q hq => by have := hz i q hi hq; rw [powF] at this; rw [this, Int.zero_mul]), sumN_zero]
    exact Int.zero_emod p)
end Go.Proofs.Ytljgmmmgnfgbhaa
