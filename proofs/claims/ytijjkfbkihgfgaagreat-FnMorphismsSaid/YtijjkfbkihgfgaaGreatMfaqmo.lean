import Derived.Test.YtijjkfbkihgfgaaGreatCmpqmo
import Derived.Test.YtijjkfbkihgfgaaGreatCobqmo
import Derived.Test.YtijjkfbkihgfgaaGreatFitqmo
import Derived.Test.YtijjkfbkihgfgaaGreatImgqmo
import Derived.Test.YtijjkfbkihgfgaaGreatInvqmo
import Derived.Test.YtijjkfbkihgfgaaGreatIvmqmo
import Derived.Test.YtijjkfbkihgfgaaGreatIvsqmo
import Derived.Test.YtijjkfbkihgfgaaGreatLCqmo
import Derived.Test.YtijjkfbkihgfgaaGreatLEqmo
import Derived.Test.YtijjkfbkihgfgaaGreatLinqmo
import Derived.Test.YtijjkfbkihgfgaaGreatMorqmo
import Derived.Test.YtijjkfbkihgfgaaGreatMulqmo
import Derived.Test.YtijjkfbkihgfgaaGreatMxfqmo
import Derived.Test.YtijjkfbkihgfgaaGreatRdIqmo
import Derived.Test.YtijjkfbkihgfgaaGreatRksqmo
import Derived.Test.YtijjkfbkihgfgaaGreatRowqmo
import Derived.Test.YtijjkfbkihgfgaaGreatRrfqmo
import Derived.Test.YtijjkfbkihgfgaaGreatRvcqmo
import Derived.Test.YtijjkfbkihgfgaaGreatSolqmo
import Derived.Test.YtijjkfbkihgfgaaGreatSpbqmo
import Derived.Test.YtijjkfbkihgfgaaGreatSpmqmo
namespace Go.Proofs.YtijjkfbkihgfgaaGreat
open Go.Lg Go.Proofs Go.RowKit

/-! ### products of matrices, mod p (plain) -/
theorem sumN_split {f : Nat → Int} {n : Nat} : ∀ m, sumN f (n + m) = sumN f n + sumN (fun i => f (n + i)) m
  | 0 => by simp [sumN]
  | m + 1 => by
    rw [← Nat.add_assoc, sumN, sumN_split m, sumN]
    omega
theorem sumN_comm {F : Nat → Nat → Int} {m : Nat} : ∀ n, sumN (fun i => sumN (fun j => F i j) m) n = sumN (fun j => sumN (fun i => F i j) n) m
  | 0 => by simp only [sumN]; rw [sumN_zero]
  | n + 1 => by
    simp only [sumN]
    rw [sumN_comm n, ← sumN_add]
theorem sumN_mull {f : Nat → Int} {x : Int} {n : Nat} : sumN (fun i => x * f i) n = x * sumN f n := by
  rw [sumN_congr (g := fun i => f i * x) (fun i _ => Int.mul_comm ..), sumN_mul, Int.mul_comm]
theorem mulF_sum {p : Int} {N : Nat} {f g : Nat → Nat → Int} {i j : Nat} : mulF p N f g i j = sumN (fun k => f i k * g k j) N % p := accF_sum N
theorem mulF_dvd {p : Int} {N : Nat} {f g : Nat → Nat → Int} {i j : Nat} : p ∣ mulF p N f g i j - sumN (fun k => f i k * g k j) N := by
  rw [mulF_sum]; exact emod_sub
theorem emod_dvd {p x y : Int} (h : p ∣ x - y) : x % p = y % p := by
  obtain ⟨c, hc⟩ := h
  have : x = y + p * c := by omega
  rw [this, Int.add_mul_emod_self_left]
theorem mulF_congr {p : Int} {N : Nat} {f f' g g' : Nat → Nat → Int} {i j : Nat} (h : ∀ k, k < N → p ∣ f i k - f' i k) (h' : ∀ k, k < N → p ∣ g k j - g' k j) : mulF p N f g i j = mulF p N f' g' i j := by
  rw [mulF_sum, mulF_sum]
  refine emod_dvd (dvd_sumN (fun k hk => ?_))
  obtain ⟨a, ha⟩ := h k hk
  obtain ⟨b, hb⟩ := h' k hk
  exact ⟨a * g k j + f' i k * b, by grind⟩
theorem mulF_ext {p : Int} {N : Nat} {f f' g g' : Nat → Nat → Int} {i j : Nat} (h : ∀ k, k < N → f i k = f' i k) (h' : ∀ k, k < N → g k j = g' k j) : mulF p N f g i j = mulF p N f' g' i j :=
  mulF_congr (fun k hk => by rw [h k hk, Int.sub_self]; exact Int.dvd_zero p) (fun k hk => by rw [h' k hk, Int.sub_self]; exact Int.dvd_zero p)
theorem mul_assocF {p : Int} {N M : Nat} {f g h : Nat → Nat → Int} {i j : Nat} : mulF p M (mulF p N f g) h i j = mulF p N f (mulF p M g h) i j := by
  rw [mulF_congr (f' := fun i k => sumN (fun q => f i q * g q k) N) (g' := h) (fun k _ => mulF_dvd) (fun k _ => by rw [Int.sub_self]; exact Int.dvd_zero p),
    mulF_congr (f := f) (g := mulF p M g h) (f' := f) (g' := fun q j => sumN (fun k => g q k * h k j) M) (fun k _ => by rw [Int.sub_self]; exact Int.dvd_zero p) (fun k _ => mulF_dvd), mulF_sum, mulF_sum]
  congr 1
  rw [sumN_congr (g := fun k => sumN (fun q => f i q * g q k * h k j) N) (fun k _ => sumN_mul.symm), sumN_comm]
  refine sumN_congr (fun q _ => ?_)
  rw [← sumN_mull]
  exact sumN_congr (fun k _ => Int.mul_assoc ..)
theorem mul_idl {p : Int} {N : Nat} {g : Nat → Nat → Int} {i j : Nat} (hi : i < N) (hg : 0 ≤ g i j ∧ g i j < p) : mulF p N idF g i j = g i j := by
  rw [mulF_sum, sumN_congr (g := fun k => if k = i then g k j else 0) (fun k _ => by
    unfold idF
    by_cases h : i = k
    · rw [if_pos h, if_pos h.symm, Int.one_mul]
    · rw [if_neg h, if_neg (fun e => h e.symm), Int.zero_mul]), sumN_pick (f := fun k => g k j), if_pos hi]
  exact emod_small hg
theorem mul_idr {p : Int} {N : Nat} {f : Nat → Nat → Int} {i j : Nat} (hj : j < N) (hf : 0 ≤ f i j ∧ f i j < p) : mulF p N f idF i j = f i j := by
  rw [mulF_sum, sumN_congr (g := fun k => if k = j then f i k else 0) (fun k _ => by
    unfold idF
    by_cases h : k = j
    · rw [if_pos h, if_pos h, Int.mul_one]
    · rw [if_neg h, if_neg h, Int.mul_zero]), sumN_pick (f := fun k => f i k), if_pos hj]
  exact emod_small hf
end Go.Proofs.YtijjkfbkihgfgaaGreat

namespace Go.Proofs.YtijjkfbkihgfgaaGreat
open Go.Lg Go.Proofs Go.RowKit

/-! ### the kernel, in plain: its vectors, and systems with them as columns -/
theorem spn_ort {p : Int} {R C : Nat} {g : Nat → Nat → Int} {x v : Nat → Int} (h : ∀ i, i < R → p ∣ sumN (fun j => g i j * x j) C) (hv : Spn p R C g v) : p ∣ sumN (fun j => v j * x j) C := by
  induction hv with
  | nil h0 => exact dvd_sumN0 (fun j hj => Int.dvd_trans (h0 j hj) (Int.dvd_mul_right ..))
  | @add u v i c hi _ e ih =>
    have e1 : p ∣ sumN (fun j => v j * x j) C - sumN (fun j => u j * x j + g i j * x j * c) C := dvd_sumN (fun j hj => by
      obtain ⟨y, hy⟩ := e j hj
      exact ⟨y * x j, by grind⟩)
    rw [sumN_add, sumN_mul] at e1
    obtain ⟨a, ha⟩ := e1
    obtain ⟨b, hb⟩ := ih
    obtain ⟨d, hd⟩ := h i hi
    exact ⟨a + b + d * c, by grind⟩
end Go.Proofs.YtijjkfbkihgfgaaGreat

namespace Go.Proofs.YtijjkfbkihgfgaaGreat
open Go.Lg Go.Proofs Go.RowKit

/-! ### what elimination gives (plain) -/
theorem red_ort {p : Int} {R C : Nat} {f : Nat → Nat → Int} {x : Nat → Int} (hF : FieldP p) (hin : inF p R C f) (h : ∀ i, i < R → p ∣ sumN (fun j => (redTo p R f C).1 i j * x j) C) : ∀ i, i < R → p ∣ sumN (fun j => f i j * x j) C :=
  fun i hi => spn_ort h ((redTo_spn hF hin C (Nat.le_refl _)).2 i hi)
theorem ort_red {p : Int} {R C : Nat} {f : Nat → Nat → Int} {x : Nat → Int} (hF : FieldP p) (hin : inF p R C f) (h : ∀ i, i < R → p ∣ sumN (fun j => f i j * x j) C) : ∀ i, i < R → p ∣ sumN (fun j => (redTo p R f C).1 i j * x j) C :=
  fun i hi => spn_ort h ((redTo_spn hF hin C (Nat.le_refl _)).1 i hi)
theorem aug_lt {n j i : Nat} {f : Nat → Nat → Int} (h : j < n) : augF n f i j = f i j := if_pos h
theorem aug_ge {n j i : Nat} {f : Nat → Nat → Int} : augF n f i (n + j) = idF i j := by
  show (if n + j < n then _ else _) = _
  rw [if_neg om, Nat.add_sub_cancel_left]
/-- both sides of an inverse -/
theorem inv_sides {p : Int} {n : Nat} {f : Nat → Nat → Int} (hF : FieldP p) (hin : inF p n n f) (h : (redTo p n f n).2.length = n) : (∀ i j, i < n → j < n → mulF p n f (invF p n f) i j = idF i j) ∧ ∀ i j, i < n → j < n → mulF p n (invF p n f) f i j = idF i j := by
  have hp := fieldP_pos hF
  have hau : inF p n (n + n) (augF n f) := inF_bes hin (inF_id om)
  have hla : (redTo p n (augF n f) n).2 = (redTo p n f n).2 := by
    rcases Nat.eq_zero_or_pos n with h0 | h0
    · subst h0; rfl
    · exact (unit_cols (p := p) (f := f) h0).2.2.symm
  have hfa := redTo_full (p := p) (R := n) (f := augF n f) (k := n) (by rw [hla]; omega) n
  have hrr := redTo_rr hF hau n om
  have hpv := full_piv hrr (by rw [hla]; exact h)
  have hd : ∀ i q, i < n → q < n → (redTo p n (augF n f) (n + n)).1 i q = idF i q := fun i q hi hq => by
    rw [hfa]
    have h1 := hrr.2.2.2.1 q i (by rw [hla]; omega) hi
    have e : pv (redTo p n (augF n f) n).2 q = q := by unfold pv; rw [hpv q hq]; omega
    rw [e] at h1
    exact h1
  have mod1 : ∀ (S : Int) (i j : Nat), p ∣ S - idF i j → S % p = idF i j := fun S i j hS => by
    rw [emod_dvd hS]
    exact Int.emod_eq_of_lt (by unfold idF; split <;> omega) (by unfold idF; split <;> omega)
  constructor
  · intro i j hi hj
    have h1 := red_ort hF hau (x := fun q => if q < n then invF p n f q j else if q = n + j then -1 else 0) (fun i hi => by
      rw [sumN_split, sumN_congr (g := fun q => if q = i then invF p n f q j else 0) (fun q hq => by
        rw [hd i q hi hq, if_pos hq]; unfold idF
        by_cases e : i = q
        · rw [if_pos e, if_pos e.symm, Int.one_mul]
        · rw [if_neg e, if_neg (fun e' => e e'.symm), Int.zero_mul]), sumN_pick (f := fun q => invF p n f q j), if_pos hi,
        sumN_congr (g := fun q => if q = j then (-1) * invF p n f i q else 0) (fun q hq => by
          rw [if_neg om]
          by_cases e : q = j
          · rw [if_pos om, if_pos e, Int.mul_comm]; rfl
          · rw [if_neg om, if_neg e, Int.mul_zero]), sumN_pick (f := fun q => (-1) * invF p n f i q), if_pos hj]
      exact ⟨0, by omega⟩) i hi
    rw [sumN_split, sumN_congr (g := fun q => f i q * invF p n f q j) (fun q hq => by rw [if_pos hq, aug_lt hq]),
      sumN_congr (f := fun q => augF n f i (n + q) * _) (g := fun q => if q = j then (-1) * idF i q else 0) (fun q hq => by
        rw [if_neg om, aug_ge]
        by_cases e : q = j
        · rw [if_pos om, if_pos e, Int.mul_comm]
        · rw [if_neg om, if_neg e, Int.mul_zero]), sumN_pick (f := fun q => (-1) * idF i q), if_pos hj] at h1
    rw [mulF_sum]
    exact mod1 _ i j (by obtain ⟨c, hc⟩ := h1; exact ⟨c, by omega⟩)
  · intro i j hi hj
    have h1 := ort_red hF hau (x := fun q => if q < n then (if q = j then -1 else 0) else f (q - n) j) (fun i hi => by
      rw [sumN_split, sumN_congr (g := fun q => if q = j then (-1) * f i q else 0) (fun q hq => by
        rw [if_pos hq, aug_lt hq]
        by_cases e : q = j
        · rw [if_pos e, if_pos e, Int.mul_comm]
        · rw [if_neg e, if_neg e, Int.mul_zero]), sumN_pick (f := fun q => (-1) * f i q), if_pos hj,
        sumN_congr (f := fun q => augF n f i (n + q) * _) (g := fun q => if q = i then f q j else 0) (fun q hq => by
          rw [if_neg om, aug_ge, Nat.add_sub_cancel_left]; unfold idF
          by_cases e : i = q
          · rw [if_pos e, if_pos e.symm, Int.one_mul]
          · rw [if_neg e, if_neg (fun e' => e e'.symm), Int.zero_mul]), sumN_pick (f := fun q => f q j), if_pos hi]
      exact ⟨0, by omega⟩) i hi
    rw [sumN_split, sumN_congr (g := fun q => if q = j then (-1) * idF i q else 0) (fun q hq => by
        rw [if_pos hq, hd i q hi hq]
        by_cases e : q = j
        · rw [if_pos e, if_pos e, Int.mul_comm]
        · rw [if_neg e, if_neg e, Int.mul_zero]), sumN_pick (f := fun q => (-1) * idF i q), if_pos hj,
      sumN_congr (f := fun q => (redTo p n (augF n f) (n + n)).1 i (n + q) * _) (g := fun q => invF p n f i q * f q j) (fun q hq => by rw [if_neg om, Nat.add_sub_cancel_left]; rfl)] at h1
    rw [mulF_sum]
    exact mod1 _ i j (by obtain ⟨c, hc⟩ := h1; exact ⟨c, by omega⟩)
end Go.Proofs.YtijjkfbkihgfgaaGreat

namespace Go.Proofs.YtijjkfbkihgfgaaGreat
open Go.Lg Go.Proofs Go.RowKit
attribute [local irreducible] Code.wp wpList bodyPost Exit.then Exit.inBlock Hp Again Calls Y AT ResV QT Qn QI wpAny wpAnyQ
set_option maxRecDepth 20000
set_option maxHeartbeats 4000000

/-! ### a matrix applied to a vector; powers -/
theorem matP_of {p : Int} {R C : Nat} {f : Nat → Nat → Int} (hF : FieldP p) (hR : R ≤ 8) (hC : C ≤ 8) (h : inF p R C f) : MatP p ((R : Int), (C : Int), mk R C f) := by
  have hRC : R * C ≤ 64 := Nat.mul_le_mul hR hC
  refine ⟨⟨by simp only; omega, by simp only; omega⟩, ⟨by simp only; omega, by simp only; omega⟩, by simp, hF, ?_, inP_mk h⟩
  rw [mk_length]; exact hRC
end Go.Proofs.YtijjkfbkihgfgaaGreat

namespace Go.Proofs.YtijjkfbkihgfgaaGreat
open Go.Lg Go.Proofs Go.RowKit

/-! ### the facts of the law of elimination (plain) -/
theorem invF_rng {p : Int} {n : Nat} {f : Nat → Nat → Int} (hF : FieldP p) (h : inF p n n f) : inF p n n (invF p n f) := fun i j hi hj => by
  have hp := fieldP_pos hF
  exact (redTo_in (f := augF n f) (p := p) (R := n) (C := n + n) om (inF_bes h (inF_id om)) (n + n)).1 i (n + j) hi om
end Go.Proofs.YtijjkfbkihgfgaaGreat

namespace Go.Proofs.YtijjkfbkihgfgaaGreat
open Go.Lg Go.Proofs Go.RowKit

/-! ### the facts of the law of morphisms (plain) -/
theorem comm_comp {p : Int} {da ea db eb dc ec : Nat} {A B C Fs Ft Gs Gt : Nat → Nat → Int}
    (h1 : ∀ r q, r < eb → q < da → mulF p db B Fs r q = mulF p ea Ft A r q) (h2 : ∀ r q, r < ec → q < db → mulF p dc C Gs r q = mulF p eb Gt B r q) :
    ∀ r q, r < ec → q < da → mulF p dc C (mulF p db Gs Fs) r q = mulF p ea (mulF p eb Gt Ft) A r q := fun r q hr hq => by
  rw [← mul_assocF, mulF_ext (f := mulF p dc C Gs) (f' := mulF p eb Gt B) (g := Fs) (g' := Fs) (fun k hk => h2 r k hr hk) (fun _ _ => rfl), mul_assocF,
    mulF_ext (f := Gt) (f' := Gt) (g := mulF p db B Fs) (g' := mulF p ea Ft A) (fun _ _ => rfl) (fun k hk => h1 k q hk hq), ← mul_assocF]
theorem comm_inv {p : Int} {ns nt : Nat} {A B Fs Ft Gs Gt : Nat → Nat → Int} (hA : inF p nt ns A) (hB : inF p nt ns B)
    (h1 : ∀ r q, r < nt → q < ns → mulF p ns B Fs r q = mulF p nt Ft A r q) (e1 : ∀ r q, r < ns → q < ns → mulF p ns Fs Gs r q = idF r q) (e2 : ∀ r q, r < nt → q < nt → mulF p nt Gt Ft r q = idF r q) :
    ∀ r q, r < nt → q < ns → mulF p ns A Gs r q = mulF p nt Gt B r q := fun r q hr hq => by
  have b1 : mulF p nt Gt B r q = mulF p nt Gt (mulF p ns B (mulF p ns Fs Gs)) r q := mulF_ext (fun _ _ => rfl) (fun k hk => by
    rw [mulF_ext (f := B) (f' := B) (g := mulF p ns Fs Gs) (g' := idF) (fun _ _ => rfl) (fun j hj => e1 j q hj hq), mul_idr hq (hB k q hk hq)])
  rw [b1, mulF_ext (f := Gt) (f' := Gt) (g := mulF p ns B (mulF p ns Fs Gs)) (g' := mulF p ns (mulF p nt Ft A) Gs) (fun _ _ => rfl) (fun k hk => by
    rw [← mul_assocF]
    exact mulF_ext (fun j hj => h1 k j hk hj) (fun _ _ => rfl)), ← mul_assocF]
  refine mulF_ext (fun j hj => ?_) (fun _ _ => rfl)
  rw [← mul_assocF, mulF_ext (f := mulF p nt Gt Ft) (f' := idF) (g := A) (g' := A) (fun k hk => e2 r k hr hk) (fun _ _ => rfl), mul_idl hr (hA r j hr hj)]
theorem dN_nat {d : List Int} {v : Nat} : dN d (v : Int) = (d.getD v 0).toNat := by rw [dN, Int.toNat_natCast]
theorem AreP.get {a b : Rp} {fs : List Mat} (h : AreP a b fs) {v : Nat} (hv : v < fs.length) : ∃ m, fs[v]? = some m ∧ fs.getD v mat0 = m ∧ CellsP a.p m (dN b.d v) (dN a.d v) ∧ dN a.d v ≤ 4 ∧ dN b.d v ≤ 4 := by
  obtain ⟨m, h1, h2, h3⟩ := h.mat hv
  obtain ⟨_, m2, m3⟩ := h.2.2 v hv
  rw [h2] at m2 m3
  have ha := h.1.1.dg v
  have hb := h.1.2.1.dg v
  refine ⟨m, h1, h2, cellsP_of h3 (by rw [dN_nat]; omega) (by rw [dN_nat]; omega), by rw [dN_nat]; omega, by rw [dN_nat]; omega⟩
theorem mk_at {R C : Nat} {f g : Nat → Nat → Int} (h : mk R C f = mk R C g) {r c : Nat} (hr : r < R) (hc : c < C) : f r c = g r c := by
  rw [← mk_get (f := f) hr hc, h, mk_get hr hc]
/-- the equation of an arrow -/
theorem MorP.eqn {a b : Rp} {fs : List Mat} (h : MorP a b fs) {i : Nat} (hi : i < a.q.2.1.length) : ∃ (s t : Nat), a.q.2.1.getD i 0 = s ∧ a.q.2.2.getD i 0 = t ∧ s < fs.length ∧ t < fs.length ∧
    ∀ r c, r < dN b.d t → c < dN a.d s → mulF a.p (dN b.d s) (matF (b.m.getD i mat0)) (matF (fs.getD s mat0)) r c = mulF a.p (dN a.d t) (matF (fs.getD t mat0)) (matF (a.m.getD i mat0)) r c := by
  obtain ⟨s, t, _, _, _, _, _, _, _, _, es, et, hs, ht, _⟩ := mor_at h.1 hi
  refine ⟨s, t, es, et, hs, ht, fun r c hr hc => ?_⟩
  have := h.2 i hi
  rw [es, et] at this
  have := mk_at this hr hc
  simp only [firF, secF, es, et, Int.toNat_natCast] at this
  exact this
theorem mor_of {a b : Rp} {fs : List Mat} (h : AreP a b fs) (he : ∀ (i s t : Nat), i < a.q.2.1.length → a.q.2.1.getD i 0 = s → a.q.2.2.getD i 0 = t → s < fs.length → t < fs.length →
    ∀ r c, r < dN b.d t → c < dN a.d s → mulF a.p (dN b.d s) (matF (b.m.getD i mat0)) (matF (fs.getD s mat0)) r c = mulF a.p (dN a.d t) (matF (fs.getD t mat0)) (matF (a.m.getD i mat0)) r c) : MorP a b fs := by
  refine ⟨h, fun i hi => ?_⟩
  obtain ⟨s, t, _, _, _, _, _, _, _, _, es, et, hs, ht, _⟩ := mor_at h hi
  rw [es, et]
  refine mk_ext (fun r c hr hc => ?_)
  have := he i s t hi es et hs ht r c hr hc
  simp only [firF, secF, es, et, Int.toNat_natCast]
  exact this
/-- matrices given by functions -/
abbrev mkM (R C : Nat) (f : Nat → Nat → Int) : Mat := ((R : Int), (C : Int), mk R C f)
theorem are_of {a b : Rp} {F : Nat → Nat → Nat → Int} (hf : FitP a b) (hF : ∀ v, v < a.d.length → inF a.p (dN b.d v) (dN a.d v) (F v)) {ms : List Mat} (hm : ms = tabM (fun v => mkM (dN b.d v) (dN a.d v) (F v)) a.d.length) :
    AreP a b ms ∧ ∀ v, v < a.d.length → ∀ i j, i < dN b.d v → j < dN a.d v → matF (ms.getD v mat0) i j = F v i j := by
  have hg : ∀ v, v < a.d.length → ms.getD v mat0 = mkM (dN b.d v) (dN a.d v) (F v) := fun v hv => by
    subst hm
    simp [tabM, List.getD, hv]
  have hl : ms.length = a.d.length := by subst hm; simp [tabM]
  refine ⟨⟨hf, hl, fun v hv => ?_⟩, fun v hv i j hi hj => by rw [hg v hv]; exact matF_mk hi hj⟩
  have ha := hf.1.dg v
  have hb := hf.2.1.dg v
  rw [ElemP, hg v om]
  refine ⟨matP_of hf.1.1 (by rw [dN_nat]; omega) (by rw [dN_nat]; omega) (hF v om), ?_, ?_⟩
  · simp only [dN_nat]; omega
  · simp only [dN_nat]; omega
theorem tabM_ext {F G : Nat → Mat} {n : Nat} (h : ∀ v, v < n → F v = G v) : tabM F n = tabM G n := List.map_congr_left (fun v hv => h v (List.mem_range.1 hv))
theorem FitP.tr {a b c : Rp} (h : FitP a b) (h' : FitP b c) : FitP a c := ⟨h.1, h'.2.1, h.2.2.1.trans h'.2.2.1, h.2.2.2.trans h'.2.2.2⟩
theorem FitP.sy {a b : Rp} (h : FitP a b) : FitP b a := ⟨h.2.1, h.1, h.2.2.1.symm, h.2.2.2.symm⟩
theorem FitP.rf {a : Rp} (h : RepP a) : FitP a a := ⟨h, h, rfl, rfl⟩
theorem cmp_fn {a b c : Rp} {fs gs : List Mat} (h : AreP a b fs) (h' : AreP b c gs) : cmpL a.p fs gs = tabM (fun v => mkM (dN c.d v) (dN a.d v) (mulF a.p (dN b.d v) (matF (gs.getD v mat0)) (matF (fs.getD v mat0)))) a.d.length := by
  rw [cmpL, h.2.1]
  refine tabM_ext (fun v hv => ?_)
  have hl' := h'.2.1
  have hd := h.1.dl
  obtain ⟨f, _, f2, f3, _⟩ := h.get (v := v) (by have := h.2.1; omega)
  obtain ⟨g, _, g2, g3, _⟩ := h'.get (v := v) om
  simp only [cmpM, f2, g2, f3.1, f3.2.1, g3.1, Int.toNat_natCast]
theorem com_mor {a b c : Rp} {fs gs : List Mat} (h : MorP a b fs) (h' : MorP b c gs) : MorP a c (cmpL a.p fs gs) := by
  have hF := h.1.1.1.1
  have hp := h.1.1.2.2.1
  have hq := h.1.1.2.2.2
  have hd := h.1.1.dl
  have hl := h.1.2.1
  have hp0 := fieldP_pos hF
  obtain ⟨hA, hG⟩ := are_of (h.1.1.tr h'.1.1) (fun v _ => inF_mul (p := a.p) (N := dN b.d v) (f := matF (gs.getD v mat0)) (g := matF (fs.getD v mat0)) om) (cmp_fn h.1 h'.1)
  refine mor_of hA (fun i s t hi es et hs ht r q hr hq' => ?_)
  obtain ⟨s1, t1, es1, et1, hs1, ht1, e1⟩ := h.eqn hi
  have : s1 = s := by omega
  have : t1 = t := by omega
  subst s1; subst t1
  obtain ⟨s2, t2, es2, et2, _, _, e2⟩ := h'.eqn (i := i) (by rw [← hq]; exact hi)
  rw [← hq] at es2 et2
  have : s2 = s := by omega
  have : t2 = t := by omega
  subst s2; subst t2
  rw [← hp] at e2
  have hk := comm_comp e1 e2 r q hr hq'
  rw [mulF_ext (f := matF (c.m.getD i mat0)) (f' := matF (c.m.getD i mat0)) (g' := mulF a.p (dN b.d s) (matF (gs.getD s mat0)) (matF (fs.getD s mat0))) (fun _ _ => rfl) (fun k hk => hG s om k q hk hq'), hk]
  exact mulF_ext (fun k hk => (hG t om r k hr hk).symm) (fun _ _ => rfl)
theorem RepP.arrow {r : Rp} (h : RepP r) {i s t : Nat} (hi : i < r.q.2.1.length) (es : r.q.2.1.getD i 0 = s) (et : r.q.2.2.getD i 0 = t) : CellsP r.p (r.m.getD i mat0) (dN r.d t) (dN r.d s) := by
  have hd := h.dg
  obtain ⟨m1, m2, m3⟩ := h.2.2.2 i (by have := h.2.2.1; omega)
  rw [es, Int.toNat_natCast] at m2
  rw [et, Int.toNat_natCast] at m3
  have h1 := hd s
  have h2 := hd t
  exact cellsP_of m1 (by rw [dN_nat]; omega) (by rw [dN_nat]; omega)
/-! ### isomorphisms -/
theorem IsoP.dd {a b : Rp} {ms : List Mat} (h : IsoP a b ms) : a.d = b.d := h.1.2.symm.trans h.2.2
theorem iso_fn {a b : Rp} {ms : List Mat} (h : IsoP a b ms) : ivmL a b ms = tabM (fun v => mkM (dN a.d v) (dN b.d v) (invF a.p (dN a.d v) (matF (ms.getD v mat0)))) b.d.length ∧
    ∀ v, v < a.d.length → inF a.p (dN a.d v) (dN a.d v) (matF (ms.getD v mat0)) ∧ (redTo a.p (dN a.d v) (matF (ms.getD v mat0)) (dN a.d v)).2.length = dN a.d v := by
  have hl := h.1.1.1.2.1
  have hdd := h.dd
  rw [ivmL, if_pos h, hl, ← hdd]
  have hk : ∀ v, v < a.d.length → ∃ m, ms.getD v mat0 = m ∧ CellsP a.p m (dN a.d v) (dN a.d v) ∧ (redTo a.p (dN a.d v) (matF m) (dN a.d v)).2.length = dN a.d v ∧ ivmM a.p ms v = mkM (dN a.d v) (dN a.d v) (invF a.p (dN a.d v) (matF m)) := fun v hv => by
    obtain ⟨m, _, m2, m3, _⟩ := h.1.1.1.get (v := v) om
    obtain ⟨n, m', _, k2, _, k3, k4, k5⟩ := iso_at h (i := v) om
    rw [m2] at k2; subst k2
    have : n = dN a.d v := by have := k3.2.1; have := m3.2.1; omega
    subst this
    exact ⟨m, m2, k3, k4, k5⟩
  refine ⟨tabM_ext (fun v hv => ?_), fun v hv => ?_⟩
  · obtain ⟨m, m2, _, _, k5⟩ := hk v hv
    rw [k5, m2]
  · obtain ⟨m, m2, k3, k4, _⟩ := hk v hv
    rw [m2]; exact ⟨k3.2.2.2, k4⟩
theorem ivm_mor {a b : Rp} {ms : List Mat} (h : IsoP a b ms) : MorP b a (ivmL a b ms) := by
  have hM := h.1.1
  have hF := hM.1.1.1.1
  have hp := hM.1.1.2.2.1
  have hq := hM.1.1.2.2.2
  have hl := hM.1.2.1
  have hdd := h.dd
  obtain ⟨h1, h2⟩ := iso_fn h
  rw [← hdd] at h1
  obtain ⟨hA, hG⟩ := are_of (ms := ivmL a b ms) (a := b) (b := a) (F := fun v => invF a.p (dN a.d v) (matF (ms.getD v mat0))) hM.1.1.sy (fun v hv => by rw [← hp, ← hdd]; exact invF_rng hF (h2 v (by rw [hdd]; exact hv)).1) (by rw [← hdd]; exact h1)
  refine mor_of hA (fun i s t hi es et hs ht r q hr hq' => ?_)
  rw [← hq] at hi es et
  obtain ⟨s1, t1, es1, et1, hs1, ht1, e1⟩ := hM.eqn hi
  have : s1 = s := by omega
  have : t1 = t := by omega
  subst s1; subst t1
  have hs' : s < a.d.length := by omega
  have ht' : t < a.d.length := by omega
  have ivs := inv_sides hF (h2 s hs').1 (h2 s hs').2
  have ivt := inv_sides hF (h2 t ht').1 (h2 t ht').2
  have cA := hM.1.1.1.arrow hi es et
  have cB := hM.1.1.2.1.arrow (i := i) (by rw [← hq]; exact hi) (by rw [← hq]; exact es) (by rw [← hq]; exact et)
  rw [← hdd] at hq' hG e1 cB ⊢
  rw [← hp] at cB ⊢
  have := comm_inv cA.2.2.2 cB.2.2.2 e1 ivs.1 ivt.2 r q hr hq'
  rw [mulF_ext (f := matF (a.m.getD i mat0)) (f' := matF (a.m.getD i mat0)) (g' := invF a.p (dN a.d s) (matF (ms.getD s mat0))) (fun _ _ => rfl) (fun k hk => hG s hs' k q hk hq'), this]
  exact mulF_ext (fun k hk => (hG t ht' r k hr hk).symm) (fun _ _ => rfl)
/-- an isomorphism and then its inverse -/
theorem ivm_id {a b : Rp} {ms : List Mat} (h : IsoP a b ms) : comL a b a ms (ivmL a b ms) = idL a ∧ ComP a b a ms (ivmL a b ms) := by
  have hM := h.1.1
  have hI := ivm_mor h
  have hF := hM.1.1.1.1
  have hdd := h.dd
  have hl := hM.1.2.1
  have hC : ComP a b a ms (ivmL a b ms) := ⟨hM, hI⟩
  refine ⟨?_, hC⟩
  rw [comL, if_pos hC, cmp_fn hM.1 hI.1, idL, if_pos hM.1.1.1]
  obtain ⟨h1, h2⟩ := iso_fn h
  rw [← hdd] at h1
  have hg : ∀ v, v < a.d.length → ∀ i j, i < dN a.d v → j < dN a.d v → matF ((ivmL a b ms).getD v mat0) i j = invF a.p (dN a.d v) (matF (ms.getD v mat0)) i j := fun v hv i j hi hj => by
    rw [h1]
    have : (tabM (fun v => mkM (dN a.d v) (dN a.d v) (invF a.p (dN a.d v) (matF (ms.getD v mat0)))) a.d.length).getD v mat0 = mkM (dN a.d v) (dN a.d v) (invF a.p (dN a.d v) (matF (ms.getD v mat0))) := by
      simp [tabM, List.getD, hv]
    rw [this]; exact matF_mk hi hj
  show tabM _ _ = tabM (idM a.d) a.d.length
  refine tabM_ext (fun v hv => ?_)
  rw [idM, ← dN_nat]
  refine Prod.ext rfl (Prod.ext rfl (mk_ext (fun i j hi hj => ?_)))
  have iv := inv_sides hF (h2 v hv).1 (h2 v hv).2
  rw [← hdd, mulF_ext (fun k hk => hg v hv i k hi hk) (g' := matF (ms.getD v mat0)) (fun _ _ => rfl)]
  exact iv.2 i j hi hj
/-! ### full rank -/
theorem ind_of_right {p : Int} {n : Nat} {f g : Nat → Nat → Int} (h : ∀ i j, i < n → j < n → mulF p n f g i j = idF i j) : Ind p n f 0 n := fun c hc i0 hi0 => by
  have h1 : p ∣ sumN (fun j => sumN (fun i => c i * f i j) n * g j i0) n := by
    have := dvd_sumN (p := p) (f := fun j => sumN (fun i => c i * f i j) n * g j i0) (g := fun _ => 0) (n := n) (fun j hj => by
      rw [Int.sub_zero]
      exact Int.dvd_trans (hc j (Nat.zero_le _) hj) (Int.dvd_mul_right ..))
    rw [sumN_zero, Int.sub_zero] at this
    exact this
  have e1 : sumN (fun j => sumN (fun i => c i * f i j) n * g j i0) n = sumN (fun i => c i * sumN (fun j => f i j * g j i0) n) n := by
    rw [sumN_congr (g := fun j => sumN (fun i => c i * f i j * g j i0) n) (fun j _ => sumN_mul.symm), sumN_comm]
    refine sumN_congr (fun i _ => ?_)
    rw [← sumN_mull]
    exact sumN_congr (fun j _ => Int.mul_assoc ..)
  have h2 : p ∣ sumN (fun i => c i * sumN (fun j => f i j * g j i0) n) n - sumN (fun i => if i = i0 then c i else 0) n := dvd_sumN (fun i hi => by
    have hm := mulF_dvd (p := p) (N := n) (f := f) (g := g) (i := i) (j := i0)
    rw [h i i0 hi hi0] at hm
    obtain ⟨k, hk⟩ := hm
    refine ⟨-(c i * k), ?_⟩
    have : sumN (fun j => f i j * g j i0) n = idF i i0 - p * k := by omega
    rw [this]
    unfold idF
    split <;> grind)
  rw [e1] at h1
  rw [sumN_pick (f := c), if_pos hi0] at h2
  obtain ⟨x, hx⟩ := h1
  obtain ⟨y, hy⟩ := h2
  exact ⟨x - y, by rw [Int.mul_sub]; omega⟩
theorem full_of_ind {p : Int} {n : Nat} {f : Nat → Nat → Int} (hF : FieldP p) (hin : inF p n n f) (h : Ind p n f 0 n) : (redTo p n f n).2.length = n := by
  have hp := fieldP_pos hF
  have hI := ind_red hF hin h n (Nat.le_refl _)
  obtain ⟨r1, _, _, _, r5, _⟩ := redTo_rr hF hin n (Nat.le_refl _)
  apply Classical.byContradiction
  intro hne
  have hlt : (redTo p n f n).2.length < n := by omega
  have := hI (fun i => if i = (redTo p n f n).2.length then 1 else 0) (fun j _ hj => by
    rw [sumN_congr (g := fun _ => 0) (fun q hq => ?_), sumN_zero]
    · exact ⟨0, by omega⟩
    · split
      · rename_i hq'
        subst hq'
        rw [r5 _ j (Nat.le_refl _) hlt hj, Int.mul_zero]
      · exact Int.zero_mul _) (redTo p n f n).2.length hlt
  rw [if_pos rfl] at this
  obtain ⟨k, hk⟩ := this
  have : 0 < k := by
    rcases Int.lt_or_le 0 k with h | h
    · exact h
    · have := Int.mul_nonneg (show 0 ≤ p by omega) (show 0 ≤ -k by omega)
      rw [Int.mul_neg] at this; omega
  have := Int.mul_le_mul (show (2 : Int) ≤ p by omega) (show (1 : Int) ≤ k by omega) om om
  omega
theorem rk_id {p : Int} {n : Nat} (hF : FieldP p) : (redTo p n idF n).2.length = n := by
  have hp := fieldP_pos hF
  exact full_of_ind hF (inF_id om) (ind_of_right (g := idF) (fun i j hi hj => mul_idl hi (inF_id om i j hi hj)))
/-! ### identities and zeros -/
theorem id_iso {r : Rp} (h : RepP r) : IsoP r r (idL r) := by
  have hF := h.1
  have hp := fieldP_pos hF
  have e : idL r = tabM (fun v => mkM (dN r.d v) (dN r.d v) idF) r.d.length := by
    rw [idL, if_pos h]
    exact List.map_congr_left (fun v _ => by rw [idM, ← dN_nat])
  obtain ⟨hA, hG⟩ := are_of (F := fun _ => idF) (FitP.rf h) (fun v _ => inF_id om) e
  have hM : MorP r r (idL r) := mor_of hA (fun i s t hi es et hs ht x y hx hy => by
    have hl := hA.2.1
    have cA := h.arrow hi es et
    rw [mulF_ext (f := matF (r.m.getD i mat0)) (f' := matF (r.m.getD i mat0)) (g' := idF) (fun _ _ => rfl) (fun k hk => hG s om k y hk hy), mul_idr hy (cA.2.2.2 x y hx hy),
      mulF_ext (f' := idF) (g' := matF (r.m.getD i mat0)) (fun k hk => hG t om x k hx hk) (fun _ _ => rfl), mul_idl hx (cA.2.2.2 x y hx hy)])
  have hR : rkN r.p (idL r) (idL r).length = r.d := by
    have hl := hA.2.1
    refine List.ext_getElem? (fun v => ?_)
    rcases Nat.lt_or_ge v r.d.length with hv | hv
    · have h1 := rkN_get (p := r.p) (ms := idL r) (i := v) (n := (idL r).length) om
      have h2 : (rkN r.p (idL r) (idL r).length)[v]? = some ((rkN r.p (idL r) (idL r).length).getD v 0) := getD_some (by rw [rkN_len]; omega)
      have h3 : (idL r).getD v mat0 = mkM (dN r.d v) (dN r.d v) idF := by
        rw [e]; simp [tabM, List.getD, hv]
      rw [h2, h1, h3, redL_mk, rk_id hF, getD_some (z := 0) hv, dN_nat]
      have := h.dg v
      exact congrArg some om
    · rw [List.getElem?_eq_none (by rw [rkN_len]; omega), List.getElem?_eq_none hv]
  exact ⟨⟨hM, hR⟩, hM, hR⟩
theorem zm_mor {a b : Rp} (h : FitP a b) : MorP a b (zmL a b) := by
  have hF := h.1.1
  have hp := fieldP_pos hF
  have e : zmL a b = tabM (fun v => mkM (dN b.d v) (dN a.d v) (fun _ _ => 0)) a.d.length := by
    rw [zmL, if_pos h]
    exact List.map_congr_left (fun v _ => by rw [znM, ← dN_nat, ← dN_nat])
  obtain ⟨hA, hG⟩ := are_of (F := fun _ _ _ => 0) h (fun v _ i j _ _ => ⟨by show (0 : Int) ≤ 0; omega, by show (0 : Int) < a.p; omega⟩) e
  refine mor_of hA (fun i s t hi es et hs ht x y hx hy => ?_)
  have hl := hA.2.1
  rw [mulF_ext (f := matF (b.m.getD i mat0)) (f' := matF (b.m.getD i mat0)) (g' := fun _ _ => 0) (fun _ _ => rfl) (fun k hk => hG s om k y hk hy),
    mulF_ext (f' := fun _ _ => 0) (g' := matF (a.m.getD i mat0)) (fun k hk => hG t om x k hx hk) (fun _ _ => rfl), mulF_sum, mulF_sum,
    sumN_congr (g := fun _ => 0) (fun k _ => Int.mul_zero _), sumN_congr (f := fun k => 0 * _) (g := fun _ => 0) (fun k _ => Int.zero_mul _), sumN_zero, sumN_zero]
end Go.Proofs.YtijjkfbkihgfgaaGreat
