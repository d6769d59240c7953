import Derived.Test.YtnmhdmkfhacdbaaSubqE
import Derived.Test.YtnmhdmkfhacdbaaZsbqE
namespace Go.Proofs.Ytnmhdmkfhacdbaa
open Go.Lg Go.Proofs Go.RowKit

/-! ### the part that a vector generates: plain mathematics -/
/-- all spaces are such, and of the right sizes -/
def OkG (r : Rp) (o : List Sp) : Prop := o.length = r.d.length ∧ ∀ v, v < o.length → VrtP r o v
def stpG (r : Rp) (o : List Sp) (i : Nat) : List Sp := o.set (tN r i) (sumS r.p (o.getD (tN r i) sp0) (imsS r.p (r.m.getD i mat0) (o.getD (fN r i) sp0)))
def rndG (r : Rp) (o : List Sp) : Nat → List Sp
  | 0 => o
  | i + 1 => stpG r (rndG r o i) i
def seqG (r : Rp) (o : List Sp) : Nat → List Sp
  | 0 => o
  | k + 1 => rndG r (seqG r o k) r.m.length
def totG (o : List Sp) : Nat := (o.map (fun s => s.2.length)).sum
theorem totG_set : ∀ (o : List Sp) (t : Nat) (x B : Sp), o[t]? = some B → totG (o.set t x) + B.2.length = totG o + x.2.length
  | [], t, x, B, h => by simp at h
  | s :: o, 0, x, B, h => by
    simp at h; subst h
    simp only [List.set_cons_zero, totG, List.map_cons, List.sum_cons]
    omega
  | s :: o, t + 1, x, B, h => by
    have := totG_set o t x B (by simpa using h)
    simp only [List.set_cons_succ, totG, List.map_cons, List.sum_cons] at this ⊢
    omega
theorem totG_le : ∀ (o : List Sp) (d : List Int), o.length = d.length → (∀ v, v < o.length → ((o.getD v sp0).2.length : Int) ≤ d.getD v 0) → (totG o : Int) ≤ d.sum
  | [], [], _, _ => by simp [totG]
  | s :: o, x :: d, hl, h => by
    have h1 := totG_le o d (by simpa using hl) (fun v hv => by have := h (v + 1) (by simp; omega); simpa using this)
    have h2 := h 0 (by simp)
    simp only [List.getD_cons_zero] at h2
    simp only [totG, List.map_cons, List.sum_cons, Int.natCast_add] at h1 ⊢
    omega
/-- a sum with an image: it holds the first, and is the first if it has no more dimensions -/
theorem sum_same {p : Int} {C : Nat} {B M : List (List Int)} (hF : FieldP p) (hB : RowsP p C B) (hM : RowsP p C M) (hb : basL p C B = B) : B.length ≤ (basL p C (B ++ M)).length ∧ (B.length = (basL p C (B ++ M)).length → basL p C (B ++ M) = B) := by
  have hBM := hB.app hM
  have hsp : ∀ a ∈ B, SpnL p C (B ++ M) (vecF a) := fun a ha => spnL_mem (List.mem_append_left _ ha)
  have e1 : rkL p C B = B.length := by rw [← basL_len, hb]
  refine ⟨?_, fun h => ?_⟩
  · rw [basL_len, ← e1]
    exact rk_le hF hB hBM hsp
  · rw [basL_len] at h
    rw [← (red_same hF hB hBM hsp (by rw [e1]; exact h)).1]
    exact hb
theorem stpG_ok {r : Rp} {o : List Sp} {i : Nat} (hR : RepP r) (h : OkG r o) (hi : i < r.m.length) : OkG r (stpG r o i) ∧ totG o ≤ totG (stpG r o i) ∧ (totG (stpG r o i) = totG o → stpG r o i = o) := by
  obtain ⟨hl, hV⟩ := h
  obtain ⟨s, t, R, C, m, A, B, es, et, hsl, htl, hi1, hi2, fs, ft, hm, hA, hB, hR4, hC4, hM, _, hSA, hAC, hSB, hBR, hAr, hAn, hBr, hBn, hI, eI, _⟩ := sub_at hR hl hV hi
  have hF := hR.1
  have gm : r.m.getD i mat0 = m := by rw [List.getD, hm]; rfl
  have gA : o.getD s sp0 = A := by rw [List.getD, hA]; rfl
  have gB : o.getD t sp0 = B := by rw [List.getD, hB]; rfl
  have hir := basL_rows hF (imsL_rows (R := R) (C := C) (f := matF m) (l := A.2) hF)
  have hIs : SpcP r.p ((R : Int), basL r.p R (imsL r.p R C (matF m) A.2)) := spcP_span hF (by omega) (imsL_rows hF)
  have hS : SumP r.p B ((R : Int), basL r.p R (imsL r.p R C (matF m) A.2)) := ⟨hSB, hIs, hBR⟩
  have e0 : stpG r o i = o.set t ((R : Int), basL r.p R (B.2 ++ basL r.p R (imsL r.p R C (matF m) A.2))) := by
    unfold stpG
    rw [ft, fs, gm, gA, gB, eI, sumS, if_pos hS, hBR]
    rfl
  rw [e0]
  have hb0 : basL r.p R B.2 = B.2 := by
    have := hSB.2
    rw [hBR] at this
    exact this
  obtain ⟨k1, k2⟩ := sum_same hF hBr hir hb0
  have ht := totG_set o t ((R : Int), basL r.p R (B.2 ++ basL r.p R (imsL r.p R C (matF m) A.2))) B hB
  simp only at ht
  refine ⟨⟨by rw [List.length_set]; exact hl, fun v hv => ?_⟩, by omega, fun hh => ?_⟩
  · rw [List.length_set] at hv
    by_cases hvt : t = v
    · subst hvt
      have e1 : (o.set t ((R : Int), basL r.p R (B.2 ++ basL r.p R (imsL r.p R C (matF m) A.2)))).getD t sp0 = ((R : Int), basL r.p R (B.2 ++ basL r.p R (imsL r.p R C (matF m) A.2))) := by
        rw [List.getD, List.getElem?_set_self hv]; rfl
      unfold VrtP
      rw [e1]
      refine ⟨spcP_span hF (by omega) (hBr.app hir), ?_⟩
      have := (hV t hv).2
      rw [gB, hBR] at this
      exact this
    · have e1 : (o.set t ((R : Int), basL r.p R (B.2 ++ basL r.p R (imsL r.p R C (matF m) A.2)))).getD v sp0 = o.getD v sp0 := by
        rw [List.getD, List.getD, List.getElem?_set_ne hvt]
      unfold VrtP
      rw [e1]
      exact hV v hv
  · rw [k2 (by omega)]
    have e1 : ((R : Int), B.2) = B := Prod.ext hBR.symm rfl
    rw [e1]
    apply List.ext_getElem?
    intro q
    by_cases hq : t = q
    · subst hq
      rw [List.getElem?_set_self htl, hB]
    · rw [List.getElem?_set_ne hq]
theorem rndG_ok {r : Rp} {o : List Sp} (hR : RepP r) (h : OkG r o) : ∀ n, n ≤ r.m.length → OkG r (rndG r o n) ∧ totG o ≤ totG (rndG r o n) ∧ (totG (rndG r o n) = totG o → rndG r o n = o)
  | 0, _ => ⟨h, Nat.le_refl _, fun _ => rfl⟩
  | n + 1, hn => by
    obtain ⟨h1, h2, h3⟩ := rndG_ok hR h n (by omega)
    obtain ⟨k1, k2, k3⟩ := stpG_ok hR h1 (show n < r.m.length by omega)
    refine ⟨k1, Nat.le_trans h2 k2, fun e => ?_⟩
    have e' : totG (stpG r (rndG r o n) n) = totG o := e
    have e1 := h3 (by omega)
    show stpG r (rndG r o n) n = o
    rw [k3 (by omega), e1]
theorem seqG_ok {r : Rp} {o : List Sp} (hR : RepP r) (h : OkG r o) : ∀ k, OkG r (seqG r o k)
  | 0 => h
  | k + 1 => (rndG_ok hR (seqG_ok hR h k) r.m.length (Nat.le_refl _)).1
theorem totG_8 {r : Rp} {o : List Sp} (hR : RepP r) (h : OkG r o) : totG o ≤ 8 := by
  have h1 := totG_le o r.d h.1 (fun v hv => by
    obtain ⟨k1, k2⟩ := h.2 v hv
    obtain ⟨C, hc, _, _, _, _, hk, _⟩ := k1.rows
    have := rkL_le (p := r.p) (C := C) (M := (o.getD v sp0).2)
    omega)
  have h2 := hR.2.1.2.2.2
  omega
theorem seqG_stay {r : Rp} {o : List Sp} {k : Nat} (h : seqG r o (k + 1) = seqG r o k) : ∀ n, seqG r o (k + n) = seqG r o k
  | 0 => rfl
  | n + 1 => by
    have e : seqG r o (k + (n + 1)) = rndG r (seqG r o (k + n)) r.m.length := rfl
    rw [e, seqG_stay h n]
    exact h
/-- as soon as a round adds nothing, all has been added; so nine rounds are enough -/
theorem seqG_end {r : Rp} {o : List Sp} {k : Nat} (hR : RepP r) (h : OkG r o) (hk : k ≤ totG (seqG r o k)) (he : totG (seqG r o (k + 1)) = totG (seqG r o k)) : seqG r o (k + 1) = seqG r o 9 := by
  have h8 := totG_8 hR (seqG_ok hR h k)
  have e1 : seqG r o (k + 1) = seqG r o k := (rndG_ok hR (seqG_ok hR h k) r.m.length (Nat.le_refl _)).2.2 he
  have e2 := seqG_stay e1 (9 - k)
  rw [show k + (9 - k) = 9 by omega] at e2
  rw [e1, e2]
/-- where it begins -/
def begG (r : Rp) (v : Nat) (xs : List Int) : List Sp := (zsN r.d r.d.length).set v (r.d.getD v 0, basL r.p (r.d.getD v 0).toNat [xs])
theorem zsN_get (d : List Int) : ∀ n v, v < n → (zsN d n)[v]? = some (d.getD v 0, [])
  | n + 1, v, h => by
    rw [zsN]
    by_cases hv : v < n
    · rw [List.getElem?_append_left (by rw [zsN_len]; exact hv)]
      exact zsN_get d n v hv
    · have : v = n := by omega
      subst this
      rw [List.getElem?_append_right (by rw [zsN_len]; omega), zsN_len, Nat.sub_self]
      rfl
def GenP (r : Rp) (v : Int) (xs : List Int) : Prop := RepP r ∧ (0 ≤ v ∧ v < r.d.length) ∧ VecP r.p xs ∧ (xs.length : Int) = r.d.getD v.toNat 0
instance (r : Rp) (v : Int) (xs : List Int) : Decidable (GenP r v xs) := by unfold GenP; infer_instance
theorem spcP_nil {p : Int} {C : Nat} (hF : FieldP p) (hC : C ≤ 8) : SpcP p ((C : Int), []) := by
  have h : RowsP p C [] := fun x hx => by cases hx
  have e : basL p C [] = [] := by
    have := basL_len (p := p) (C := C) (M := [])
    have h2 : rkL p C [] ≤ 0 := (redTo_rr hF h.inF C (Nat.le_refl _)).1
    exact List.eq_nil_of_length_eq_zero (by omega)
  have := spcP_span hF hC h
  rwa [e] at this
theorem begG_ok {r : Rp} {v : Nat} {xs : List Int} (hR : RepP r) (hv : v < r.d.length) (hx : VecP r.p xs) (hl : (xs.length : Int) = r.d.getD v 0) : OkG r (begG r v xs) := by
  have hF := hR.1
  refine ⟨by unfold begG; rw [List.length_set, zsN_len], fun q hq => ?_⟩
  unfold begG at hq
  rw [List.length_set, zsN_len] at hq
  have hd := hR.dg q
  by_cases hqv : v = q
  · subst hqv
    have e1 : (begG r v xs).getD v sp0 = (r.d.getD v 0, basL r.p (r.d.getD v 0).toNat [xs]) := by
      unfold begG
      rw [List.getD, List.getElem?_set_self (by rw [zsN_len]; exact hv)]; rfl
    unfold VrtP
    rw [e1]
    obtain ⟨C, hC⟩ : ∃ C : Nat, r.d.getD v 0 = C := ⟨(r.d.getD v 0).toNat, by omega⟩
    rw [hC] at hl ⊢
    exact ⟨spcP_span hF (by omega) (fun y hy => by simp at hy; subst hy; exact ⟨by omega, hx.2.2⟩), rfl⟩
  · have e1 : (begG r v xs).getD q sp0 = (r.d.getD q 0, []) := by
      unfold begG
      rw [List.getD, List.getElem?_set_ne hqv, zsN_get _ _ _ hq]; rfl
    unfold VrtP
    rw [e1]
    obtain ⟨C, hC⟩ : ∃ C : Nat, r.d.getD q 0 = C := ⟨(r.d.getD q 0).toNat, by omega⟩
    rw [hC]
    exact ⟨spcP_nil hF (by omega), rfl⟩
def genL (r : Rp) (v : Int) (xs : List Int) : List Sp := if GenP r v xs then seqG r (begG r v.toNat xs) 9 else []
end Go.Proofs.Ytnmhdmkfhacdbaa
