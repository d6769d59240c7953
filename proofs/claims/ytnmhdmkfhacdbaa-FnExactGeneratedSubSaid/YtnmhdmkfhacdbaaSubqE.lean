import Derived.Test.YtnmhdmkfhacdbaaCopqE
import Derived.Test.YtnmhdmkfhacdbaaImsqE
import Derived.Test.YtnmhdmkfhacdbaaLCqE
import Derived.Test.YtnmhdmkfhacdbaaLEqE
import Derived.Test.YtnmhdmkfhacdbaaMatqE
import Derived.Test.YtnmhdmkfhacdbaaPatqE
import Derived.Test.YtnmhdmkfhacdbaaRepqE
namespace Go.Proofs.Ytnmhdmkfhacdbaa
open Go.Lg Go.Proofs Go.RowKit

/-! ### the reduced rows of reduced rows -/
theorem basL_get {p : Int} {C : Nat} {M : List (List Int)} {x : List Int} (h : x ∈ basL p C M) : ∃ i, i < rkL p C M ∧ x = mkv C ((redTo p M.length (rowsF M) C).1 i) := by
  simp only [basL, rowL, List.mem_map, List.mem_range] at h
  obtain ⟨i, hi, rfl⟩ := h
  exact ⟨i, hi, rfl⟩
theorem vecF_mkv {C j : Nat} {g : Nat → Int} (h : j < C) : vecF (mkv C g) j = g j := mkv_get h
theorem basL_rows {p : Int} {C : Nat} {M : List (List Int)} (hF : FieldP p) (hM : RowsP p C M) : RowsP p C (basL p C M) := fun x hx => by
  have hp := fieldP_pos hF
  obtain ⟨i, hi, rfl⟩ := basL_get hx
  have r1 := redTo_rr hF hM.inF C (Nat.le_refl _)
  have hle : rkL p C M ≤ M.length := r1.1
  have hin := redTo_in (p := p) (by omega) hM.inF C
  refine ⟨by simp, fun y hy => ?_⟩
  obtain ⟨q, hq, rfl⟩ := List.mem_map.1 hy
  have := hin.1 i q (by omega) (List.mem_range.1 hq)
  omega
theorem basL_spn {p : Int} {C : Nat} {M : List (List Int)} (hF : FieldP p) (hM : RowsP p C M) : ∀ x ∈ basL p C M, SpnL p C M (vecF x) := fun x hx => by
  obtain ⟨i, hi, rfl⟩ := basL_get hx
  have r1 := redTo_rr hF hM.inF C (Nat.le_refl _)
  have hle : rkL p C M ≤ M.length := r1.1
  have s1 := (redTo_spn hF hM.inF C (Nat.le_refl _)).1 i (by omega)
  exact Spn.congr s1 (fun j hj => by rw [vecF_mkv hj, Int.sub_self]; exact Int.dvd_zero p)
theorem basL_spn' {p : Int} {C : Nat} {M : List (List Int)} (hF : FieldP p) (hM : RowsP p C M) : ∀ x ∈ M, SpnL p C (basL p C M) (vecF x) := fun x hx => by
  have h := (spn_red hF hM).1 (spnL_mem hx)
  refine Spn.mono (fun i hi => ?_) h
  have hb : i < (basL p C M).length := by rw [basL_len]; exact hi
  refine Spn.congr (Spn.row hb) (fun j hj => ?_)
  have e : rowsF (basL p C M) i j = (redTo p M.length (rowsF M) C).1 i j := by
    unfold rkL at hi
    simp only [rowsF, basL, rowL, List.getD]
    rw [List.getElem?_map, List.getElem?_range hi]
    exact mkv_get hj
  rw [e, Int.sub_self]
  exact Int.dvd_zero p
theorem basL_idem {p : Int} {C : Nat} {M : List (List Int)} (hF : FieldP p) (hM : RowsP p C M) : basL p C (basL p C M) = basL p C M := basL_span hF (basL_rows hF hM) hM (basL_spn hF hM) (basL_spn' hF hM)
theorem rkL_le {p : Int} {C : Nat} {M : List (List Int)} : rkL p C M ≤ C := redL_length C
theorem spcP_span {p : Int} {C : Nat} {M : List (List Int)} (hF : FieldP p) (hC : C ≤ 8) (hM : RowsP p C M) : SpcP p ((C : Int), basL p C M) := by
  have hl := rkL_le (p := p) (C := C) (M := M)
  rw [← basL_len] at hl
  refine ⟨⟨hF, ⟨by simp only; omega, by simp only; omega⟩, by simp only; omega, fun v hv => ?_⟩, ?_⟩
  · obtain ⟨h1, h2⟩ := basL_rows hF hM v hv
    exact ⟨by simp only; omega, hF, by omega, h2⟩
  · simp only [Int.toNat_natCast]
    exact basL_idem hF hM
end Go.Proofs.Ytnmhdmkfhacdbaa

namespace Go.Proofs.Ytnmhdmkfhacdbaa
open Go.Lg Go.Proofs Go.RowKit
attribute [local irreducible] Code.wp wpList bodyPost Exit.then Exit.inBlock Hp Again Calls Y AT ResV QT Qn QI wpAny wpAnyQ
set_option maxRecDepth 20000
set_option maxHeartbeats 4000000

/-! ### the map along a path -/
theorem matP_cells {p : Int} {m : Mat} (h : MatP p m) : ∃ R C : Nat, m.1 = R ∧ m.2.1 = C ∧ R ≤ 8 ∧ C ≤ 8 ∧ m.2.2 = mk R C (matF m) ∧ inF p R C (matF m) := by
  obtain ⟨R, C, f, rfl, hR, hC, _, hin⟩ := matP_mk h
  refine ⟨R, C, rfl, rfl, hR, hC, mk_ext (fun i j hi hj => (matF_mk hi hj).symm), fun i j hi hj => ?_⟩
  rw [matF_mk hi hj]
  exact hin i j hi hj
theorem RepP.dg {r : Rp} (h : RepP r) (n : Nat) : 0 ≤ r.d.getD n 0 ∧ r.d.getD n 0 ≤ 4 := (RepP.dd h).1 n
end Go.Proofs.Ytnmhdmkfhacdbaa

namespace Go.Proofs.Ytnmhdmkfhacdbaa
open Go.Lg Go.Proofs Go.RowKit
attribute [local irreducible] Code.wp wpList bodyPost Exit.then Exit.inBlock Hp Again Calls Y AT ResV QT Qn QI wpAny wpAnyQ
set_option maxRecDepth 20000
set_option maxHeartbeats 4000000

/-! ### sums of matrices, zero matrices -/
/-! ### morphisms -/
def CellsP (p : Int) (m : Mat) (R C : Nat) : Prop := m.1 = R ∧ m.2.1 = C ∧ m.2.2 = mk R C (matF m) ∧ inF p R C (matF m)
theorem cellsP_of {p : Int} {m : Mat} {R C : Nat} (h : MatP p m) (h1 : m.1 = R) (h2 : m.2.1 = C) : CellsP p m R C := by
  obtain ⟨R', C', e1, e2, _, _, e3, e4⟩ := matP_cells h
  have r1 : R' = R := by omega
  have r2 : C' = C := by omega
  subst r1; subst r2
  exact ⟨e1, e2, e3, e4⟩
end Go.Proofs.Ytnmhdmkfhacdbaa

namespace Go.Proofs.Ytnmhdmkfhacdbaa
open Go.Lg Go.Proofs Go.RowKit
attribute [local irreducible] Code.wp wpList bodyPost Exit.then Exit.inBlock Hp Again Calls Y AT ResV QT Qn QI wpAny wpAnyQ
set_option maxRecDepth 20000
set_option maxHeartbeats 4000000

/-! ### parts of a representation -/
def fN (r : Rp) (i : Nat) : Nat := (r.q.2.1.getD i 0).toNat
def tN (r : Rp) (i : Nat) : Nat := (r.q.2.2.getD i 0).toNat
def VrtP (r : Rp) (ss : List Sp) (v : Nat) : Prop := SpcP r.p (ss.getD v sp0) ∧ (ss.getD v sp0).1 = r.d.getD v 0
instance (r : Rp) (ss : List Sp) (v : Nat) : Decidable (VrtP r ss v) := by unfold VrtP; infer_instance
def ArwP (r : Rp) (ss : List Sp) (i : Nat) : Prop := WthP r.p (imsS r.p (r.m.getD i mat0) (ss.getD (fN r i) sp0)) (ss.getD (tN r i) sp0)
instance (r : Rp) (ss : List Sp) (i : Nat) : Decidable (ArwP r ss i) := by unfold ArwP; infer_instance
/-- what there is at an arrow -/
theorem sub_at {r : Rp} {ss : List Sp} {i : Nat} (hR : RepP r) (hl : ss.length = r.d.length) (hV : ∀ v, v < ss.length → VrtP r ss v) (hi : i < r.m.length) :
    ∃ (s t R C : Nat) (m : Mat) (A B : Sp), r.q.2.1.getD i 0 = s ∧ r.q.2.2.getD i 0 = t ∧ s < ss.length ∧ t < ss.length ∧ i < r.q.2.1.length ∧ i < r.q.2.2.length ∧ fN r i = s ∧ tN r i = t ∧
      r.m[i]? = some m ∧ ss[s]? = some A ∧ ss[t]? = some B ∧ R ≤ 4 ∧ C ≤ 4 ∧ MatP r.p m ∧ CellsP r.p m R C ∧ SpcP r.p A ∧ A.1 = C ∧ SpcP r.p B ∧ B.1 = R ∧ RowsP r.p C A.2 ∧ A.2.length ≤ 8 ∧ RowsP r.p R B.2 ∧ B.2.length ≤ 8 ∧
      ImsP r.p m A ∧ imsS r.p m A = ((R : Int), basL r.p R (imsL r.p R C (matF m) A.2)) ∧
      (ArwP r ss i ↔ rkL r.p R (basL r.p R (imsL r.p R C (matF m) A.2) ++ B.2) = B.2.length) := by
  have hF := hR.1
  have hQ := hR.2.1.1
  have hml := hR.2.2.1
  have hdl := hR.2.1.2.1
  have hi1 : i < r.q.2.1.length := by omega
  have hi2 : i < r.q.2.2.length := by have := hQ.2.2.1; omega
  have hs := inP_get hQ.2.2.2.1 (i := i) hi1
  have ht := inP_get hQ.2.2.2.2 (i := i) hi2
  obtain ⟨s, es⟩ : ∃ s : Nat, r.q.2.1.getD i 0 = s := ⟨(r.q.2.1.getD i 0).toNat, by omega⟩
  obtain ⟨t, et⟩ : ∃ t : Nat, r.q.2.2.getD i 0 = t := ⟨(r.q.2.2.getD i 0).toNat, by omega⟩
  have fs : fN r i = s := by unfold fN; rw [es]; rfl
  have ft : tN r i = t := by unfold tN; rw [et]; rfl
  have hsl : s < ss.length := by omega
  have htl : t < ss.length := by omega
  obtain ⟨m, hm⟩ : ∃ m, r.m[i]? = some m := ⟨_, List.getElem?_eq_getElem hi⟩
  obtain ⟨A, hA⟩ : ∃ A, ss[s]? = some A := ⟨_, List.getElem?_eq_getElem hsl⟩
  obtain ⟨B, hB⟩ : ∃ B, ss[t]? = some B := ⟨_, List.getElem?_eq_getElem htl⟩
  have gm : r.m.getD i mat0 = m := by rw [List.getD, hm]; rfl
  have gA : ss.getD s sp0 = A := by rw [List.getD, hA]; rfl
  have gB : ss.getD t sp0 = B := by rw [List.getD, hB]; rfl
  obtain ⟨m1, m2, m3⟩ := hR.2.2.2 i hi
  rw [gm] at m1 m2 m3
  rw [es, Int.toNat_natCast] at m2
  rw [et, Int.toNat_natCast] at m3
  obtain ⟨a1, a2⟩ := hV s hsl
  obtain ⟨b1, b2⟩ := hV t htl
  rw [gA] at a1 a2
  rw [gB] at b1 b2
  have d1 := hR.dg s
  have d2 := hR.dg t
  obtain ⟨C, hc, _, al, _, an, _⟩ := a1.rows
  obtain ⟨R, hr, _, bl, _, bn, _⟩ := b1.rows
  have c1 := cellsP_of (R := R) (C := C) m1 (by omega) (by omega)
  have hI : ImsP r.p m A := ⟨m1, a1, by omega⟩
  have e1 : m.1.toNat = R := by omega
  have e2 : m.2.1.toNat = C := by omega
  have e0 : imsS r.p m A = ((R : Int), basL r.p R (imsL r.p R C (matF m) A.2)) := by
    rw [imsS, if_pos hI, e1, e2]
    exact Prod.ext (by simp only; omega) rfl
  refine ⟨s, t, R, C, m, A, B, es, et, hsl, htl, hi1, hi2, fs, ft, hm, hA, hB, by omega, by omega, m1, c1, a1, hc, b1, hr, al, an, bl, bn, hI, e0, ?_⟩
  unfold ArwP WthP
  rw [fs, ft, gm, gA, gB, e0]
  simp only [Int.toNat_natCast]
  exact ⟨fun h => h.2, fun h => ⟨⟨spcP_span hF (by omega) (imsL_rows hF), b1, by rw [hr]⟩, h⟩⟩
end Go.Proofs.Ytnmhdmkfhacdbaa
