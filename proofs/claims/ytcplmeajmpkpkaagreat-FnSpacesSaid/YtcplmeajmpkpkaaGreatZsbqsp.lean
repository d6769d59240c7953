import Derived.Test.YtcplmeajmpkpkaaGreatImsqsp
import Derived.Test.YtcplmeajmpkpkaaGreatMorqsp
import Derived.Test.YtcplmeajmpkpkaaGreatSpdqsp
namespace Go.Proofs.YtcplmeajmpkpkaaGreat
open Go.Lg Go.Proofs Go.RowKit

theorem basL_get {p : Int} {C : Nat} {M : List (List Int)} {x : List Int} (h : x ∈ basL p C M) : ∃ i, i < rkL p C M ∧ x = mkv C ((redTo p M.length (rowsF M) C).1 i) := by
  simp only [basL, rowL, List.mem_map, List.mem_range] at h
  obtain ⟨i, hi, rfl⟩ := h
  exact ⟨i, hi, rfl⟩
theorem vecF_mkv {C j : Nat} {g : Nat → Int} (h : j < C) : vecF (mkv C g) j = g j := mkv_get h
theorem basL_rows {p : Int} {C : Nat} {M : List (List Int)} (hF : FieldP p) (hM : RowsP p C M) : RowsP p C (basL p C M) := fun x hx => by
  have hp := fieldP_pos hF
  obtain ⟨i, hi, rfl⟩ := basL_get hx
  have r1 := redTo_rr hF hM.inF C (Nat.le_refl _)
  have hle : rkL p C M ≤ M.length := r1.1
  have hin := redTo_in (p := p) om hM.inF C
  refine ⟨by simp, fun y hy => ?_⟩
  obtain ⟨q, hq, rfl⟩ := List.mem_map.1 hy
  have := hin.1 i q om (List.mem_range.1 hq)
  omega
theorem basL_spn {p : Int} {C : Nat} {M : List (List Int)} (hF : FieldP p) (hM : RowsP p C M) : ∀ x ∈ basL p C M, SpnL p C M (vecF x) := fun x hx => by
  obtain ⟨i, hi, rfl⟩ := basL_get hx
  have r1 := redTo_rr hF hM.inF C (Nat.le_refl _)
  have hle : rkL p C M ≤ M.length := r1.1
  have s1 := (redTo_spn hF hM.inF C (Nat.le_refl _)).1 i om
  exact Spn.congr s1 (fun j hj => by rw [vecF_mkv hj, Int.sub_self]; exact Int.dvd_zero p)
theorem basL_spn' {p : Int} {C : Nat} {M : List (List Int)} (hF : FieldP p) (hM : RowsP p C M) : ∀ x ∈ M, SpnL p C (basL p C M) (vecF x) := fun x hx => by
  have h := (spn_red hF hM).1 (spnL_mem hx)
  refine Spn.mono (fun i hi => ?_) h
  have hb : i < (basL p C M).length := by rw [basL_len]; exact hi
  refine Spn.congr (Spn.row hb) (fun j hj => ?_)
  have e : rowsF (basL p C M) i j = (redTo p M.length (rowsF M) C).1 i j := by
    unfold rkL at hi
    simp only [rowsF, basL, rowL, List.getD]
    rw [List.getElem?_map, List.getElem?_range hi]
    exact mkv_get hj
  rw [e, Int.sub_self]
  exact Int.dvd_zero p
theorem basL_idem {p : Int} {C : Nat} {M : List (List Int)} (hF : FieldP p) (hM : RowsP p C M) : basL p C (basL p C M) = basL p C M := basL_span hF (basL_rows hF hM) hM (basL_spn hF hM) (basL_spn' hF hM)
theorem rkL_le {p : Int} {C : Nat} {M : List (List Int)} : rkL p C M ≤ C := redL_length C
theorem spcP_span {p : Int} {C : Nat} {M : List (List Int)} (hF : FieldP p) (hC : C ≤ 8) (hM : RowsP p C M) : SpcP p ((C : Int), basL p C M) := by
  have hl := rkL_le (p := p) (C := C) (M := M)
  rw [← basL_len] at hl
  refine ⟨⟨hF, ⟨by simp only; omega, by simp only; omega⟩, by simp only; omega, fun v hv => ?_⟩, ?_⟩
  · obtain ⟨h1, h2⟩ := basL_rows hF hM v hv
    exact ⟨by simp only; omega, hF, by omega, h2⟩
  · simp only [Int.toNat_natCast]
    exact basL_idem hF hM
end Go.Proofs.YtcplmeajmpkpkaaGreat

namespace Go.Proofs.YtcplmeajmpkpkaaGreat
open Go.Lg Go.Proofs Go.RowKit
theorem y_bld1 {P : Program} {n : Nat} {K : World → Prop} {s : List (Nat × Value)} {ty t : Nat} {x0 : Operand} {v0 v : Value} (hb : ∀ w, (Instr.build t #[(0, v0)]).run P w = .ok v w) (h0 : ev s x0 = some v0) : Y P n K s (.build t #[(0, x0)]) ty v := fun a w f c d pos af g => by
  simp [execOp, f.ev h0, hb]
attribute [local irreducible] Code.wp wpList bodyPost Exit.then Exit.inBlock Hp Again Calls Y AT ResV QT Qn QI wpAny wpAnyQ
set_option maxRecDepth 20000
set_option maxHeartbeats 4000000

theorem bld_sp1 (r : Int) (w : World) : (Instr.build 26 #[(0, iV r)]).run Tryz.prog w = .ok (.agg #[iV r, .slice none 0 0]) w := by kernel_rfl
theorem sps_sl (i : Nat) {M : List Nat} {w0 : World} {H : List HE} {e m c : Nat} {rs : List Sp} {a : Option Addr} (hi : H[i]? = some (.own (spsT e rs) (.slice a m c))) : ∀ w, Hp M w0 H w → SA a rs.length := fun w cw => by
  obtain ⟨a', c', h1, h2, _⟩ := rd_sps (cw.own_rd hi)
  cases h1
  exact h2
end Go.Proofs.YtcplmeajmpkpkaaGreat
