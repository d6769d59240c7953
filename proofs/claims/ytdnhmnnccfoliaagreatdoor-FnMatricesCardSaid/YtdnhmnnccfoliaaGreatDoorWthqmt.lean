import Derived.Test.YtdnhmnnccfoliaaGreatDoorSpbqmt
namespace Go.Proofs.YtdnhmnnccfoliaaGreatDoor
open Go.Lg Go.Proofs Go.RowKit
attribute [local irreducible] Code.wp wpList bodyPost Exit.then Exit.inBlock Hp Again Calls Y AT ResV QT Qn QI wpAny wpAnyQ
set_option maxRecDepth 20000
set_option maxHeartbeats 4000000

/-! ### SpanOf, IsSpace -/
def SpcP (p : Int) (s : Sp) : Prop := FineP p s.1 s.2 ∧ basL p s.1.toNat s.2 = s.2
instance (p : Int) (s : Sp) : Decidable (SpcP p s) := by unfold SpcP; infer_instance
end Go.Proofs.YtdnhmnnccfoliaaGreatDoor

namespace Go.Proofs.YtdnhmnnccfoliaaGreatDoor
open Go.Lg Go.Proofs Go.RowKit

/-! ### what belongs to a space (plain) -/
def rkL (p : Int) (C : Nat) (M : List (List Int)) : Nat := (redTo p M.length (rowsF M) C).2.length
theorem basL_len {p : Int} {C : Nat} {M : List (List Int)} : (basL p C M).length = rkL p C M := by simp [basL, rkL]
/-! ### a space's rows are reduced -/
theorem SpcP.rows {p : Int} {s : Sp} (h : SpcP p s) : ∃ C : Nat, s.1 = C ∧ C ≤ 8 ∧ RowsP p C s.2 ∧ FieldP p ∧ s.2.length ≤ 8 ∧ rkL p C s.2 = s.2.length ∧ ∀ t j, t < s.2.length → j < C → (redTo p s.2.length (rowsF s.2) C).1 t j = rowsF s.2 t j := by
  obtain ⟨h1, h2⟩ := h
  obtain ⟨C, hc, hC, hl⟩ := h1.rows
  rw [hc] at h2
  simp only [Int.toNat_natCast] at h2
  have hk : rkL p C s.2 = s.2.length := by rw [← basL_len, h2]
  have h8 : rkL p C s.2 ≤ C := redL_length C
  refine ⟨C, hc, hC, hl, h1.1, by omega, hk, fun t j ht hj => ?_⟩
  have hb : (basL p C s.2).getD t [] = mkv C ((redTo p s.2.length (rowsF s.2) C).1 t) := by
    unfold basL rowL
    have : t < (redTo p s.2.length (rowsF s.2) C).2.length := by unfold rkL at hk; omega
    simp [List.getD, this]
  rw [h2] at hb
  have := mkv_get (g := (redTo p s.2.length (rowsF s.2) C).1 t) hj
  rw [← hb] at this
  exact this.symm
end Go.Proofs.YtdnhmnnccfoliaaGreatDoor
