import Derived.Test.YtdnhmnnccfoliaaGreatDoorFmpqmt
import Derived.Test.YtdnhmnnccfoliaaGreatDoorQstqmt
namespace Go.Proofs.YtdnhmnnccfoliaaGreatDoor
open Go.Lg Go.Proofs Go.RowKit

theorem dg_ne2 {x : Int} (h0 : 0 ≤ x) (h9 : x ≤ 9) : dg x ≠ 47 ∧ dg x ≠ 120 := by
  obtain ⟨k, rfl⟩ : ∃ k : Nat, x = k := ⟨x.toNat, by omega⟩
  have hk : k < 10 := by omega
  match k, hk with
  | 0, _ => exact ⟨by decide, by decide⟩
  | 1, _ => exact ⟨by decide, by decide⟩
  | 2, _ => exact ⟨by decide, by decide⟩
  | 3, _ => exact ⟨by decide, by decide⟩
  | 4, _ => exact ⟨by decide, by decide⟩
  | 5, _ => exact ⟨by decide, by decide⟩
  | 6, _ => exact ⟨by decide, by decide⟩
  | 7, _ => exact ⟨by decide, by decide⟩
  | 8, _ => exact ⟨by decide, by decide⟩
  | 9, _ => exact ⟨by decide, by decide⟩
def cellsS (s : List UInt8) : List Int := (s.filter (fun x => x != 47)).map (fun x => (x.toNat : Int) - 48)
theorem cellsS_app (s t : List UInt8) : cellsS (s ++ t) = cellsS s ++ cellsS t := by simp [cellsS]
theorem cellsS_dg {x : Int} (h0 : 0 ≤ x) (h9 : x ≤ 9) : cellsS [dg x] = [x] := by
  have h1 := (dg_ne2 h0 h9).1
  have h2 := (dg_ne h0 h9).2.2
  simp [cellsS, h1, h2]
theorem cells_body {C : Nat} {xs : List Int} (hx : ∀ i, i < xs.length → 0 ≤ xs.getD i 0 ∧ xs.getD i 0 ≤ 9) : ∀ i, i ≤ xs.length → cellsS (bodyN C xs i) = xs.take i
  | 0, _ => rfl
  | i + 1, h => by
    obtain ⟨h0, h9⟩ := hx i om
    rw [bodyN, cellsS_app, cellsS_app, cells_body hx i om, cellsS_dg h0 h9, List.take_add_one]
    have e : (xs[i]?).toList = [xs.getD i 0] := by simp [List.getD, show i < xs.length by omega]
    rw [e]
    split <;> rfl
def candM (s : List UInt8) : Mat := (((s.getD 0 0).toNat : Int) - 48, ((s.getD 2 0).toNat : Int) - 48, cellsS (s.drop 4))
theorem matP_rng {p : Int} {m : Mat} (h : MatP p m) : ∀ i, i < m.2.2.length → 0 ≤ m.2.2.getD i 0 ∧ m.2.2.getD i 0 ≤ 9 := fun i hi => by
  have hp := fieldP_pos h.2.2.2.1
  have := inP_get h.2.2.2.2.2 hi
  omega
theorem fmtM_eq {p : Int} {m : Mat} (h : MatP p m) : fmtM p m = dg m.1 :: 120 :: dg m.2.1 :: 58 :: bodyN m.2.1.toNat m.2.2 m.2.2.length := by rw [fmtM, if_pos h]; rfl
theorem cand_fmtM {p : Int} {m : Mat} (h : MatP p m) : candM (fmtM p m) = m := by
  rw [fmtM_eq h]
  have h1 := (dg_ne (x := m.1) h.1.1 (by have := h.1.2; omega)).2.2
  have h2 := (dg_ne (x := m.2.1) h.2.1.1 (by have := h.2.1.2; omega)).2.2
  have h3 := cells_body (C := m.2.1.toNat) (matP_rng h) m.2.2.length (Nat.le_refl _)
  rw [List.take_length] at h3
  exact Prod.ext h1 (Prod.ext h2 h3)
def parM (p : Int) (s : List UInt8) : Prop := MatP p (candM s) ∧ fmtM p (candM s) = s
instance (p : Int) (s : List UInt8) : Decidable (parM p s) := by unfold parM; infer_instance
theorem parM_iff {p : Int} {s : List UInt8} : parM p s ↔ ∃ m, MatP p m ∧ fmtM p m = s := by
  constructor
  · exact fun h => ⟨_, h.1, h.2⟩
  · rintro ⟨m, h1, rfl⟩
    rw [parM, cand_fmtM h1]
    exact ⟨h1, rfl⟩
def parML (p : Int) (s : List UInt8) : Mat := if parM p s then candM s else mat0
end Go.Proofs.YtdnhmnnccfoliaaGreatDoor
