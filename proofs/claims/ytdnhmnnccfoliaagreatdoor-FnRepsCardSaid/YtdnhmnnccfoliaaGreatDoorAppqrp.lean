import Derived.Test.YtdnhmnnccfoliaaGreatDoorAlgqrp
import Derived.Test.YtdnhmnnccfoliaaGreatDoorAloqrp
import Derived.Test.YtdnhmnnccfoliaaGreatDoorCopqrp
import Derived.Test.YtdnhmnnccfoliaaGreatDoorFitqrp
import Derived.Test.YtdnhmnnccfoliaaGreatDoorLCqrp
import Derived.Test.YtdnhmnnccfoliaaGreatDoorLinqrp
import Derived.Test.YtdnhmnnccfoliaaGreatDoorLwsqrp
import Derived.Test.YtdnhmnnccfoliaaGreatDoorMulqrp
import Derived.Test.YtdnhmnnccfoliaaGreatDoorMxfqrp
import Derived.Test.YtdnhmnnccfoliaaGreatDoorPrdqrp
import Derived.Test.YtdnhmnnccfoliaaGreatDoorRdIqrp
import Derived.Test.YtdnhmnnccfoliaaGreatDoorRksqrp
import Derived.Test.YtdnhmnnccfoliaaGreatDoorRrfqrp
import Derived.Test.YtdnhmnnccfoliaaGreatDoorSpbqrp
import Derived.Test.YtdnhmnnccfoliaaGreatDoorSpmqrp
import Derived.Test.YtdnhmnnccfoliaaGreatDoorStrqrp
import Derived.Test.YtdnhmnnccfoliaaGreatDoorSupqrp
namespace Go.Proofs.YtdnhmnnccfoliaaGreatDoor
open Go.Lg Go.Proofs Go.RowKit
attribute [local irreducible] Code.wp wpList bodyPost Exit.then Exit.inBlock Hp Again Calls Y AT ResV QT Qn QI wpAny wpAnyQ
set_option maxRecDepth 20000
set_option maxHeartbeats 4000000

theorem it_part {xs : List Int} {lo n : Nat} : ((it xs).drop (lo * 1)).take (n * 1) = it ((xs.drop lo).take n) := by
  rw [Nat.mul_one, Nat.mul_one, it, it, List.map_take, List.map_drop]
theorem rd_part {w : World} {e m c lo hi : Nat} {xs : List Int} {a : Option Addr} (hr : Rd w (ints e xs) (.slice a m c)) (h1 : lo ≤ hi) (h2 : hi ≤ m) : Rd w (ints e ((xs.drop lo).take (hi - lo))) (.slice (subA a 1 lo c) (hi - lo) (c - lo)) := by
  have := Rd.part (lo := lo) (hi := hi) hr h1 h2
  rwa [it_part] at this
theorem rd_head {w : World} {e m c hi : Nat} {xs : List Int} {a : Option Addr} (hr : Rd w (ints e xs) (.slice a m c)) (h2 : hi ≤ m) : Rd w (ints e (xs.take hi)) (.slice (subA a 1 0 c) hi c) := by
  have := rd_part (lo := 0) (hi := hi) hr (Nat.zero_le _) h2
  simpa using this
theorem rd_rest {w : World} {e m c lo : Nat} {xs : List Int} {a : Option Addr} (hr : Rd w (ints e xs) (.slice a m c)) (hm : xs.length = m) (h2 : lo ≤ m) : Rd w (ints e (xs.drop lo)) (.slice (subA a 1 lo c) (m - lo) (c - lo)) := by
  have := rd_part (lo := lo) (hi := m) hr h2 (Nat.le_refl _)
  rwa [List.take_of_length_le (by rw [List.length_drop]; omega)] at this
end Go.Proofs.YtdnhmnnccfoliaaGreatDoor

namespace Go.Proofs.YtdnhmnnccfoliaaGreatDoor
open Go.Lg Go.Proofs Go.RowKit
attribute [local irreducible] Code.wp wpList bodyPost Exit.then Exit.inBlock Hp Again Calls Y AT ResV QT Qn QI wpAny wpAnyQ
set_option maxRecDepth 20000
set_option maxHeartbeats 4000000

def SpcP (p : Int) (s : Sp) : Prop := FineP p s.1 s.2 ∧ basL p s.1.toNat s.2 = s.2
instance (p : Int) (s : Sp) : Decidable (SpcP p s) := by unfold SpcP; infer_instance
end Go.Proofs.YtdnhmnnccfoliaaGreatDoor

namespace Go.Proofs.YtdnhmnnccfoliaaGreatDoor
open Go.Lg Go.Proofs Go.RowKit

def rkL (p : Int) (C : Nat) (M : List (List Int)) : Nat := (redTo p M.length (rowsF M) C).2.length
theorem basL_len {p : Int} {C : Nat} {M : List (List Int)} : (basL p C M).length = rkL p C M := by simp [basL, rkL]
theorem SpcP.rows {p : Int} {s : Sp} (h : SpcP p s) : ∃ C : Nat, s.1 = C ∧ C ≤ 8 ∧ RowsP p C s.2 ∧ FieldP p ∧ s.2.length ≤ 8 ∧ rkL p C s.2 = s.2.length ∧ ∀ t j, t < s.2.length → j < C → (redTo p s.2.length (rowsF s.2) C).1 t j = rowsF s.2 t j := by
  obtain ⟨h1, h2⟩ := h
  obtain ⟨C, hc, hC, hl⟩ := h1.rows
  rw [hc] at h2
  simp only [Int.toNat_natCast] at h2
  have hk : rkL p C s.2 = s.2.length := by rw [← basL_len, h2]
  have h8 : rkL p C s.2 ≤ C := redL_length C
  refine ⟨C, hc, hC, hl, h1.1, by omega, hk, fun t j ht hj => ?_⟩
  have hb : (basL p C s.2).getD t [] = mkv C ((redTo p s.2.length (rowsF s.2) C).1 t) := by
    unfold basL rowL
    have : t < (redTo p s.2.length (rowsF s.2) C).2.length := by unfold rkL at hk; omega
    simp [List.getD, this]
  rw [h2] at hb
  have := mkv_get (g := (redTo p s.2.length (rowsF s.2) C).1 t) hj
  rw [← hb] at this
  exact this.symm
end Go.Proofs.YtdnhmnnccfoliaaGreatDoor

namespace Go.Proofs.YtdnhmnnccfoliaaGreatDoor
open Go.Lg Go.Proofs Go.RowKit
attribute [local irreducible] Code.wp wpList bodyPost Exit.then Exit.inBlock Hp Again Calls Y AT ResV QT Qn QI wpAny wpAnyQ
set_option maxRecDepth 20000
set_option maxHeartbeats 4000000

abbrev GivesIB (x : List Int) (b : Bool) (r : Value) (H : List HE) : Prop := ∃ a c, r = .tuple #[.slice a x.length c, .bool b] ∧ SA a x.length ∧ H = [.own (iT x) (.slice a x.length c)]
end Go.Proofs.YtdnhmnnccfoliaaGreatDoor

namespace Go.Proofs.YtdnhmnnccfoliaaGreatDoor
open Go.Lg Go.Proofs Go.RowKit
attribute [local irreducible] Code.wp wpList bodyPost Exit.then Exit.inBlock Hp Again Calls Y AT ResV QT Qn QI wpAny wpAnyQ
set_option maxRecDepth 20000
set_option maxHeartbeats 4000000

theorem matP_of {p : Int} {R C : Nat} {f : Nat → Nat → Int} (hF : FieldP p) (hR : R ≤ 8) (hC : C ≤ 8) (h : inF p R C f) : MatP p ((R : Int), (C : Int), mk R C f) := by
  have hRC : R * C ≤ 64 := Nat.mul_le_mul hR hC
  refine ⟨⟨by simp only; omega, by simp only; omega⟩, ⟨by simp only; omega, by simp only; omega⟩, by simp, hF, ?_, inP_mk h⟩
  rw [mk_length]; exact hRC
end Go.Proofs.YtdnhmnnccfoliaaGreatDoor
