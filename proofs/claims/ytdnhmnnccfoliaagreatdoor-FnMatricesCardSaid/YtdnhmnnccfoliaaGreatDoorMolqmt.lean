import Derived.Test.YtdnhmnnccfoliaaGreatDoorMofqmt
import Derived.Test.YtdnhmnnccfoliaaGreatDoorPmpqmt
namespace Go.Proofs.YtdnhmnnccfoliaaGreatDoor
open Go.Lg Go.Proofs Go.RowKit

theorem accF_tr {p : Int} {f g : Nat → Nat → Int} {i j : Nat} : ∀ n, accF p (trF g) (trF f) j i n = accF p f g i j n
  | 0 => rfl
  | n + 1 => by simp only [accF, accF_tr n, trF, Int.mul_comm]
theorem mulF_tr {p : Int} {N : Nat} {f g : Nat → Nat → Int} : mulF p N (trF g) (trF f) = trF (mulF p N f g) := by
  funext i j
  exact accF_tr N
theorem tpM_in {p : Int} {a : Mat} (h : MatP p a) : MatP p (tpM p a) := by
  obtain ⟨R, C, f, rfl, hR, hC, hF, hf⟩ := matP_mk h
  rw [tpM_mk h]
  exact matP_of hF hC hR (fun i j hi hj => hf j i hj hi)
theorem mlM_in {p : Int} {a b : Mat} (h : MlP p a b) : MatP p (mlM p a b) := by
  obtain ⟨R, N, C, f, g, rfl, rfl, hR, hN, hC, hF, hf, hg, e⟩ := mlM_of h
  rw [e]
  exact matP_of hF hR hC (inF_mul (by have := fieldP_pos hF; omega))
theorem mul_tr {p : Int} {a b : Mat} (h : MlP p a b) : MlP p (tpM p b) (tpM p a) ∧ mlM p (tpM p b) (tpM p a) = tpM p (mlM p a b) := by
  have hm := mlM_in h
  have hA := tpM_in h.1
  have hB := tpM_in h.2.1
  have h1 := h.1
  have h2 := h.2.1
  obtain ⟨R, N, C, f, g, rfl, rfl, hR, hN, hC, hF, hf, hg, e⟩ := mlM_of h
  rw [e] at hm ⊢
  rw [tpM_mk h1] at hA ⊢
  rw [tpM_mk h2] at hB ⊢
  have hp : MlP p ((C : Int), (N : Int), mk C N (trF g)) ((N : Int), (R : Int), mk N R (trF f)) := ⟨hB, hA, rfl⟩
  refine ⟨hp, ?_⟩
  rw [mlM_mk hp, tpM_mk hm, mulF_tr]
theorem adP_comm {p : Int} {a b : Mat} (h : AdP p a b) : AdP p b a := ⟨h.2.1, h.1, h.2.2.1.symm, h.2.2.2.symm⟩
theorem adP_dec {p : Int} {a b : Mat} : decide (AdP p b a) = decide (AdP p a b) := by
  by_cases h : AdP p a b
  · rw [decide_eq_true h, decide_eq_true (adP_comm h)]
  · rw [decide_eq_false h, decide_eq_false (fun k => h (adP_comm k))]
theorem plusF_comm {p : Int} {f g : Nat → Nat → Int} : plusF p 1 g f = plusF p 1 f g := by
  funext i j
  unfold plusF
  rw [Int.one_mul, Int.one_mul, Int.add_comm]
theorem adM_comm {p : Int} {a b : Mat} : adM p b a = adM p a b := by
  by_cases h : AdP p a b
  · have h' := adP_comm h
    rw [adM, adM, if_pos h, if_pos h', plusF_comm, h.2.2.1, h.2.2.2]
  · rw [adM, adM, if_neg h, if_neg (fun k => h (adP_comm k))]
theorem par_dec {p : Int} {m : Mat} : decide (parM p (fmtM p m)) = decide (MatP p m) := by
  by_cases h : MatP p m
  · rw [decide_eq_true h, decide_eq_true (parM_iff.2 ⟨m, h, rfl⟩)]
  · rw [decide_eq_false h, decide_eq_false (fun k => ?_)]
    obtain ⟨m', h1, h2⟩ := parM_iff.1 k
    rw [fmtM, fmtM, if_pos h1, if_neg h] at h2
    simp at h2
theorem par_same {p : Int} {m : Mat} (h : MatP p m) : parML p (fmtM p m) = m := by
  rw [parML, if_pos (parM_iff.2 ⟨m, h, rfl⟩), cand_fmtM h]
end Go.Proofs.YtdnhmnnccfoliaaGreatDoor
