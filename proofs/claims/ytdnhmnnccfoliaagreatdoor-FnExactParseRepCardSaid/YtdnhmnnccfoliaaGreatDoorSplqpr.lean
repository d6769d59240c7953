import Derived.Test.YtdnhmnnccfoliaaGreatDoorPmjqpr
import Derived.Test.YtdnhmnnccfoliaaGreatDoorPrsqpr
namespace Go.Proofs.YtdnhmnnccfoliaaGreatDoor
open Go.Lg Go.Proofs Go.RowKit Go.Shelf

theorem splitB_list (s d : List UInt8) (k : Nat) : (Lib.splitB ⟨d.toArray⟩ 0 k ⟨s.toArray⟩).map Value.string = (Lib.splitK d 0 k s).map sV := by
  have h := Lib.splitB_data ⟨d.toArray⟩ 0 k ⟨s.toArray⟩
  rw [ba_of, ba_of] at h
  rw [← h, List.map_map]
  exact List.map_congr_left (fun b _ => by
    show Value.string b = sV b.data.toList
    rw [sV, Array.toArray_toList])
theorem split_ok {w : World} {s : List UInt8} {d : UInt8} (hG : Glb w) (hs : s.length ≤ 2000000) : Does Tryz.prog 80 [sV s, sV [d]] w (fun r H => ∃ a c, r = .slice a (Lib.split s [d]).length c ∧ H = [.own (strT (Lib.split s [d])) (.slice a (Lib.split s [d]).length c)]) := by
  obtain ⟨m, hm⟩ := hG.m
  have h1 : 1 ≤ (ByteArray.mk [d].toArray).size := Nat.le_refl _
  have h := Any.strings_Split splitLys kr ⟨s.toArray⟩ ⟨[d].toArray⟩ m w (by show s.toArray.size < _; rw [List.size_toArray]; omega) hm h1
  have hcb := Lib.countB_le (ByteArray.mk [d].toArray) h1 s.length ⟨s.toArray⟩ (by show s.toArray.size ≤ _; rw [List.size_toArray]; exact Nat.le_refl _)
  have hcb2 : Lib.countB ⟨s.toArray⟩ (ByteArray.mk [d].toArray) ≤ 2000000 := Nat.le_trans hcb (by show s.toArray.size ≤ _; rw [List.size_toArray]; exact hs)
  have hlen := Lib.splitB_all (ByteArray.mk [d].toArray) h1 0 _ ⟨s.toArray⟩ rfl
  have ec : Lib.countB ⟨s.toArray⟩ (ByteArray.mk [d].toArray) = Lib.count s [d] := by
    have := ba_of s
    have := ba_of [d]
    simp [Lib.countB]
  have el : (Lib.split s [d]).length = Lib.countB ⟨s.toArray⟩ (ByteArray.mk [d].toArray) + 1 := by
    rw [← hlen, ← List.length_map (f := Value.string), splitB_list, List.length_map, ec]; rfl
  have es : (Lib.splitB ⟨[d].toArray⟩ 0 (Lib.countB ⟨s.toArray⟩ ⟨[d].toArray⟩) ⟨s.toArray⟩).map Value.string = (Lib.split s [d]).map sV := by rw [splitB_list, ec]; rfl
  rw [es] at h
  exact h.mono (by
    rintro e w' ⟨rfl, rfl⟩
    rw [← el]
    refine ⟨_, _, rfl, ⟨_, _, rfl, rfl⟩, ?_⟩
    refine ((Hp.nil (w0 := w)).alloc _ _).say (H1 := [.own (strT (Lib.split s [d])) (.slice (some ⟨w.heap.size, 0, none⟩) (Lib.split s [d]).length (Lib.split s [d]).length)]) (fun f hf => ?_)
    obtain ⟨h1, rfl⟩ := hf
    refine ⟨[w.heap.size], List.Perm.refl _, [w.heap.size], [], rfl, ?_, rfl⟩
    simp only [HE.sat, Own, strT]
    refine .inr ⟨w.heap.size, (Lib.split s [d]).length, (Lib.split s [d]).length, _, [], rfl, h1, by simp, Nat.le_refl _, by unfold maxLen; omega, by simp, ?_, rfl⟩
    rw [List.toList_toArray, Nat.mul_one, List.take_of_length_le (by simp)]
    exact OwnL.consts _)
end Go.Proofs.YtdnhmnnccfoliaaGreatDoor
