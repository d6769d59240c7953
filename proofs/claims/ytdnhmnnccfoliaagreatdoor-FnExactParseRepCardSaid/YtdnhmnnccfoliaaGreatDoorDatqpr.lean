import Derived.Test.YtdnhmnnccfoliaaGreatDoorLBqpr
import Derived.Test.YtdnhmnnccfoliaaGreatDoorTabqpr
namespace Go.Proofs.YtdnhmnnccfoliaaGreatDoor
open Go.Lg Go.Proofs Go.RowKit

abbrev iT (xs : List Int) : T := ints 3 xs
abbrev iV (n : Int) : Value := .int .i64 n
abbrev Mat := Int × Int × List Int
def matT (m : Mat) : List T := [.c (iV m.1), .c (iV m.2.1), iT m.2.2]
abbrev matsT (e : Nat) (ms : List Mat) : T := .s e 3 (ms.flatMap matT)
@[simp] theorem matT_length (m : Mat) : (matT m).length = 3 := rfl

theorem flatMap_length {α β : Type} {f : α → List β} {k : Nat} (hf : ∀ x, (f x).length = k) : ∀ (l : List α), (l.flatMap f).length = l.length * k
  | [] => by simp
  | x :: l => by simp only [List.flatMap_cons, List.length_append, hf, flatMap_length hf l, List.length_cons, Nat.succ_mul]; omega
theorem flatMap_get {α β : Type} {f : α → List β} {k : Nat} (hf : ∀ x, (f x).length = k) : ∀ {l : List α} {i q : Nat} {x : α}, l[i]? = some x → q < k → (l.flatMap f)[i * k + q]? = (f x)[q]?
  | [], i, q, x, h, _ => by simp at h
  | y :: l, 0, q, x, h, hq => by
    simp at h; subst h
    rw [List.flatMap_cons, List.getElem?_append_left (by rw [hf]; omega)]
    simp
  | y :: l, i + 1, q, x, h, hq => by
    rw [List.flatMap_cons, List.getElem?_append_right (by rw [hf, Nat.succ_mul]; omega), hf, show (i + 1) * k + q - k = i * k + q by rw [Nat.succ_mul]; omega]
    exact flatMap_get hf (by simpa using h) hq
theorem rd_mats {w : World} {v : Value} {e : Nat} {ms : List Mat} (h : Rd w (matsT e ms) v) : ∃ a cap, v = .slice a ms.length cap ∧ SA a ms.length ∧ ms.length ≤ cap ∧ cap ≤ maxLen ∧
    ∀ i m, ms[i]? = some m → ∃ a2 c2, w.cell? ⟨ab a, ao a + i * 3, none⟩ = some (iV m.1) ∧ w.cell? ⟨ab a, ao a + i * 3 + 1, none⟩ = some (iV m.2.1) ∧ w.cell? ⟨ab a, ao a + i * 3 + 2, none⟩ = some (.slice a2 m.2.2.length c2) ∧
      Rd w (iT m.2.2) (.slice a2 m.2.2.length c2) := by
  obtain ⟨a, n, cap, h1, h2, h3, h4, h5, h6⟩ := Rd.open (by decide) h
  rw [flatMap_length matT_length] at h5
  have : ms.length = n := by omega
  subst this
  refine ⟨a, cap, h1, h2, h3, h4, fun i m hm => ?_⟩
  obtain ⟨u0, c0, r0⟩ := h6 (i * 3 + 0) _ (by rw [flatMap_get matT_length hm om]; rfl)
  obtain ⟨u1, c1, r1⟩ := h6 (i * 3 + 1) _ (by rw [flatMap_get matT_length hm om]; rfl)
  obtain ⟨u2, c2, r2⟩ := h6 (i * 3 + 2) _ (by rw [flatMap_get matT_length hm om]; rfl)
  obtain ⟨a2, k2, e2, _⟩ := r2.ints
  subst e2
  simp only [Rd] at r0 r1
  subst r0; subst r1
  exact ⟨a2, k2, c0, c1, c2, r2⟩

def mat0 : Mat := (0, 0, [])
end Go.Proofs.YtdnhmnnccfoliaaGreatDoor
