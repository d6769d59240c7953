import Derived.Test.YtdnhmnnccfoliaaGreatDoorRows
import Derived.Test.YtdnhmnnccfoliaaGreatDoorLBqrp
import Derived.Test.YtdnhmnnccfoliaaGreatDoorTabqrp
namespace Go.Proofs.YtdnhmnnccfoliaaGreatDoor
open Go.Lg Go.Proofs Go.RowKit

abbrev iT (xs : List Int) : T := ints 3 xs
abbrev iV (n : Int) : Value := .int .i64 n
abbrev Mat := Int × Int × List Int
def matT (m : Mat) : List T := [.c (iV m.1), .c (iV m.2.1), iT m.2.2]
abbrev matsT (e : Nat) (ms : List Mat) : T := .s e 3 (ms.flatMap matT)
@[simp] theorem matT_length (m : Mat) : (matT m).length = 3 := rfl

theorem flatMap_length {α β : Type} {f : α → List β} {k : Nat} (hf : ∀ x, (f x).length = k) : ∀ (l : List α), (l.flatMap f).length = l.length * k
  | [] => by simp
  | x :: l => by simp only [List.flatMap_cons, List.length_append, hf, flatMap_length hf l, List.length_cons, Nat.succ_mul]; omega
theorem flatMap_get {α β : Type} {f : α → List β} {k : Nat} (hf : ∀ x, (f x).length = k) : ∀ {l : List α} {i q : Nat} {x : α}, l[i]? = some x → q < k → (l.flatMap f)[i * k + q]? = (f x)[q]?
  | [], i, q, x, h, _ => by simp at h
  | y :: l, 0, q, x, h, hq => by
    simp at h; subst h
    rw [List.flatMap_cons, List.getElem?_append_left (by rw [hf]; omega)]
    simp
  | y :: l, i + 1, q, x, h, hq => by
    rw [List.flatMap_cons, List.getElem?_append_right (by rw [hf, Nat.succ_mul]; omega), hf, show (i + 1) * k + q - k = i * k + q by rw [Nat.succ_mul]; omega]
    exact flatMap_get hf (by simpa using h) hq
theorem flatMap_take {α β : Type} {f : α → List β} {k : Nat} (hf : ∀ x, (f x).length = k) : ∀ (l : List α) (i : Nat), (l.flatMap f).take (i * k) = (l.take i).flatMap f
  | [], i => by simp
  | y :: l, 0 => by simp
  | y :: l, i + 1 => by
    rw [List.flatMap_cons, List.take_succ_cons, List.flatMap_cons, List.take_append, hf, show (i + 1) * k - k = i * k by rw [Nat.succ_mul]; omega, flatMap_take hf l i, List.take_of_length_le (by rw [hf, Nat.succ_mul]; omega)]
theorem flatMap_drop {α β : Type} {f : α → List β} {k : Nat} (hf : ∀ x, (f x).length = k) : ∀ (l : List α) (i : Nat), (l.flatMap f).drop (i * k) = (l.drop i).flatMap f
  | [], i => by simp
  | y :: l, 0 => by simp
  | y :: l, i + 1 => by
    rw [List.flatMap_cons, List.drop_succ_cons, List.drop_append, hf, show (i + 1) * k - k = i * k by rw [Nat.succ_mul]; omega, flatMap_drop hf l i, List.drop_of_length_le (by rw [hf, Nat.succ_mul]; omega), List.nil_append]
theorem flatMap_set {α β : Type} {f : α → List β} {k : Nat} (hf : ∀ x, (f x).length = k) (l : List α) (i : Nat) (x : α) (hi : i < l.length) :
    (l.flatMap f).take (i * k) ++ f x ++ (l.flatMap f).drop (i * k + k) = (l.set i x).flatMap f := by
  rw [flatMap_take hf, show i * k + k = (i + 1) * k by rw [Nat.succ_mul], flatMap_drop hf]
  have : l.set i x = l.take i ++ [x] ++ l.drop (i + 1) := by
    apply List.ext_getElem?
    intro q
    grind
  rw [this]
  simp [List.flatMap_append]

theorem rd_mats {w : World} {v : Value} {e : Nat} {ms : List Mat} (h : Rd w (matsT e ms) v) : ∃ a cap, v = .slice a ms.length cap ∧ SA a ms.length ∧ ms.length ≤ cap ∧ cap ≤ maxLen ∧
    ∀ i m, ms[i]? = some m → ∃ a2 c2, w.cell? ⟨ab a, ao a + i * 3, none⟩ = some (iV m.1) ∧ w.cell? ⟨ab a, ao a + i * 3 + 1, none⟩ = some (iV m.2.1) ∧ w.cell? ⟨ab a, ao a + i * 3 + 2, none⟩ = some (.slice a2 m.2.2.length c2) ∧
      Rd w (iT m.2.2) (.slice a2 m.2.2.length c2) := by
  obtain ⟨a, n, cap, h1, h2, h3, h4, h5, h6⟩ := Rd.open (by decide) h
  rw [flatMap_length matT_length] at h5
  have : ms.length = n := by omega
  subst this
  refine ⟨a, cap, h1, h2, h3, h4, fun i m hm => ?_⟩
  obtain ⟨u0, c0, r0⟩ := h6 (i * 3 + 0) _ (by rw [flatMap_get matT_length hm om]; rfl)
  obtain ⟨u1, c1, r1⟩ := h6 (i * 3 + 1) _ (by rw [flatMap_get matT_length hm om]; rfl)
  obtain ⟨u2, c2, r2⟩ := h6 (i * 3 + 2) _ (by rw [flatMap_get matT_length hm om]; rfl)
  obtain ⟨a2, k2, e2, _⟩ := r2.ints
  subst e2
  simp only [Rd] at r0 r1
  subst r0; subst r1
  exact ⟨a2, k2, c0, c1, c2, r2⟩

def GivesM (m : Mat) (r : Value) (H : List HE) : Prop := ∃ a c, r = .agg #[iV m.1, iV m.2.1, .slice a m.2.2.length c] ∧ SA a m.2.2.length ∧ H = [.own (iT m.2.2) (.slice a m.2.2.length c)]

def mat0 : Mat := (0, 0, [])
end Go.Proofs.YtdnhmnnccfoliaaGreatDoor

namespace Go.Proofs.YtdnhmnnccfoliaaGreatDoor
open Go.Lg Go.Proofs Go.RowKit Go.WideShapes Go.ChangeShapes

theorem Tryz.own : ownKnob Tryz.prog.godebug = Option.none := by kernel_rfl
theorem Tryz.laidOut : laidOutB Tryz.prog = true := by kernel_rfl

set_option maxRecDepth 100000

section
variable {H : Type} {enc : TypeId × Value → H} {w : World} {base : Nat} {spare : Nat → Bool} {held : Bool}

variable {r : Reach} {b0 : Nat} {v : Value} {d : DataW H} {p : List MemPlace}
end
end Go.Proofs.YtdnhmnnccfoliaaGreatDoor
