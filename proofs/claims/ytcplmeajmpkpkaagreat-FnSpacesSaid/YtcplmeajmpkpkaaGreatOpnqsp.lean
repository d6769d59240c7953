import Derived.Test.YtcplmeajmpkpkaaGreatRows
import Derived.Test.YtcplmeajmpkpkaaGreatLBqsp
import Derived.Test.YtcplmeajmpkpkaaGreatTabqsp
namespace Go.Proofs.YtcplmeajmpkpkaaGreat
open Go.Lg Go.Proofs Go.RowKit

abbrev iT (xs : List Int) : T := ints 3 xs
abbrev iV (n : Int) : Value := .int .i64 n
abbrev Mat := Int × Int × List Int
theorem flatMap_length {α β : Type} {f : α → List β} {k : Nat} (hf : ∀ x, (f x).length = k) : ∀ (l : List α), (l.flatMap f).length = l.length * k
  | [] => by simp
  | x :: l => by simp only [List.flatMap_cons, List.length_append, hf, flatMap_length hf l, List.length_cons, Nat.succ_mul]; omega
theorem flatMap_get {α β : Type} {f : α → List β} {k : Nat} (hf : ∀ x, (f x).length = k) : ∀ {l : List α} {i q : Nat} {x : α}, l[i]? = some x → q < k → (l.flatMap f)[i * k + q]? = (f x)[q]?
  | [], i, q, x, h, _ => by simp at h
  | y :: l, 0, q, x, h, hq => by
    simp at h; subst h
    rw [List.flatMap_cons, List.getElem?_append_left (by rw [hf]; omega)]
    simp
  | y :: l, i + 1, q, x, h, hq => by
    rw [List.flatMap_cons, List.getElem?_append_right (by rw [hf, Nat.succ_mul]; omega), hf, show (i + 1) * k + q - k = i * k + q by rw [Nat.succ_mul]; omega]
    exact flatMap_get hf (by simpa using h) hq
def GivesM (m : Mat) (r : Value) (H : List HE) : Prop := ∃ a c, r = .agg #[iV m.1, iV m.2.1, .slice a m.2.2.length c] ∧ SA a m.2.2.length ∧ H = [.own (iT m.2.2) (.slice a m.2.2.length c)]

def mat0 : Mat := (0, 0, [])
end Go.Proofs.YtcplmeajmpkpkaaGreat

namespace Go.Proofs.YtcplmeajmpkpkaaGreat
open Go.Lg Go.Proofs Go.RowKit Go.WideShapes Go.ChangeShapes

theorem Tryz.own : ownKnob Tryz.prog.godebug = Option.none := by kernel_rfl
theorem Tryz.laidOut : laidOutB Tryz.prog = true := by kernel_rfl

set_option maxRecDepth 100000

section
variable {H : Type} {enc : TypeId × Value → H} {w : World} {base : Nat} {spare : Nat → Bool} {held : Bool}

variable {r : Reach} {b0 : Nat} {v : Value} {d : DataW H} {p : List MemPlace}
end
end Go.Proofs.YtcplmeajmpkpkaaGreat
