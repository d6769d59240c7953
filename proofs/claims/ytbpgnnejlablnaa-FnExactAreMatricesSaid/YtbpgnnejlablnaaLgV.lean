import Derived.Test.YtbpgnnejlablnaaLgU
namespace Go.Lg
open Go.RowKit
/-- slots with their values -/
def zk : List Nat → List Value → List (Nat × Value)
  | k :: ks, v :: vs => (k, v) :: zk ks vs
  | _, _ => []
def lks (s : List (Nat × Value)) : List Nat → Option (List Value)
  | [] => some []
  | k :: ks => match lk s k, lks s ks with
    | some v, some vs => some (v :: vs)
    | _, _ => none
theorem zk_sub {s : List (Nat × Value)} : ∀ {ks : List Nat} {vs : List Value}, lks s ks = some vs → Sub (zk ks vs) s
  | [], vs, h => by simp only [lks, Option.some.injEq] at h; subst h; exact Sub.nil
  | k :: ks, vs, h => by
    simp only [lks] at h
    split at h
    · rename_i v vs' h1 h2
      simp only [Option.some.injEq] at h; subst h
      exact Sub.cons h1 (zk_sub h2)
    · cases h
theorem lk_app {a b : List (Nat × Value)} {j : Nat} : lk (a ++ b) j = match lk a j with
    | some x => some x
    | none => lk b j := by
  induction a with
  | nil => rfl
  | cons p a ih =>
    obtain ⟨k, v⟩ := p
    simp only [List.cons_append, lk]
    cases Nat.beq k j
    · exact ih
    · rfl
theorem Sub.app {a b s : List (Nat × Value)} (h : Sub a s) (h' : Sub b s) : Sub (a ++ b) s := fun j u e => by
  rw [lk_app] at e
  cases ha : lk a j with
  | some x => rw [ha] at e; simp only [Option.some.injEq] at e; subst e; exact h j x ha
  | none => rw [ha] at e; exact h' j u e
section
variable {P : Program} {n : Nat} {C : World → Prop} {s : List (Nat × Value)} {Q : Exit → Act → World → Prop}
/-- a loop: the slots that turn are written down, the others that are still read are kept as they stand -/
theorem c_loopk {α : Type} (ks : List Nat) (ch : α → List (Nat × Value)) (D : α → World → Prop) (m : α → Nat) {c : Code} (x0 : α) {vs : List Value} (hk : lks s ks = some vs) (h0 : Sub (ch x0) s) (hC : ∀ w, C w → D x0 w)
    (round : ∀ x, AT n (D x) (ch x ++ zk ks vs) (c.wp P (Exit.then (Again n (fun x => ch x ++ zk ks vs) D m x) Q))) : AT n C s ((Code.loop c).wp P Q) :=
  c_loop (fun x => ch x ++ zk ks vs) D m x0 (h0.app (zk_sub hk)) hC round
/-- .. with pieces of memory -/
theorem c_loopH {α : Type} {M : List Nat} {w0 : World} {H : List HE} (ks : List Nat) (ch : α → List (Nat × Value)) (pu : α → Prop) (pc : α → List HE) (m : α → Nat) {c : Code} (x0 : α) {vs : List Value} (hk : lks s ks = some vs) (h0 : Sub (ch x0) s) (hp : pu x0) (hC : ∀ w, Hp M w0 H w → Hp M w0 (pc x0) w)
    (round : ∀ x, pu x → AT n (Hp M w0 (pc x)) (ch x ++ zk ks vs) (c.wp P (Exit.then (Again n (fun x => ch x ++ zk ks vs) (fun x w => pu x ∧ Hp M w0 (pc x) w) m x) Q))) : AT n (Hp M w0 H) s ((Code.loop c).wp P Q) :=
  c_loopk ks ch (fun x w => pu x ∧ Hp M w0 (pc x) w) m x0 hk h0 (fun w c => ⟨hp, hC w c⟩) (fun x => AT.pr (round x))
theorem x_nx {α : Type} {M : List Nat} {w0 : World} {S : α → List (Nat × Value)} {pu : α → Prop} {pc : α → List HE} {m : α → Nat} {x : α} (y : α) (hs : Sub (S y) s) (hp : pu y) (hC : ∀ w, C w → Hp M w0 (pc y) w) (hm : m y < m x) :
    AT n C s (Again n S (fun x w => pu x ∧ Hp M w0 (pc x) w) m x) := fun _ w f c => ⟨y, f.sub hs, ⟨hp, hC w c⟩, hm⟩
end
end Go.Lg
