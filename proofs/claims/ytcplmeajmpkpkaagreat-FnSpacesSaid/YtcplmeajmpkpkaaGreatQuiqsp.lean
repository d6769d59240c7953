import Derived.Test.YtcplmeajmpkpkaaGreatLBqsp
import Derived.Test.YtcplmeajmpkpkaaGreatOpnqsp
import Derived.Test.YtcplmeajmpkpkaaGreatTabqsp
namespace Go.Proofs.YtcplmeajmpkpkaaGreat
open Go.Lg Go.Proofs Go.RowKit
attribute [local irreducible] Code.wp wpList bodyPost Exit.then Exit.inBlock Hp Again Calls Y AT ResV QT
set_option maxRecDepth 20000
set_option maxHeartbeats 4000000

abbrev rowT (xs : List Int) : List T := [iT xs]
abbrev rowsT (e : Nat) (rs : List (List Int)) : T := .s e 1 (rs.flatMap rowT)
theorem rowT_length (xs : List Int) : (rowT xs).length = 1 := rfl
theorem rowT_map : ∀ rs : List (List Int), rs.flatMap rowT = rs.map iT
  | [] => rfl
  | x :: rs => by rw [List.flatMap_cons, rowT_map rs]; rfl
abbrev Sp := Int × List (List Int)
def spT (s : Sp) : List T := [.c (iV s.1), rowsT 43 s.2]
abbrev spsT (e : Nat) (l : List Sp) : T := .s e 2 (l.flatMap spT)
theorem spT_length (s : Sp) : (spT s).length = 2 := rfl
theorem rd_list {α : Type} {f : α → List T} {w : World} {v : Value} {e k : Nat} {l : List α} (hf : ∀ x, (f x).length = k) (hk : 0 < k) (h : Rd w (.s e k (l.flatMap f)) v) : ∃ a cap, v = .slice a l.length cap ∧ SA a l.length ∧ l.length ≤ cap ∧ cap ≤ maxLen ∧
    ∀ (i : Nat) (x : α), l[i]? = some x → ∀ (q : Nat) (t : T), q < k → (f x)[q]? = some t → ∃ u, w.cell? ⟨ab a, ao a + i * k + q, none⟩ = some u ∧ Rd w t u := by
  obtain ⟨a, n, cap, h1, h2, h3, h4, h5, h6⟩ := Rd.open hk h
  rw [flatMap_length hf] at h5
  have : l.length = n := Nat.eq_of_mul_eq_mul_right hk h5
  subst this
  refine ⟨a, cap, h1, h2, h3, h4, fun i x hx q t hq ht => ?_⟩
  rw [Nat.add_assoc]
  exact h6 (i * k + q) t (by rw [flatMap_get hf hx hq]; exact ht)

theorem rd_rows {w : World} {v : Value} {e : Nat} {rs : List (List Int)} (h : Rd w (rowsT e rs) v) : ∃ a cap, v = .slice a rs.length cap ∧ SA a rs.length ∧ rs.length ≤ cap ∧ cap ≤ maxLen ∧
    ∀ i xs, rs[i]? = some xs → ∃ a2 c2, w.cell? ⟨ab a, ao a + i, none⟩ = some (.slice a2 xs.length c2) ∧ Rd w (iT xs) (.slice a2 xs.length c2) := by
  obtain ⟨a, cap, h1, h2, h3, h4, h5⟩ := rd_list rowT_length (by decide) h
  refine ⟨a, cap, h1, h2, h3, h4, fun i xs hx => ?_⟩
  obtain ⟨u, c, r⟩ := h5 i xs hx 0 _ (by decide) rfl
  obtain ⟨a2, k2, e2, _⟩ := r.ints
  subst e2
  exact ⟨a2, k2, by simpa using c, r⟩
theorem rd_sps {w : World} {v : Value} {e : Nat} {l : List Sp} (h : Rd w (spsT e l) v) : ∃ a cap, v = .slice a l.length cap ∧ SA a l.length ∧ l.length ≤ cap ∧ cap ≤ maxLen ∧
    ∀ i s, l[i]? = some s → ∃ a2 c2, w.cell? ⟨ab a, ao a + i * 2, none⟩ = some (iV s.1) ∧ w.cell? ⟨ab a, ao a + i * 2 + 1, none⟩ = some (.slice a2 s.2.length c2) ∧ Rd w (rowsT 43 s.2) (.slice a2 s.2.length c2) := by
  obtain ⟨a, cap, h1, h2, h3, h4, h5⟩ := rd_list spT_length (by decide) h
  refine ⟨a, cap, h1, h2, h3, h4, fun i s hx => ?_⟩
  obtain ⟨u0, c0, r0⟩ := h5 i s hx 0 _ (by decide) rfl
  obtain ⟨u1, c1, r1⟩ := h5 i s hx 1 _ (by decide) rfl
  obtain ⟨a2, k2, e2, _⟩ := rd_rows r1
  subst e2
  simp only [Rd] at r0
  subst r0
  exact ⟨a2, k2, c0, c1, r1⟩

def GivesSp (s : Sp) (r : Value) (H : List HE) : Prop := ∃ a c, r = .agg #[iV s.1, .slice a s.2.length c] ∧ SA a s.2.length ∧ H = [.own (rowsT 43 s.2) (.slice a s.2.length c)]

end Go.Proofs.YtcplmeajmpkpkaaGreat

namespace Go.Proofs.YtcplmeajmpkpkaaGreat
open Go.Lg Go.Proofs Go.RowKit
attribute [local irreducible] Code.wp wpList bodyPost Exit.then Exit.inBlock Hp Again Calls Y AT ResV QT
set_option maxRecDepth 20000
set_option maxHeartbeats 4000000

abbrev Qv := Int × List Int × List Int
structure Rp where
  p : Int
  q : Qv
  d : List Int
  m : List Mat
deriving DecidableEq
end Go.Proofs.YtcplmeajmpkpkaaGreat
