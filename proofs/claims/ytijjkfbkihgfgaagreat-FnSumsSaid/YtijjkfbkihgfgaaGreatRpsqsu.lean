import Derived.Test.YtijjkfbkihgfgaaGreatLCqsu
import Derived.Test.YtijjkfbkihgfgaaGreatLinqsu
import Derived.Test.YtijjkfbkihgfgaaGreatPrdqsu
namespace Go.Proofs.YtijjkfbkihgfgaaGreat
open Go.Lg Go.Proofs Go.RowKit
attribute [local irreducible] Code.wp wpList bodyPost Exit.then Exit.inBlock Hp Again Calls Y AT ResV QT Qn QI wpAny wpAnyQ
set_option maxRecDepth 20000
set_option maxHeartbeats 4000000

def rpT (r : Rp) : List T := [.c (iV r.p), .c (iV r.q.1), iT r.q.2.1, iT r.q.2.2, iT r.d, matsT 47 r.m]
abbrev rpsT (e : Nat) (l : List Rp) : T := .s e 6 (l.flatMap rpT)
theorem rpT_length (r : Rp) : (rpT r).length = 6 := rfl
def rp0 : Rp := ⟨0, (0, [], []), [], []⟩
theorem rd_rps {w : World} {v : Value} {e : Nat} {l : List Rp} (h : Rd w (rpsT e l) v) : ∃ a cap, v = .slice a l.length cap ∧ SA a l.length ∧ l.length ≤ cap ∧ cap ≤ maxLen ∧
    ∀ i r, l[i]? = some r → ∃ a0 c0 a1 c1 a2 c2 a3 c3, w.cell? ⟨ab a, ao a + i * 6, none⟩ = some (iV r.p) ∧ w.cell? ⟨ab a, ao a + i * 6 + 1, none⟩ = some (iV r.q.1) ∧ w.cell? ⟨ab a, ao a + i * 6 + 2, none⟩ = some (.slice a0 r.q.2.1.length c0) ∧ w.cell? ⟨ab a, ao a + i * 6 + 3, none⟩ = some (.slice a1 r.q.2.2.length c1) ∧ w.cell? ⟨ab a, ao a + i * 6 + 4, none⟩ = some (.slice a2 r.d.length c2) ∧ w.cell? ⟨ab a, ao a + i * 6 + 5, none⟩ = some (.slice a3 r.m.length c3) ∧
      Rd w (iT r.q.2.1) (.slice a0 r.q.2.1.length c0) ∧ Rd w (iT r.q.2.2) (.slice a1 r.q.2.2.length c1) ∧ Rd w (iT r.d) (.slice a2 r.d.length c2) ∧ Rd w (matsT 47 r.m) (.slice a3 r.m.length c3) := by
  obtain ⟨a, cap, h1, h2, h3, h4, h5⟩ := rd_list rpT_length (by decide) h
  refine ⟨a, cap, h1, h2, h3, h4, fun i r hx => ?_⟩
  obtain ⟨u0, c0, r0⟩ := h5 i r hx 0 _ (by decide) rfl
  obtain ⟨u1, c1, r1⟩ := h5 i r hx 1 _ (by decide) rfl
  obtain ⟨u2, c2, r2⟩ := h5 i r hx 2 _ (by decide) rfl
  obtain ⟨u3, c3, r3⟩ := h5 i r hx 3 _ (by decide) rfl
  obtain ⟨u4, c4, r4⟩ := h5 i r hx 4 _ (by decide) rfl
  obtain ⟨u5, c5, r5⟩ := h5 i r hx 5 _ (by decide) rfl
  obtain ⟨b2, k2, e2, _⟩ := r2.ints
  obtain ⟨b3, k3, e3, _⟩ := r3.ints
  obtain ⟨b4, k4, e4, _⟩ := r4.ints
  obtain ⟨b5, k5, e5, _⟩ := rd_mats r5
  subst e2; subst e3; subst e4; subst e5
  simp only [Rd] at r0 r1
  subst r0; subst r1
  exact ⟨b2, k2, b3, k3, b4, k4, b5, k5, c0, c1, c2, c3, c4, c5, r2, r3, r4, r5⟩
end Go.Proofs.YtijjkfbkihgfgaaGreat
