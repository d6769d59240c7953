import Derived.Test.YtbpgnnejlablnaaLgT
import Derived.Lib.SliceRun
namespace Go.Lg
open Go.RowKit
section
variable {P : Program} {n : Nat} {C : World → Prop} {s : List (Nat × Value)} {x y : Operand} {t t' ty : Nat}
theorem y_eqsnil (T : Tabs P) {q : Nat × Nat × Nat × List Value} {a : Option Addr} {m c m' c' : Nat} (ht : lk T.sl t = some q) (hx : ev s x = some (.slice a m c)) (hy : ev s y = some (.slice none m' c')) : Y P n C s (.binOp .eql t x y t') ty (.bool (decide (a = none))) := fun aa w f cc d pos af g => by
  obtain ⟨e, k, b, z⟩ := q
  obtain ⟨g1, _⟩ := T.sl_ok _ _ _ _ _ ht
  have h := Lib.run_eql_slice_nil (P := P) w t e a m c m' c' g1
  have h2 : a.isNone = decide (a = none) := by cases a <;> rfl
  rw [h2] at h
  simp [execOp, f.ev hx, f.ev hy, eqGuard, h]
theorem rd_src {w : World} {e : Nat} {ys : List Int} {ad : Option Addr} {c : Nat} (h : Rd w (ints e ys) (.slice ad ys.length c)) : ys = [] ∨ ∃ a, ad = some a ∧ ∀ j u, (ic ys)[j]? = some u → w.cell? (a.add j) = some u := by
  obtain ⟨a, cap, h1, hs, _, _, hg⟩ := h.ints
  cases h1
  rcases Nat.eq_zero_or_pos ys.length with h0 | h0
  · exact .inl (List.length_eq_zero_iff.1 h0)
  · refine .inr ⟨_, hs.get h0, fun j u hu => ?_⟩
    have hj : j < ys.length := by
      have := (List.getElem?_eq_some_iff.1 hu).1
      simpa [ic] using this
    have := hg j hj
    have hu' : u = .int .i64 (ys.getD j 0) := by
      have h3 : (ic ys)[j]? = some (.int .i64 (ys.getD j 0)) := by simp [ic, List.getD, hj]
      rw [h3] at hu; exact (Option.some.inj hu).symm
    rw [hu', Addr.add_lit]
    exact this
theorem y_bld3 {x0 x1 x2 : Operand} {v v0 v1 v2 : Value} (hb : ∀ w, (Instr.build t #[(0, v0), (1, v1), (2, v2)]).run P w = .ok v w) (h0 : ev s x0 = some v0) (h1 : ev s x1 = some v1) (h2 : ev s x2 = some v2) : Y P n C s (.build t #[(0, x0), (1, x1), (2, x2)]) ty v := fun a w f c d pos af g => by
  simp [execOp, f.ev h0, f.ev h1, f.ev h2, hb]
end
end Go.Lg
