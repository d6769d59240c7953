import Derived.Test.YtooffimgfnacoaaRep
import Derived.Test.YtooffimgfnacoaaLC
import Derived.Test.YtooffimgfnacoaaRdP
namespace Go.Proofs.Ytooffimgfnacoaa
open Go.Lg Go.Proofs Go.RowKit
attribute [local irreducible] Code.wp wpList bodyPost Exit.then Exit.inBlock Hp Again Calls Y AT ResV QT Qn QI wpAny wpAnyQ
set_option maxRecDepth 20000
set_option maxHeartbeats 4000000

/-! ### the vertices whose dimension is above zero -/
def suppN (d : List Int) : Nat → List Int
  | 0 => []
  | n + 1 => if 0 < d.getD n 0 then suppN d n ++ [(n : Int)] else suppN d n
def supp (r : Rp) : List Int := if RepP r then suppN r.d r.d.length else []
def GivesIL (xs : List Int) (v : Value) (H : List HE) : Prop := ∃ a c, v = .slice a xs.length c ∧ SA a xs.length ∧ H = [.own (iT xs) (.slice a xs.length c)]
theorem suppN_le (d : List Int) : ∀ n, (suppN d n).length ≤ n
  | 0 => by simp [suppN]
  | n + 1 => by
    have := suppN_le d n
    simp only [suppN]
    split
    · rw [List.length_append, List.length_singleton]; omega
    · omega
theorem suppN_pos {d : List Int} {n : Nat} (h : d.getD n 0 > 0) : suppN d (n + 1) = suppN d n ++ [(n : Int)] := by rw [suppN, if_pos h]
theorem suppN_neg {d : List Int} {n : Nat} (h : ¬ d.getD n 0 > 0) : suppN d (n + 1) = suppN d n := by rw [suppN, if_neg h]
theorem supp_yes {r : Rp} (h : RepP r) : supp r = suppN r.d r.d.length := by rw [supp, if_pos h]
theorem supp_no {r : Rp} (h : ¬ RepP r) : supp r = [] := by rw [supp, if_neg h]
theorem RepP.dl {r : Rp} (h : RepP r) : r.d.length ≤ 5 := by
  obtain ⟨_, ⟨⟨hV, _⟩, hdV, _⟩, _⟩ := h
  omega
theorem supp_len (r : Rp) : (supp r).length ≤ 64 := by
  by_cases h : RepP r
  · rw [supp_yes h]
    have := suppN_le r.d r.d.length
    obtain ⟨_, ⟨⟨hV, _⟩, hdV, _⟩, _⟩ := h
    omega
  · rw [supp_no h]; simp
end Go.Proofs.Ytooffimgfnacoaa
