import Derived.Test.YtljgmmmgnfgbhaaZerqcm
namespace Go.Proofs.Ytljgmmmgnfgbhaa
open Go.Lg Go.Proofs Go.RowKit
attribute [local irreducible] Code.wp wpList bodyPost Exit.then Exit.inBlock Hp Again Calls Y AT ResV QT Qn QI wpAny wpAnyQ
set_option maxRecDepth 20000
set_option maxHeartbeats 4000000

/-! ### lists of matrices: of one, of zeros -/
def GivesMs (ms : List Mat) (v : Value) (H : List HE) : Prop := ∃ a c, v = .slice a ms.length c ∧ SA a ms.length ∧ H = [.own (matsT 46 ms) (.slice a ms.length c)]
def GivesMsB (ms : List Mat) (b : Bool) (v : Value) (H : List HE) : Prop := ∃ a c, v = .tuple #[.slice a ms.length c, .bool b] ∧ SA a ms.length ∧ H = [.own (matsT 46 ms) (.slice a ms.length c)]
theorem RepP.dd {r : Rp} (h : RepP r) : (∀ n, 0 ≤ r.d.getD n 0 ∧ r.d.getD n 0 ≤ 4) ∧ r.d.length ≤ 5 := by
  obtain ⟨_, ⟨⟨hV, _⟩, hdV, hdi, _⟩, _⟩ := h
  refine ⟨fun n => ?_, by omega⟩
  rcases Nat.lt_or_ge n r.d.length with h1 | h1
  · exact hdi _ (List.mem_of_getElem? (getD_some (z := 0) h1))
  · rw [List.getD_eq_getElem?_getD, List.getElem?_eq_none h1]; exact ⟨by simp, by simp⟩
theorem szMs_le {k : Nat} : ∀ {l : List Mat}, (∀ m ∈ l, m.2.2.length ≤ k) → szMs l ≤ l.length * (k + 1)
  | [], _ => by simp [szMs]
  | m :: l, h => by
    have h1 := szMs_le (l := l) (fun x hx => h x (List.mem_cons_of_mem _ hx))
    have h2 := h m (List.mem_cons_self ..)
    simp only [szMs, List.map_cons, List.sum_cons, List.length_cons, Nat.add_mul] at h1 ⊢
    omega
/-! ### the morphism of zeros -/
theorem FitP.dl {a b : Rp} (h : FitP a b) : a.d.length = b.d.length := by
  obtain ⟨⟨_, ⟨_, h1, _⟩, _⟩, ⟨_, ⟨_, h2, _⟩, _⟩, _, h3⟩ := h
  rw [h3] at h1
  omega
end Go.Proofs.Ytljgmmmgnfgbhaa
