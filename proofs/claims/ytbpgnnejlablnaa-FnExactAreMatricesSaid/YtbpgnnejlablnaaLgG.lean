import Derived.Test.YtbpgnnejlablnaaLgF
import Derived.KernelRfl
namespace Go.Lg
open Go.RowKit

theorem all_lk {α : Type} {G : Nat → α → Prop} : ∀ {l : List (Nat × α)}, (∀ p ∈ l, G p.1 p.2) → ∀ t x, lk l t = some x → G t x
  | [], _, t, x, h => by cases h
  | (k, v) :: l, hl, t, x, h => by
    simp only [lk] at h
    by_cases hk : k = t
    · subst hk; simp at h; subst h; exact hl (k, v) (by simp)
    · have : Nat.beq k t = false := by
        cases hb : Nat.beq k t with
        | false => rfl
        | true => exact absurd (Nat.eq_of_beq_eq_true hb) hk
      simp only [this, cond_false] at h
      exact all_lk (fun q hq => hl q (by simp [hq])) t x h

section
variable {P : Program}

structure SlF (P : Program) (t : Nat) (q : Nat × Nat × Nat × List Value) : Prop where
  und : P.underlying t = some (.slice q.1)
  info : ∃ zv, (P.info? q.1).map (fun i => (i.zero, i.size, i.bytes)) = some (some zv, q.2.1, q.2.2.1) ∧ zv.cells = q.2.2.2.toArray
  len : q.2.2.2.length = q.2.1
  pos : 0 < q.2.1
def StF (P : Program) (t : Nat) (fs : List Nat) : Prop := ∀ f off, fs[f]? = some off → ∀ a w, (Instr.fieldAt t (.pointer (some a)) f).run P w = .ok (.pointer (some (a.add off))) w
structure OneF (P : Program) (t : Nat) : Prop where
  agg : ∀ w, (isAgg t).run P w = .ok false w
  size : ∀ w, (sizeOf t).run P w = .ok 1 w
structure SzF (P : Program) (t : Nat) (z : List Value) : Prop where
  zero : ∃ zv, (∀ w, (zeroValue t).run P w = .ok zv w) ∧ zv.cells = z.toArray
  agg : ∀ w, (isAgg t).run P w = .ok true w
  size : ∀ w, (sizeOf t).run P w = .ok z.length w

theorem cells_one {v : Value} (h : v.oneCell' = true) : v.cells = #[v] := by cases v <;> first | rfl | cases h

theorem stF_nil {t : Nat} : StF P t [] := fun f off h => by simp at h
theorem stF_cons {t : Nat} {pre : List Nat} {o : Nat} (h : StF P t pre) (ho : ∀ a w, (Instr.fieldAt t (.pointer (some a)) pre.length).run P w = .ok (.pointer (some (a.add o))) w) : StF P t (pre ++ [o]) := fun f off hf a w => by
  rw [List.getElem?_append] at hf
  split at hf
  · exact h f off hf a w
  · have : f = pre.length := by
      have := (List.getElem?_eq_some_iff.1 hf).1
      simp at this; omega
    subst this
    simp at hf; subst hf
    exact ho a w

def mkTabs (sl : List (Nat × (Nat × Nat × Nat × List Value))) (st : List (Nat × List Nat)) (one : List (Nat × Unit)) (sz : List (Nat × List Value))
    (h1 : ∀ p ∈ sl, SlF P p.1 p.2) (h2 : ∀ p ∈ st, StF P p.1 p.2) (h3 : ∀ p ∈ one, OneF P p.1) (h4 : ∀ p ∈ sz, SzF P p.1 p.2) : Tabs P where
  sl := sl
  st := st
  one := one
  sz := sz
  sl_ok := fun t e k b z h => by
    have := all_lk (G := fun t q => SlF P t q) h1 t _ h
    obtain ⟨zv, hi, hz⟩ := this.info
    obtain ⟨i, q1, q2, q3, q4⟩ := info_parts hi
    exact ⟨this.und, this.len, this.pos, i, zv, q1, q3, q4, q2, hz⟩
  st_ok := fun t fs h => all_lk (G := fun t q => StF P t q) h2 t _ h
  one_ok := fun t h => by
    have := all_lk (G := fun t _ => OneF P t) h3 t _ h
    refine ⟨fun a v w hc => ?_, fun a v w hv => ?_⟩
    · simp only [Instr.loadAt, Instr.sureAddr, loadVar, Sem.run_bind, Sem.run_pure, Result.andThen_ok, this.agg w]
      simp [hc]
    · have h1 := this.size w
      simp only [Instr.storeAt, Instr.sureAddr, storeVar, Sem.run_bind, Sem.run_pure, Result.andThen_ok, h1, cells_one hv]
      have h0 : a.add 0 = a := by simp [Addr.add]
      have hs : (storeCells a [v]).run P w = stored P w a v .plain := by
        have h2 : (store a v .plain).run P w = stored P w a v .plain := run_store P w a v .plain hv
        simp only [storeCells, Sem.run_bind, h0, h2]
        cases stored P w a v .plain <;> simp [Result.andThen]
      simpa using hs
  sz_ok := fun t z h => by
    have := all_lk (G := fun t q => SzF P t q) h4 t _ h
    obtain ⟨zv, hz1, hz2⟩ := this.zero
    refine ⟨fun w => ⟨zv, hz1 w, hz2⟩, fun a cs w hl hc => ?_, fun a cs w hl => ?_⟩
    · have h1 := run_loadCells_list (P := P) (w := w) a cs hc
      rw [hl] at h1
      simp [Instr.loadAt, Instr.sureAddr, loadVar, this.agg w, this.size w, h1]
    · simp [Instr.storeAt, Instr.sureAddr, storeVar, this.size w, hl, Value.cells]
end
end Go.Lg
