import Derived.Test.YtbpgnnejlablnaaLgL
import Derived.ProofKit
import Derived.Deep.Slices
import Derived.ChangeOld
namespace Go.Lg
open Go.RowKit Go.WideShapes Go.ChangeShapes

/-- an int that Go's int holds -/
def Rng (n : Int) : Prop := -9223372036854775808 ≤ n ∧ n ≤ 9223372036854775807

section
variable {H : Type} {enc : TypeId × Value → H} {P : Program} {w : World} {base : Nat} {spare : Nat → Bool} {held : Bool}

/-- cells that read as data -/
def RdC (w : World) (ts : List T) (cs : List Value) : Prop := cs.length = ts.length ∧ ∀ (j : Nat) (t : T) (u : Value), ts[j]? = some t → cs[j]? = some u → Rd w t u

theorem RdL.of_get {b o : Nat} : ∀ {ts : List T} {j : Nat}, (∀ i t, ts[i]? = some t → ∃ u, w.cell? ⟨b, o + (j + i), none⟩ = some u ∧ Rd w t u) → RdL w (some ⟨b, o, none⟩) j ts
  | [], j, h => by simp only [RdL]
  | t :: ts, j, h => by
    simp only [RdL]
    obtain ⟨u, h1, h2⟩ := h 0 t (by simp)
    exact ⟨⟨b, o, u, rfl, h1, h2⟩, RdL.of_get (fun i t' ht => by
      have := h (i + 1) t' (by simpa using ht)
      rwa [show j + (i + 1) = j + 1 + i by omega] at this)⟩
theorem RdL.none {a : Option Addr} {j : Nat} : RdL w a j [] := by simp only [RdL]

theorem tr_int {t fuel : Nat} {cs : List Value} {x : DataW H × List MemPlace} (ht : P.underlying t = some (.int .i64)) (h : DataW.trod enc P w base spare held fuel t cs = some x) : ∃ n, cs = [.int .i64 n] ∧ Rng n := by
  obtain ⟨n, h1, _, h3⟩ := DataW.trod_int ht h
  refine ⟨n, h1, ?_⟩
  have := h3
  simp only [Lit.wf] at this
  simp [IntKind.min, IntKind.max, IntKind.signed, IntKind.bits] at this
  unfold Rng; omega

theorem tr_slice {α : Type} [Inhabited α] {t e e' k fuel : Nat} {f : α → List T} {G : α → Prop} {cs : List Value} {x : DataW H × List MemPlace} (ht : P.underlying t = some (.slice e)) (hk : P.cellsOf e = k) (hk0 : 0 < k) (hf : ∀ a, (f a).length = k)
    (hel : ∀ fuel cs x, DataW.trod enc P w base spare held fuel e cs = some x → ∃ a, RdC w (f a) cs ∧ G a) (h : DataW.trod enc P w base spare held fuel t cs = some x) :
    ∃ (v : Value) (l : List α), cs = [v] ∧ Rd w (.s e' k (l.flatMap f)) v ∧ ∀ a ∈ l, G a := by
  rcases Deep.open_slice ht h with ⟨rfl, _⟩ | ⟨a, len, cap, m, n, D, Pl, rfl, hb, hl, hm, hmm, _, hx⟩
  · refine ⟨_, [], rfl, ?_, by simp⟩
    simp only [Rd, List.flatMap_nil]
    exact ⟨none, 0, 0, rfl, Nat.le_refl _, Nat.zero_le _, by simp, RdL.none⟩
  · have hlm : len ≤ m := by rw [hmm]; split <;> omega
    rw [hk] at hx
    have hch : ∀ i, i < len → ∃ g : α × List Value, w.cells? base (a.add (i * k)) k = some g.2 ∧ RdC w (f g.1) g.2 ∧ G g.1 := fun i hi => by
      obtain ⟨cs', h1, h2⟩ := hx i (by omega)
      obtain ⟨g, h3, h4⟩ := hel _ _ _ h2
      exact ⟨(g, cs'), h1, h3, h4⟩
    obtain ⟨g, hg⟩ := Deep.choose_lt (α := α × List Value) hch
    refine ⟨_, (List.range len).map (fun i => (g i).1), rfl, ?_, ?_⟩
    · simp only [Rd]
      have hlen : (((List.range len).map (fun i => (g i).1)).flatMap f).length = len * k := by
        have : ∀ l : List α, (l.flatMap f).length = l.length * k := by
          intro l
          induction l with
          | nil => simp
          | cons y l ih => simp only [List.flatMap_cons, List.length_append, hf, ih, List.length_cons, Nat.succ_mul]; omega
        rw [this]; simp
      refine ⟨some a, len, cap, rfl, hl, hm, hlen, ?_⟩
      by_cases h0 : len = 0
      · subst h0; simp only [List.range_zero, List.map_nil, List.flatMap_nil]; exact RdL.none
      · have hget : ∀ (l : List α) (i q : Nat) (y : α), l[i]? = some y → q < k → (l.flatMap f)[i * k + q]? = (f y)[q]? := by
          intro l
          induction l with
          | nil => intro i q y hy; simp at hy
          | cons z l ih =>
            intro i q y hy hq
            cases i with
            | zero => simp at hy; subst hy; rw [List.flatMap_cons, List.getElem?_append_left (by rw [hf]; omega)]; simp
            | succ i =>
              rw [List.flatMap_cons, List.getElem?_append_right (by rw [hf, Nat.succ_mul]; omega), hf, show (i + 1) * k + q - k = i * k + q by rw [Nat.succ_mul]; omega]
              exact ih i q y (by simpa using hy) hq
        have hcell : ∀ i q, i < len → q < k → ∃ u, (g i).2[q]? = some u ∧ w.cell? (a.add (i * k + q)) = some u := fun i q hi hq => by
          obtain ⟨c1, c2, c3⟩ := World.cells?_some (hg i hi).1
          have hq' : q < (g i).2.length := by omega
          refine ⟨_, List.getElem?_eq_getElem hq', ?_⟩
          rw [← Deep.add_add, c3 q hq, List.getElem?_eq_getElem hq']
        have hspot : a.spot = none := by
          obtain ⟨u, _, hu⟩ := hcell 0 0 (by omega) hk0
          simpa [Addr.add] using World.cell?_spot hu
        obtain ⟨b, o, sp⟩ := a
        simp only at hspot
        subst hspot
        refine RdL.of_get (fun i t hti => ?_)
        have hi : i < len * k := by rw [← hlen]; exact (List.getElem?_eq_some_iff.1 hti).1
        have hq : i % k < k := Nat.mod_lt _ hk0
        have hd : i / k < len := Nat.div_lt_of_lt_mul (by rw [Nat.mul_comm]; exact hi)
        have hdec : i / k * k + i % k = i := by rw [Nat.mul_comm]; exact Nat.div_add_mod i k
        rw [← hdec, hget _ (i / k) (i % k) (g (i / k)).1 (by simp [hd]) hq] at hti
        obtain ⟨u, h1, h2⟩ := hcell (i / k) (i % k) hd hq
        refine ⟨u, ?_, (hg (i / k) hd).2.1.2 _ _ _ hti h1⟩
        rw [hdec, Addr.add_lit] at h2
        rw [Nat.zero_add]; exact h2
    · intro y hy
      obtain ⟨i, hi, rfl⟩ := List.mem_map.1 hy
      exact (hg i (List.mem_range.1 hi)).2.2
end
end Go.Lg
