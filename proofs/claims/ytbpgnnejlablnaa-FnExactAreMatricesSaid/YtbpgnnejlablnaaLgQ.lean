import Derived.Test.YtbpgnnejlablnaaLgP
namespace Go.Lg
section
variable {P : Program} {md : Region.Mode}

/-- no head operation waits for a later one, nor is guarded by a later one -/
def backB (md : Region.Mode) (head : List Oper) : Bool := (List.range head.length).all fun i => match head[i]? with
  | some o => o.after.all (fun e => !(Region.binds md e) || decide (e.on < i)) && (match o.guard with | some (j, _) => decide (j < i) | none => true)
  | none => true
/-- the operation number n waits for all that stand ahead of it -/
def lastB (md : Region.Mode) (n : Nat) (ops : Array Oper) : Bool := (List.range n).all fun i => Region.waitsFor md ops n i

theorem backB_spec {head : List Oper} (h : backB md head = true) {i : Nat} {o : Oper} (ho : head[i]? = some o) : (∀ e ∈ o.after, Region.binds md e = true → e.on < i) ∧ ∀ j b, o.guard = some (j, b) → j < i := by
  have hi : i < head.length := (List.getElem?_eq_some_iff.1 ho).1
  have h1 := List.all_eq_true.1 h i (List.mem_range.2 hi)
  simp only [ho, Bool.and_eq_true] at h1
  refine ⟨fun e he hb => ?_, fun j b hg => ?_⟩
  · have h2 := Array.all_eq_true_iff_forall_mem.1 h1.1 e he
    simpa [hb] using h2
  · have h2 := h1.2
    rw [hg] at h2
    simpa using h2

/-- a list of what has come up: the head's part, the tail's nothing -/
def pad (l1 : Array Bool) (m : Nat) : Array Bool := l1 ++ Array.replicate m false
theorem pad_lt {l1 : Array Bool} {m i : Nat} (d : Bool) (h : i < l1.size) : (pad l1 m).getD i d = l1.getD i d := by
  simp [pad, Array.getElem?_append_left h, h]
theorem pad_ge {l1 : Array Bool} {m i : Nat} (h : l1.size ≤ i) : (pad l1 m).getD i false = false := by
  simp [pad, Array.getElem?_append_right h, Array.getElem?_replicate]
  split <;> simp
theorem pad_set {l1 : Array Bool} {m i : Nat} (h : i < l1.size) : (pad l1 m).setIfInBounds i true = pad (l1.setIfInBounds i true) m := by
  apply Array.ext'
  simp [pad, h]

variable {head tail : List Oper}
theorem ops_lt {i : Nat} (h : i < head.length) : (head ++ tail).toArray[i]? = head.toArray[i]? := by
  simp [List.getElem?_append_left h]
theorem ready_head (hb : backB md head = true) {l1 : Array Bool} {m i : Nat} (hl : l1.size = head.length) (hi : i < head.length) :
    i ∈ Region.ready md (head ++ tail).toArray (pad l1 m) ↔ i ∈ Region.ready md head.toArray l1 := by
  rw [mem_ready, mem_ready, pad_lt true (by omega), ops_lt hi]
  constructor
  · rintro ⟨h1, o, ho, h2⟩
    refine ⟨h1, o, ho, fun e he hbi => ?_⟩
    have := (backB_spec hb (by simpa using ho)).1 e he hbi
    rw [← pad_lt (m := m) false (by omega)]
    exact h2 e he hbi
  · rintro ⟨h1, o, ho, h2⟩
    refine ⟨h1, o, ho, fun e he hbi => ?_⟩
    have := (backB_spec hb (by simpa using ho)).1 e he hbi
    rw [pad_lt false (by omega)]
    exact h2 e he hbi
theorem tail_idle (hl : lastB md head.length (head ++ tail).toArray = true) (hc : Region.chainB md (head ++ tail).toArray head.length = true) {l1 : Array Bool} {m i t : Nat} (hs : l1.size = head.length) (hi : i < head.length) (hu : l1.getD i false = false) (ht : head.length ≤ t) :
    t ∉ Region.ready md (head ++ tail).toArray (pad l1 m) := fun hr => by
  obtain ⟨_, o, ho, hall⟩ := mem_ready.1 hr
  by_cases h : t = head.length
  · subst h
    obtain ⟨o', ho', e, he, hbi, hon⟩ := Region.waitsFor_spec (List.all_eq_true.1 hl i (List.mem_range.2 hi))
    have : o' = o := Option.some.inj (ho'.symm.trans ho)
    subst this
    have := hall e he hbi
    rw [hon, pad_lt false (by omega), hu] at this
    cases this
  · have htl : t < (head ++ tail).toArray.size := (Array.getElem?_eq_some_iff.1 ho).1
    have h1 := List.all_eq_true.1 hc t (List.mem_range.2 htl)
    simp only [Bool.or_eq_true, decide_eq_true_eq] at h1
    rcases h1 with h1 | h1
    · omega
    · obtain ⟨o', ho', e, he, hbi, hon⟩ := Region.waitsFor_spec h1
      have : o' = o := Option.some.inj (ho'.symm.trans ho)
      subst this
      have := hall e he hbi
      rw [hon, pad_ge (by omega)] at this
      cases this
/-- the least that has not come up may come up -/
theorem least_ready (hb : backB md head = true) {l1 : Array Bool} (hs : l1.size = head.length) : (∀ i, i < head.length → l1.getD i false = true) ∨ ∃ i, i < head.length ∧ l1.getD i false = false ∧ i ∈ Region.ready md head.toArray l1 := by
  have key : ∀ k, k ≤ head.length → (∀ i, i < k → l1.getD i false = true) ∨ ∃ i, i < head.length ∧ l1.getD i false = false ∧ i ∈ Region.ready md head.toArray l1 := by
    intro k
    induction k with
    | zero => intro _; exact .inl (fun i hi => by omega)
    | succ k ih =>
      intro hk
      rcases ih (by omega) with h | h
      · cases hv : l1.getD k false with
        | true => exact .inl (fun i hi => by
            by_cases hik : i = k
            · subst hik; exact hv
            · exact h i (by omega))
        | false =>
          refine .inr ⟨k, by omega, hv, mem_ready.2 ⟨getD_in (by omega) hv, head[k]'(by omega), by simp, fun e he hbi => ?_⟩⟩
          exact h _ ((backB_spec hb (List.getElem?_eq_getElem (by omega))).1 e he hbi)
      · exact .inr h
  exact key _ (Nat.le_refl _)
theorem all_pad {l1 : Array Bool} {n m : Nat} (hs : l1.size = n) (h : ∀ i, i < n → l1.getD i false = true) : pad l1 m = pad (Array.replicate n true) m := by
  have : l1 = Array.replicate n true := by
    apply Array.ext
    · simp [hs]
    · intro i h1 h2
      have := h i (by omega)
      simpa [h1] using this
  rw [this]

theorem any_seq {Q' : Exit → Act → World → Prop} {ops : Array Oper} (g : Nat) : ∀ (l : List Oper) (k : Nat) (listed : Array Bool) (a : Act) (w : World), (∀ j, l[j]? = ops[k + j]?) →
    Region.seqB md ops l.length k listed = true → wpList P ops Q' l a w → wpAny P md ops Q' (g + l.length) listed a w
  | [], _, _, _, _, _, hB, h => wpAny_done (by simpa [Region.seqB] using hB) h _
  | o :: l, k, listed, a, w, hl, hB, h => by
    have h0 : ops[k]? = some o := by simpa using (hl 0).symm
    simp only [List.length_cons, Region.seqB, Bool.and_eq_true, decide_eq_true_eq] at hB
    refine wpAny_all (fuel := g + l.length) hB.1 (by simp) (fun i hi => ?_)
    have hik : i = k := by simpa using hi
    subst hik
    have hw : wpOp P ops Q' i (wpList P ops Q' l) a w := by unfold wpOp; simp only [h0]; exact h
    exact wpOp_mono (fun a' w' h' => any_seq g l (i + 1) _ a' w' (fun j => by have := hl (j + 1); simpa [Nat.add_assoc, Nat.add_comm 1 j] using this) hB.2 h') hw

theorem qOp_more (hb : backB md head = true) {C : World → Prop} {i : Nat} {K : Act → Prop} {a : Act} (hi : i < head.length) (h : qOp P head.toArray C i K a) : qOp P (head ++ tail).toArray C i K a := by
  unfold qOp at h ⊢
  rw [ops_lt hi]
  have hg : head.toArray[i]? = some head[i] := by simp
  rw [hg] at h ⊢
  have hw : Region.wanted head[i] (yielded (head ++ tail).toArray a.tmps) = Region.wanted head[i] (yielded head.toArray a.tmps) := by
    unfold Region.wanted
    cases hq : head[i].guard with
    | none => rfl
    | some jb =>
      obtain ⟨j, b⟩ := jb
      have := (backB_spec hb (List.getElem?_eq_getElem hi)).2 j b hq
      simp only [yielded, ops_lt (show j < head.length by omega)]
  simp only [hw]
  exact h

theorem any_tail {C : World → Prop} {K : Act → Prop} {Q' : Exit → Act → World → Prop} {m : Nat} (hb : backB md head = true) (hl : lastB md head.length (head ++ tail).toArray = true) (hc : Region.chainB md (head ++ tail).toArray head.length = true)
    (hK : ∀ g a w, C w → K a → wpAny P md (head ++ tail).toArray Q' (g + m) (pad (Array.replicate head.length true) m) a w) :
    ∀ (f : Nat) (l1 : Array Bool) (a : Act) (w : World), l1.size = head.length → C w → wpAnyQ P md head.toArray C K f l1 a → wpAny P md (head ++ tail).toArray Q' (f + m) (pad l1 m) a w
  | f, l1, a, w, hs, hw, h => by
    rcases least_ready (md := md) hb hs with hall | ⟨i, hi, hu, hr⟩
    · have hr : Region.ready md head.toArray l1 = [] := by
        cases hq : Region.ready md head.toArray l1 with
        | nil => rfl
        | cons j r =>
          have hj : j ∈ Region.ready md head.toArray l1 := by rw [hq]; simp
          obtain ⟨h1, o, ho, _⟩ := mem_ready.1 hj
          have hjn : j < head.length := by simpa using (Array.getElem?_eq_some_iff.1 ho).1
          have := hall j hjn
          rw [getD_both h1] at this
          cases this
      have hKa : K a := by
        cases f with
        | zero => exact h.2
        | succ f => exact h.1 hr
      rw [all_pad hs hall]
      exact hK f a w hw hKa
    · cases f with
      | zero => have := h.1; rw [this] at hr; cases hr
      | succ f =>
        rw [show f + 1 + m = (f + m) + 1 by omega]
        refine ⟨fun h0 => ?_, fun j hj => ?_⟩
        · have := (ready_head (tail := tail) (m := m) hb hs hi).2 hr
          rw [h0] at this; cases this
        · have hjn : j < head.length := by
            rcases Nat.lt_or_ge j head.length with h1 | h1
            · exact h1
            · exact absurd hj (tail_idle hl hc hs hi hu h1)
          have hj' := (ready_head hb hs hjn).1 hj
          have h2 := qOp_more (tail := tail) hb hjn (h.2 j hj')
          rw [pad_set (by omega)]
          exact wpOp_of_qOp hw (fun a' w' hw' h3 => any_tail hb hl hc hK f _ a' w' (by simpa using hs) hw' h3) h2

theorem region_tail {C : World → Prop} {id : Nat} {Q : Exit → Act → World → Prop} {a : Act} {w : World} (hm : P.follows .mixedOrders = true) (hB : Region.lexB .any head.toArray = true) (hb : backB .any head = true) (hl : lastB .any head.length (head ++ tail).toArray = true)
    (hc : Region.chainB .any (head ++ tail).toArray head.length = true) (hs : Region.seqB .any (head ++ tail).toArray tail.length head.length (pad (Array.replicate head.length true) tail.length) = true) (hC : C { w with drawn := w.drawn + 1 })
    (h : wpQuiet P head.toArray C (fun a' => ∀ w', C w' → wpList P (head ++ tail).toArray Q tail a' w') head a) : (Code.region id (head ++ tail).toArray true).wp P Q a w := by
  simp only [Region.lexB, Bool.and_eq_true] at hB
  refine wp_region_any hm ?_
  have h1 := wpAnyQ_lex (C := C) (md := .any) hB.1 head 0 (Array.replicate head.length false) a (by simp) (by simpa using hB.2) h
  have h2 := any_tail (md := .any) (Q' := Q) (m := tail.length) hb hl hc (fun g a' w' hw' hk => any_seq g tail head.length _ a' w' (fun j => by simp [List.getElem?_append_right]) hs (hk w' hw')) head.length _ a _ (by simp) hC h1
  have e1 : pad (Array.replicate head.length false) tail.length = Array.replicate (head ++ tail).toArray.size false := by
    apply Array.ext'
    simp [pad]
  rw [e1] at h2
  simpa using h2
end
section
variable {P : Program} {n : Nat} {C : World → Prop} {s : List (Nat × Value)} {Q : Exit → Act → World → Prop}
/-- a region that draws its order: its head is quiet, its tail comes in order -/
theorem c_tail (k : Nat) {id : Nat} {l : List Oper} (hm : P.follows .mixedOrders = true) (hB : Region.lexB .any (l.take k).toArray = true) (hb : backB .any (l.take k) = true) (hl : lastB .any (l.take k).length (l.take k ++ l.drop k).toArray = true)
    (hc : Region.chainB .any (l.take k ++ l.drop k).toArray (l.take k).length = true) (hs : Region.seqB .any (l.take k ++ l.drop k).toArray (l.drop k).length (l.take k).length (pad (Array.replicate (l.take k).length true) (l.drop k).length) = true)
    (hC : ∀ w, C w → C { w with drawn := w.drawn + 1 })
    (h : QT P (l.take k).toArray n C (fun a' => ∀ w', C w' → Qk (wpList P l.toArray Q (l.drop k)) Q .normal a' w') s (l.take k)) : AT n C s ((Code.region id l.toArray true).wp P Q) := fun a w f c => by
  have e : l.take k ++ l.drop k = l := List.take_append_drop k l
  have := region_tail (id := id) (Q := Q) (a := a) (w := w) (head := l.take k) (tail := l.drop k) hm hB hb hl hc hs (hC w c) (by
    rw [e]
    exact h a f)
  rwa [e] at this
end
end Go.Lg
