import Derived.Test.YtbpgnnejlablnaaLgW
namespace Go.Lg
section
variable {P : Program} {md : Region.Mode} {head tail : List Oper}
/-- the operation number n waits for the one number i, by others if need be -/
def reach (md : Region.Mode) (n : Nat) (ops : Array Oper) : Nat → Nat → Bool
  | 0, i => Region.waitsFor md ops n i
  | f + 1, i => Region.waitsFor md ops n i || (List.range n).any fun j => Region.waitsFor md ops j i && reach md n ops f j
def lastR (md : Region.Mode) (n : Nat) (ops : Array Oper) : Bool := (List.range n).all fun i => reach md n ops 4 i
/-- what has come up has come up behind what it waits for -/
def Closed (md : Region.Mode) (ops : Array Oper) (l : Array Bool) : Prop := ∀ j o, ops[j]? = some o → l.getD j false = true → ∀ e ∈ o.after, Region.binds md e = true → l.getD e.on false = true
theorem closed_none {md : Region.Mode} {ops : Array Oper} {n : Nat} : Closed md ops (Array.replicate n false) := fun j o _ h => by
  rw [getD_replicate_false] at h; cases h
theorem closed_set {ops : Array Oper} {l : Array Bool} {i : Nat} (h : Closed md ops l) (hr : i ∈ Region.ready md ops l) : Closed md ops (l.setIfInBounds i true) := fun j o ho hj e he hb => by
  obtain ⟨h1, o', ho', h2⟩ := mem_ready.1 hr
  have keep : ∀ q, l.getD q false = true → (l.setIfInBounds i true).getD q false = true := fun q hq => by
    simp only [Array.getD_eq_getD_getElem?, Array.getElem?_setIfInBounds] at hq ⊢
    split
    · split
      · rfl
      · rename_i h3 h4; subst h3; rw [Array.getElem?_eq_none (by omega)] at hq; exact hq
    · exact hq
  by_cases hij : i = j
  · subst hij
    have : o' = o := Option.some.inj (ho'.symm.trans ho)
    subst this
    exact keep _ (h2 e he hb)
  · refine keep _ (h j o ho ?_ e he hb)
    simp only [Array.getD_eq_getD_getElem?, Array.getElem?_setIfInBounds, if_neg hij] at hj ⊢
    exact hj
/-- an operation of the tail may not come up while the head is not all there -/
theorem tail_idleR (hl : lastR md head.length (head ++ tail).toArray = true) (hc : Region.chainB md (head ++ tail).toArray head.length = true) {l1 : Array Bool} {m i t : Nat} (hs : l1.size = head.length) (hcl : Closed md head.toArray l1) (hi : i < head.length) (hu : l1.getD i false = false) (ht : head.length ≤ t) :
    t ∉ Region.ready md (head ++ tail).toArray (pad l1 m) := fun hr => by
  obtain ⟨_, o, ho, hall⟩ := mem_ready.1 hr
  by_cases h : t = head.length
  · subst h
    have key : ∀ f q, q < head.length → reach md head.length (head ++ tail).toArray f q = true → l1.getD q false = true := by
      have direct : ∀ q, q < head.length → Region.waitsFor md (head ++ tail).toArray head.length q = true → l1.getD q false = true := fun q hq hw => by
        obtain ⟨o', ho', e, he, hbi, hon⟩ := Region.waitsFor_spec hw
        have : o' = o := Option.some.inj (ho'.symm.trans ho)
        subst this
        have := hall e he hbi
        rwa [hon, pad_lt false (by omega)] at this
      intro f
      induction f with
      | zero => intro q hq h; exact direct q hq h
      | succ f ih =>
        intro q hq h
        simp only [reach, Bool.or_eq_true] at h
        rcases h with h | h
        · exact direct q hq h
        · obtain ⟨j, hj, h2⟩ := List.any_eq_true.1 h
          simp only [Bool.and_eq_true] at h2
          have hjn := List.mem_range.1 hj
          obtain ⟨o', ho', e, he, hbi, hon⟩ := Region.waitsFor_spec h2.1
          rw [ops_lt hjn] at ho'
          have := hcl j o' ho' (ih j hjn h2.2) e he hbi
          rwa [hon] at this
    have := key 4 i hi (List.all_eq_true.1 hl i (List.mem_range.2 hi))
    rw [hu] at this
    cases this
  · have htl : t < (head ++ tail).toArray.size := (Array.getElem?_eq_some_iff.1 ho).1
    have h1 := List.all_eq_true.1 hc t (List.mem_range.2 htl)
    simp only [Bool.or_eq_true, decide_eq_true_eq] at h1
    rcases h1 with h1 | h1
    · omega
    · obtain ⟨o', ho', e, he, hbi, hon⟩ := Region.waitsFor_spec h1
      have : o' = o := Option.some.inj (ho'.symm.trans ho)
      subst this
      have := hall e he hbi
      rw [hon, pad_ge (by omega)] at this
      cases this
theorem any_tailR {C : World → Prop} {K : Act → Prop} {Q' : Exit → Act → World → Prop} {m : Nat} (hb : backB md head = true) (hl : lastR md head.length (head ++ tail).toArray = true) (hc : Region.chainB md (head ++ tail).toArray head.length = true)
    (hK : ∀ g a w, C w → K a → wpAny P md (head ++ tail).toArray Q' (g + m) (pad (Array.replicate head.length true) m) a w) :
    ∀ (f : Nat) (l1 : Array Bool) (a : Act) (w : World), l1.size = head.length → Closed md head.toArray l1 → C w → wpAnyQ P md head.toArray C K f l1 a → wpAny P md (head ++ tail).toArray Q' (f + m) (pad l1 m) a w
  | f, l1, a, w, hs, hcl, hw, h => by
    rcases least_ready (md := md) hb hs with hall | ⟨i, hi, hu, hr⟩
    · have hr : Region.ready md head.toArray l1 = [] := by
        cases hq : Region.ready md head.toArray l1 with
        | nil => rfl
        | cons j r =>
          have hj : j ∈ Region.ready md head.toArray l1 := by rw [hq]; simp
          obtain ⟨h1, o, ho, _⟩ := mem_ready.1 hj
          have hjn : j < head.length := by simpa using (Array.getElem?_eq_some_iff.1 ho).1
          have := hall j hjn
          rw [getD_both h1] at this
          cases this
      have hKa : K a := by
        cases f with
        | zero => exact h.2
        | succ f => exact h.1 hr
      rw [all_pad hs hall]
      exact hK f a w hw hKa
    · cases f with
      | zero => have := h.1; rw [this] at hr; cases hr
      | succ f =>
        rw [show f + 1 + m = (f + m) + 1 by omega]
        refine ⟨fun h0 => ?_, fun j hj => ?_⟩
        · have := (ready_head (tail := tail) (m := m) hb hs hi).2 hr
          rw [h0] at this; cases this
        · have hjn : j < head.length := by
            rcases Nat.lt_or_ge j head.length with h1 | h1
            · exact h1
            · exact absurd hj (tail_idleR hl hc hs hcl hi hu h1)
          have hj' := (ready_head hb hs hjn).1 hj
          have h2 := qOp_more (tail := tail) hb hjn (h.2 j hj')
          rw [pad_set (by omega)]
          exact wpOp_of_qOp hw (fun a' w' hw' h3 => any_tailR hb hl hc hK f _ a' w' (by simpa using hs) (closed_set hcl hj') hw' h3) h2
theorem region_tailR {C : World → Prop} {id : Nat} {Q : Exit → Act → World → Prop} {a : Act} {w : World} (hm : P.follows .mixedOrders = true) (hB : Region.lexB .any head.toArray = true) (hb : backB .any head = true) (hl : lastR .any head.length (head ++ tail).toArray = true)
    (hc : Region.chainB .any (head ++ tail).toArray head.length = true) (hs : Region.seqB .any (head ++ tail).toArray tail.length head.length (pad (Array.replicate head.length true) tail.length) = true) (hC : C { w with drawn := w.drawn + 1 })
    (h : wpQuiet P head.toArray C (fun a' => ∀ w', C w' → wpList P (head ++ tail).toArray Q tail a' w') head a) : (Code.region id (head ++ tail).toArray true).wp P Q a w := by
  simp only [Region.lexB, Bool.and_eq_true] at hB
  refine wp_region_any hm ?_
  have h1 := wpAnyQ_lex (C := C) (md := .any) hB.1 head 0 (Array.replicate head.length false) a (by simp) (by simpa using hB.2) h
  have h2 := any_tailR (md := .any) (Q' := Q) (m := tail.length) hb hl hc (fun g a' w' hw' hk => any_seq g tail head.length _ a' w' (fun j => by simp [List.getElem?_append_right]) hs (hk w' hw')) head.length _ a _ (by simp) closed_none hC h1
  have e1 : pad (Array.replicate head.length false) tail.length = Array.replicate (head ++ tail).toArray.size false := by
    apply Array.ext'
    simp [pad]
  rw [e1] at h2
  simpa using h2
theorem any_tail2R {K : Act → World → Prop} {Q' : Exit → Act → World → Prop} {m : Nat} (hb : backB md head = true) (hl : lastR md head.length (head ++ tail).toArray = true) (hc : Region.chainB md (head ++ tail).toArray head.length = true)
    (hK : ∀ g a w, K a w → wpAny P md (head ++ tail).toArray Q' (g + m) (pad (Array.replicate head.length true) m) a w) :
    ∀ (f : Nat) (l1 : Array Bool) (a : Act) (w : World), l1.size = head.length → Closed md head.toArray l1 → wpAny P md head.toArray (Qn K) f l1 a w → wpAny P md (head ++ tail).toArray Q' (f + m) (pad l1 m) a w
  | f, l1, a, w, hs, hcl, h => by
    rcases least_ready (md := md) hb hs with hall | ⟨i, hi, hu, hr⟩
    · have hr : Region.ready md head.toArray l1 = [] := by
        cases hq : Region.ready md head.toArray l1 with
        | nil => rfl
        | cons j r =>
          have hj : j ∈ Region.ready md head.toArray l1 := by rw [hq]; simp
          obtain ⟨h1, o, ho, _⟩ := mem_ready.1 hj
          have hjn : j < head.length := by simpa using (Array.getElem?_eq_some_iff.1 ho).1
          have := hall j hjn
          rw [getD_both h1] at this
          cases this
      have hKa : K a w := by
        cases f with
        | zero => exact h.2
        | succ f => exact h.1 hr
      rw [all_pad hs hall]
      exact hK f a w hKa
    · cases f with
      | zero => have := h.1; rw [this] at hr; cases hr
      | succ f =>
        rw [show f + 1 + m = (f + m) + 1 by omega]
        refine ⟨fun h0 => ?_, fun j hj => ?_⟩
        · have := (ready_head (tail := tail) (m := m) hb hs hi).2 hr
          rw [h0] at this; cases this
        · have hjn : j < head.length := by
            rcases Nat.lt_or_ge j head.length with h1 | h1
            · exact h1
            · exact absurd hj (tail_idleR hl hc hs hcl hi hu h1)
          have hj' := (ready_head hb hs hjn).1 hj
          have h2 := wpOp_more (tail := tail) (Q := Q') hb hjn (h.2 j hj')
          rw [pad_set (by omega)]
          exact wpOp_mono (fun a' w' h3 => any_tail2R hb hl hc hK f _ a' w' (by simpa using hs) (closed_set hcl hj') h3) h2
end
section
variable {P : Program} {n : Nat} {C : World → Prop} {s : List (Nat × Value)} {Q : Exit → Act → World → Prop}
theorem c_tailR (k : Nat) {id : Nat} {l : List Oper} (hm : P.follows .mixedOrders = true) (hB : Region.lexB .any (l.take k).toArray = true) (hb : backB .any (l.take k) = true) (hl : lastR .any (l.take k).length (l.take k ++ l.drop k).toArray = true)
    (hc : Region.chainB .any (l.take k ++ l.drop k).toArray (l.take k).length = true) (hs : Region.seqB .any (l.take k ++ l.drop k).toArray (l.drop k).length (l.take k).length (pad (Array.replicate (l.take k).length true) (l.drop k).length) = true)
    (hC : ∀ w, C w → C { w with drawn := w.drawn + 1 })
    (h : QT P (l.take k).toArray n C (fun a' => ∀ w', C w' → Qk (wpList P l.toArray Q (l.drop k)) Q .normal a' w') s (l.take k)) : AT n C s ((Code.region id l.toArray true).wp P Q) := fun a w f c => by
  have e : l.take k ++ l.drop k = l := List.take_append_drop k l
  have := region_tailR (id := id) (Q := Q) (a := a) (w := w) (head := l.take k) (tail := l.drop k) hm hB hb hl hc hs (hC w c) (by
    rw [e]
    exact h a f)
  rwa [e] at this
theorem c_mixR (S : World → Prop) (k : Nat) {id : Nat} {l : List Oper} (hm : P.follows .mixedOrders = true) (hb : backB .any (l.take k) = true) (hl : lastR .any (l.take k).length (l.take k ++ l.drop k).toArray = true)
    (hc : Region.chainB .any (l.take k ++ l.drop k).toArray (l.take k).length = true) (hs : Region.seqB .any (l.take k ++ l.drop k).toArray (l.drop k).length (l.take k).length (pad (Array.replicate (l.take k).length true) (l.drop k).length) = true)
    (hC : ∀ w, C w → C { w with drawn := w.drawn + 1 })
    (h : AT n C s (wpAnyH P .any (l.take k).toArray (Qn (wpList P l.toArray Q (l.drop k))) S (l.take k).length (Array.replicate (l.take k).length false))) : AT n C s ((Code.region id l.toArray true).wp P Q) := fun a w f c => by
  have e : l.take k ++ l.drop k = l := List.take_append_drop k l
  refine wp_region_any hm ?_
  have h1 := wpAny_of_held _ _ _ _ (h a _ f (hC w c))
  have h2 := any_tail2R (md := .any) (Q' := Q) (tail := l.drop k) (m := (l.drop k).length) hb hl hc (fun g a' w' hk => any_seq g (l.drop k) (l.take k).length _ a' w' (fun j => by simp only [List.getElem?_toArray]; rw [List.getElem?_append_right (by omega)]; congr 1; omega) hs (by rw [e]; exact hk)) (l.take k).length _ a _ (by simp) closed_none h1
  have e1 : pad (Array.replicate (l.take k).length false) (l.drop k).length = Array.replicate l.toArray.size false := by
    apply Array.ext'
    simp only [pad, Array.toList_append, Array.toList_replicate, List.replicate_append_replicate, ← List.length_append, e]
    rfl
  rw [e1, e, ← List.length_append, e] at h2
  exact h2
end
end Go.Lg
