import Derived.Test.YtbpgnnejlablnaaLgQ
import Derived.OrdersHeld
namespace Go.Lg
section
variable {P : Program} {md : Region.Mode} {head tail : List Oper}

/-- only the normal exit -/
def Qn (K : Act → World → Prop) : Exit → Act → World → Prop
  | .normal => K
  | _ => fun _ _ => False
theorem upon_Qn {K : Act → World → Prop} {Q : Exit → Act → World → Prop} {o : Oper} {a : Act} {next : Act → World → Prop} : ∀ {r : Result Next}, o.upon P a next (Qn K) r → o.upon P a next Q r
  | .ok (.value _) _, h => h
  | .ok .skip _, h => h
  | .ok (.defer _) _, h => h
  | .ok (.enter _ _) _, h => Calls.mono h (fun e w'' he => by cases e <;> first | exact he | exact he.elim | exact (let ⟨_, _, h⟩ := he; h.elim))
  | .ok (.row _ _) _, h => h
  | .halt x _, h => by cases x <;> first | exact h | exact h.elim
theorem wpOp_more {K0 K : Act → World → Prop} {Q : Exit → Act → World → Prop} (hb : backB md head = true) {i : Nat} {a : Act} {w : World} (hi : i < head.length) (h : wpOp P head.toArray (Qn K0) i K a w) : wpOp P (head ++ tail).toArray Q i K a w := by
  unfold wpOp at h ⊢
  rw [ops_lt hi]
  have hg : head.toArray[i]? = some head[i] := by simp
  rw [hg] at h ⊢
  have hw : Region.wanted head[i] (yielded (head ++ tail).toArray a.tmps) = Region.wanted head[i] (yielded head.toArray a.tmps) := by
    unfold Region.wanted
    cases hq : head[i].guard with
    | none => rfl
    | some jb =>
      obtain ⟨j, b⟩ := jb
      have := (backB_spec hb (List.getElem?_eq_getElem hi)).2 j b hq
      simp only [yielded, ops_lt (show j < head.length by omega)]
  simp only [hw]
  split
  · rename_i h1
    simp only [h1, if_true] at h
    exact h.imp upon_Qn (fun ⟨_, _, _, h⟩ => h.elim)
  · rename_i h1
    simp only [h1] at h
    exact h

theorem any_tail2 {K : Act → World → Prop} {Q' : Exit → Act → World → Prop} {m : Nat} (hb : backB md head = true) (hl : lastB md head.length (head ++ tail).toArray = true) (hc : Region.chainB md (head ++ tail).toArray head.length = true)
    (hK : ∀ g a w, K a w → wpAny P md (head ++ tail).toArray Q' (g + m) (pad (Array.replicate head.length true) m) a w) :
    ∀ (f : Nat) (l1 : Array Bool) (a : Act) (w : World), l1.size = head.length → wpAny P md head.toArray (Qn K) f l1 a w → wpAny P md (head ++ tail).toArray Q' (f + m) (pad l1 m) a w
  | f, l1, a, w, hs, h => by
    rcases least_ready (md := md) hb hs with hall | ⟨i, hi, hu, hr⟩
    · have hr : Region.ready md head.toArray l1 = [] := by
        cases hq : Region.ready md head.toArray l1 with
        | nil => rfl
        | cons j r =>
          have hj : j ∈ Region.ready md head.toArray l1 := by rw [hq]; simp
          obtain ⟨h1, o, ho, _⟩ := mem_ready.1 hj
          have hjn : j < head.length := by simpa using (Array.getElem?_eq_some_iff.1 ho).1
          have := hall j hjn
          rw [getD_both h1] at this
          cases this
      have hKa : K a w := by
        cases f with
        | zero => exact h.2
        | succ f => exact h.1 hr
      rw [all_pad hs hall]
      exact hK f a w hKa
    · cases f with
      | zero => have := h.1; rw [this] at hr; cases hr
      | succ f =>
        rw [show f + 1 + m = (f + m) + 1 by omega]
        refine ⟨fun h0 => ?_, fun j hj => ?_⟩
        · have := (ready_head (tail := tail) (m := m) hb hs hi).2 hr
          rw [h0] at this; cases this
        · have hjn : j < head.length := by
            rcases Nat.lt_or_ge j head.length with h1 | h1
            · exact h1
            · exact absurd hj (tail_idle hl hc hs hi hu h1)
          have hj' := (ready_head hb hs hjn).1 hj
          have h2 := wpOp_more (tail := tail) (Q := Q') hb hjn (h.2 j hj')
          rw [pad_set (by omega)]
          exact wpOp_mono (fun a' w' h3 => any_tail2 hb hl hc hK f _ a' w' (by simpa using hs) h3) h2
end
section
variable {P : Program} {n : Nat} {C S : World → Prop} {s : List (Nat × Value)} {Q : Exit → Act → World → Prop} {K : Act → World → Prop} {ops : Array Oper} {fuel : Nat} {listed : Array Bool}
/-- a region that draws its order: its head step by step, under a condition S that every step keeps; its tail comes in order -/
theorem c_mix (S : World → Prop) (k : Nat) {id : Nat} {l : List Oper} (hm : P.follows .mixedOrders = true) (hb : backB .any (l.take k) = true) (hl : lastB .any (l.take k).length (l.take k ++ l.drop k).toArray = true)
    (hc : Region.chainB .any (l.take k ++ l.drop k).toArray (l.take k).length = true) (hs : Region.seqB .any (l.take k ++ l.drop k).toArray (l.drop k).length (l.take k).length (pad (Array.replicate (l.take k).length true) (l.drop k).length) = true)
    (hC : ∀ w, C w → C { w with drawn := w.drawn + 1 })
    (h : AT n C s (wpAnyH P .any (l.take k).toArray (Qn (wpList P l.toArray Q (l.drop k))) S (l.take k).length (Array.replicate (l.take k).length false))) : AT n C s ((Code.region id l.toArray true).wp P Q) := fun a w f c => by
  have e : l.take k ++ l.drop k = l := List.take_append_drop k l
  refine wp_region_any hm ?_
  have h1 := wpAny_of_held _ _ _ _ (h a _ f (hC w c))
  have h2 := any_tail2 (md := .any) (Q' := Q) (tail := l.drop k) (m := (l.drop k).length) hb hl hc (fun g a' w' hk => any_seq g (l.drop k) (l.take k).length _ a' w' (fun j => by simp only [List.getElem?_toArray]; rw [List.getElem?_append_right (by omega)]; congr 1; omega) hs (by rw [e]; exact hk)) (l.take k).length _ a _ (by simp) h1
  have e1 : pad (Array.replicate (l.take k).length false) (l.drop k).length = Array.replicate l.toArray.size false := by
    apply Array.ext'
    simp only [pad, Array.toList_append, Array.toList_replicate, List.replicate_append_replicate, ← List.length_append, e]
    rfl
  rw [e1, e, ← List.length_append, e] at h2
  exact h2
/-- a quiet operation is taken first -/
theorem h_take (i : Nat) {op : Op} {d ty : Nat} {pos : String} {af : Array Edge} {v : Value} (hi : ops[i]? = some ⟨some d, op, ty, pos, af, none⟩)
    (hs : Region.noSelect ops = true) (hf : Region.free .any ops listed i = true) (hr : (Region.ready .any ops listed).contains i = true)
    (hy : Y P n S s op ty v) (hd : Nat.blt d n = true) (hS : ∀ w, C w → S w)
    (h : AT n C ((d, v) :: s) (wpAnyH P .any ops (Qn K) S fuel (listed.setIfInBounds i true))) : AT n C s (wpAnyH P .any ops (Qn K) S (fuel + 1) listed) := fun a w f c =>
  wpAnyH_take hi hs hf hr (fun _ _ _ h => h.elim) (.inl ⟨by simp [Region.wanted], fun w' hw' => hy a w' f hw' _ _ _ _⟩) (hS w c) (h _ w (f.put (by simpa [Nat.blt_eq] using hd) v) c)
/-- the one operation that may come up comes up -/
theorem h_only (i : Nat) {o : Oper} (hi : ops[i]? = some o) (hr : Region.ready .any ops listed = [i])
    (h : AT n C s (wpList P ops (Qk (fun a' w' => S w' ∧ wpAnyH P .any ops (Qn K) S fuel (listed.setIfInBounds i true) a' w') (Qn K)) [o])) : AT n C s (wpAnyH P .any ops (Qn K) S (fuel + 1) listed) := fun a w f c =>
  wpAnyH_all hr (by simp) (fun j hj => by
    have : j = i := by simpa using hj
    subst this
    exact wpOp_list hi (h a w f c))
theorem h_keep (hS : ∀ w, C w → S w) (h : AT n C s K) : AT n C s (fun a w => S w ∧ K a w) := fun a w f c => ⟨hS w c, h a w f c⟩
theorem h_end (hr : Region.ready .any ops listed = []) (h : AT n C s K) : AT n C s (wpAnyH P .any ops (Qn K) S fuel listed) := fun a w f c => wpAnyH_done hr (h a w f c) _
end
end Go.Lg
