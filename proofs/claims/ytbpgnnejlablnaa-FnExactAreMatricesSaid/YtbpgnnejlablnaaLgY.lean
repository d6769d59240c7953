import Derived.Test.YtbpgnnejlablnaaLgX
namespace Go.Lg
section
variable {P : Program} {md : Region.Mode} {head tail : List Oper} {ops : Array Oper}
theorem wpOp_qn {K0 K : Act → World → Prop} {Q : Exit → Act → World → Prop} {i : Nat} {a : Act} {w : World} (h : wpOp P ops (Qn K0) i K a w) : wpOp P ops Q i K a w := by
  unfold wpOp at h ⊢
  split
  · rename_i ho
    simpa [ho] using h
  · rename_i o ho
    simp only [ho] at h
    split
    · rename_i h1
      simp only [h1, if_true] at h
      exact h.imp upon_Qn (fun ⟨_, _, _, h⟩ => h.elim)
    · rename_i h1
      simp only [h1] at h
      exact h
theorem wpAny_qn {K : Act → World → Prop} {Q : Exit → Act → World → Prop} (hQ : ∀ a w, K a w → Q .normal a w) : ∀ (fuel : Nat) (listed : Array Bool) (a : Act) (w : World), wpAny P md ops (Qn K) fuel listed a w → wpAny P md ops Q fuel listed a w
  | 0, _, a, w, h => ⟨h.1, hQ a w h.2⟩
  | fuel + 1, _, a, w, h => ⟨fun h0 => hQ a w (h.1 h0), fun i hi => wpOp_qn (wpOp_mono (fun a' w' h' => wpAny_qn hQ fuel _ a' w' h') (h.2 i hi))⟩
def closedB (md : Region.Mode) (head : List Oper) (l : Array Bool) : Bool := (List.range head.length).all fun j => match head[j]? with
  | some o => !(l.getD j false) || o.after.all (fun e => !(Region.binds md e) || l.getD e.on false)
  | none => true
theorem closedB_spec {l : Array Bool} (h : closedB md head l = true) : Closed md head.toArray l := fun j o ho hj e he hb => by
  have ho' : head[j]? = some o := by simpa using ho
  have h1 := List.all_eq_true.1 h j (List.mem_range.2 (List.getElem?_eq_some_iff.1 ho').1)
  simp only [ho', hj, Bool.not_true, Bool.false_or] at h1
  have := Array.all_eq_true_iff_forall_mem.1 h1 e he
  simpa [hb] using this
def lastL (md : Region.Mode) (n : Nat) (ops : Array Oper) (l : Array Bool) : Bool := (List.range n).all fun i => l.getD i false || reach md n ops 4 i
theorem getD_set_of {l : Array Bool} {i j : Nat} (h : (l.setIfInBounds j true).getD i false = false) : l.getD i false = false := by
  simp only [Array.getD_eq_getD_getElem?, Array.getElem?_setIfInBounds] at h ⊢
  split at h
  · split at h
    · simp at h
    · rename_i h3 h4; rw [Array.getElem?_eq_none (by omega)]; rfl
  · exact h
theorem tail_idleL (hc : Region.chainB md (head ++ tail).toArray head.length = true) {l1 : Array Bool} {m i t : Nat} (hl : ∀ i, i < head.length → l1.getD i false = false → reach md head.length (head ++ tail).toArray 4 i = true) (hs : l1.size = head.length) (hcl : Closed md head.toArray l1) (hi : i < head.length) (hu : l1.getD i false = false) (ht : head.length ≤ t) :
    t ∉ Region.ready md (head ++ tail).toArray (pad l1 m) := fun hr => by
  obtain ⟨_, o, ho, hall⟩ := mem_ready.1 hr
  by_cases h : t = head.length
  · subst h
    have key : ∀ f q, q < head.length → reach md head.length (head ++ tail).toArray f q = true → l1.getD q false = true := by
      have direct : ∀ q, q < head.length → Region.waitsFor md (head ++ tail).toArray head.length q = true → l1.getD q false = true := fun q hq hw => by
        obtain ⟨o', ho', e, he, hbi, hon⟩ := Region.waitsFor_spec hw
        have : o' = o := Option.some.inj (ho'.symm.trans ho)
        subst this
        have := hall e he hbi
        rwa [hon, pad_lt false (by omega)] at this
      intro f
      induction f with
      | zero => intro q hq h; exact direct q hq h
      | succ f ih =>
        intro q hq h
        simp only [reach, Bool.or_eq_true] at h
        rcases h with h | h
        · exact direct q hq h
        · obtain ⟨j, hj, h2⟩ := List.any_eq_true.1 h
          simp only [Bool.and_eq_true] at h2
          have hjn := List.mem_range.1 hj
          obtain ⟨o', ho', e, he, hbi, hon⟩ := Region.waitsFor_spec h2.1
          rw [ops_lt hjn] at ho'
          have := hcl j o' ho' (ih j hjn h2.2) e he hbi
          rwa [hon] at this
    have := key 4 i hi (hl i hi hu)
    rw [hu] at this
    cases this
  · have htl : t < (head ++ tail).toArray.size := (Array.getElem?_eq_some_iff.1 ho).1
    have h1 := List.all_eq_true.1 hc t (List.mem_range.2 htl)
    simp only [Bool.or_eq_true, decide_eq_true_eq] at h1
    rcases h1 with h1 | h1
    · omega
    · obtain ⟨o', ho', e, he, hbi, hon⟩ := Region.waitsFor_spec h1
      have : o' = o := Option.some.inj (ho'.symm.trans ho)
      subst this
      have := hall e he hbi
      rw [hon, pad_ge (by omega)] at this
      cases this
theorem any_tailL {C : World → Prop} {K : Act → Prop} {Q' : Exit → Act → World → Prop} {m : Nat} (hb : backB md head = true) (hc : Region.chainB md (head ++ tail).toArray head.length = true)
    (hK : ∀ g a w, C w → K a → wpAny P md (head ++ tail).toArray Q' (g + m) (pad (Array.replicate head.length true) m) a w) :
    ∀ (f : Nat) (l1 : Array Bool) (a : Act) (w : World), (∀ i, i < head.length → l1.getD i false = false → reach md head.length (head ++ tail).toArray 4 i = true) → l1.size = head.length → Closed md head.toArray l1 → C w → wpAnyQ P md head.toArray C K f l1 a → wpAny P md (head ++ tail).toArray Q' (f + m) (pad l1 m) a w
  | f, l1, a, w, hl, hs, hcl, hw, h => by
    rcases least_ready (md := md) hb hs with hall | ⟨i, hi, hu, hr⟩
    · have hr : Region.ready md head.toArray l1 = [] := by
        cases hq : Region.ready md head.toArray l1 with
        | nil => rfl
        | cons j r =>
          have hj : j ∈ Region.ready md head.toArray l1 := by rw [hq]; simp
          obtain ⟨h1, o, ho, _⟩ := mem_ready.1 hj
          have hjn : j < head.length := by simpa using (Array.getElem?_eq_some_iff.1 ho).1
          have := hall j hjn
          rw [getD_both h1] at this
          cases this
      have hKa : K a := by
        cases f with
        | zero => exact h.2
        | succ f => exact h.1 hr
      rw [all_pad hs hall]
      exact hK f a w hw hKa
    · cases f with
      | zero => have := h.1; rw [this] at hr; cases hr
      | succ f =>
        rw [show f + 1 + m = (f + m) + 1 by omega]
        refine ⟨fun h0 => ?_, fun j hj => ?_⟩
        · have := (ready_head (tail := tail) (m := m) hb hs hi).2 hr
          rw [h0] at this; cases this
        · have hjn : j < head.length := by
            rcases Nat.lt_or_ge j head.length with h1 | h1
            · exact h1
            · exact absurd hj (tail_idleL hc hl hs hcl hi hu h1)
          have hj' := (ready_head hb hs hjn).1 hj
          have h2 := qOp_more (tail := tail) hb hjn (h.2 j hj')
          rw [pad_set (by omega)]
          exact wpOp_of_qOp hw (fun a' w' hw' h3 => any_tailL hb hc hK f _ a' w' (fun i hi hu => hl i hi (getD_set_of hu)) (by simpa using hs) (closed_set hcl hj') hw' h3) h2
end
section
variable {P : Program} {n : Nat} {C : World → Prop} {s : List (Nat × Value)} {Q : Exit → Act → World → Prop} {ops : Array Oper} {fuel : Nat} {listed : Array Bool}
variable {M : List Nat} {w0 : World} {H : List HE}
/-- a region that draws its order, by numbers: pure operations first (whatever the world), then quiet ones, then the tail in order -/
theorem c_idx {id : Nat} {l : List Oper} (hm : P.follows .mixedOrders = true) (hC : ∀ w, C w → C { w with drawn := w.drawn + 1 })
    (h : AT n C s (wpAny P .any l.toArray (Qn (Q .normal)) l.length (Array.replicate l.length false))) : AT n C s ((Code.region id l.toArray true).wp P Q) := fun a w f c => by
  refine wp_region_any hm ?_
  have := wpAny_qn (Q := Q) (fun a w h => h) _ _ _ _ (h a _ f (hC w c))
  simpa using this
theorem p_take {K : Act → World → Prop} (i : Nat) {op : Op} {d ty : Nat} {pos : String} {af : Array Edge} {v : Value} (hi : ops[i]? = some ⟨some d, op, ty, pos, af, none⟩)
    (hs : Region.noSelect ops = true) (hf : Region.free .any ops listed i = true) (hr : (Region.ready .any ops listed).contains i = true)
    (hy : Y P n (fun _ => True) s op ty v) (hd : Nat.blt d n = true)
    (h : AT n C ((d, v) :: s) (wpAny P .any ops (Qn K) fuel (listed.setIfInBounds i true))) : AT n C s (wpAny P .any ops (Qn K) (fuel + 1) listed) := fun a w f c =>
  wpAny_take hi hs hf hr (fun _ _ _ h => h.elim) (.inl ⟨by simp [Region.wanted], fun w' => hy a w' f trivial _ _ _ _⟩) (h _ w (f.put (by simpa [Nat.blt_eq] using hd) v) c)
/-- the quiet part, by numbers -/
def QI (P : Program) (ops : Array Oper) (n : Nat) (C : World → Prop) (K : Act → Prop) (s : List (Nat × Value)) (fuel : Nat) (listed : Array Bool) : Prop := ∀ a, Fr n s a → wpAnyQ P .any ops C K fuel listed a
variable {K : Act → Prop}
theorem i_y (i : Nat) {op : Op} {d ty : Nat} {pos : String} {af : Array Edge} {v : Value} (hi : ops[i]? = some ⟨some d, op, ty, pos, af, none⟩)
    (hs : Region.noSelect ops = true) (hf : Region.free .any ops listed i = true) (hr : (Region.ready .any ops listed).contains i = true)
    (hy : Y P n C s op ty v) (hd : Nat.blt d n = true) (h : QI P ops n C K ((d, v) :: s) fuel (listed.setIfInBounds i true)) : QI P ops n C K s (fuel + 1) listed := fun a f =>
  wpAnyQ_first hi (Region.noSelect_spec hs) fuel listed a (Region.free_spec hi hf) (by simpa using hr)
    (.inl ⟨by simp [Region.wanted], fun w c => by unfold Oper.quietAt; rw [hy a w f c]; exact ⟨rfl, rfl⟩⟩) (h _ (f.put (by simpa [Nat.blt_eq] using hd) v))
theorem i_call (i : Nat) {d ty f : Nat} {pos : String} {af : Array Edge} {v : Value} {args : Array Operand} {vs : List Value} {φ : Value → List HE → Prop} {at' : Array Nat} (hi : ops[i]? = some ⟨some d, .call ⟨.value (.func f), args, at'⟩, ty, pos, af, none⟩)
    (hs : Region.noSelect ops = true) (hf : Region.free .any ops listed i = true) (hr : (Region.ready .any ops listed).contains i = true)
    (he : Ent P f) (ha : evs s args.toList = some vs) (hd : Nat.blt d n = true) (hc : ∀ w, Hp M w0 H w → Does P f vs w φ) (hv : ∀ u H', φ u H' → u = v)
    (h : QI P ops n (Hp M w0 H) K ((d, v) :: s) fuel (listed.setIfInBounds i true)) : QI P ops n (Hp M w0 H) K s (fuel + 1) listed := fun a fr =>
  wpAnyQ_first hi (Region.noSelect_spec hs) fuel listed a (Region.free_spec hi hf) (by simpa using hr)
    (.inl ⟨by simp [Region.wanted], fun w c => by
      have hm : args.map a.eval = vs.toArray := by
        rw [← fr.evs ha]
        apply Array.ext'
        simp
      have : (execOp a.eval ⟨some d, .call ⟨.value (.func f), args, at'⟩, ty, pos, af, none⟩).run P w = .ok (.enter f vs.toArray) w := by
        simp [execOp, resolve, Act.eval, Deferred.ofValue, hm, invoke, he vs.toArray w]
      unfold Oper.quietAt
      rw [this]
      refine ⟨rfl, (hc w c).mono ?_⟩
      rintro e w' ⟨u, H', rfl, hφ, hp⟩
      exact ⟨by rw [hv u H' hφ], c.same hp.below⟩⟩) (h _ (fr.put (by simpa [Nat.blt_eq] using hd) v))
/-- the end of the quiet part: the tail -/
theorem i_tail {Q' : Exit → Act → World → Prop} {L : List Oper} {ops' : Array Oper} (hr : Region.ready .any ops listed = []) (h : AT n C s (wpList P ops' Q' L)) : QI P ops n C (fun a' => ∀ w', C w' → wpList P ops' Q' L a' w') s fuel listed := fun a f => by
  cases fuel with
  | zero => exact ⟨hr, fun w' c => h a w' f c⟩
  | succ fuel => exact ⟨fun _ w' c => h a w' f c, fun j hj => by rw [hr] at hj; cases hj⟩
/-- the quiet part begins: k operations stand ahead of the tail; m is the tail's length, g what is left of the head -/
theorem c_quiet (k g m : Nat) {l1 : Array Bool} {l : List Oper} (hf : fuel = g + m) (hm : (l.drop k).length = m) (hls : listed = pad l1 m) (hsz : Nat.beq l1.size (l.take k).length = true)
    (hb : backB .any (l.take k) = true) (hl : lastL .any (l.take k).length (l.take k ++ l.drop k).toArray l1 = true) (hcb : closedB .any (l.take k) l1 = true)
    (hc : Region.chainB .any (l.take k ++ l.drop k).toArray (l.take k).length = true) (hs : Region.seqB .any (l.take k ++ l.drop k).toArray (l.drop k).length (l.take k).length (pad (Array.replicate (l.take k).length true) (l.drop k).length) = true)
    (h : QI P (l.take k).toArray n C (fun a' => ∀ w', C w' → wpList P l.toArray Q (l.drop k) a' w') s g l1) : AT n C s (wpAny P .any l.toArray Q fuel listed) := fun a w f c => by
  have e : l.take k ++ l.drop k = l := List.take_append_drop k l
  have h2 := any_tailL (md := .any) (Q' := Q) (m := (l.drop k).length) (head := l.take k) (tail := l.drop k) (P := P) (C := C) hb hc (fun g a' w' hw' hk => any_seq g (l.drop k) (l.take k).length _ a' w' (fun j => by simp only [List.getElem?_toArray]; rw [List.getElem?_append_right (by omega)]; congr 1; omega) hs (by rw [e]; exact hk w' hw')) g l1 a w
    (fun i hi hu => by
      have := List.all_eq_true.1 hl i (List.mem_range.2 hi)
      simpa [hu] using this) (Nat.eq_of_beq_eq_true hsz) (closedB_spec hcb) c (h a f)
  rw [hf, hls, ← hm]
  rwa [e] at h2
theorem x_qn {K : Act → World → Prop} (h : AT n C s K) : AT n C s (Qn K .normal) := h
end
end Go.Lg
