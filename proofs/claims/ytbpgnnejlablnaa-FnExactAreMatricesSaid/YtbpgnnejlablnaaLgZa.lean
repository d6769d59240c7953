import Derived.Test.YtbpgnnejlablnaaLgZ
import Derived.Test.YtbpgnnejlablnaaLgM
namespace Go.Lg
open Go.RowKit
section
variable {P : Program} {n : Nat} {C S : World → Prop} {s : List (Nat × Value)} {Q : Exit → Act → World → Prop} {K : Act → World → Prop} {ops : Array Oper} {fuel : Nat} {listed : Array Bool}
variable {M : List Nat} {w0 : World} {H : List HE} {i0 d0 e0 : Nat} {z : List Value}

theorem sub_left {X : List (Nat × Value)} : Sub s (s ++ X) := fun k v h => by rw [lk_app, h]
theorem sub_last {p : Value} (h : lk s d0 = none) : Sub (s ++ [(d0, p)]) ((d0, p) :: s) := fun k v e => by
  rw [lk_app] at e
  cases hs : lk s k with
  | some u =>
    rw [hs] at e
    simp only [Option.some.injEq] at e; subst e
    have hk : ¬ d0 = k := fun h' => by subst h'; rw [h] at hs; cases hs
    rw [lk_ne hk]; exact hs
  | none =>
    rw [hs] at e
    simp only at e
    by_cases hk : d0 = k
    · subst hk; rw [lk_eq] at e ⊢; exact e
    · rw [lk_ne hk] at e; cases e
theorem sub_first {p : Value} (h : lk s d0 = none) : Sub ((d0, p) :: s) (s ++ [(d0, p)]) := fun k v e => by
  by_cases hk : d0 = k
  · subst hk
    rw [lk_eq] at e
    rw [lk_app, h]
    simp only
    rw [lk_eq]; exact e
  · rw [lk_ne hk] at e
    rw [lk_app, e]
theorem Hp.last {h : HE} {w : World} (hp : Hp M w0 (h :: H) w) : Hp M w0 (H ++ [h]) w := by
  have := hp.mid 1 H.length
  have e : List.drop (1 + H.length) (h :: H) = [] := List.drop_of_length_le (by simp; omega)
  rw [e] at this
  simpa using this
theorem Hp.unlast {h : HE} {w : World} (hp : Hp M w0 (H ++ [h]) w) : Hp M w0 (h :: H) w := by
  have := hp.mid H.length 1
  simpa using this

/-- a region that draws its order, one of whose operations, an alloc, may come up at any time -/
def FL (P : Program) (n : Nat) (M : List Nat) (w0 : World) (S : World → Prop) (ops : Array Oper) (K : Act → World → Prop) (i0 d0 e0 : Nat) (z : List Value) (H : List HE) (s : List (Nat × Value)) (fuel : Nat) (listed : Array Bool) : Prop :=
  AT n (Hp M w0 H) s (wpAnyH P .any ops (Qn K) S (fuel + 1) listed) ∧
  ∀ b, w0.heap.size ≤ b → AT n (Hp M w0 (H ++ [.blk b z.toArray e0])) (s ++ [(d0, .pointer (some ⟨b, 0, none⟩))]) (wpAnyH P .any ops (Qn K) S fuel (listed.setIfInBounds i0 true))
theorem fl_take (i : Nat) {op : Op} {d ty : Nat} {pos : String} {af : Array Edge} {v : Value} (hi : ops[i]? = some ⟨some d, op, ty, pos, af, none⟩) (hne : Nat.beq i i0 = false)
    (hs : Region.noSelect ops = true) (hf : Region.free .any ops listed i = true) (hr : (Region.ready .any ops listed).contains i = true) (hf' : Region.free .any ops (listed.setIfInBounds i0 true) i = true) (hr' : (Region.ready .any ops (listed.setIfInBounds i0 true)).contains i = true)
    (hy : Y P n S s op ty v) (hd : Nat.blt d n = true) (hS : ∀ w, Hp M w0 H w → S w)
    (h : FL P n M w0 S ops K i0 d0 e0 z H ((d, v) :: s) fuel (listed.setIfInBounds i true)) : FL P n M w0 S ops K i0 d0 e0 z H s (fuel + 1) listed := by
  refine ⟨h_take i hi hs hf hr hy hd hS h.1, fun b hb => ?_⟩
  refine h_take i hi hs hf' hr' (hy.weak sub_left (fun _ c => c)) hd (fun w c => hS w (c.sub (List.sublist_append_left _ _))) ?_
  have := h.2 b hb
  rw [Array.setIfInBounds_comm _ _ (fun h => by subst h; simp at hne)]
  exact this
theorem fl_call (i : Nat) {d ty f : Nat} {pos : String} {af : Array Edge} {args : Array Operand} {vs : List Value} {φ : Value → List HE → Prop} {at' : Array Nat} {ty0 : Nat} {pos0 : String} {af0 : Array Edge} (hi : ops[i]? = some ⟨some d, .call ⟨.value (.func f), args, at'⟩, ty, pos, af, none⟩) (hi0 : ops[i0]? = some ⟨some d0, .alloc e0, ty0, pos0, af0, none⟩) (hne : Nat.beq i i0 = false)
    (T : Tabs P) (hz : lk T.sz e0 = some z) (hl0 : lk s d0 = none) (hd0 : Nat.blt d0 n = true)
    (hr : ((Region.ready .any ops listed).all fun j => Nat.beq j i || Nat.beq j i0) = true) (hr1 : (Region.ready .any ops listed).isEmpty = false) (hr' : Region.ready .any ops (listed.setIfInBounds i0 true) = [i])
    (he : Ent P f) (ha : evs s args.toList = some vs) (hd : Nat.blt d n = true) (hc : ∀ w, Hp M w0 H w → Does P f vs w φ) (hS : ∀ w, Hp M w0 H w → S w)
    (h : ∀ v H1, φ v H1 → FL P n M w0 S ops K i0 d0 e0 z (H1 ++ H) ((d, v) :: s) fuel (listed.setIfInBounds i true)) : FL P n M w0 S ops K i0 d0 e0 z H s (fuel + 1) listed := by
  have hne' : i ≠ i0 := fun h => by subst h; simp at hne
  have second : ∀ b, w0.heap.size ≤ b → AT n (Hp M w0 (H ++ [.blk b z.toArray e0])) (s ++ [(d0, .pointer (some ⟨b, 0, none⟩))]) (wpAnyH P .any ops (Qn K) S (fuel + 1) (listed.setIfInBounds i0 true)) := fun b hb => by
    refine h_only i hi hr' (m_call he (evs_sub sub_left ha) hd (fun w c => hc w (c.sub (List.sublist_append_left _ _))) (fun v H1 hφ => c_nil (x_one (h_keep (fun w c => hS w (c.sub ?_)) ?_))))
    · exact List.Sublist.trans (List.sublist_append_left _ _) (List.sublist_append_right _ _)
    · have := (h v H1 hφ).2 b hb
      rw [Array.setIfInBounds_comm _ _ hne'] at this
      rw [← List.append_assoc]
      exact this
  refine ⟨fun a w fr c => ?_, second⟩
  refine wpAnyH_all rfl (fun h0 => by rw [h0] at hr1; simp at hr1) (fun j hj => ?_)
  have hj' := List.all_eq_true.1 hr j hj
  simp only [Bool.or_eq_true] at hj'
  rcases hj' with hj' | hj'
  · have : j = i := Nat.eq_of_beq_eq_true hj'
    subst this
    exact wpOp_list hi ((m_call he ha hd hc (fun v H1 hφ => c_nil (x_one (h_keep (fun w c => hS w (c.sub (List.sublist_append_right _ _))) (h v H1 hφ).1))) : AT n (Hp M w0 H) s _) a w fr c)
  · have : j = i0 := Nat.eq_of_beq_eq_true hj'
    subst this
    exact wpOp_list hi0 ((m_alloc T hz hd0 (fun b hb => c_nil (x_one (h_keep (fun w c => hS w c.drop) (AT.sub (sub_last hl0) (AT.cls (fun w c => c.last) (second b hb)))))) : AT n (Hp M w0 H) s _) a w fr c)
theorem fl_end {ty0 : Nat} {pos0 : String} {af0 : Array Edge} (hi0 : ops[i0]? = some ⟨some d0, .alloc e0, ty0, pos0, af0, none⟩) (T : Tabs P) (hz : lk T.sz e0 = some z) (hl0 : lk s d0 = none) (hd0 : Nat.blt d0 n = true)
    (hr : Region.ready .any ops listed = [i0]) (hS : ∀ w, Hp M w0 H w → S w)
    (h : ∀ b, w0.heap.size ≤ b → AT n (Hp M w0 (.blk b z.toArray e0 :: H)) ((d0, .pointer (some ⟨b, 0, none⟩)) :: s) (wpAnyH P .any ops (Qn K) S fuel (listed.setIfInBounds i0 true))) : FL P n M w0 S ops K i0 d0 e0 z H s fuel listed := by
  refine ⟨h_only i0 hi0 hr (m_alloc T hz hd0 (fun b hb => c_nil (x_one (h_keep (fun w c => hS w c.drop) (h b hb))))), fun b hb => ?_⟩
  exact AT.sub (sub_first hl0) (AT.cls (fun w c => c.unlast) (h b hb))
/-- a region that draws its order, all of it step by step -/
theorem c_all (S : World → Prop) {id : Nat} {l : List Oper} {Q : Exit → Act → World → Prop} (hm : P.follows .mixedOrders = true) (hC : ∀ w, C w → C { w with drawn := w.drawn + 1 })
    (h : AT n C s (wpAnyH P .any l.toArray (Qn (Q .normal)) S l.length (Array.replicate l.length false))) : AT n C s ((Code.region id l.toArray true).wp P Q) := fun a w f c => by
  refine wp_region_any hm ?_
  have := wpAny_qn (Q := Q) (fun a w h => h) _ _ _ _ (wpAny_of_held _ _ _ _ (h a _ f (hC w c)))
  simpa using this
theorem fl_begin {g : Nat} (i0 : Nat) {ty0 : Nat} {pos0 : String} {af0 : Array Edge} (_hi0 : ops[i0]? = some ⟨some d0, .alloc e0, ty0, pos0, af0, none⟩) (T : Tabs P) (_hz : lk T.sz e0 = some z) (hg : g = fuel + 1) (h : FL P n M w0 S ops K i0 d0 e0 z H s fuel listed) : AT n (Hp M w0 H) s (wpAnyH P .any ops (Qn K) S g listed) := by
  subst hg; exact h.1
end
end Go.Lg
namespace Go.Lg
open Go.RowKit
section
variable {P : Program} {n : Nat} {C : World → Prop} {s : List (Nat × Value)} {Q : Exit → Act → World → Prop} {ops : Array Oper} {rest : List Oper}
variable {d ty t t' : Nat} {pos : String} {af : Array Edge} {v : Value} {x y lo' : Operand} {M : List Nat} {w0 w : World} {H : List HE}
/-- one slice of ours is appended to another -/
theorem m_cat (T0 : Tabs P) {e k b m m1 c2 : Nat} {z : List Value} {ts ts2 : List T} {a2 : Option Addr} {H' : List HE} (ht : lk T0.sl t = some (e, k, b, z)) (hx : ev s x = some v) (hy : ev s y = some (.slice a2 m c2)) (hd : Nat.blt d n = true)
    (hm1 : ts.length = m1 * k) (hm2 : ts2.length = m * k) (hu : ∀ t ∈ ts2, ∀ u, t = .c u → u.oneCell' = true) (hb : (ts.length + ts2.length) * b ≤ 140737488355328) (hb1 : 1 ≤ b)
    (hp : ∀ w, Hp M w0 H w → Hp M w0 (.own (.s e k ts2) (.slice a2 m c2) :: .own (.s e k ts) v :: H') w)
    (h : ∀ a cc, AT n (Hp M w0 (.own (.s e k (ts ++ ts2)) (.slice a (m1 + m) cc) :: H')) ((d, .slice a (m1 + m) cc) :: s) (wpList P ops Q rest)) :
    AT n (Hp M w0 H) s (wpList P ops Q (⟨some d, .call ⟨.builtin .append, #[x, y], #[t, t]⟩, ty, pos, af, none⟩ :: rest)) := by
  have hk0 := (T0.sl_ok _ _ _ _ _ ht).2.2.1
  refine AT.cls hp ?_
  by_cases h0 : 0 < ts2.length
  · refine AT.openS h0 (fun g cur vs e1 e2 e3 e4 e5 e6 e7 => ?_)
    subst e1; subst e2
    refine AT.fact (p := ∀ u ∈ cur.toList.take (m * k), u.oneCell' = true) (fun w c => by
      obtain ⟨fp, ⟨f1, f2, _, s1, _⟩, _⟩ := c
      exact OwnL.oneCells s1 hu) (fun hone => ?_)
    refine m_app (ts := ts) (tn := ts2) (news := cur.toList.take (m * k)) (m' := m1 + m) (H' := H') T0 ht hx hy hd (by rw [e3, e4]) hone (by rw [hm1, hm2, Nat.add_mul]) (by rw [e3]; exact hb) hb1 (fun w c => ?_) (fun w c => .inr ⟨_, rfl, fun j u hj => ?_⟩) h
    · exact (c.front (i := 2) rfl).sub (.cons_cons _ (.cons_cons _ (.cons _ (List.Sublist.refl _)))) 
    · rw [Addr.add_lit, Nat.zero_add]
      rw [List.getElem?_take] at hj
      split at hj
      · exact hc_blk 1 (H := _ :: HE.blk g cur e :: _) rfl (by simpa using hj) w c
      · cases hj
  · have ht0 : ts2 = [] := List.length_eq_zero_iff.1 (by omega)
    subst ht0
    have hm0 : m = 0 := by
      simp only [List.length_nil] at hm2
      rcases Nat.mul_eq_zero.1 hm2.symm with h | h
      · exact h
      · omega
    subst hm0
    refine m_app (ts := ts) (tn := []) (news := []) (m' := m1 + 0) (m := 0) (H' := H') T0 ht hx hy hd (by simp) (by simp) (by simpa using hm1) (by simpa using hb) hb1 (fun w c => ?_) (fun w c => .inl rfl) h
    have := (c.drop).free []
    exact this.swap
end
end Go.Lg
namespace Go.Lg
open Go.RowKit
section
variable {P : Program} {n : Nat} {C : World → Prop} {s : List (Nat × Value)} {Q : Exit → Act → World → Prop} {ops : Array Oper} {rest : List Oper}
variable {d ty t t' : Nat} {pos : String} {af : Array Edge} {v : Value} {x y lo' : Operand} {M : List Nat} {w0 w : World} {H : List HE}
theorem m_maken (T : Tabs P) {e : Nat} {l : Int} {m : Nat} (ht : lk T.sl t = some (e, 1, 8, [.int .i64 0])) (hx : ev s x = some (.int .i64 l)) (hy : ev s y = some (.int .i64 l)) (hl : l = (m : Int)) (hc : m ≤ 1099511627776) (hd : Nat.blt d n = true)
    (h : ∀ b, w0.heap.size ≤ b → AT n (Hp M w0 (.own (ints e (List.replicate m 0)) (.slice (some ⟨b, 0, none⟩) m m) :: H)) ((d, .slice (some ⟨b, 0, none⟩) m m) :: s) (wpList P ops Q rest)) :
    AT n (Hp M w0 H) s (wpList P ops Q (⟨some d, .makeSlice t x y, ty, pos, af, none⟩ :: rest)) := by
  subst hl
  exact m_makei T ht hx hy (by omega) (by omega) hd (fun b hb => by simpa using h b hb)
/-- the address of 's[lo:]' -/
def subA (a : Option Addr) (k lo cap : Nat) : Option Addr := if cap = lo then a else a.map (fun b => b.add (lo * k))
/-- 's[lo:]', 's[:hi]', 's[lo:hi]' -/
theorem y_slo (T : Tabs P) {e k b m cap lo : Nat} {z : List Value} {a : Option Addr} {p : Int} (ht : lk T.sl t = some (e, k, b, z)) (hx : ev s x = some (.slice a m cap)) (hl : ev s lo' = some (.int .i64 p)) (hp : p = (lo : Int)) (h1 : lo ≤ m) :
    Y P n C s (.slice t x (some lo') none none) ty (.slice (subA a k lo cap) (m - lo) (cap - lo)) := fun aa w f c d pos af gg => by
  obtain ⟨g1, _, _, i0, zv, g2, g3, _⟩ := T.sl_ok _ _ _ _ _ ht
  subst hp
  simp [execOp, f.ev hx, f.ev hl, Instr.sliceAt, Instr.slice, Instr.sliceBounds, Instr.sliceBound, asIntOf, run_underlying g1, sizeOf, typeInfo, g2, g3, subA, h1]
theorem y_slh (T : Tabs P) {e k b m cap hi : Nat} {z : List Value} {a : Option Addr} {p : Int} {hi' : Operand} (ht : lk T.sl t = some (e, k, b, z)) (hx : ev s x = some (.slice a m cap)) (hh : ev s hi' = some (.int .i64 p)) (hp : p = (hi : Int)) (h1 : hi ≤ cap) :
    Y P n C s (.slice t x none (some hi') none) ty (.slice (subA a k 0 cap) hi cap) := fun aa w f c d pos af gg => by
  obtain ⟨g1, _, _, i0, zv, g2, _, _⟩ := T.sl_ok _ _ _ _ _ ht
  subst hp
  simp [execOp, f.ev hx, f.ev hh, Instr.sliceAt, Instr.slice, Instr.sliceBounds, Instr.sliceBound, asIntOf, run_underlying g1, sizeOf, typeInfo, g2, subA, h1]
theorem y_slb (T : Tabs P) {e k b m cap lo hi : Nat} {z : List Value} {a : Option Addr} {p q : Int} {hi' : Operand} (ht : lk T.sl t = some (e, k, b, z)) (hx : ev s x = some (.slice a m cap)) (hl : ev s lo' = some (.int .i64 p)) (hh : ev s hi' = some (.int .i64 q)) (hp : p = (lo : Int)) (hq : q = (hi : Int)) (h1 : lo ≤ hi) (h2 : hi ≤ cap) :
    Y P n C s (.slice t x (some lo') (some hi') none) ty (.slice (subA a k lo cap) (hi - lo) (cap - lo)) := fun aa w f c d pos af gg => by
  obtain ⟨g1, _, _, i0, zv, g2, g3, _⟩ := T.sl_ok _ _ _ _ _ ht
  subst hp; subst hq
  simp [execOp, f.ev hx, f.ev hl, f.ev hh, Instr.sliceAt, Instr.slice, Instr.sliceBounds, Instr.sliceBound, asIntOf, run_underlying g1, sizeOf, typeInfo, g2, g3, subA, h1, h2]
/-- a part of a slice reads as that part -/
theorem Rd.part {e k m cap lo hi : Nat} {ts : List T} {a : Option Addr} (hr : Rd w (.s e k ts) (.slice a m cap)) (h1 : lo ≤ hi) (h2 : hi ≤ m) : Rd w (.s e k ((ts.drop (lo * k)).take ((hi - lo) * k))) (.slice (subA a k lo cap) (hi - lo) (cap - lo)) := by
  simp only [Rd] at hr ⊢
  obtain ⟨a', m', c', h3, h4, h5, h6, h7⟩ := hr
  cases h3
  have hkm : hi * k ≤ m * k := Nat.mul_le_mul_right k h2
  have hlk : lo * k + (hi - lo) * k = hi * k := by rw [← Nat.add_mul]; congr 1; omega
  refine ⟨_, hi - lo, cap - lo, rfl, by omega, by omega, by simp only [List.length_take, List.length_drop]; omega, ?_⟩
  by_cases hz : hi - lo = 0
  · rw [hz]; simp [RdL]
  · unfold subA
    rw [if_neg (by omega)]
    have key : ∀ (i : Nat) (t : T), ((ts.drop (lo * k)).take ((hi - lo) * k))[i]? = some t → ∃ b o u, a = some ⟨b, o, none⟩ ∧ w.cell? ⟨b, o + (lo * k + i), none⟩ = some u ∧ Rd w t u := fun i t ht => by
      rw [List.getElem?_take] at ht
      split at ht
      · rw [List.getElem?_drop] at ht
        obtain ⟨b, o, u, g1, g2, g3⟩ := h7.get _ _ ht
        exact ⟨b, o, u, g1, by simpa using g2, g3⟩
      · cases ht
    cases hl : (ts.drop (lo * k)).take ((hi - lo) * k) with
    | nil => simp [RdL]
    | cons t0 tl =>
      obtain ⟨b, o, u, g1, _, _⟩ := key 0 t0 (by rw [hl]; rfl)
      subst g1
      rw [← hl, Option.map_some, Addr.add_lit]
      refine RdL.of_get (fun i t ht => ?_)
      obtain ⟨b', o', u', g1', g2', g3'⟩ := key i t ht
      cases g1'
      exact ⟨u', by rw [Nat.zero_add, Nat.add_assoc]; exact g2', g3'⟩
theorem m_pushn (i : Nat) (T0 : Tabs P) {e g e' : Nat} {z : List Value} {xs : List Int} {k : Int} {c m : Nat} (ht : lk T0.sl t = some (e, 1, 8, z)) (hi : H[i]? = some (.own (ints e xs) v)) (hx : ev s x = some v) (hy : ev s y = some (.slice (some ⟨g, 0, none⟩) 1 c)) (hd : Nat.blt d n = true)
    (hl : xs.length = m) (hb : m ≤ 1099511627775)
    (h : ∀ a cc, AT n (Hp M w0 (.own (ints e (xs ++ [k])) (.slice a (m + 1) cc) :: H.eraseIdx i)) ((d, .slice a (m + 1) cc) :: s) (wpList P ops Q rest)) :
    AT n (Hp M w0 (.blk g #[.int .i64 k] e' :: H)) s (wpList P ops Q (⟨some d, .call ⟨.builtin .append, #[x, y], #[t, t]⟩, ty, pos, af, none⟩ :: rest)) := by
  subst hl
  exact m_pushi i T0 ht hi hx hy hd hb h
/-- one more element: plain cells ahead of a slice of ours -/
theorem m_push1 (pre : List Value) (i j : Nat) (T0 : Tabs P) {e g e' k b c m' : Nat} {z : List Value} {ts : List T} {cs : Array Value} {t1 : T} {u : Value} (ht : lk T0.sl t = some (e, k, b, z)) (hx : ev s x = some v) (hy : ev s y = some (.slice (some ⟨g, 0, none⟩) 1 c)) (hd : Nat.blt d n = true)
    (hcs : cs.toList = pre ++ [u]) (hl : Nat.beq cs.size k = true) (hu : cs.toList.all (·.oneCell') = true) (hm : ts.length = m' * k) (hb : (ts.length + k) * b ≤ 140737488355328) (hb1 : 1 ≤ b) (hj : H[j]? = some (.own t1 u)) (hi : (H.eraseIdx j)[i]? = some (.own (.s e k ts) v))
    (h : ∀ a cc, AT n (Hp M w0 (.own (.s e k (ts ++ (pre.map T.c ++ [t1]))) (.slice a (m' + 1) cc) :: (H.eraseIdx j).eraseIdx i)) ((d, .slice a (m' + 1) cc) :: s) (wpList P ops Q rest)) :
    AT n (Hp M w0 (.blk g cs e' :: H)) s (wpList P ops Q (⟨some d, .call ⟨.builtin .append, #[x, y], #[t, t]⟩, ty, pos, af, none⟩ :: rest)) := by
  have hl' := Nat.eq_of_beq_eq_true hl
  have hlen : cs.toList.length = k := by simpa using hl'
  refine m_app (ts := ts) (tn := pre.map T.c ++ [t1]) (news := cs.toList) (m' := m' + 1) (m := 1) (H' := (H.eraseIdx j).eraseIdx i) T0 ht hx hy hd (by omega) (fun u hu' => List.all_eq_true.1 hu u hu') (by rw [List.length_append, hm, Nat.succ_mul]; have := hlen; rw [hcs] at this; simp at this ⊢; omega) (by rw [hlen]; exact hb) hb1
    (fun w c => ?_) (fun w c => .inr ⟨_, rfl, fun q u hu => ?_⟩) h
  · rw [hcs]
    have h1 := ((c.drop.front hj).single.free pre).cat
    exact h1.front (i := i + 1) (by simpa using hi)
  · have := hc_blk (M := M) (w0 := w0) 0 (o := q) (v := u) (H := .blk g cs e' :: H) rfl (by simpa using hu) w c
    rw [Addr.add_lit]
    simpa using this
end
end Go.Lg
