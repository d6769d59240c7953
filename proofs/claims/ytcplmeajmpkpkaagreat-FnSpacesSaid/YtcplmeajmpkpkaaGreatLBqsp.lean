import Derived.ProofKit
import Derived.Deep.Slices
import Derived.ChangeOld
import Derived.WalkSpells
import Derived.RegionTactic
import Derived.StillTail
import Derived.Test.YtcplmeajmpkpkaaGreatLAqsp
namespace Go.Lg
open Go.RowKit

def ab : Option Addr → Nat
  | some a => a.block
  | none => 0
def ao : Option Addr → Nat
  | some a => a.off
  | none => 0
def SA (a : Option Addr) (m : Nat) : Prop := m = 0 ∨ a = some ⟨ab a, ao a, none⟩
theorem SA.mk {b o m : Nat} : SA (some ⟨b, o, none⟩) m := .inr rfl
theorem SA.get {a : Option Addr} {m : Nat} (h : SA a m) (hm : 0 < m) : a = some ⟨ab a, ao a, none⟩ := by
  rcases h with h | h
  · omega
  · exact h
def IsSl (v : Value) (m : Nat) : Prop := ∃ a c, v = .slice a m c ∧ SA a m

section
variable {P : Program} {n : Nat} {C : World → Prop} {s : List (Nat × Value)} {Q : Exit → Act → World → Prop} {ops : Array Oper} {rest : List Oper}
variable {d ty t t' : Nat} {pos : String} {af : Array Edge} {v : Value} {x y : Operand} {M : List Nat} {w0 w : World} {H : List HE}

theorem AT.fact [Dfs] {p : Prop} {R : Act → World → Prop} (hp : ∀ w, C w → p) (h : p → AT n C s R) : AT n C s R := fun a w f c => h (hp w c) a w f c

theorem RdL.sa {ts : List T} {a : Option Addr} {j m k : Nat} (h : RdL w a j ts) (hl : ts.length = m * k) (hk : 0 < k) : SA a m := by
  cases ts with
  | nil =>
    have h0 : m * k = 0 := by simpa using hl.symm
    rcases Nat.mul_eq_zero.1 h0 with h | h
    · exact .inl h
    · omega
  | cons t ts =>
    simp only [RdL] at h
    obtain ⟨b, o, u, rfl, _⟩ := h.1
    exact .inr rfl
theorem Rd.open {e k : Nat} {ts : List T} (hk : 0 < k) (h : Rd w (.s e k ts) v) : ∃ a m cap, v = .slice a m cap ∧ SA a m ∧ m ≤ cap ∧ cap ≤ maxLen ∧ ts.length = m * k ∧
    ∀ (j : Nat) (t : T), ts[j]? = some t → ∃ u, w.cell? ⟨ab a, ao a + j, none⟩ = some u ∧ Rd w t u := by
  simp only [Rd] at h
  obtain ⟨a, m, cap, h1, h2, h3, h4, h5⟩ := h
  refine ⟨a, m, cap, h1, h5.sa h4 hk, h2, h3, h4, fun j t ht => ?_⟩
  obtain ⟨b, o, u, rfl, g2, g3⟩ := h5.get j t ht
  simp only [Nat.zero_add] at g2
  exact ⟨u, g2, g3⟩
theorem it_get {xs : List Int} {j : Nat} (h : j < xs.length) : (it xs)[j]? = some (.c (.int .i64 (xs.getD j 0))) := by
  simp [it, h, List.getD]
theorem Rd.ints {e : Nat} {xs : List Int} (h : Rd w (ints e xs) v) : ∃ a cap, v = .slice a xs.length cap ∧ SA a xs.length ∧ xs.length ≤ cap ∧ cap ≤ maxLen ∧
    ∀ j, j < xs.length → w.cell? ⟨ab a, ao a + j, none⟩ = some (.int .i64 (xs.getD j 0)) := by
  obtain ⟨a, m, cap, h1, h2, h3, h4, h5, h6⟩ := Rd.open (by decide) h
  simp only [it_length, Nat.mul_one] at h5
  subst h5
  refine ⟨a, cap, h1, h2, h3, h4, fun j hj => ?_⟩
  obtain ⟨u, g1, g2⟩ := h6 j _ (it_get hj)
  simp only [Rd] at g2
  rw [g1, g2]

theorem y_ixa [Dfs] (T : Tabs P) {e k b m cap : Nat} {z : List Value} {i : Int} {a0 : Option Addr} (ht : lk T.sl t = some (e, k, b, z)) (hx : ev s x = some (.slice a0 m cap)) (hy : ev s y = some (.int .i64 i)) (hs : SA a0 m) (h0 : 0 ≤ i) (h1 : i < m) :
    Y P n C s (.indexAddr t x y) ty (.pointer (some ⟨ab a0, ao a0 + i.toNat * k, none⟩)) := by
  have := hs.get (by omega)
  rw [this] at hx
  have h := y_ix (P := P) (n := n) (C := C) (s := s) (ty := ty) T ht hx hy h0 h1
  exact h

theorem hc_rd {e : Nat} {xs : List Int} {a : Option Addr} {c j : Nat} (hr : Rd w0 (ints e xs) (.slice a xs.length c)) (hj : j < xs.length) : ∀ w, Hp [] w0 H w → w.cell? ⟨ab a, ao a + j, none⟩ = some (.int .i64 (xs.getD j 0)) := fun w cw => by
  obtain ⟨a', c', h1, _, _, _, h5⟩ := hr.ints
  cases h1
  exact cw.cell (h5 j hj)
theorem hc_own (i : Nat) {e : Nat} {xs : List Int} {a : Option Addr} {m c j : Nat} (hi : H[i]? = some (.own (ints e xs) (.slice a m c))) (hj : j < xs.length) : ∀ w, Hp M w0 H w → w.cell? ⟨ab a, ao a + j, none⟩ = some (.int .i64 (xs.getD j 0)) := fun w cw => by
  obtain ⟨a', c', h1, _, _, _, h5⟩ := (cw.own_rd hi).ints
  cases h1
  exact h5 j hj
theorem own_sl (i : Nat) {e : Nat} {xs : List Int} {v : Value} (hi : H[i]? = some (.own (ints e xs) v)) : ∀ w, Hp M w0 H w → IsSl v xs.length := fun w cw => by
  obtain ⟨a', c', h1, h2, _⟩ := (cw.own_rd hi).ints
  exact ⟨a', c', h1, h2⟩

theorem m_storeo [Dfs] (i : Nat) (T : Tabs P) {e m c j : Nat} {xs : List Int} {a0 : Option Addr} {q : Int} (ht : lk T.one t = some ()) (hx : ev s x = some (.pointer (some ⟨ab a0, ao a0 + j, none⟩))) (hy : ev s y = some (.int .i64 q))
    (hi : H[i]? = some (.own (ints e xs) (.slice a0 m c))) (hj : j < xs.length) (h : AT n (Hp M w0 (H.set i (.own (ints e (xs.set j q)) (.slice a0 m c)))) s (wpList P ops Q rest)) :
    AT n (Hp M w0 H) s (wpList P ops Q (⟨none, .store t x y, ty, pos, af, none⟩ :: rest)) := st_skip (fun a w f cw => by
  have hcell := hc_own (M := M) (w0 := w0) i hi hj w cw
  have hfro : w.frozen? ⟨ab a0, ao a0 + j, none⟩ = false := by
    obtain ⟨g, hg, _⟩ := cw.sat hi
    simp only [HE.sat, ints, Own] at hg
    rcases hg with ⟨h1, _⟩ | ⟨g', n', cap', cur, fp', h1, h2, _⟩
    · simp [it] at h1; subst h1; simp at hj
    · cases h1; simp [World.frozen?, ab, h2]
  refine ⟨w.setCell ⟨ab a0, ao a0 + j, none⟩ (.int .i64 q), cw.turn hi (fun g hg => ?_) rfl rfl rfl (by simp [World.setCell]), ?_⟩
  · simp only [HE.sat, ints, Own] at hg ⊢
    rcases hg with ⟨h1, _⟩ | ⟨g', n', cap', cur, fp', h1, h2, h3, h4, h5, h6, h7, rfl⟩
    · simp [it] at h1; subst h1; simp at hj
    · cases h1
      obtain ⟨h8, rfl⟩ := OwnL.ints_inv h7
      refine ⟨.inr ⟨g', m, c, cur.setIfInBounds j (.int .i64 q), [], rfl, ?_, ?_, h4, h5, by simpa using h6, ?_, rfl⟩, fun k _ hk => Below.heap_setCell w _ _ k (by simp [ab]; simpa using hk)⟩
      · simp [World.setCell, Array.getElem?_modify, h2, ab, ao]
      · simpa [it] using h3
      · have hh : List.take (m * 1) (cur.setIfInBounds j (Value.int IntKind.i64 q)).toList = ic (xs.set j q) := by
          rw [Array.toList_setIfInBounds, List.take_set, h8]
          simp [ic, List.map_set]
        rw [hh]
        exact OwnL.ints _
  · simp [execOp, f.ev hx, f.ev hy, (T.one_ok _ ht).2 _ _ w (show (Value.int .i64 q).oneCell' = true from rfl), stored, hcell, hfro]) h

theorem madeCells_one (z : Value) (m : Nat) : madeCells #[z] m = Array.replicate m z := by
  apply Array.ext'
  simp only [madeCells, Array.toList_map, Array.toList_replicate]
  apply List.ext_getElem
  · simp
  · intro i h1 h2
    simp [Nat.mod_one]
theorem m_makei [Dfs] (T : Tabs P) {e : Nat} {l : Int} (ht : lk T.sl t = some (e, 1, 8, [.int .i64 0])) (hx : ev s x = some (.int .i64 l)) (hy : ev s y = some (.int .i64 l)) (h0 : 0 ≤ l) (hc : l ≤ 1099511627776) (hd : Nat.blt d n = true)
    (h : ∀ b, w0.heap.size ≤ b → AT n (Hp M w0 (.own (ints e (List.replicate l.toNat 0)) (.slice (some ⟨b, 0, none⟩) l.toNat l.toNat) :: H)) ((d, .slice (some ⟨b, 0, none⟩) l.toNat l.toNat) :: s) (wpList P ops Q rest)) :
    AT n (Hp M w0 H) s (wpList P ops Q (⟨some d, .makeSlice t x y, ty, pos, af, none⟩ :: rest)) :=
  m_make T ht hx hy h0 (Int.le_refl _) (by omega) (by omega) hd (fun b hb => AT.cls (fun w c => by
    refine c.say (H1 := [.own (ints e (List.replicate l.toNat 0)) (.slice (some ⟨b, 0, none⟩) l.toNat l.toNat)]) (fun f hf => ?_)
    obtain ⟨h1, rfl⟩ := hf
    refine ⟨[b], List.Perm.refl _, [b], [], rfl, ?_, rfl⟩
    simp only [HE.sat, ints, Own]
    refine .inr ⟨b, l.toNat, l.toNat, _, [], rfl, h1, by simp, Nat.le_refl _, by unfold maxLen; omega, by simp [zeros, size_madeCells], ?_, rfl⟩
    have : List.take (l.toNat * 1) (zeros [Value.int .i64 0] l.toNat).toList = ic (List.replicate l.toNat 0) := by
      simp [zeros, madeCells_one, ic]
    rw [this]
    exact OwnL.ints _) (h b hb))

def Gives (t : T) (m : Nat) (r : Value) (H : List HE) : Prop := ∃ a c, r = .slice a m c ∧ SA a m ∧ H = [.own t (.slice a m c)]
end
end Go.Lg
namespace Go.Lg
open Go.RowKit

section
variable {P : Program} {n : Nat} {C : World → Prop} {s : List (Nat × Value)} {Q : Exit → Act → World → Prop} {ops : Array Oper} {rest : List Oper}
variable {d ty t t' : Nat} {pos : String} {af : Array Edge} {v : Value} {x y : Operand} {M : List Nat} {w0 w : World} {H : List HE}

theorem x_next [Dfs] {α : Type} {S : α → List (Nat × Value)} {D : α → World → Prop} {m : α → Nat} {x : α} (y : α) (hs : Sub (S y) s) (hC : ∀ w, C w → D y w) (hm : m y < m x) :
    AT n C s (Again n S D m x) := fun _ w f c => ⟨y, f.sub hs, hC w c, hm⟩

def QT [Dfs] (P : Program) (ops : Array Oper) (n : Nat) (C : World → Prop) (K : Act → Prop) (s : List (Nat × Value)) (l : List Oper) : Prop := ∀ a, Fr n s a → wpQuiet P ops C K l a

theorem c_draw [Dfs] {id : Nat} {l : List Oper} (hm : P.follows .mixedOrders = true) (hB : Region.lexB .any l.toArray = true) (hC : ∀ w, C w → C { w with drawn := w.drawn + 1 })
    (h : QT P l.toArray n C (fun a' => ∀ w', C w' → Q .normal a' w') s l) : AT n C s ((Code.region id l.toArray true).wp P Q) := fun a w f c =>
  wp_region_quiet hm hB (hC w c) (by simpa using h a f)
variable {K : Act → Prop} {op : Op} {rest : List Oper}
theorem q_nil [Dfs] (h : AT n C s (Q .normal)) : QT P ops n C (fun a' => ∀ w', C w' → Q .normal a' w') s [] := fun a f w c => h a w f c
theorem q_y [Dfs] (hy : Y P n C s op ty v) (hd : Nat.blt d n = true) (h : QT P ops n C K ((d, v) :: s) rest) : QT P ops n C K s (⟨some d, op, ty, pos, af, none⟩ :: rest) := fun a f => by
  unfold wpQuiet
  rw [if_pos (by simp [Region.wanted])]
  exact ⟨v, fun w c => by unfold Oper.quietAt; rw [hy a w f c]; exact ⟨rfl, rfl⟩, h _ (f.put (by simpa [Nat.blt_eq] using hd) v)⟩
theorem q_gy [Dfs] {j dj : Nat} {b : Bool} {dd : Option Nat} (hj : (ops[j]?).bind (·.dst) = some dj) (hb : lk s dj = some (.bool b)) (h : QT P ops n C K s (⟨dd, op, ty, pos, af, none⟩ :: rest)) :
    QT P ops n C K s (⟨dd, op, ty, pos, af, some (j, b)⟩ :: rest) := fun a f => by
  have := h a f
  unfold wpQuiet at this ⊢
  rw [if_pos (by simp [Region.wanted])] at this
  rw [if_pos (by simp [Region.wanted, yielded, hj, f.has _ _ hb])]
  exact this
theorem q_gn [Dfs] {j dj : Nat} {b : Bool} (hj : (ops[j]?).bind (·.dst) = some dj) (hb : lk s dj = some (.bool !b)) (hd : Nat.blt d n = true) (h : QT P ops n C K ((d, undef) :: s) rest) :
    QT P ops n C K s (⟨some d, op, ty, pos, af, some (j, b)⟩ :: rest) := fun a f => by
  unfold wpQuiet
  rw [if_neg (by cases b <;> simp [Region.wanted, yielded, hj, f.has _ _ hb])]
  exact h _ (f.put (by simpa [Nat.blt_eq] using hd) undef)
theorem q_call [Dfs] {f : Nat} {args : Array Operand} {vs : List Value} {φ : Value → List HE → Prop} {at' : Array Nat} (he : Ent P f) (ha : evs s args.toList = some vs) (hd : Nat.blt d n = true)
    (hc : ∀ w, Hp M w0 H w → Does P f vs w φ) (hv : ∀ u H', φ u H' → u = v) (h : QT P ops n (Hp M w0 H) K ((d, v) :: s) rest) :
    QT P ops n (Hp M w0 H) K s (⟨some d, .call ⟨.value (.func f), args, at'⟩, ty, pos, af, none⟩ :: rest) := fun a fr => by
  unfold wpQuiet
  rw [if_pos (by simp [Region.wanted])]
  refine ⟨v, fun w c => ?_, h _ (fr.put (by simpa [Nat.blt_eq] using hd) v)⟩
  have hm : args.map a.eval = vs.toArray := by
    rw [← fr.evs ha]
    apply Array.ext'
    simp
  have : (execOp a.eval ⟨some d, .call ⟨.value (.func f), args, at'⟩, ty, pos, af, none⟩).run P w = .ok (.enter f vs.toArray) w := by
    simp [execOp, resolve, Act.eval, Deferred.ofValue, hm, invoke, he vs.toArray w]
  unfold Oper.quietAt
  rw [this]
  refine ⟨rfl, (hc w c).mono ?_⟩
  rintro e w' ⟨u, H', rfl, hφ, hp⟩
  exact ⟨by rw [hv u H' hφ], c.same hp.below⟩
end

theorem getD_some {α : Type} {xs : List α} {i : Nat} {z : α} (h : i < xs.length) : xs[i]? = some (xs.getD i z) := by simp [List.getD, h]
theorem take_end {α : Type} {xs : List α} {i : Nat} (h : xs.length ≤ i) : xs.take i = xs := List.take_of_length_le h
theorem take_next {α : Type} {xs : List α} {i : Nat} {z : α} (h : i < xs.length) : xs.take (i + 1) = xs.take i ++ [xs.getD i z] := by
  rw [List.take_add_one, getD_some (z := z) h]; rfl
end Go.Lg
namespace Go.Lg
open Go.RowKit

section
variable {P : Program} {n : Nat} {C : World → Prop} {s : List (Nat × Value)} {Q : Exit → Act → World → Prop} {ops : Array Oper} {rest : List Oper}
variable {d ty t t' : Nat} {pos : String} {af : Array Edge} {v : Value} {x y : Operand} {M : List Nat} {w0 w : World} {H : List HE}

theorem y_loadb [Dfs] (i : Nat) (T : Tabs P) {b e : Nat} {cur : Array Value} {z : List Value} (ht : lk T.sz t = some z) (hx : ev s x = some (.pointer (some ⟨b, 0, none⟩))) (hi : H[i]? = some (.blk b cur e)) (hl : Nat.beq cur.size z.length = true) : Y P n (Hp M w0 H) s (.load t x) ty (.agg cur) := by
  have h := y_loads (P := P) (n := n) (C := Hp M w0 H) (s := s) (ty := ty) (cs := cur.toList) T ht (by rw [← Nat.eq_of_beq_eq_true hl]; simp) hx (hcs_blk i hi (fun j v hj => by simpa using hj))
  simpa using h
theorem m_storeb [Dfs] (i : Nat) (T : Tabs P) {b e : Nat} {cur cs : Array Value} {z : List Value} (ht : lk T.sz t = some z) (hx : ev s x = some (.pointer (some ⟨b, 0, none⟩))) (hy : ev s y = some (.agg cs)) (hl : Nat.beq cs.size z.length = true) (hu : cs.toList.all (·.oneCell') = true)
    (hi : H[i]? = some (.blk b cur e)) (hc : Nat.beq cur.size cs.size = true) (h : AT n (Hp M w0 (H.set i (.blk b cs e))) s (wpList P ops Q rest)) :
    AT n (Hp M w0 H) s (wpList P ops Q (⟨none, .store t x y, ty, pos, af, none⟩ :: rest)) := by
  have e1 := Nat.eq_of_beq_eq_true hl
  have e2 := Nat.eq_of_beq_eq_true hc
  refine m_stores i T (cs := cs.toList) ht (by rw [← e1]; simp) hx (by simpa using hy) (fun u hu' => by simpa using List.all_eq_true.1 hu u hu') hi (by simp [e2]) ?_
  have : (List.take 0 cur.toList ++ cs.toList ++ List.drop (0 + cs.toList.length) cur.toList).toArray = cs := by
    apply Array.ext'
    simp [← e2]
  rw [this]
  exact h
theorem m_storef [Dfs] (i : Nat) (T : Tabs P) {b o e : Nat} {cur : Array Value} {u : Value} (ht : lk T.one t = some ()) (hx : ev s x = some (.pointer (some ⟨b, o, none⟩))) (hy : ev s y = some u) (hu : u.oneCell' = true)
    (hi : H[i]? = some (.blk b cur e)) (ho : Nat.blt o cur.size = true) (h : AT n (Hp M w0 (H.set i (.blk b (cur.setIfInBounds o u) e))) s (wpList P ops Q rest)) :
    AT n (Hp M w0 H) s (wpList P ops Q (⟨none, .store t x y, ty, pos, af, none⟩ :: rest)) := m_store i T ht hx hy hu hi (by simpa [Nat.blt_eq] using ho) h
theorem res_cellb (i : Nat) (T : Tabs P) {b e t ty : Nat} {cur : Array Value} {z : List Value} (ht : lk T.sz ty = some z) (h : lk s t = some (.pointer (some ⟨b, 0, none⟩))) (hi : H[i]? = some (.blk b cur e)) (hl : Nat.beq cur.size z.length = true) : ResV P (Hp M w0 H) s (.cell t ty) (.agg cur) := by
  have := res_cell (P := P) (C := Hp M w0 H) (s := s) (cs := cur.toList) T ht (by rw [← Nat.eq_of_beq_eq_true hl]; simp) h (hcs_blk i hi (fun j v hj => by simpa using hj))
  simpa using this

theorem cells_two {cs : List Value} {v0 v1 : Value} (hcs : cs = [v0, v1]) {w : World} {b o : Nat} (h0 : w.cell? ⟨b, o, none⟩ = some v0) (h1 : w.cell? ⟨b, o + 1, none⟩ = some v1) : ∀ (j : Nat) (v : Value), cs[j]? = some v → w.cell? ((⟨b, o, none⟩ : Addr).add j) = some v := by
  subst hcs
  intro j v hj
  rw [Addr.add_lit]
  match j, hj with
  | 0, hj => simp at hj; subst hj; exact h0
  | 1, hj => simp at hj; subst hj; exact h1
theorem y_load2 [Dfs] (T : Tabs P) {b o : Nat} {v0 v1 z0 z1 : Value} (ht : lk T.sz t = some [z0, z1]) (hx : ev s x = some (.pointer (some ⟨b, o, none⟩)))
    (h0 : ∀ w, C w → w.cell? ⟨b, o, none⟩ = some v0) (h1 : ∀ w, C w → w.cell? ⟨b, o + 1, none⟩ = some v1) : Y P n C s (.load t x) ty (.agg #[v0, v1]) :=
  y_loads (cs := [v0, v1]) T ht rfl hx (fun w c => cells_two rfl (h0 w c) (h1 w c))
theorem y_fn [Dfs] {f : Nat} {cap : List Value} {fi ca : Array Operand} (hf : fi = #[]) (hc : evs s ca.toList = some cap) : Y P n C s (.makeFunc (.func f) fi ca) ty (.func (.func f) #[] cap.toArray) := fun a w fr c d pos af g => by
  have hm : ca.map a.eval = cap.toArray := by
    rw [← fr.evs hc]
    apply Array.ext'
    simp
  simp [execOp, Instr.makeFunc, hf, hm]

theorem OwnL.split {w : World} : ∀ {t1 t2 : List T} {vs : List Value} {f : List Nat}, OwnL w (t1 ++ t2) vs f → ∃ v1 v2 f1 f2, vs = v1 ++ v2 ∧ f = f1 ++ f2 ∧ OwnL w t1 v1 f1 ∧ OwnL w t2 v2 f2
  | [], t2, vs, f, h => ⟨[], vs, [], f, rfl, rfl, by simp [OwnL], h⟩
  | t :: t1, t2, vs, f, h => by
    simp only [List.cons_append, OwnL] at h
    obtain ⟨v, vs', f1, f2, rfl, rfl, a, b⟩ := h
    obtain ⟨v1, v2, g1, g2, rfl, rfl, c, d⟩ := OwnL.split b
    exact ⟨v :: v1, v2, f1 ++ g1, g2, rfl, by rw [List.append_assoc], by simp only [OwnL]; exact ⟨v, v1, f1, g1, rfl, rfl, a, c⟩, d⟩

theorem Hp.put {e k m c j : Nat} {ts tn : List T} {news : List Value} {a : Option Addr} (hp : Hp M w0 (.own (.s e k ts) (.slice a m c) :: .ownL tn news :: H) w) (hk : 0 < k) (hl : news.length = k) (hm : ts.length = m * k) (hj : j < m) :
    ∃ g cur, a = some ⟨g, 0, none⟩ ∧ w.heap[g]? = some (.cells cur e (0, 0)) ∧ j * k + k ≤ cur.size ∧ Hp M w0 (.own (.s e k (ts.take (j * k) ++ tn ++ ts.drop (j * k + k))) (.slice a m c) :: H) (w.setRow g (cur.toList.take (j * k) ++ news ++ cur.toList.drop (j * k + k)).toArray) := by
  obtain ⟨fp, ⟨f1, f23, e1, s1, f2, f3, e2, s2, s3⟩, nd, ge, kp⟩ := hp
  subst e1; subst e2
  simp only [HE.sat, Own] at s1
  have hjk : j * k + k ≤ m * k := by rw [← Nat.succ_mul]; exact Nat.mul_le_mul_right k hj
  rcases s1 with ⟨rfl, _, _⟩ | ⟨g, n', cap', cur, fp', h1, hg, hlen, hnc, hcm, hcs, hol, rfl⟩
  · simp only [List.length_nil] at hm; omega
  · cases h1
    have hck : m * k ≤ c * k := Nat.mul_le_mul_right k hnc
    refine ⟨g, cur, rfl, hg, by rw [hcs]; omega, ?_⟩
    have keep : ∀ b, b ≠ g → (w.setRow g (cur.toList.take (j * k) ++ news ++ cur.toList.drop (j * k + k)).toArray).heap[b]? = w.heap[b]? := fun b hb => setRow_other w g b _ hb
    -- the cells, in three parts
    have hts : ts = ts.take (j * k) ++ ((ts.drop (j * k)).take k ++ ts.drop (j * k + k)) := by
      rw [← List.drop_drop, List.take_append_drop, List.take_append_drop]
    rw [hts] at hol
    obtain ⟨v1, v23, g1, g23, hv, hf, o1, o23⟩ := OwnL.split hol
    obtain ⟨v2, v3, g2, g3, hv', hf', o2, o3⟩ := OwnL.split o23
    subst hf; subst hf'; subst hv'
    have l1 : v1.length = j * k := by rw [OwnL.length o1, List.length_take]; omega
    have l2 : v2.length = k := by rw [OwnL.length o2, List.length_take, List.length_drop]; omega
    have t1 : cur.toList.take (j * k) = v1 := by
      have := congrArg (List.take (j * k)) hv
      rw [List.take_take, Nat.min_eq_left (by omega), List.take_left' l1] at this
      exact this
    have t3 : (cur.toList.drop (j * k + k)).take (m * k - (j * k + k)) = v3 := by
      have := congrArg (List.drop (j * k + k)) hv
      rw [List.drop_take] at this
      rw [this, ← List.append_assoc, List.drop_left' (by simp [l1, l2])]
    have hgn : g ∉ (g1 ++ (g2 ++ g3)) ++ (f2 ++ f3) := (List.nodup_cons.1 (by simpa using nd)).1
    have nd' : ((g1 ++ (g2 ++ g3)) ++ (f2 ++ f3)).Nodup := (List.nodup_cons.1 (by simpa using nd)).2
    simp only [List.mem_append, not_or] at hgn
    have perm : List.Sublist ((g1 ++ f2 ++ g3) ++ f3) ((g1 ++ f2 ++ g3) ++ f3) := List.Sublist.refl _
    have memsub : ∀ b, b ∈ (g1 ++ f2 ++ g3) ++ f3 → b ∈ (g1 ++ (g2 ++ g3)) ++ (f2 ++ f3) := fun b hb => by
      simp only [List.mem_append] at hb ⊢
      rcases hb with ((h | h) | h) | h <;> simp [h]
    have ndnew : ((g1 ++ f2 ++ g3) ++ f3).Nodup := by
      have hs : List.Sublist ((g1 ++ g3) ++ (f2 ++ f3)) ((g1 ++ (g2 ++ g3)) ++ (f2 ++ f3)) :=
        List.Sublist.append (List.Sublist.append (List.Sublist.refl _) (List.sublist_append_right g2 g3)) (List.Sublist.refl _)
      have h1 := hs.nodup nd'
      have hpm : ((g1 ++ f2 ++ g3) ++ f3).Perm ((g1 ++ g3) ++ (f2 ++ f3)) := by
        rw [← List.append_assoc (g1 ++ g3) f2 f3]
        refine List.Perm.append_right f3 ?_
        rw [List.append_assoc, List.append_assoc]
        exact List.Perm.append_left g1 List.perm_append_comm
      exact hpm.nodup_iff.2 h1
    refine ⟨(g :: (g1 ++ f2 ++ g3)) ++ f3, ⟨g :: (g1 ++ f2 ++ g3), f3, rfl, ?_, ?_⟩, ?_, ?_, ?_⟩
    · simp only [HE.sat, Own]
      refine .inr ⟨g, m, c, _, g1 ++ f2 ++ g3, rfl, setRow_heap w g cur _ e _ hg, ?_, hnc, hcm, ?_, ?_, rfl⟩
      · simp only [List.length_append, List.length_take, List.length_drop, (OwnL.length s2).symm, hl]
        omega
      · simp only [List.size_toArray, List.length_append, List.length_take, List.length_drop, Array.length_toList, hl]
        omega
      · have hcells : List.take (m * k) (cur.toList.take (j * k) ++ news ++ cur.toList.drop (j * k + k)) = v1 ++ news ++ v3 := by
          rw [t1, List.take_append, List.length_append, l1, hl, ← t3, List.take_of_length_le (by simp [l1, hl]; omega)]
        rw [hcells]
        exact OwnL.append (OwnL.append (OwnL.loc o1 (fun b hb => keep b (fun h => hgn.1.1 (h ▸ hb)))) (OwnL.loc s2 (fun b hb => keep b (fun h => hgn.2.1 (h ▸ hb))))) (OwnL.loc o3 (fun b hb => keep b (fun h => hgn.1.2.2 (h ▸ hb))))
    · exact s3.loc (fun b hb => keep b (fun h => hgn.2.2 (h ▸ hb)))
    · rw [List.cons_append, List.nodup_cons]
      refine ⟨fun h => ?_, ndnew⟩
      have := memsub _ h
      simp only [List.mem_append] at this
      rcases this with (h | h | h) | h | h
      · exact hgn.1.1 h
      · exact hgn.1.2.1 h
      · exact hgn.1.2.2 h
      · exact hgn.2.1 h
      · exact hgn.2.2 h
    · intro b hb
      rcases List.mem_cons.1 hb with rfl | hb
      · exact ge b (by simp)
      · exact ge b (List.mem_cons_of_mem _ (by simpa using memsub b hb))
    · refine ⟨kp.os, kp.tape, kp.output, by simpa using kp.size, fun q hq hM => ?_⟩
      rw [keep q (fun h => ?_)]
      · exact kp.block q hq hM
      · subst h
        rcases ge q (by simp) with h | h
        · exact hM h
        · omega

end
end Go.Lg
namespace Go.Lg
open Go.RowKit

section
variable {P : Program} {n : Nat} {C : World → Prop} {s : List (Nat × Value)} {Q : Exit → Act → World → Prop} {ops : Array Oper} {rest : List Oper} {K : Act → Prop}
variable {d ty : Nat} {op : Op} {pos : String} {af : Array Edge} {v : Value} {x y z : Operand} {p : Prop} [Decidable p]

theorem st_gdy [Dfs] {j dj : Nat} {dd : Option Nat} (hj : (ops[j]?).bind (·.dst) = some dj) (hb : lk s dj = some (.bool (decide p))) (hp : p) (h : AT n C s (wpList P ops Q (⟨dd, op, ty, pos, af, none⟩ :: rest))) :
    AT n C s (wpList P ops Q (⟨dd, op, ty, pos, af, some (j, true)⟩ :: rest)) := st_gy hj (by simpa [hp] using hb) h
theorem st_gdn [Dfs] {j dj : Nat} (hj : (ops[j]?).bind (·.dst) = some dj) (hb : lk s dj = some (.bool (decide p))) (hp : ¬ p) (hd : Nat.blt d n = true) (h : AT n C ((d, undef) :: s) (wpList P ops Q rest)) :
    AT n C s (wpList P ops Q (⟨some d, op, ty, pos, af, some (j, true)⟩ :: rest)) := st_gn hj (by simpa [hp] using hb) hd h
theorem st_gfy [Dfs] {j dj : Nat} {dd : Option Nat} (hj : (ops[j]?).bind (·.dst) = some dj) (hb : lk s dj = some (.bool (decide p))) (hp : ¬ p) (h : AT n C s (wpList P ops Q (⟨dd, op, ty, pos, af, none⟩ :: rest))) :
    AT n C s (wpList P ops Q (⟨dd, op, ty, pos, af, some (j, false)⟩ :: rest)) := st_gy hj (by simpa [hp] using hb) h
theorem st_gfn [Dfs] {j dj : Nat} (hj : (ops[j]?).bind (·.dst) = some dj) (hb : lk s dj = some (.bool (decide p))) (hp : p) (hd : Nat.blt d n = true) (h : AT n C ((d, undef) :: s) (wpList P ops Q rest)) :
    AT n C s (wpList P ops Q (⟨some d, op, ty, pos, af, some (j, false)⟩ :: rest)) := st_gn hj (by simpa [hp] using hb) hd h
theorem st_gd [Dfs] {j dj : Nat} {b : Bool} {g : Option Nat} (_hj : (ops[j]?).bind (·.dst) = some dj) (_hb : lk s dj = some (.bool (decide p))) (ht : p → AT n C s (wpList P ops Q (⟨g, op, ty, pos, af, some (j, b)⟩ :: rest))) (hf : ¬ p → AT n C s (wpList P ops Q (⟨g, op, ty, pos, af, some (j, b)⟩ :: rest))) :
    AT n C s (wpList P ops Q (⟨g, op, ty, pos, af, some (j, b)⟩ :: rest)) := by
  by_cases hp : p
  · exact ht hp
  · exact hf hp
theorem q_gdy [Dfs] {j dj : Nat} {dd : Option Nat} (hj : (ops[j]?).bind (·.dst) = some dj) (hb : lk s dj = some (.bool (decide p))) (hp : p) (h : QT P ops n C K s (⟨dd, op, ty, pos, af, none⟩ :: rest)) :
    QT P ops n C K s (⟨dd, op, ty, pos, af, some (j, true)⟩ :: rest) := q_gy hj (by simpa [hp] using hb) h
theorem q_gdn [Dfs] {j dj : Nat} (hj : (ops[j]?).bind (·.dst) = some dj) (hb : lk s dj = some (.bool (decide p))) (hp : ¬ p) (hd : Nat.blt d n = true) (h : QT P ops n C K ((d, undef) :: s) rest) :
    QT P ops n C K s (⟨some d, op, ty, pos, af, some (j, true)⟩ :: rest) := q_gn hj (by simpa [hp] using hb) hd h
theorem y_pickt [Dfs] {v1 : Value} (hx : ev s x = some (.bool (decide p))) (hp : p) (hy : ev s y = some v1) : Y P n C s (.pick x y z) ty v1 := fun a w f c d pos af g => by
  simp [execOp, f.ev hx, f.ev hy, hp, asBool]
theorem y_pickf [Dfs] {v2 : Value} (hx : ev s x = some (.bool (decide p))) (hp : ¬ p) (hz : ev s z = some v2) : Y P n C s (.pick x y z) ty v2 := fun a w f c d pos af g => by
  simp [execOp, f.ev hx, f.ev hz, hp, asBool]

theorem c_ift [Dfs] {y z : Code} (hx : ev s x = some (.bool (decide p))) (hp : p) (h : AT n C s (y.wp P Q)) : AT n C s ((Code.cond x y z).wp P Q) := c_if hx (fun _ => h) (fun hn => absurd hp hn)
theorem c_iff [Dfs] {y z : Code} (hx : ev s x = some (.bool (decide p))) (hp : ¬ p) (h : AT n C s (z.wp P Q)) : AT n C s ((Code.cond x y z).wp P Q) := c_if hx (fun hn => absurd hn hp) (fun _ => h)
theorem c_ifn [Dfs] {y z : Code} (hx : ev s x = some (.bool (!decide p))) (ht : ¬ p → AT n C s (y.wp P Q)) (hf : p → AT n C s (z.wp P Q)) : AT n C s ((Code.cond x y z).wp P Q) := by
  by_cases hp : p
  · refine c_ifb hx (fun h => ?_) (fun _ => hf hp)
    simp [hp] at h
  · refine c_ifb hx (fun _ => ht hp) (fun h => ?_)
    simp [hp] at h
theorem c_true [Dfs] {y z : Code} (hx : ev s x = some (.bool true)) (h : AT n C s (y.wp P Q)) : AT n C s ((Code.cond x y z).wp P Q) := c_ifb hx (fun _ => h) (fun h => by cases h)
theorem c_false [Dfs] {y z : Code} (hx : ev s x = some (.bool false)) (h : AT n C s (z.wp P Q)) : AT n C s ((Code.cond x y z).wp P Q) := c_ifb hx (fun h => by cases h) (fun _ => h)
end
end Go.Lg
namespace Go.Lg
open Go.RowKit

theorem flatten_rep_get {α : Type} (z : List α) : ∀ (n i : Nat), i < n * z.length → ((List.replicate n z).flatten)[i]? = z[i % z.length]?
  | 0, i, h => by omega
  | n + 1, i, h => by
    rw [List.replicate_succ, List.flatten_cons]
    by_cases hi : i < z.length
    · rw [List.getElem?_append_left hi, Nat.mod_eq_of_lt hi]
    · rw [List.getElem?_append_right (by omega), flatten_rep_get z n (i - z.length) (by rw [Nat.succ_mul] at h; omega)]
      rw [← Nat.mod_eq_sub_mod (by omega)]
theorem zeros_eq (z : List Value) (m : Nat) (hz : 0 < z.length) : (zeros z m).toList = (List.replicate m z).flatten := by
  apply List.ext_getElem?
  intro i
  have hl : ((List.replicate m z).flatten).length = m * z.length := by simp
  by_cases hi : i < m * z.length
  · rw [flatten_rep_get z m i hi]
    have hm : i % z.length < z.length := Nat.mod_lt _ hz
    simp [zeros, madeCells, hi, hm]
  · rw [List.getElem?_eq_none (by simp [zeros, madeCells]; omega), List.getElem?_eq_none (by rw [hl]; omega)]
section
variable {P : Program} {n : Nat} {s : List (Nat × Value)} {Q : Exit → Act → World → Prop} {ops : Array Oper} {rest : List Oper}
variable {d ty t : Nat} {pos : String} {af : Array Edge} {x y : Operand} {M : List Nat} {w0 w : World} {H : List HE}

theorem Hp.mat {u0 u1 v : Value} {t : T} (hp : Hp M w0 (.own t v :: H) w) : Hp M w0 (.ownL [.c u0, .c u1, t] [u0, u1, v] :: H) w := (hp.single.ahead u1).ahead u0
end
end Go.Lg
namespace Go.Lg
open Go.RowKit Go.WideShapes Go.ChangeShapes

section
variable {H : Type} {enc : TypeId × Value → H} {P : Program} {w : World} {base : Nat} {spare : Nat → Bool} {held : Bool}

def RdC (w : World) (ts : List T) (cs : List Value) : Prop := cs.length = ts.length ∧ ∀ (j : Nat) (t : T) (u : Value), ts[j]? = some t → cs[j]? = some u → Rd w t u

theorem RdL.of_get {b o : Nat} : ∀ {ts : List T} {j : Nat}, (∀ i t, ts[i]? = some t → ∃ u, w.cell? ⟨b, o + (j + i), none⟩ = some u ∧ Rd w t u) → RdL w (some ⟨b, o, none⟩) j ts
  | [], j, h => by simp only [RdL]
  | t :: ts, j, h => by
    simp only [RdL]
    obtain ⟨u, h1, h2⟩ := h 0 t (by simp)
    exact ⟨⟨b, o, u, rfl, h1, h2⟩, RdL.of_get (fun i t' ht => by
      have := h (i + 1) t' (by simpa using ht)
      rwa [show j + (i + 1) = j + 1 + i by omega] at this)⟩
theorem RdL.none {a : Option Addr} {j : Nat} : RdL w a j [] := by simp only [RdL]

theorem tr_slice {α : Type} [Inhabited α] {t e e' k fuel : Nat} {f : α → List T} {G : α → Prop} {cs : List Value} {x : DataW H × List MemPlace} (ht : P.underlying t = some (.slice e)) (hk : P.cellsOf e = k) (hk0 : 0 < k) (hf : ∀ a, (f a).length = k)
    (hel : ∀ fuel cs x, DataW.trod enc P w base spare held fuel e cs = some x → ∃ a, RdC w (f a) cs ∧ G a) (h : DataW.trod enc P w base spare held fuel t cs = some x) :
    ∃ (v : Value) (l : List α), cs = [v] ∧ Rd w (.s e' k (l.flatMap f)) v ∧ ∀ a ∈ l, G a := by
  rcases Deep.open_slice ht h with ⟨rfl, _⟩ | ⟨a, len, cap, m, n, D, Pl, rfl, hb, hl, hm, hmm, _, hx⟩
  · refine ⟨_, [], rfl, ?_, by simp⟩
    simp only [Rd, List.flatMap_nil]
    exact ⟨none, 0, 0, rfl, Nat.le_refl _, Nat.zero_le _, by simp, RdL.none⟩
  · have hlm : len ≤ m := by rw [hmm]; split <;> omega
    rw [hk] at hx
    have hch : ∀ i, i < len → ∃ g : α × List Value, w.cells? base (a.add (i * k)) k = some g.2 ∧ RdC w (f g.1) g.2 ∧ G g.1 := fun i hi => by
      obtain ⟨cs', h1, h2⟩ := hx i (by omega)
      obtain ⟨g, h3, h4⟩ := hel _ _ _ h2
      exact ⟨(g, cs'), h1, h3, h4⟩
    obtain ⟨g, hg⟩ := Deep.choose_lt (α := α × List Value) hch
    refine ⟨_, (List.range len).map (fun i => (g i).1), rfl, ?_, ?_⟩
    · simp only [Rd]
      have hlen : (((List.range len).map (fun i => (g i).1)).flatMap f).length = len * k := by
        have : ∀ l : List α, (l.flatMap f).length = l.length * k := by
          intro l
          induction l with
          | nil => simp
          | cons y l ih => simp only [List.flatMap_cons, List.length_append, hf, ih, List.length_cons, Nat.succ_mul]; omega
        rw [this]; simp
      refine ⟨some a, len, cap, rfl, hl, hm, hlen, ?_⟩
      by_cases h0 : len = 0
      · subst h0; simp only [List.range_zero, List.map_nil, List.flatMap_nil]; exact RdL.none
      · have hget : ∀ (l : List α) (i q : Nat) (y : α), l[i]? = some y → q < k → (l.flatMap f)[i * k + q]? = (f y)[q]? := by
          intro l
          induction l with
          | nil => intro i q y hy; simp at hy
          | cons z l ih =>
            intro i q y hy hq
            cases i with
            | zero => simp at hy; subst hy; rw [List.flatMap_cons, List.getElem?_append_left (by rw [hf]; omega)]; simp
            | succ i =>
              rw [List.flatMap_cons, List.getElem?_append_right (by rw [hf, Nat.succ_mul]; omega), hf, show (i + 1) * k + q - k = i * k + q by rw [Nat.succ_mul]; omega]
              exact ih i q y (by simpa using hy) hq
        have hcell : ∀ i q, i < len → q < k → ∃ u, (g i).2[q]? = some u ∧ w.cell? (a.add (i * k + q)) = some u := fun i q hi hq => by
          obtain ⟨c1, c2, c3⟩ := World.cells?_some (hg i hi).1
          have hq' : q < (g i).2.length := by omega
          refine ⟨_, List.getElem?_eq_getElem hq', ?_⟩
          rw [← Deep.add_add, c3 q hq, List.getElem?_eq_getElem hq']
        have hspot : a.spot = none := by
          obtain ⟨u, _, hu⟩ := hcell 0 0 (by omega) hk0
          simpa [Addr.add] using World.cell?_spot hu
        obtain ⟨b, o, sp⟩ := a
        simp only at hspot
        subst hspot
        refine RdL.of_get (fun i t hti => ?_)
        have hi : i < len * k := by rw [← hlen]; exact (List.getElem?_eq_some_iff.1 hti).1
        have hq : i % k < k := Nat.mod_lt _ hk0
        have hd : i / k < len := Nat.div_lt_of_lt_mul (by rw [Nat.mul_comm]; exact hi)
        have hdec : i / k * k + i % k = i := by rw [Nat.mul_comm]; exact Nat.div_add_mod i k
        rw [← hdec, hget _ (i / k) (i % k) (g (i / k)).1 (by simp [hd]) hq] at hti
        obtain ⟨u, h1, h2⟩ := hcell (i / k) (i % k) hd hq
        refine ⟨u, ?_, (hg (i / k) hd).2.1.2 _ _ _ hti h1⟩
        rw [hdec, Addr.add_lit] at h2
        rw [Nat.zero_add]; exact h2
    · intro y hy
      obtain ⟨i, hi, rfl⟩ := List.mem_map.1 hy
      exact (hg i (List.mem_range.1 hi)).2.2
end
end Go.Lg
namespace Go.Lg
open Go.RowKit
section
variable {P : Program} {n : Nat} {C : World → Prop} {s : List (Nat × Value)} {x y : Operand} {t t' ty : Nat} {p q : Bool}
theorem run_equalIn_bool (w : World) (d : Nat) (t : TypeId) (h : P.underlying t = some .bool) : (Op.equalIn (d + 1) t (.bool p) (.bool q)).run P w = .ok (p == q) w := by
  simp [Op.equalIn, underlying, h]
theorem run_equal_bool (w : World) (t : TypeId) (h : P.underlying t = some .bool) : (Op.equal t (.bool p) (.bool q)).run P w = .ok (p == q) w := run_equalIn_bool w 9999 t h
theorem y_neqb [Dfs] (ht : P.underlying t = some .bool) (hx : ev s x = some (.bool p)) (hy : ev s y = some (.bool q)) : Y P n C s (.binOp .neq t x y t') ty (.bool (p != q)) := fun a w f c d pos af g => by
  have : (binOp .neq t (.bool p) (.bool q)).run P w = .ok (.bool (p != q)) w := by
    simp only [binOp]
    simp [run_equal_bool w t ht]; cases p <;> cases q <;> rfl
  simp [execOp, f.ev hx, f.ev hy, eqGuard, this]
theorem y_eqlb [Dfs] (ht : P.underlying t = some .bool) (hx : ev s x = some (.bool p)) (hy : ev s y = some (.bool q)) : Y P n C s (.binOp .eql t x y t') ty (.bool (p == q)) := fun a w f c d pos af g => by
  have : (binOp .eql t (.bool p) (.bool q)).run P w = .ok (.bool (p == q)) w := by
    simp only [binOp]
    simp [run_equal_bool w t ht]
  simp [execOp, f.ev hx, f.ev hy, eqGuard, this]
theorem y_neqb_same [Dfs] (ht : P.underlying t = some .bool) (hx : ev s x = some (.bool p)) (hy : ev s y = some (.bool p)) : Y P n C s (.binOp .neq t x y t') ty (.bool false) := by
  have := y_neqb (n := n) (C := C) (t' := t') (ty := ty) ht hx hy
  simpa using this

theorem y_notd [Dfs] {p : Prop} [Decidable p] (hx : ev s x = some (.bool (decide p))) : Y P n C s (.unOp .not t x) ty (.bool (decide (¬ p))) := by
  have := y_not (P := P) (n := n) (C := C) (t := t) (ty := ty) hx
  rwa [← decide_not] at this
theorem c_ifnd [Dfs] {Q : Exit → Act → World → Prop} {p : Prop} [Decidable p] {y z : Code} (hx : ev s x = some (.bool (decide (¬ p)))) (ht : ¬ p → AT n C s (y.wp P Q)) (hf : p → AT n C s (z.wp P Q)) : AT n C s ((Code.cond x y z).wp P Q) :=
  c_if hx ht (fun h => hf (Decidable.not_not.1 h))
theorem y_ix1 [Dfs] (T : Tabs P) {e b m cap j : Nat} {z : List Value} {i : Int} {a0 : Option Addr} (ht : lk T.sl t = some (e, 1, b, z)) (hx : ev s x = some (.slice a0 m cap)) (hy : ev s y = some (.int .i64 i)) (hs : SA a0 m) (hi : i = (j : Int)) (h1 : j < m) :
    Y P n C s (.indexAddr t x y) ty (.pointer (some ⟨ab a0, ao a0 + j, none⟩)) := by
  have h := y_ixa (P := P) (n := n) (C := C) (s := s) (ty := ty) T ht hx hy hs (by omega) (by omega)
  subst hi
  simpa using h
theorem y_ixi [Dfs] (T : Tabs P) {e b m cap : Nat} {z : List Value} {i : Int} {a0 : Option Addr} (ht : lk T.sl t = some (e, 1, b, z)) (hx : ev s x = some (.slice a0 m cap)) (hy : ev s y = some (.int .i64 i)) (hs : SA a0 m) (h0 : 0 ≤ i) (h1 : i < m) :
    Y P n C s (.indexAddr t x y) ty (.pointer (some ⟨ab a0, ao a0 + i.toNat, none⟩)) := by
  have h := y_ixa (P := P) (n := n) (C := C) (s := s) (ty := ty) T ht hx hy hs h0 h1
  simpa using h
theorem Hp.trans {w0 w1 w2 : World} (h : Hp [] w0 [] w1) (h' : Hp [] w1 [] w2) : Hp [] w0 [] w2 := by
  have k := h.kept
  have k' := h'.kept
  refine ⟨[], rfl, by simp, by simp, ⟨k'.os.trans k.os, k'.tape.trans k.tape, k'.output.trans k.output, Nat.le_trans k.size k'.size, fun q hq hM => ?_⟩⟩
  have := k.size
  rw [k'.block q (by omega) hM, k.block q hq hM]
end
end Go.Lg
namespace Go.Lg
open Go.RowKit
section
variable {P : Program} {n : Nat} {C : World → Prop} {s : List (Nat × Value)} {Q : Exit → Act → World → Prop} {ops : Array Oper} {K : Act → World → Prop} {fuel : Nat} {listed : Array Bool}

def Qk (K : Act → World → Prop) (Q : Exit → Act → World → Prop) : Exit → Act → World → Prop
  | .normal => K
  | .exit i => Q (.exit i)
  | .goto l => Q (.goto l)
  | .ret => Q .ret
  | .panic c => Q (.panic c)
  | .outgrown => Q .outgrown
theorem upon_Qk {o : Oper} {a : Act} {next : Act → World → Prop} : ∀ {r : Result Next}, o.upon P a next (Qk K Q) r → o.upon P a next Q r
  | .ok (.value _) _, h => h
  | .ok .skip _, h => h
  | .ok (.defer _) _, h => h
  | .ok (.enter _ _) _, h => Calls.mono h (fun e w'' he => by cases e <;> exact he)
  | .ok (.row _ _) _, h => h
  | .halt x _, h => by cases x <;> exact h
theorem wpOp_list {i : Nat} {o : Oper} {a : Act} {w : World} (ho : ops[i]? = some o) (h : wpList P ops (Qk K Q) [o] a w) : wpOp P ops Q i K a w := by
  unfold wpOp
  rw [ho]
  unfold wpList at h
  show if Region.wanted o (yielded ops a.tmps) = true then _ else _
  split
  · rename_i hw
    rw [if_pos hw] at h
    exact h.imp (fun h => upon_Qk h) id
  · rename_i hw
    rw [if_neg hw] at h
    exact h

theorem x_one [Dfs] (h : AT n C s K) : AT n C s (Qk K Q .normal) := h
end
end Go.Lg
namespace Go.Lg
open Go.RowKit
section
variable {P : Program} {n : Nat} {C : World → Prop} {s : List (Nat × Value)} {Q : Exit → Act → World → Prop} {M : List Nat} {w0 : World} {H : List HE}

theorem lk_ne {d k : Nat} {v : Value} (hk : ¬ d = k) : lk ((d, v) :: s) k = lk s k := by
  have : Nat.beq d k = false := by
    cases h : Nat.beq d k
    · rfl
    · exact absurd (Nat.eq_of_beq_eq_true h) hk
  simp only [lk, this, cond_false]
theorem lk_eq {d : Nat} {v : Value} : lk ((d, v) :: s) d = some v := by
  have : Nat.beq d d = true := Nat.beq_refl d
  simp only [lk, this, cond_true]
theorem sub_cons {d : Nat} {v : Value} (h : lk s d = none) : Sub s ((d, v) :: s) := fun k u e => by
  by_cases hk : d = k
  · subst hk; rw [h] at e; cases e
  · rw [lk_ne hk]; exact e
theorem sub_under {d : Nat} {v : Value} {s' : List (Nat × Value)} (h : Sub s' s) : Sub ((d, v) :: s') ((d, v) :: s) := fun k u e => by
  by_cases hk : d = k
  · subst hk; rw [lk_eq] at e ⊢; exact e
  · rw [lk_ne hk] at e ⊢; exact h k u e
theorem sub_swap {d d' : Nat} {v v' : Value} (hd : ¬ d = d') : Sub ((d, v) :: (d', v') :: s) ((d', v') :: (d, v) :: s) := fun k u e => by
  by_cases h1 : d = k
  · subst h1
    rw [lk_eq] at e
    rw [lk_ne (fun h => hd h.symm), lk_eq]; exact e
  · by_cases h2 : d' = k
    · subst h2
      rw [lk_ne h1, lk_eq] at e
      rw [lk_eq]; exact e
    · rw [lk_ne h1, lk_ne h2] at e
      rw [lk_ne h2, lk_ne h1]; exact e
theorem Sub.trans {s1 s2 s3 : List (Nat × Value)} (h : Sub s1 s2) (h' : Sub s2 s3) : Sub s1 s3 := fun k u e => h' k u (h k u e)

theorem ev_sub {s s' : List (Nat × Value)} (hs : Sub s s') {x : Operand} {v : Value} (h : ev s x = some v) : ev s' x = some v := by
  cases x <;> simp only [ev] at h ⊢ <;> first | exact h | exact hs _ _ h
theorem evs_sub {s s' : List (Nat × Value)} (hs : Sub s s') : ∀ {xs : List Operand} {vs : List Value}, evs s xs = some vs → evs s' xs = some vs
  | [], vs, h => by simpa [evs] using h
  | x :: xs, vs, h => by
    simp only [evs] at h ⊢
    cases h1 : ev s x with
    | none => simp [h1] at h
    | some v =>
      cases h2 : evs s xs with
      | none => simp [h1, h2] at h
      | some us =>
        simp [h1, h2] at h
        simp [ev_sub hs h1, evs_sub hs h2, h]

theorem Y.weak [Dfs] {C' : World → Prop} {s' : List (Nat × Value)} {op : Op} {ty : Nat} {v : Value} (h : Y P n C s op ty v) (hs : Sub s s') (hC : ∀ w, C' w → C w) : Y P n C' s' op ty v :=
  fun a w f c => h a w (f.sub hs) (hC w c)

end
end Go.Lg
namespace Go.Lg
section
variable {P : Program} {md : Region.Mode}

def backB (md : Region.Mode) (head : List Oper) : Bool := (List.range head.length).all fun i => match head[i]? with
  | some o => o.after.all (fun e => !(Region.binds md e) || decide (e.on < i)) && (match o.guard with | some (j, _) => decide (j < i) | none => true)
  | none => true
def lastB (md : Region.Mode) (n : Nat) (ops : Array Oper) : Bool := (List.range n).all fun i => Region.waitsFor md ops n i

theorem backB_spec {head : List Oper} (h : backB md head = true) {i : Nat} {o : Oper} (ho : head[i]? = some o) : (∀ e ∈ o.after, Region.binds md e = true → e.on < i) ∧ ∀ j b, o.guard = some (j, b) → j < i := by
  have hi : i < head.length := (List.getElem?_eq_some_iff.1 ho).1
  have h1 := List.all_eq_true.1 h i (List.mem_range.2 hi)
  simp only [ho, Bool.and_eq_true] at h1
  refine ⟨fun e he hb => ?_, fun j b hg => ?_⟩
  · have h2 := Array.all_eq_true_iff_forall_mem.1 h1.1 e he
    simpa [hb] using h2
  · have h2 := h1.2
    rw [hg] at h2
    simpa using h2

def pad (l1 : Array Bool) (m : Nat) : Array Bool := l1 ++ Array.replicate m false
theorem pad_lt {l1 : Array Bool} {m i : Nat} (d : Bool) (h : i < l1.size) : (pad l1 m).getD i d = l1.getD i d := by
  simp [pad, Array.getElem?_append_left h, h]
theorem pad_ge {l1 : Array Bool} {m i : Nat} (h : l1.size ≤ i) : (pad l1 m).getD i false = false := by
  simp [pad, Array.getElem?_append_right h, Array.getElem?_replicate]
  split <;> simp
theorem pad_set {l1 : Array Bool} {m i : Nat} (h : i < l1.size) : (pad l1 m).setIfInBounds i true = pad (l1.setIfInBounds i true) m := by
  apply Array.ext'
  simp [pad, h]

variable {head tail : List Oper}
theorem ops_lt {i : Nat} (h : i < head.length) : (head ++ tail).toArray[i]? = head.toArray[i]? := by
  simp [List.getElem?_append_left h]
theorem ready_head (hb : backB md head = true) {l1 : Array Bool} {m i : Nat} (hl : l1.size = head.length) (hi : i < head.length) :
    i ∈ Region.ready md (head ++ tail).toArray (pad l1 m) ↔ i ∈ Region.ready md head.toArray l1 := by
  rw [mem_ready, mem_ready, pad_lt true (by omega), ops_lt hi]
  constructor
  · rintro ⟨h1, o, ho, h2⟩
    refine ⟨h1, o, ho, fun e he hbi => ?_⟩
    have := (backB_spec hb (by simpa using ho)).1 e he hbi
    rw [← pad_lt (m := m) false (by omega)]
    exact h2 e he hbi
  · rintro ⟨h1, o, ho, h2⟩
    refine ⟨h1, o, ho, fun e he hbi => ?_⟩
    have := (backB_spec hb (by simpa using ho)).1 e he hbi
    rw [pad_lt false (by omega)]
    exact h2 e he hbi
theorem tail_idle (hl : lastB md head.length (head ++ tail).toArray = true) (hc : Region.chainB md (head ++ tail).toArray head.length = true) {l1 : Array Bool} {m i t : Nat} (hs : l1.size = head.length) (hi : i < head.length) (hu : l1.getD i false = false) (ht : head.length ≤ t) :
    t ∉ Region.ready md (head ++ tail).toArray (pad l1 m) := fun hr => by
  obtain ⟨_, o, ho, hall⟩ := mem_ready.1 hr
  by_cases h : t = head.length
  · subst h
    obtain ⟨o', ho', e, he, hbi, hon⟩ := Region.waitsFor_spec (List.all_eq_true.1 hl i (List.mem_range.2 hi))
    have : o' = o := Option.some.inj (ho'.symm.trans ho)
    subst this
    have := hall e he hbi
    rw [hon, pad_lt false (by omega), hu] at this
    cases this
  · have htl : t < (head ++ tail).toArray.size := (Array.getElem?_eq_some_iff.1 ho).1
    have h1 := List.all_eq_true.1 hc t (List.mem_range.2 htl)
    simp only [Bool.or_eq_true, decide_eq_true_eq] at h1
    rcases h1 with h1 | h1
    · omega
    · obtain ⟨o', ho', e, he, hbi, hon⟩ := Region.waitsFor_spec h1
      have : o' = o := Option.some.inj (ho'.symm.trans ho)
      subst this
      have := hall e he hbi
      rw [hon, pad_ge (by omega)] at this
      cases this
theorem least_ready (hb : backB md head = true) {l1 : Array Bool} (hs : l1.size = head.length) : (∀ i, i < head.length → l1.getD i false = true) ∨ ∃ i, i < head.length ∧ l1.getD i false = false ∧ i ∈ Region.ready md head.toArray l1 := by
  have key : ∀ k, k ≤ head.length → (∀ i, i < k → l1.getD i false = true) ∨ ∃ i, i < head.length ∧ l1.getD i false = false ∧ i ∈ Region.ready md head.toArray l1 := by
    intro k
    induction k with
    | zero => intro _; exact .inl (fun i hi => by omega)
    | succ k ih =>
      intro hk
      rcases ih (by omega) with h | h
      · cases hv : l1.getD k false with
        | true => exact .inl (fun i hi => by
            by_cases hik : i = k
            · subst hik; exact hv
            · exact h i (by omega))
        | false =>
          refine .inr ⟨k, by omega, hv, mem_ready.2 ⟨getD_in (by omega) hv, head[k]'(by omega), by simp, fun e he hbi => ?_⟩⟩
          exact h _ ((backB_spec hb (List.getElem?_eq_getElem (by omega))).1 e he hbi)
      · exact .inr h
  exact key _ (Nat.le_refl _)
theorem all_pad {l1 : Array Bool} {n m : Nat} (hs : l1.size = n) (h : ∀ i, i < n → l1.getD i false = true) : pad l1 m = pad (Array.replicate n true) m := by
  have : l1 = Array.replicate n true := by
    apply Array.ext
    · simp [hs]
    · intro i h1 h2
      have := h i (by omega)
      simpa [h1] using this
  rw [this]

theorem any_seq {Q' : Exit → Act → World → Prop} {ops : Array Oper} (g : Nat) : ∀ (l : List Oper) (k : Nat) (listed : Array Bool) (a : Act) (w : World), (∀ j, l[j]? = ops[k + j]?) →
    Region.seqB md ops l.length k listed = true → wpList P ops Q' l a w → wpAny P md ops Q' (g + l.length) listed a w
  | [], _, _, _, _, _, hB, h => wpAny_done (by simpa [Region.seqB] using hB) h _
  | o :: l, k, listed, a, w, hl, hB, h => by
    have h0 : ops[k]? = some o := by simpa using (hl 0).symm
    simp only [List.length_cons, Region.seqB, Bool.and_eq_true, decide_eq_true_eq] at hB
    refine wpAny_all (fuel := g + l.length) hB.1 (by simp) (fun i hi => ?_)
    have hik : i = k := by simpa using hi
    subst hik
    have hw : wpOp P ops Q' i (wpList P ops Q' l) a w := by unfold wpOp; simp only [h0]; exact h
    exact wpOp_mono (fun a' w' h' => any_seq g l (i + 1) _ a' w' (fun j => by have := hl (j + 1); simpa [Nat.add_assoc, Nat.add_comm 1 j] using this) hB.2 h') hw

theorem qOp_more (hb : backB md head = true) {C : World → Prop} {i : Nat} {K : Act → Prop} {a : Act} (hi : i < head.length) (h : qOp P head.toArray C i K a) : qOp P (head ++ tail).toArray C i K a := by
  unfold qOp at h ⊢
  rw [ops_lt hi]
  have hg : head.toArray[i]? = some head[i] := by simp
  rw [hg] at h ⊢
  have hw : Region.wanted head[i] (yielded (head ++ tail).toArray a.tmps) = Region.wanted head[i] (yielded head.toArray a.tmps) := by
    unfold Region.wanted
    cases hq : head[i].guard with
    | none => rfl
    | some jb =>
      obtain ⟨j, b⟩ := jb
      have := (backB_spec hb (List.getElem?_eq_getElem hi)).2 j b hq
      simp only [yielded, ops_lt (show j < head.length by omega)]
  simp only [hw]
  exact h

theorem any_tail {C : World → Prop} {K : Act → Prop} {Q' : Exit → Act → World → Prop} {m : Nat} (hb : backB md head = true) (hl : lastB md head.length (head ++ tail).toArray = true) (hc : Region.chainB md (head ++ tail).toArray head.length = true)
    (hK : ∀ g a w, C w → K a → wpAny P md (head ++ tail).toArray Q' (g + m) (pad (Array.replicate head.length true) m) a w) :
    ∀ (f : Nat) (l1 : Array Bool) (a : Act) (w : World), l1.size = head.length → C w → wpAnyQ P md head.toArray C K f l1 a → wpAny P md (head ++ tail).toArray Q' (f + m) (pad l1 m) a w
  | f, l1, a, w, hs, hw, h => by
    rcases least_ready (md := md) hb hs with hall | ⟨i, hi, hu, hr⟩
    · have hr : Region.ready md head.toArray l1 = [] := by
        cases hq : Region.ready md head.toArray l1 with
        | nil => rfl
        | cons j r =>
          have hj : j ∈ Region.ready md head.toArray l1 := by rw [hq]; simp
          obtain ⟨h1, o, ho, _⟩ := mem_ready.1 hj
          have hjn : j < head.length := by simpa using (Array.getElem?_eq_some_iff.1 ho).1
          have := hall j hjn
          rw [getD_both h1] at this
          cases this
      have hKa : K a := by
        cases f with
        | zero => exact h.2
        | succ f => exact h.1 hr
      rw [all_pad hs hall]
      exact hK f a w hw hKa
    · cases f with
      | zero => have := h.1; rw [this] at hr; cases hr
      | succ f =>
        rw [show f + 1 + m = (f + m) + 1 by omega]
        refine ⟨fun h0 => ?_, fun j hj => ?_⟩
        · have := (ready_head (tail := tail) (m := m) hb hs hi).2 hr
          rw [h0] at this; cases this
        · have hjn : j < head.length := by
            rcases Nat.lt_or_ge j head.length with h1 | h1
            · exact h1
            · exact absurd hj (tail_idle hl hc hs hi hu h1)
          have hj' := (ready_head hb hs hjn).1 hj
          have h2 := qOp_more (tail := tail) hb hjn (h.2 j hj')
          rw [pad_set (by omega)]
          exact wpOp_of_qOp hw (fun a' w' hw' h3 => any_tail hb hl hc hK f _ a' w' (by simpa using hs) hw' h3) h2

theorem region_tail {C : World → Prop} {id : Nat} {Q : Exit → Act → World → Prop} {a : Act} {w : World} (hm : P.follows .mixedOrders = true) (hB : Region.lexB .any head.toArray = true) (hb : backB .any head = true) (hl : lastB .any head.length (head ++ tail).toArray = true)
    (hc : Region.chainB .any (head ++ tail).toArray head.length = true) (hs : Region.seqB .any (head ++ tail).toArray tail.length head.length (pad (Array.replicate head.length true) tail.length) = true) (hC : C { w with drawn := w.drawn + 1 })
    (h : wpQuiet P head.toArray C (fun a' => ∀ w', C w' → wpList P (head ++ tail).toArray Q tail a' w') head a) : (Code.region id (head ++ tail).toArray true).wp P Q a w := by
  simp only [Region.lexB, Bool.and_eq_true] at hB
  refine wp_region_any hm ?_
  have h1 := wpAnyQ_lex (C := C) (md := .any) hB.1 head 0 (Array.replicate head.length false) a (by simp) (by simpa using hB.2) h
  have h2 := any_tail (md := .any) (Q' := Q) (m := tail.length) hb hl hc (fun g a' w' hw' hk => any_seq g tail head.length _ a' w' (fun j => by simp [List.getElem?_append_right]) hs (hk w' hw')) head.length _ a _ (by simp) hC h1
  have e1 : pad (Array.replicate head.length false) tail.length = Array.replicate (head ++ tail).toArray.size false := by
    apply Array.ext'
    simp [pad]
  rw [e1] at h2
  simpa using h2
end
section
variable {P : Program} {n : Nat} {C : World → Prop} {s : List (Nat × Value)} {Q : Exit → Act → World → Prop}
theorem c_tail [Dfs] (k : Nat) {id : Nat} {l : List Oper} (hm : P.follows .mixedOrders = true) (hB : Region.lexB .any (l.take k).toArray = true) (hb : backB .any (l.take k) = true) (hl : lastB .any (l.take k).length (l.take k ++ l.drop k).toArray = true)
    (hc : Region.chainB .any (l.take k ++ l.drop k).toArray (l.take k).length = true) (hs : Region.seqB .any (l.take k ++ l.drop k).toArray (l.drop k).length (l.take k).length (pad (Array.replicate (l.take k).length true) (l.drop k).length) = true)
    (hC : ∀ w, C w → C { w with drawn := w.drawn + 1 })
    (h : QT P (l.take k).toArray n C (fun a' => ∀ w', C w' → Qk (wpList P l.toArray Q (l.drop k)) Q .normal a' w') s (l.take k)) : AT n C s ((Code.region id l.toArray true).wp P Q) := fun a w f c => by
  have e : l.take k ++ l.drop k = l := List.take_append_drop k l
  have := region_tail (id := id) (Q := Q) (a := a) (w := w) (head := l.take k) (tail := l.drop k) hm hB hb hl hc hs (hC w c) (by
    rw [e]
    exact h a f)
  rwa [e] at this
end
end Go.Lg
namespace Go.Lg
open Go.RowKit
section
variable {P : Program} {n : Nat} {C : World → Prop} {s : List (Nat × Value)} {x y : Operand} {t t' ty : Nat} {p q : Int}
theorem y_max [Dfs] {at' : Array Nat} (hx : ev s x = some (.int .i64 p)) (hy : ev s y = some (.int .i64 q)) : Y P n C s (.call ⟨.builtin .max, #[x, y], at'⟩) ty (.int .i64 (max p q)) := fun a w f c d pos af g => by
  simp [execOp, resolve, invoke, builtin, f.ev hx, f.ev hy, Builtin.max_, Builtin.max2]
  split <;> omega
end
theorem tmod_fix {x p : Int} (hp : 0 < p) : (if x.tmod p < 0 then x.tmod p + p else x.tmod p) = x % p := by
  have h := Int.tmod_eq_emod (a := x) (b := p)
  have h1 := Int.emod_nonneg x (show p ≠ 0 by omega)
  have h2 := Int.emod_lt_of_pos x hp
  rw [h]
  split <;> split <;> omega
theorem tmod_pos {x p : Int} (hx : 0 ≤ x) : x.tmod p = x % p := Int.tmod_eq_emod_of_nonneg hx
section
variable {P : Program} {n : Nat} {C : World → Prop} {s : List (Nat × Value)} {Q : Exit → Act → World → Prop} {ops : Array Oper} {rest : List Oper} {d ty t t' : Nat} {pos : String} {af : Array Edge} {v : Value} {x y : Operand} {p q : Int} {M : List Nat} {w0 : World} {H H' : List HE} {K : Act → Prop}
theorem sLb [Dfs] (i : Nat) (T : Tabs P) {b e : Nat} {cur : Array Value} {z : List Value} (ht : lk T.sz t = some z) (hx : ev s x = some (.pointer (some ⟨b, 0, none⟩))) (hi : H[i]? = some (.blk b cur e)) (hl : Nat.beq cur.size z.length = true) (hd : Nat.blt d n = true) (h : AT n (Hp M w0 H) ((d, .agg cur) :: s) (wpList P ops Q rest)) : AT n (Hp M w0 H) s (wpList P ops Q (⟨some d, .load t x, ty, pos, af, none⟩ :: rest)) := st_y (y_loadb i T ht hx hi hl) hd h
theorem qMv [Dfs] (hx : ev s x = some v) (hd : Nat.blt d n = true) (h : QT P ops n C K ((d, v) :: s) rest) : QT P ops n C K s (⟨some d, .move x, ty, pos, af, none⟩ :: rest) := q_y (y_move hx) hd h
theorem qAs [Dfs] (hx : ev s x = some v) (hd : Nat.blt d n = true) (h : QT P ops n C K ((d, v) :: s) rest) : QT P ops n C K s (⟨some d, .assign x, ty, pos, af, none⟩ :: rest) := q_y (y_assign hx) hd h
theorem qFd [Dfs] (T : Tabs P) {fs : List Nat} {fi off b o : Nat} (ht : lk T.st t = some fs) (hf : fs[fi]? = some off) (hx : ev s x = some (.pointer (some ⟨b, o, none⟩))) (hd : Nat.blt d n = true) (h : QT P ops n C K ((d, .pointer (some ⟨b, o + off, none⟩)) :: s) rest) : QT P ops n C K s (⟨some d, .fieldAddr t x fi, ty, pos, af, none⟩ :: rest) := q_y (y_field T ht hf hx) hd h
theorem qLd [Dfs] (i : Nat) (T : Tabs P) {b o e : Nat} {cur : Array Value} (ht : lk T.one t = some ()) (hx : ev s x = some (.pointer (some ⟨b, o, none⟩))) (hi : H[i]? = some (.blk b cur e)) (hv : cur[o]? = some v) (hd : Nat.blt d n = true) (h : QT P ops n (Hp M w0 H) K ((d, v) :: s) rest) : QT P ops n (Hp M w0 H) K s (⟨some d, .load t x, ty, pos, af, none⟩ :: rest) := q_y (y_load T ht hx (hc_blk i hi hv)) hd h
theorem qLb [Dfs] (i : Nat) (T : Tabs P) {b e : Nat} {cur : Array Value} {z : List Value} (ht : lk T.sz t = some z) (hx : ev s x = some (.pointer (some ⟨b, 0, none⟩))) (hi : H[i]? = some (.blk b cur e)) (hl : Nat.beq cur.size z.length = true) (hd : Nat.blt d n = true) (h : QT P ops n (Hp M w0 H) K ((d, .agg cur) :: s) rest) : QT P ops n (Hp M w0 H) K s (⟨some d, .load t x, ty, pos, af, none⟩ :: rest) := q_y (y_loadb i T ht hx hi hl) hd h
theorem qLn [Dfs] (T : Tabs P) {a0 : Option Addr} {m k : Nat} {e : Nat × Nat × Nat × List Value} (ht : lk T.sl t = some e) (hx : ev s x = some (.slice a0 m k)) (hd : Nat.blt d n = true) (h : QT P ops n C K ((d, .int .i64 m) :: s) rest) : QT P ops n C K s (⟨some d, .call ⟨.builtin .len, #[x], #[t]⟩, ty, pos, af, none⟩ :: rest) := q_y (y_len T ht hx) hd h
theorem qLs [Dfs] (hx : ev s x = some (.int .i64 p)) (hy : ev s y = some (.int .i64 q)) (hd : Nat.blt d n = true) (h : QT P ops n C K ((d, .bool (decide (p < q))) :: s) rest) : QT P ops n C K s (⟨some d, .binOp .lss t x y t', ty, pos, af, none⟩ :: rest) := q_y (y_lss hx hy) hd h
theorem qAd [Dfs] (hx : ev s x = some (.int .i64 p)) (hy : ev s y = some (.int .i64 q)) (hr : -9223372036854775808 ≤ p + q ∧ p + q ≤ 9223372036854775807) (hd : Nat.blt d n = true) (h : QT P ops n C K ((d, .int .i64 (p + q)) :: s) rest) : QT P ops n C K s (⟨some d, .binOp .add t x y t', ty, pos, af, none⟩ :: rest) := q_y (y_add hx hy hr) hd h
end
abbrev qA [Dfs] {P : Program} {ops : Array Oper} {n : Nat} {C : World → Prop} {K : Act → Prop} {s : List (Nat × Value)} {d : Option Tmp} {ty : TypeId} {ps : String} {es : Array Edge} {ws : Option (Nat × Bool)} {r : List Oper} (o : Op) : Prop := QT P ops n C K s (⟨d, o, ty, ps, es, ws⟩ :: r)
end Go.Lg
