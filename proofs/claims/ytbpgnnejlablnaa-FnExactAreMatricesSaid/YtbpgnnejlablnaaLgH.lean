import Derived.Test.YtbpgnnejlablnaaLgG
namespace Go.Lg
open Go.RowKit

/-- the block and the place of an address -/
def ab : Option Addr → Nat
  | some a => a.block
  | none => 0
def ao : Option Addr → Nat
  | some a => a.off
  | none => 0
/-- an address that is there, where there is something -/
def SA (a : Option Addr) (m : Nat) : Prop := m = 0 ∨ a = some ⟨ab a, ao a, none⟩
theorem SA.mk {b o m : Nat} : SA (some ⟨b, o, none⟩) m := .inr rfl
theorem SA.get {a : Option Addr} {m : Nat} (h : SA a m) (hm : 0 < m) : a = some ⟨ab a, ao a, none⟩ := by
  rcases h with h | h
  · omega
  · exact h
/-- a slice of m elements -/
def IsSl (v : Value) (m : Nat) : Prop := ∃ a c, v = .slice a m c ∧ SA a m

section
variable {P : Program} {n : Nat} {C : World → Prop} {s : List (Nat × Value)} {Q : Exit → Act → World → Prop} {ops : Array Oper} {rest : List Oper}
variable {d ty t t' : Nat} {pos : String} {af : Array Edge} {v : Value} {x y : Operand} {M : List Nat} {w0 w : World} {H : List HE}

theorem AT.fact {p : Prop} {R : Act → World → Prop} (hp : ∀ w, C w → p) (h : p → AT n C s R) : AT n C s R := fun a w f c => h (hp w c) a w f c

theorem RdL.sa {ts : List T} {a : Option Addr} {j m k : Nat} (h : RdL w a j ts) (hl : ts.length = m * k) (hk : 0 < k) : SA a m := by
  cases ts with
  | nil =>
    have h0 : m * k = 0 := by simpa using hl.symm
    rcases Nat.mul_eq_zero.1 h0 with h | h
    · exact .inl h
    · omega
  | cons t ts =>
    simp only [RdL] at h
    obtain ⟨b, o, u, rfl, _⟩ := h.1
    exact .inr rfl
theorem Rd.open {e k : Nat} {ts : List T} (hk : 0 < k) (h : Rd w (.s e k ts) v) : ∃ a m cap, v = .slice a m cap ∧ SA a m ∧ m ≤ cap ∧ cap ≤ maxLen ∧ ts.length = m * k ∧
    ∀ (j : Nat) (t : T), ts[j]? = some t → ∃ u, w.cell? ⟨ab a, ao a + j, none⟩ = some u ∧ Rd w t u := by
  simp only [Rd] at h
  obtain ⟨a, m, cap, h1, h2, h3, h4, h5⟩ := h
  refine ⟨a, m, cap, h1, h5.sa h4 hk, h2, h3, h4, fun j t ht => ?_⟩
  obtain ⟨b, o, u, rfl, g2, g3⟩ := h5.get j t ht
  simp only [Nat.zero_add] at g2
  exact ⟨u, g2, g3⟩
theorem it_get {xs : List Int} {j : Nat} (h : j < xs.length) : (it xs)[j]? = some (.c (.int .i64 (xs.getD j 0))) := by
  simp [it, h, List.getD]
/-- ints that read -/
theorem Rd.ints {e : Nat} {xs : List Int} (h : Rd w (ints e xs) v) : ∃ a cap, v = .slice a xs.length cap ∧ SA a xs.length ∧ xs.length ≤ cap ∧ cap ≤ maxLen ∧
    ∀ j, j < xs.length → w.cell? ⟨ab a, ao a + j, none⟩ = some (.int .i64 (xs.getD j 0)) := by
  obtain ⟨a, m, cap, h1, h2, h3, h4, h5, h6⟩ := Rd.open (by decide) h
  simp only [it_length, Nat.mul_one] at h5
  subst h5
  refine ⟨a, cap, h1, h2, h3, h4, fun j hj => ?_⟩
  obtain ⟨u, g1, g2⟩ := h6 j _ (it_get hj)
  simp only [Rd] at g2
  rw [g1, g2]

theorem y_ixa (T : Tabs P) {e k b m cap : Nat} {z : List Value} {i : Int} {a0 : Option Addr} (ht : lk T.sl t = some (e, k, b, z)) (hx : ev s x = some (.slice a0 m cap)) (hy : ev s y = some (.int .i64 i)) (hs : SA a0 m) (h0 : 0 ≤ i) (h1 : i < m) :
    Y P n C s (.indexAddr t x y) ty (.pointer (some ⟨ab a0, ao a0 + i.toNat * k, none⟩)) := by
  have := hs.get (by omega)
  rw [this] at hx
  have h := y_ix (P := P) (n := n) (C := C) (s := s) (ty := ty) T ht hx hy h0 h1
  exact h

/-- an int of a slice that reads from the beginning -/
theorem hc_rd {e : Nat} {xs : List Int} {a : Option Addr} {c j : Nat} (hr : Rd w0 (ints e xs) (.slice a xs.length c)) (hj : j < xs.length) : ∀ w, Hp [] w0 H w → w.cell? ⟨ab a, ao a + j, none⟩ = some (.int .i64 (xs.getD j 0)) := fun w cw => by
  obtain ⟨a', c', h1, _, _, _, h5⟩ := hr.ints
  cases h1
  exact cw.cell (h5 j hj)
/-- an int of a slice of ours -/
theorem hc_own (i : Nat) {e : Nat} {xs : List Int} {a : Option Addr} {m c j : Nat} (hi : H[i]? = some (.own (ints e xs) (.slice a m c))) (hj : j < xs.length) : ∀ w, Hp M w0 H w → w.cell? ⟨ab a, ao a + j, none⟩ = some (.int .i64 (xs.getD j 0)) := fun w cw => by
  obtain ⟨a', c', h1, _, _, _, h5⟩ := (cw.own_rd hi).ints
  cases h1
  exact h5 j hj
theorem own_sl (i : Nat) {e : Nat} {xs : List Int} {v : Value} (hi : H[i]? = some (.own (ints e xs) v)) : ∀ w, Hp M w0 H w → IsSl v xs.length := fun w cw => by
  obtain ⟨a', c', h1, h2, _⟩ := (cw.own_rd hi).ints
  exact ⟨a', c', h1, h2⟩

/-- a store into ints of ours -/
theorem m_storeo (i : Nat) (T : Tabs P) {e m c j : Nat} {xs : List Int} {a0 : Option Addr} {q : Int} (ht : lk T.one t = some ()) (hx : ev s x = some (.pointer (some ⟨ab a0, ao a0 + j, none⟩))) (hy : ev s y = some (.int .i64 q))
    (hi : H[i]? = some (.own (ints e xs) (.slice a0 m c))) (hj : j < xs.length) (h : AT n (Hp M w0 (H.set i (.own (ints e (xs.set j q)) (.slice a0 m c)))) s (wpList P ops Q rest)) :
    AT n (Hp M w0 H) s (wpList P ops Q (⟨none, .store t x y, ty, pos, af, none⟩ :: rest)) := st_skip (fun a w f cw => by
  have hcell := hc_own (M := M) (w0 := w0) i hi hj w cw
  have hfro : w.frozen? ⟨ab a0, ao a0 + j, none⟩ = false := by
    obtain ⟨g, hg, _⟩ := cw.sat hi
    simp only [HE.sat, ints, Own] at hg
    rcases hg with ⟨h1, _⟩ | ⟨g', n', cap', cur, fp', h1, h2, _⟩
    · simp [it] at h1; subst h1; simp at hj
    · cases h1; simp [World.frozen?, ab, h2]
  refine ⟨w.setCell ⟨ab a0, ao a0 + j, none⟩ (.int .i64 q), cw.turn hi (fun g hg => ?_) rfl rfl rfl (by simp [World.setCell]), ?_⟩
  · simp only [HE.sat, ints, Own] at hg ⊢
    rcases hg with ⟨h1, _⟩ | ⟨g', n', cap', cur, fp', h1, h2, h3, h4, h5, h6, h7, rfl⟩
    · simp [it] at h1; subst h1; simp at hj
    · cases h1
      obtain ⟨h8, rfl⟩ := OwnL.ints_inv h7
      refine ⟨.inr ⟨g', m, c, cur.setIfInBounds j (.int .i64 q), [], rfl, ?_, ?_, h4, h5, by simpa using h6, ?_, rfl⟩, fun k _ hk => Below.heap_setCell w _ _ k (by simp [ab]; simpa using hk)⟩
      · simp [World.setCell, Array.getElem?_modify, h2, ab, ao]
      · simpa [it] using h3
      · have hh : List.take (m * 1) (cur.setIfInBounds j (Value.int IntKind.i64 q)).toList = ic (xs.set j q) := by
          rw [Array.toList_setIfInBounds, List.take_set, h8]
          simp [ic, List.map_set]
        rw [hh]
        exact OwnL.ints _
  · simp [execOp, f.ev hx, f.ev hy, (T.one_ok _ ht).2 _ _ w (show (Value.int .i64 q).oneCell' = true from rfl), stored, hcell, hfro]) h

theorem madeCells_one (z : Value) (m : Nat) : madeCells #[z] m = Array.replicate m z := by
  apply Array.ext'
  simp only [madeCells, Array.toList_map, Array.toList_replicate]
  apply List.ext_getElem
  · simp
  · intro i h1 h2
    simp [Nat.mod_one]
/-- make([]int, m) -/
theorem m_makei (T : Tabs P) {e : Nat} {l : Int} (ht : lk T.sl t = some (e, 1, 8, [.int .i64 0])) (hx : ev s x = some (.int .i64 l)) (hy : ev s y = some (.int .i64 l)) (h0 : 0 ≤ l) (hc : l ≤ 1099511627776) (hd : Nat.blt d n = true)
    (h : ∀ b, w0.heap.size ≤ b → AT n (Hp M w0 (.own (ints e (List.replicate l.toNat 0)) (.slice (some ⟨b, 0, none⟩) l.toNat l.toNat) :: H)) ((d, .slice (some ⟨b, 0, none⟩) l.toNat l.toNat) :: s) (wpList P ops Q rest)) :
    AT n (Hp M w0 H) s (wpList P ops Q (⟨some d, .makeSlice t x y, ty, pos, af, none⟩ :: rest)) :=
  m_make T ht hx hy h0 (Int.le_refl _) (by omega) (by omega) hd (fun b hb => AT.cls (fun w c => by
    refine c.say (H1 := [.own (ints e (List.replicate l.toNat 0)) (.slice (some ⟨b, 0, none⟩) l.toNat l.toNat)]) (fun f hf => ?_)
    obtain ⟨h1, rfl⟩ := hf
    refine ⟨[b], List.Perm.refl _, [b], [], rfl, ?_, rfl⟩
    simp only [HE.sat, ints, Own]
    refine .inr ⟨b, l.toNat, l.toNat, _, [], rfl, h1, by simp, Nat.le_refl _, by unfold maxLen; omega, by simp [zeros, size_madeCells], ?_, rfl⟩
    have : List.take (l.toNat * 1) (zeros [Value.int .i64 0] l.toNat).toList = ic (List.replicate l.toNat 0) := by
      simp [zeros, madeCells_one, ic]
    rw [this]
    exact OwnL.ints _) (h b hb))

/-- what a call hands back, by the piece that holds it -/
def Gives (t : T) (m : Nat) (r : Value) (H : List HE) : Prop := ∃ a c, r = .slice a m c ∧ SA a m ∧ H = [.own t (.slice a m c)]
end
end Go.Lg
