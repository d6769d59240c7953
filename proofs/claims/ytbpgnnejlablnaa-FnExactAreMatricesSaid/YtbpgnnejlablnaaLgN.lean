import Derived.Test.YtbpgnnejlablnaaLgM
import Derived.WalkSpells
namespace Go.Lg
open Go.RowKit
section
variable {P : Program} {n : Nat} {C : World → Prop} {s : List (Nat × Value)} {x y : Operand} {t t' ty : Nat} {p q : Bool}
theorem run_equalIn_bool (w : World) (d : Nat) (t : TypeId) (h : P.underlying t = some .bool) : (Op.equalIn (d + 1) t (.bool p) (.bool q)).run P w = .ok (p == q) w := by
  simp [Op.equalIn, underlying, h]
theorem run_equal_bool (w : World) (t : TypeId) (h : P.underlying t = some .bool) : (Op.equal t (.bool p) (.bool q)).run P w = .ok (p == q) w := run_equalIn_bool w 9999 t h
theorem y_neqb (ht : P.underlying t = some .bool) (hx : ev s x = some (.bool p)) (hy : ev s y = some (.bool q)) : Y P n C s (.binOp .neq t x y t') ty (.bool (p != q)) := fun a w f c d pos af g => by
  have : (binOp .neq t (.bool p) (.bool q)).run P w = .ok (.bool (p != q)) w := by
    simp only [binOp]
    simp [run_equal_bool w t ht]; cases p <;> cases q <;> rfl
  simp [execOp, f.ev hx, f.ev hy, eqGuard, this]
theorem y_eqlb (ht : P.underlying t = some .bool) (hx : ev s x = some (.bool p)) (hy : ev s y = some (.bool q)) : Y P n C s (.binOp .eql t x y t') ty (.bool (p == q)) := fun a w f c d pos af g => by
  have : (binOp .eql t (.bool p) (.bool q)).run P w = .ok (.bool (p == q)) w := by
    simp only [binOp]
    simp [run_equal_bool w t ht]
  simp [execOp, f.ev hx, f.ev hy, eqGuard, this]
theorem y_neqb_same (ht : P.underlying t = some .bool) (hx : ev s x = some (.bool p)) (hy : ev s y = some (.bool p)) : Y P n C s (.binOp .neq t x y t') ty (.bool false) := by
  have := y_neqb (n := n) (C := C) (t' := t') (ty := ty) ht hx hy
  simpa using this

theorem y_notd {p : Prop} [Decidable p] (hx : ev s x = some (.bool (decide p))) : Y P n C s (.unOp .not t x) ty (.bool (decide (¬ p))) := by
  have := y_not (P := P) (n := n) (C := C) (t := t) (ty := ty) hx
  rwa [← decide_not] at this
theorem c_ifnd {Q : Exit → Act → World → Prop} {p : Prop} [Decidable p] {y z : Code} (hx : ev s x = some (.bool (decide (¬ p)))) (ht : ¬ p → AT n C s (y.wp P Q)) (hf : p → AT n C s (z.wp P Q)) : AT n C s ((Code.cond x y z).wp P Q) :=
  c_if hx ht (fun h => hf (Decidable.not_not.1 h))
/-- an element's address, one cell an element, at an index that is a natural number -/
theorem y_ix1 (T : Tabs P) {e b m cap j : Nat} {z : List Value} {i : Int} {a0 : Option Addr} (ht : lk T.sl t = some (e, 1, b, z)) (hx : ev s x = some (.slice a0 m cap)) (hy : ev s y = some (.int .i64 i)) (hs : SA a0 m) (hi : i = (j : Int)) (h1 : j < m) :
    Y P n C s (.indexAddr t x y) ty (.pointer (some ⟨ab a0, ao a0 + j, none⟩)) := by
  have h := y_ixa (P := P) (n := n) (C := C) (s := s) (ty := ty) T ht hx hy hs (by omega) (by omega)
  subst hi
  simpa using h
/-- .. at an index that is an int -/
theorem y_ixi (T : Tabs P) {e b m cap : Nat} {z : List Value} {i : Int} {a0 : Option Addr} (ht : lk T.sl t = some (e, 1, b, z)) (hx : ev s x = some (.slice a0 m cap)) (hy : ev s y = some (.int .i64 i)) (hs : SA a0 m) (h0 : 0 ≤ i) (h1 : i < m) :
    Y P n C s (.indexAddr t x y) ty (.pointer (some ⟨ab a0, ao a0 + i.toNat, none⟩)) := by
  have h := y_ixa (P := P) (n := n) (C := C) (s := s) (ty := ty) T ht hx hy hs h0 h1
  simpa using h
/-- a slice is stored as an element of a slice of ours, at an index that is a natural number -/
theorem m_storeS1 {M : List Nat} {w0 : World} {H : List HE} {ops : Array Oper} {rest : List Oper} {Q : Exit → Act → World → Prop} {ty' : Nat} {pos : String} {af : Array Edge} (T0 : Tabs P) {e m c j : Nat} {ts : List T} {tn : T} {u : Value} {a0 : Option Addr} {H' : List HE} (ht : lk T0.one t = some ()) (hx : ev s x = some (.pointer (some ⟨ab a0, ao a0 + j, none⟩))) (hy : ev s y = some u) (hu : u.oneCell' = true)
    (hm : ts.length = m) (hj : j < m) (hp : ∀ w, Hp M w0 H w → Hp M w0 (.own (.s e 1 ts) (.slice a0 m c) :: .own tn u :: H') w)
    (h : AT n (Hp M w0 (.own (.s e 1 (ts.set j tn)) (.slice a0 m c) :: H')) s (wpList P ops Q rest)) :
    AT n (Hp M w0 H) s (wpList P ops Q (⟨none, .store t x y, ty', pos, af, none⟩ :: rest)) :=
  m_storeS T0 ht (by rw [Nat.mul_one]; exact hx) hy hu hm hj hp h
theorem put3 {c0 c1 c2 : Value} (l : List Value) (o : Nat) (h : o + 3 ≤ l.length) : l.take o ++ [c0, c1, c2] ++ l.drop (o + 3) = ((l.set o c0).set (o + 1) c1).set (o + 2) c2 := by
  apply List.ext_getElem?
  intro q
  by_cases h1 : q < o
  · grind
  · by_cases h2 : q = o
    · grind
    · by_cases h3 : q = o + 1
      · grind
      · by_cases h4 : q = o + 2
        · grind
        · obtain ⟨r, rfl⟩ : ∃ r, q = o + 3 + r := ⟨q - (o + 3), by omega⟩
          have e1 : (List.take o l ++ [c0, c1, c2]).length = o + 3 := by simp; omega
          rw [List.getElem?_append_right (by omega), List.getElem?_drop, e1, show o + 3 + (o + 3 + r - (o + 3)) = o + 3 + r by omega, List.getElem?_set_ne (by omega), List.getElem?_set_ne (by omega), List.getElem?_set_ne (by omega)]
/-- a struct of three cells is stored into a part of a variable of ours -/
theorem m_storep3 {M : List Nat} {w0 : World} {H : List HE} {ops : Array Oper} {rest : List Oper} {Q : Exit → Act → World → Prop} {ty' : Nat} {pos : String} {af : Array Edge} (i : Nat) (T0 : Tabs P) {b o e : Nat} {cur : Array Value} {c0 c1 c2 z0 z1 z2 : Value} (ht : lk T0.sz t = some [z0, z1, z2]) (hx : ev s x = some (.pointer (some ⟨b, o, none⟩))) (hy : ev s y = some (.agg #[c0, c1, c2])) (hu : [c0, c1, c2].all (·.oneCell') = true)
    (hi : H[i]? = some (.blk b cur e)) (ho : Nat.ble (o + 3) cur.size = true) (h : AT n (Hp M w0 (H.set i (.blk b (((cur.setIfInBounds o c0).setIfInBounds (o + 1) c1).setIfInBounds (o + 2) c2) e))) s (wpList P ops Q rest)) :
    AT n (Hp M w0 H) s (wpList P ops Q (⟨none, .store t x y, ty', pos, af, none⟩ :: rest)) := by
  have h3 : o + 3 ≤ cur.size := by simpa [Nat.ble_eq] using ho
  refine m_stores i T0 (cs := [c0, c1, c2]) ht rfl hx (by simpa using hy) (fun u hu' => List.all_eq_true.1 hu u hu') hi (by simpa using h3) ?_
  have : (List.take o cur.toList ++ [c0, c1, c2] ++ List.drop (o + [c0, c1, c2].length) cur.toList).toArray = ((cur.setIfInBounds o c0).setIfInBounds (o + 1) c1).setIfInBounds (o + 2) c2 := by
    apply Array.ext'
    simp only [Array.toList_setIfInBounds]
    exact put3 _ _ (by simpa using h3)
  rw [this]
  exact h
theorem Hp.trans {w0 w1 w2 : World} (h : Hp [] w0 [] w1) (h' : Hp [] w1 [] w2) : Hp [] w0 [] w2 := by
  have k := h.kept
  have k' := h'.kept
  refine ⟨[], rfl, by simp, by simp, ⟨k'.os.trans k.os, k'.tape.trans k.tape, k'.output.trans k.output, Nat.le_trans k.size k'.size, fun q hq hM => ?_⟩⟩
  have := k.size
  rw [k'.block q (by omega) hM, k.block q hq hM]
end
end Go.Lg
