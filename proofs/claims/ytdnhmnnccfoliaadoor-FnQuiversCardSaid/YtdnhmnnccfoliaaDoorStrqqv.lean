import Derived.Laws.IdiomStrings
import Derived.Laws.Concat
import Derived.Laws.Strings
import Derived.Laws.Strings2
import Derived.Test.YtdnhmnnccfoliaaDoorLEqqv
namespace Go.Lg
open Go.RowKit
def sV (l : List UInt8) : Value := .string ⟨l.toArray⟩
def bV (b : UInt8) : Value := .int .u8 (b.toNat : Int)
theorem ba_eq {a b : List UInt8} : (a == b) = decide (a = b) := by
  by_cases h : a = b
  · subst h; simp
  · rw [decide_eq_false h]; simpa using h
section
variable {P : Program} {n : Nat} {C : World → Prop} {M : List Nat} {w0 : World} {H : List HE} {s : List (Nat × Value)} {Q : Exit → Act → World → Prop} {ops : Array Oper} {rest : List Oper}
variable {d ty t t' : Nat} {pos : String} {af : Array Edge} {v : Value} {x y : Operand}
theorem y_cat {a b : List UInt8} (hx : ev s x = some (sV a)) (hy : ev s y = some (sV b)) (ha : a.length ≤ 8388608) (hb : b.length ≤ 8388608) : Y P n C s (.binOp .add t x y t') ty (sV (a ++ b)) := fun aa w f c d pos af g => by
  have h := run_string_add_lists (P := P) w a b om om
  simp only [sV] at hx hy ⊢
  simp [execOp, f.ev hx, f.ev hy, eqGuard, binOp, h]
theorem y_neqs {a b : List UInt8} (hx : ev s x = some (sV a)) (hy : ev s y = some (sV b)) : Y P n C s (.binOp .neq t x y t') ty (.bool (decide (a ≠ b))) := fun aa w f c d pos af g => by
  simp only [sV] at hx hy
  simp [execOp, f.ev hx, f.ev hy, eqGuard, binOp, Op.stringOp, ba_eq]
theorem y_neqsf {a : List UInt8} (hx : ev s x = some (sV a)) (hy : ev s y = some (sV a)) : Y P n C s (.binOp .neq t x y t') ty (.bool false) := by
  have h := y_neqs (P := P) (n := n) (C := C) (t := t) (t' := t') (ty := ty) hx hy
  simpa using h
theorem y_eqls {a b : List UInt8} (hx : ev s x = some (sV a)) (hy : ev s y = some (sV b)) : Y P n C s (.binOp .eql t x y t') ty (.bool (decide (a = b))) := fun aa w f c d pos af g => by
  simp only [sV] at hx hy
  simp [execOp, f.ev hx, f.ev hy, eqGuard, binOp, Op.stringOp, ba_eq]
theorem y_lens {a : List UInt8} (ht : P.underlying t = some .string) (hx : ev s x = some (sV a)) : Y P n C s (.call ⟨.builtin .len, #[x], #[t]⟩) ty (.int .i64 a.length) := fun aa w f c d pos af g => by
  simp only [sV] at hx
  have h := run_len_string (P := P) w t ty ⟨a.toArray⟩ ht
  simp [execOp, resolve, invoke, builtin, f.ev hx, h, goInt, ByteArray.size]
theorem y_indexs {a : List UInt8} {i : Int} (ht : P.underlying t = some .string) (hx : ev s x = some (sV a)) (hy : ev s y = some (.int .i64 i)) (h0 : 0 ≤ i) (h1 : i < a.length) : Y P n C s (.index t x y) ty (bV (a.getD i.toNat 0)) := fun aa w f c d pos af g => by
  simp only [sV] at hx
  have hl : i.toNat < a.length := by omega
  have h := run_index_string (P := P) w t ⟨a.toArray⟩ .i64 i ht
  rw [dif_pos ⟨h0, by simp [ByteArray.size]; omega⟩] at h
  have e : (ByteArray.mk a.toArray)[i.toNat]'(by simp [ByteArray.size]; omega) = a.getD i.toNat 0 := by
    show a.toArray[i.toNat] = _
    simp [List.getD, hl]
  rw [e] at h
  simp [execOp, f.ev hx, f.ev hy, h, bV]
theorem y_convk {k k' : IntKind} {p q : Int} (hs : (P.underlying t).isSome = true) (hd : P.underlying t' = some (.int k')) (hk : P.intKind t' = k') (hx : ev s x = some (.int k p)) (hq : k'.wrap p = q) : Y P n C s (.convert t t' x) ty (.int k' q) := fun a w f c d pos af g => by
  have h := run_convert_int (P := P) w t t' k p hs (by rw [hk]; exact hd)
  rw [hk, hq] at h
  simp [execOp, f.ev hx, h]
theorem y_min {at' : Array Nat} {p q : Int} (hx : ev s x = some (.int .i64 p)) (hy : ev s y = some (.int .i64 q)) : Y P n C s (.call ⟨.builtin .min, #[x, y], at'⟩) ty (.int .i64 (min p q)) := fun a w f c d pos af g => by
  simp [execOp, resolve, invoke, builtin, f.ev hx, f.ev hy, Builtin.min_, Builtin.min2]
  split <;> omega
theorem y_convbs {e : Nat} {ad : Addr} {c : Nat} {l : List UInt8} (hs : P.underlying t = some (.slice e)) (he : P.underlying e = some (.int .u8)) (hd : P.underlying t' = some .string) (hx : ev s x = some (.slice (some ad) l.length c))
    (hc : ∀ w, C w → ∀ j u, (l.map bV)[j]? = some u → w.cell? (ad.add j) = some u) : Y P n C s (.convert t t' x) ty (sV l) := fun a w f cw d pos af g => by
  have h := run_convert_bytes_back (P := P) w t t' e ad c l hs he hd (fun j hj => hc w cw j _ (by rw [List.getElem?_map, List.getElem?_eq_getElem hj]; rfl))
  simp [execOp, f.ev hx, h, sV]
theorem y_convbn {e c : Nat} {a : Option Addr} (hs : P.underlying t = some (.slice e)) (he : P.underlying e = some (.int .u8)) (hd : P.underlying t' = some .string) (hx : ev s x = some (.slice a 0 c)) : Y P n C s (.convert t t' x) ty (sV []) := fun aa w f cw d pos af g => by
  have h : (convert t t' (.slice a 0 c)).run P w = .ok (sV []) w := by
    rw [run_convert_bytes_string w t t' e a 0 c hs he hd]
    cases a with
    | none => simp [Conv.bytesToString, sV]; rfl
    | some ad =>
      have hl := run_loadCells_list (P := P) w ad [] (by simp)
      rw [run_bytesToString w ad 0 c [] (by simpa using hl)]
      rfl
  simp [execOp, f.ev hx, h]
end
end Go.Lg
