import Derived.Test.YtbpgnnejlablnaaLgS
namespace Go.Lg
open Go.RowKit
section
variable {P : Program} {n : Nat} {C : World → Prop} {s : List (Nat × Value)} {x y lo' hi' : Operand} {t t' ty : Nat}
/-- a slice of a slice, one cell an element -/
theorem y_slc (T : Tabs P) {e b m cap lo hi g o : Nat} {z : List Value} {p q : Int} (ht : lk T.sl t = some (e, 1, b, z)) (hx : ev s x = some (.slice (some ⟨g, o, none⟩) m cap))
    (hl : ev s lo' = some (.int .i64 p)) (hh : ev s hi' = some (.int .i64 q)) (hp : p = (lo : Int)) (hq : q = (hi : Int)) (h1 : lo ≤ hi) (h2 : hi ≤ cap) (h3 : lo < cap) :
    Y P n C s (.slice t x (some lo') (some hi') none) ty (.slice (some ⟨g, o + lo, none⟩) (hi - lo) (cap - lo)) := fun a w f c d pos af gg => by
  obtain ⟨g1, _, _, i0, zv, g2, g3, _⟩ := T.sl_ok _ _ _ _ _ ht
  subst hp; subst hq
  have hne : ¬ cap = lo := by omega
  simp [execOp, f.ev hx, f.ev hl, f.ev hh, Instr.sliceAt, Instr.slice, Instr.sliceBounds, Instr.sliceBound, asIntOf, run_underlying g1, sizeOf, typeInfo, g2, g3, h1, h2, hne, Addr.add_lit]
end
end Go.Lg
