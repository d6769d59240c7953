import Derived.Test.YtdnhmnnccfoliaaGreatDoorQstqmt
namespace Go.Lg
open Go.RowKit
section
variable {P : Program} {n : Nat} {M : List Nat} {w0 : World} {H : List HE} {s : List (Nat × Value)} {Q : Exit → Act → World → Prop} {ops : Array Oper} {rest : List Oper}
variable {d ty t t' : Nat} {pos : String} {af : Array Edge} {v : Value} {x y : Operand}
theorem y_neqk {C : World → Prop} {k : IntKind} {p q : Int} (hx : ev s x = some (.int k p)) (hy : ev s y = some (.int k q)) : Y P n C s (.binOp .neq t x y t') ty (.bool (decide (p ≠ q))) := fun a w f c d pos af g => by
  simp [execOp, f.ev hx, f.ev hy, eqGuard, binOp, Op.intCmp]
  by_cases h : p = q <;> simp [h]
theorem m_pushc (i : Nat) (T0 : Tabs P) {e g e' b c : Nat} {z us : List Value} {u : Value} (ht : lk T0.sl t = some (e, 1, b, z)) (hi : H[i]? = some (.own (.s e 1 (us.map T.c)) v)) (hx : ev s x = some v) (hy : ev s y = some (.slice (some ⟨g, 0, none⟩) 1 c)) (hd : Nat.blt d n = true)
    (hu : u.oneCell' = true) (hb : us.length ≤ 1099511627) (hb1 : Nat.ble 1 b = true) (hb2 : Nat.ble b 1024 = true)
    (h : ∀ a cc, AT n (Hp M w0 (.own (.s e 1 ((us ++ [u]).map T.c)) (.slice a (us.length + 1) cc) :: H.eraseIdx i)) ((d, .slice a (us.length + 1) cc) :: s) (wpList P ops Q rest)) :
    AT n (Hp M w0 (.blk g #[u] e' :: H)) s (wpList P ops Q (⟨some d, .call ⟨.builtin .append, #[x, y], #[t, t]⟩, ty, pos, af, none⟩ :: rest)) := by
  have hb1' := Nat.le_of_ble_eq_true hb1
  have hb2' := Nat.le_of_ble_eq_true hb2
  refine m_app (ts := us.map T.c) (tn := [T.c u]) (news := [u]) (m' := us.length + 1) (m := 1) (H' := H.eraseIdx i) T0 ht hx hy hd (by simp) (by simpa using hu) (by simp) ?_ om
    (fun w c => ?_) (fun w c => .inr ⟨_, rfl, fun j q hq => ?_⟩) ?_
  · simp only [List.length_map, List.length_singleton]
    have := Nat.mul_le_mul (show us.length + 1 ≤ 1099511628 by omega) hb2'
    omega
  · have := (c.drop.front hi).free [u]
    exact this.swap
  · match j, hq with
    | 0, hq =>
      have := hc_blk (M := M) (w0 := w0) 0 (o := 0) (v := u) (H := .blk g #[u] e' :: H) rfl rfl w c
      simp at hq
      subst hq
      simpa [Addr.add] using this
    | j + 1, hq => simp at hq
  · intro a cc
    have := h a cc
    rwa [List.map_append] at this
end
end Go.Lg
namespace Go.Proofs.YtdnhmnnccfoliaaGreatDoor
open Go.Lg Go.Proofs Go.RowKit
attribute [local irreducible] Code.wp wpList bodyPost Exit.then Exit.inBlock Hp Again Calls Y AT ResV QT Qn QI wpAny wpAnyQ
set_option maxRecDepth 20000
set_option maxHeartbeats 4000000

abbrev strT (l : List (List UInt8)) : T := .s 9 1 ((l.map sV).map T.c)
theorem byte_i64 (b : UInt8) : IntKind.i64.wrap (b.toNat : Int) = (b.toNat : Int) := by
  have := b.toNat_lt
  rw [IntKind.wrap_i64]; omega
end Go.Proofs.YtdnhmnnccfoliaaGreatDoor
