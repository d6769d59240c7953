import Derived.Test.YtdnhmnnccfoliaaGreatDoorDigqmt
import Derived.Test.YtdnhmnnccfoliaaGreatDoorDrwqmt
import Derived.Test.YtdnhmnnccfoliaaGreatDoorMxfqmt
import Derived.Test.YtdnhmnnccfoliaaGreatDoorShrqmt
import Derived.Test.YtdnhmnnccfoliaaGreatDoorZerqmt
namespace Go.Lg
open Go.RowKit
section
variable {P : Program} {n : Nat} {C : World → Prop} {s : List (Nat × Value)} {ty t : Nat} {x lo' hi' : Operand}
end
end Go.Lg
namespace Go.Proofs.YtdnhmnnccfoliaaGreatDoor
open Go.Lg Go.Proofs Go.RowKit
attribute [local irreducible] Code.wp wpList bodyPost Exit.then Exit.inBlock Hp Again Calls Y AT ResV QT Qn QI wpAny wpAnyQ
set_option maxRecDepth 20000
set_option maxHeartbeats 4000000

theorem dg_ne {x : Int} (h0 : 0 ≤ x) (h9 : x ≤ 9) : dg x ≠ 32 ∧ dg x ≠ 58 ∧ ((dg x).toNat : Int) - 48 = x := by
  obtain ⟨k, rfl⟩ : ∃ k : Nat, x = k := ⟨x.toNat, by omega⟩
  have hk : k < 10 := by omega
  match k, hk with
  | 0, _ => exact ⟨by decide, by decide, rfl⟩
  | 1, _ => exact ⟨by decide, by decide, rfl⟩
  | 2, _ => exact ⟨by decide, by decide, rfl⟩
  | 3, _ => exact ⟨by decide, by decide, rfl⟩
  | 4, _ => exact ⟨by decide, by decide, rfl⟩
  | 5, _ => exact ⟨by decide, by decide, rfl⟩
  | 6, _ => exact ⟨by decide, by decide, rfl⟩
  | 7, _ => exact ⟨by decide, by decide, rfl⟩
  | 8, _ => exact ⟨by decide, by decide, rfl⟩
  | 9, _ => exact ⟨by decide, by decide, rfl⟩
end Go.Proofs.YtdnhmnnccfoliaaGreatDoor
