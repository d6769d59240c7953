import Derived.Laws.Shifts
import Derived.Test.YtdnhmnnccfoliaaGreatDoorDatqpr
import Derived.Test.YtdnhmnnccfoliaaGreatDoorDigqpr
import Derived.Test.YtdnhmnnccfoliaaGreatDoorLEqpr
import Derived.Test.YtdnhmnnccfoliaaGreatDoorMxfqpr
import Derived.Test.YtdnhmnnccfoliaaGreatDoorQupqpr
import Derived.Test.YtdnhmnnccfoliaaGreatDoorShrqpr
import Derived.Test.YtdnhmnnccfoliaaGreatDoorStrqpr
namespace Go.Lg
open Go.RowKit
section
variable {P : Program} {n : Nat} {C : World → Prop} {s : List (Nat × Value)}
variable {ty t t' : Nat} {x y : Operand} {p q : Int} {v0 v2 v : Value} {x0 x2 : Operand}
end
section
variable {P : Program} {n : Nat} {M : List Nat} {w0 : World} {H : List HE} {s : List (Nat × Value)} {Q : Exit → Act → World → Prop} {ops : Array Oper} {rest : List Oper}
variable {d ty t t' : Nat} {pos : String} {af : Array Edge} {v : Value} {x y : Operand}
end
end Go.Lg
namespace Go.Proofs.YtdnhmnnccfoliaaGreatDoor
open Go.Lg Go.Proofs Go.RowKit
attribute [local irreducible] Code.wp wpList bodyPost Exit.then Exit.inBlock Hp Again Calls Y AT ResV QT Qn QI wpAny wpAnyQ
set_option maxRecDepth 20000
set_option maxHeartbeats 4000000

def byT (xs : List Int) : T := .s 5 1 (xs.map (fun x => T.c (.int .u8 x)))
def Byt (xs : List Int) : Prop := ∀ j, j < xs.length → 0 ≤ xs.getD j 0 ∧ xs.getD j 0 ≤ 255
def CodeF (w : World) (M : List Nat) (u : Value) : Prop := ∃ xs : List Int, RdOut w M (byT xs) u ∧ Byt xs ∧ xs.length ≤ 1048576
theorem CodeF.open {w : World} {M : List Nat} {u : Value} (h : CodeF w M u) : ∃ (n : Nat) (a : Option Addr) (cap : Nat) (xs : List Int), u = .slice a n cap ∧ SA a n ∧ n ≤ cap ∧ n ≤ 1048576 ∧ (∀ j, j < n → 0 ≤ xs.getD j 0 ∧ xs.getD j 0 ≤ 255) ∧ ∀ j, j < n → ∀ w', Agree M w w' → w'.cell? ⟨ab a, ao a + j, none⟩ = some (.int .u8 (xs.getD j 0)) := by
  obtain ⟨xs, h, hb, hl⟩ := h
  obtain ⟨a, m, cap, h1, h2, h3, _, h5, h6⟩ := RdOut.open (by decide) h
  have hm : xs.length = m := by simpa using h5
  subst hm
  refine ⟨xs.length, a, cap, xs, h1, h2, h3, hl, hb, fun j hj => ?_⟩
  obtain ⟨u, c, r⟩ := h6 j (.c (.int .u8 (xs.getD j 0))) (by simp [List.getD, hj])
  rw [r.c] at c
  exact c
end Go.Proofs.YtdnhmnnccfoliaaGreatDoor

namespace Go.Lg
open Go.RowKit
section
variable {P : Program} {n : Nat} {C : World → Prop} {s : List (Nat × Value)} {ty t : Nat} {x lo' hi' : Operand}
theorem y_sls {a : List UInt8} {i j : Nat} {p q : Int} (ht : P.underlying t = some .string) (hx : ev s x = some (sV a)) (hl : ev s lo' = some (.int .i64 p)) (hh : ev s hi' = some (.int .i64 q)) (hp : p = (i : Int)) (hq : q = (j : Int)) (h1 : i ≤ j) (h2 : j ≤ a.length) : Y P n C s (.slice t x (some lo') (some hi') none) ty (sV ((a.drop i).take (j - i))) := fun aa w f c d pos af g => by
  subst hp; subst hq
  simp only [sV] at hx
  have h := run_slice_string (P := P) w t ⟨a.toArray⟩ .i64 .i64 i j ht om om (by simp [ByteArray.size]; omega)
  simp only [Int.toNat_natCast, ByteArray.extract_mk] at h
  simp [execOp, f.ev hx, f.ev hl, f.ev hh, run_sliceAt_string, ht, h, sV]
end
end Go.Lg
namespace Go.Proofs.YtdnhmnnccfoliaaGreatDoor
open Go.Lg Go.Proofs Go.RowKit
attribute [local irreducible] Code.wp wpList bodyPost Exit.then Exit.inBlock Hp Again Calls Y AT ResV QT Qn QI wpAny wpAnyQ
set_option maxRecDepth 20000
set_option maxHeartbeats 4000000

theorem dg_ne {x : Int} (h0 : 0 ≤ x) (h9 : x ≤ 9) : dg x ≠ 32 ∧ dg x ≠ 58 ∧ ((dg x).toNat : Int) - 48 = x := by
  obtain ⟨k, rfl⟩ : ∃ k : Nat, x = k := ⟨x.toNat, by omega⟩
  have hk : k < 10 := by omega
  match k, hk with
  | 0, _ => exact ⟨by decide, by decide, rfl⟩
  | 1, _ => exact ⟨by decide, by decide, rfl⟩
  | 2, _ => exact ⟨by decide, by decide, rfl⟩
  | 3, _ => exact ⟨by decide, by decide, rfl⟩
  | 4, _ => exact ⟨by decide, by decide, rfl⟩
  | 5, _ => exact ⟨by decide, by decide, rfl⟩
  | 6, _ => exact ⟨by decide, by decide, rfl⟩
  | 7, _ => exact ⟨by decide, by decide, rfl⟩
  | 8, _ => exact ⟨by decide, by decide, rfl⟩
  | 9, _ => exact ⟨by decide, by decide, rfl⟩
def spR (d : UInt8) (s : List UInt8) : List (List UInt8) × List UInt8 := s.foldl (fun r x => if x = d then (r.1 ++ [r.2], []) else (r.1, r.2 ++ [x])) ([], [])
def spL (d : UInt8) (s : List UInt8) : List (List UInt8) := (spR d s).1 ++ [(spR d s).2]
theorem spR_next {d : UInt8} {s : List UInt8} {i : Nat} (h : i < s.length) : spR d (s.take (i + 1)) = if s.getD i 0 = d then ((spR d (s.take i)).1 ++ [(spR d (s.take i)).2], []) else ((spR d (s.take i)).1, (spR d (s.take i)).2 ++ [s.getD i 0]) := by
  rw [List.take_add_one, List.getElem?_eq_getElem h, spR, List.foldl_append]
  simp only [Option.toList_some, List.foldl_cons, List.foldl_nil, List.getD, List.getElem?_eq_getElem h, Option.getD_some]
  rfl
theorem spR_len {d : UInt8} {s : List UInt8} : ∀ i, i ≤ s.length → (spR d (s.take i)).1.length ≤ i ∧ (spR d (s.take i)).2.length ≤ i
  | 0, _ => by simp [spR]
  | i + 1, h => by
    have ih := spR_len (d := d) (s := s) i om
    rw [spR_next om]
    split
    · simp only [List.length_append, List.length_singleton, List.length_nil]; omega
    · simp only [List.length_append, List.length_singleton]; omega
end Go.Proofs.YtdnhmnnccfoliaaGreatDoor
