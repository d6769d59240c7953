import Derived.Test.YtcplmeajmpkpkaaGreatProg
import Derived.Test.YtcplmeajmpkpkaaGreatLAqsp
namespace Go.Proofs.YtcplmeajmpkpkaaGreat
open Go.Lg Go.Proofs

def slT : List (Nat × (Nat × Nat × Nat × List Value)) := [
  (22, 5, 1, 1, [.int .u8 0]),
  (114, 24, 1, 24, [.slice none 0 0]),
  (96, 98, 2, 16, [.int .i64 0, .int .i64 0]),
  (36, 26, 2, 32, [.int .i64 0, .slice none 0 0]),
  (24, 43, 1, 24, [.slice none 0 0]),
  (43, 3, 1, 8, [.int .i64 0])]
theorem slT_ok : ∀ p ∈ slT, SlF Tryz.prog p.1 p.2 := by
  simp only [slT, List.forall_mem_cons]
  refine ⟨⟨by kernel_rfl, ⟨.int .u8 0, by kernel_rfl, rfl⟩, rfl, by decide⟩, ?_⟩
  refine ⟨⟨by kernel_rfl, ⟨.slice none 0 0, by kernel_rfl, rfl⟩, rfl, by decide⟩, ?_⟩
  refine ⟨⟨by kernel_rfl, ⟨.agg #[.int .i64 0, .int .i64 0], by kernel_rfl, rfl⟩, rfl, by decide⟩, ?_⟩
  refine ⟨⟨by kernel_rfl, ⟨.agg #[.int .i64 0, .slice none 0 0], by kernel_rfl, rfl⟩, rfl, by decide⟩, ?_⟩
  refine ⟨⟨by kernel_rfl, ⟨.slice none 0 0, by kernel_rfl, rfl⟩, rfl, by decide⟩, ?_⟩
  exact ⟨⟨by kernel_rfl, ⟨.int .i64 0, by kernel_rfl, rfl⟩, rfl, by decide⟩, by simp⟩

def stT : List (Nat × List Nat) :=
  (95, [0, 1, 2]) ::
  (26, [0, 1]) ::
  (47, [0, 1, 2]) ::
  []
theorem st1 {t : Nat} (h0 : ∀ a w, (Instr.fieldAt t (.pointer (some a)) 0).run Tryz.prog w = .ok (.pointer (some (a.add 0))) w) (h1 : ∀ a w, (Instr.fieldAt t (.pointer (some a)) 1).run Tryz.prog w = .ok (.pointer (some (a.add 1))) w) : StF Tryz.prog t [0, 1] := stF_cons (pre := [0]) (stF_cons (pre := []) stF_nil h0) h1
theorem st2 {t : Nat} (h0 : ∀ a w, (Instr.fieldAt t (.pointer (some a)) 0).run Tryz.prog w = .ok (.pointer (some (a.add 0))) w) (h1 : ∀ a w, (Instr.fieldAt t (.pointer (some a)) 1).run Tryz.prog w = .ok (.pointer (some (a.add 1))) w) (h2 : ∀ a w, (Instr.fieldAt t (.pointer (some a)) 2).run Tryz.prog w = .ok (.pointer (some (a.add 2))) w) : StF Tryz.prog t [0, 1, 2] := stF_cons (pre := [0, 1]) (st1 h0 h1) h2
theorem st3 {t : Nat} (h0 : ∀ a w, (Instr.fieldAt t (.pointer (some a)) 0).run Tryz.prog w = .ok (.pointer (some (a.add 0))) w) (h1 : ∀ a w, (Instr.fieldAt t (.pointer (some a)) 1).run Tryz.prog w = .ok (.pointer (some (a.add 1))) w) (h2 : ∀ a w, (Instr.fieldAt t (.pointer (some a)) 2).run Tryz.prog w = .ok (.pointer (some (a.add 4))) w) (h3 : ∀ a w, (Instr.fieldAt t (.pointer (some a)) 3).run Tryz.prog w = .ok (.pointer (some (a.add 5))) w) : StF Tryz.prog t [0, 1, 4, 5] := stF_cons (pre := [0, 1, 4]) (stF_cons (pre := [0, 1]) (st1 h0 h1) h2) h3
theorem stT_ok : ∀ p ∈ stT, StF Tryz.prog p.1 p.2 := by
  simp only [stT, List.forall_mem_cons]
  refine ⟨st2 (fun a w => by kernel_rfl) (fun a w => by kernel_rfl) (fun a w => by kernel_rfl), ?_⟩
  refine ⟨st1 (fun a w => by kernel_rfl) (fun a w => by kernel_rfl), ?_⟩
  refine ⟨st2 (fun a w => by kernel_rfl) (fun a w => by kernel_rfl) (fun a w => by kernel_rfl), ?_⟩
  exact fun p h => nomatch h

def oneT : List (Nat × Unit) := [
  (5, ()),
  (22, ()),
  (96, ()),
  (36, ()),
  (24, ()),
  (4, ()),
  (43, ()),
  (3, ())]
theorem oneT_ok : ∀ p ∈ oneT, OneF Tryz.prog p.1 := by
  simp only [oneT, List.forall_mem_cons]
  refine ⟨⟨fun w => by kernel_rfl, fun w => by kernel_rfl⟩, ?_⟩
  refine ⟨⟨fun w => by kernel_rfl, fun w => by kernel_rfl⟩, ?_⟩
  refine ⟨⟨fun w => by kernel_rfl, fun w => by kernel_rfl⟩, ?_⟩
  refine ⟨⟨fun w => by kernel_rfl, fun w => by kernel_rfl⟩, ?_⟩
  refine ⟨⟨fun w => by kernel_rfl, fun w => by kernel_rfl⟩, ?_⟩
  exact ⟨⟨fun w => by kernel_rfl, fun w => by kernel_rfl⟩, ⟨fun w => by kernel_rfl, fun w => by kernel_rfl⟩, ⟨fun w => by kernel_rfl, fun w => by kernel_rfl⟩, by simp⟩

def szT : List (Nat × List Value) :=
  (26, [.int .i64 0, .slice none 0 0]) ::
  (98, [.int .i64 0, .int .i64 0]) ::
  (47, [.int .i64 0, .int .i64 0, .slice none 0 0]) ::
  []
theorem szT_ok : ∀ p ∈ szT, SzF Tryz.prog p.1 p.2 := by
  simp only [szT, List.forall_mem_cons]
  refine ⟨⟨⟨.agg #[.int .i64 0, .slice none 0 0], fun w => by kernel_rfl, rfl⟩, fun w => by kernel_rfl, fun w => by kernel_rfl⟩, ?_⟩
  refine ⟨⟨⟨.agg #[.int .i64 0, .int .i64 0], fun w => by kernel_rfl, rfl⟩, fun w => by kernel_rfl, fun w => by kernel_rfl⟩, ?_⟩
  refine ⟨⟨⟨.agg #[.int .i64 0, .int .i64 0, .slice none 0 0], fun w => by kernel_rfl, rfl⟩, fun w => by kernel_rfl, fun w => by kernel_rfl⟩, ?_⟩
  exact fun p h => nomatch h

def tabs : Tabs Tryz.prog := mkTabs slT stT oneT szT slT_ok stT_ok oneT_ok szT_ok
end Go.Proofs.YtcplmeajmpkpkaaGreat
