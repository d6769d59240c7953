/-
  No cell of these rows narrows 'for every input' (looked for: loops, veiled, ifaces, maps, wideKeys, modest, calm, conditions, laid).
  DERIVED. THE GIVEN ROWS OF THIS SEAT. 16 by the template 'for every input the law returns true; each argument reads behind the call as it read before'; 0 by the template 'total and deterministic' (their statements: YtooffimgfnacoaaTotals.lean).
  GIVEN WITH THE SEED: the statements are not yours to turn. If you find one false, say at which input.
  Laid BY PROGRAM, IN A SANDBOX (cutbox-rows.mjs): the forced cells as the released guide's own fill.sh prints them over the translation 8b43a86479099615… (all of the seat's roots in one cut). By AI agents, Wed Nov 11 2026. No macro, syntax, notation, axiom, sorry.
-/
import Derived.Test.YtooffimgfnacoaaChecked
import GoSem.Claim
import GoSem.ClaimJoined
import GoSem.ClaimMapViews
import Derived.JoinedTies
import Derived.KernelRfl
namespace Go.Proofs.Ytooffimgfnacoaa
/- THE CELL 'sum', in the pinned program and in every row, IS THE sha256 OF THE DUMP (.gsa) THAT YtooffimgfnacoaaProg.lean LOADS. Nothing in Lean hashes anything: it is a label: what it is worth is what the hold of that sum in a sandbox is worth. -/
noncomputable def Try.pinned : Pinned := { name := "ytooffimgfnacoaa", sum := "8b43a8647909961589d995986bb91c6b03cd45cf7856d9df035855e4fd32ea71", checked := Try.checked }
namespace Rows
def none {H : Type} : Left H := { results := [], args := [] }

/-- 'laws.FnExactSpanOf': WHATEVER THE INPUT: true; the input reads as it did. -/
def fnExactSpanOfSpec : ChangeSpec := { name := "fnExactSpanOf", fn := fun _ => fun
  | [d1, d2, d3] => { results := [.lit (.bool true)], args := [d1, d2, d3] }
  | _ => none }
def fnExactSpanOfRow : OpenClaim := { program := "ytooffimgfnacoaa", sum := "8b43a8647909961589d995986bb91c6b03cd45cf7856d9df035855e4fd32ea71", func := "loop.example/g03404/laws.FnExactSpanOf", spec := "fnExactSpanOf", unfollowed := true, recurses := true, apart := false }
def FnExactSpanOfSaid : Prop := fnExactSpanOfRow.holds Try.pinned (OpenSpec.ofChange fnExactSpanOfSpec)

/-- ITS FALSE NEIGHBOUR: 'it returns false'. Refute it at one input. -/
def fnExactSpanOfWrong : ChangeSpec := { name := "fnExactSpanOf", fn := fun _ => fun
  | [d1, d2, d3] => { results := [.lit (.bool false)], args := [d1, d2, d3] }
  | _ => none }
def FnExactSpanOfWrongFalsely : Prop := fnExactSpanOfRow.holds Try.pinned (OpenSpec.ofChange fnExactSpanOfWrong)

/-- 'laws.FnExactIsSpace': WHATEVER THE INPUT: true; the input reads as it did. -/
def fnExactIsSpaceSpec : ChangeSpec := { name := "fnExactIsSpace", fn := fun _ => fun
  | [d1, d2] => { results := [.lit (.bool true)], args := [d1, d2] }
  | _ => none }
def fnExactIsSpaceRow : OpenClaim := { program := "ytooffimgfnacoaa", sum := "8b43a8647909961589d995986bb91c6b03cd45cf7856d9df035855e4fd32ea71", func := "loop.example/g03404/laws.FnExactIsSpace", spec := "fnExactIsSpace", unfollowed := true, recurses := true, apart := false }
def FnExactIsSpaceSaid : Prop := fnExactIsSpaceRow.holds Try.pinned (OpenSpec.ofChange fnExactIsSpaceSpec)

/-- ITS FALSE NEIGHBOUR: 'it returns false'. Refute it at one input. -/
def fnExactIsSpaceWrong : ChangeSpec := { name := "fnExactIsSpace", fn := fun _ => fun
  | [d1, d2] => { results := [.lit (.bool false)], args := [d1, d2] }
  | _ => none }
def FnExactIsSpaceWrongFalsely : Prop := fnExactIsSpaceRow.holds Try.pinned (OpenSpec.ofChange fnExactIsSpaceWrong)

/-- 'laws.FnExactZeroMorphism': WHATEVER THE INPUT: true; the input reads as it did. -/
def fnExactZeroMorphismSpec : ChangeSpec := { name := "fnExactZeroMorphism", fn := fun _ => fun
  | [d1, d2] => { results := [.lit (.bool true)], args := [d1, d2] }
  | _ => none }
def fnExactZeroMorphismRow : OpenClaim := { program := "ytooffimgfnacoaa", sum := "8b43a8647909961589d995986bb91c6b03cd45cf7856d9df035855e4fd32ea71", func := "loop.example/g03404/laws.FnExactZeroMorphism", spec := "fnExactZeroMorphism", unfollowed := true, recurses := true, apart := false }
def FnExactZeroMorphismSaid : Prop := fnExactZeroMorphismRow.holds Try.pinned (OpenSpec.ofChange fnExactZeroMorphismSpec)

/-- ITS FALSE NEIGHBOUR: 'it returns false'. Refute it at one input. -/
def fnExactZeroMorphismWrong : ChangeSpec := { name := "fnExactZeroMorphism", fn := fun _ => fun
  | [d1, d2] => { results := [.lit (.bool false)], args := [d1, d2] }
  | _ => none }
def FnExactZeroMorphismWrongFalsely : Prop := fnExactZeroMorphismRow.holds Try.pinned (OpenSpec.ofChange fnExactZeroMorphismWrong)

/-- 'laws.FnExactZeroSub': WHATEVER THE INPUT: true; the input reads as it did. -/
def fnExactZeroSubSpec : ChangeSpec := { name := "fnExactZeroSub", fn := fun _ => fun
  | [d] => { results := [.lit (.bool true)], args := [d] }
  | _ => none }
def fnExactZeroSubRow : OpenClaim := { program := "ytooffimgfnacoaa", sum := "8b43a8647909961589d995986bb91c6b03cd45cf7856d9df035855e4fd32ea71", func := "loop.example/g03404/laws.FnExactZeroSub", spec := "fnExactZeroSub", unfollowed := true, recurses := true, apart := false }
def FnExactZeroSubSaid : Prop := fnExactZeroSubRow.holds Try.pinned (OpenSpec.ofChange fnExactZeroSubSpec)

/-- ITS FALSE NEIGHBOUR: 'it returns false'. Refute it at one input. -/
def fnExactZeroSubWrong : ChangeSpec := { name := "fnExactZeroSub", fn := fun _ => fun
  | [d] => { results := [.lit (.bool false)], args := [d] }
  | _ => none }
def FnExactZeroSubWrongFalsely : Prop := fnExactZeroSubRow.holds Try.pinned (OpenSpec.ofChange fnExactZeroSubWrong)

/-- 'laws.FnExactInSpace': WHATEVER THE INPUT: true; the input reads as it did. -/
def fnExactInSpaceSpec : ChangeSpec := { name := "fnExactInSpace", fn := fun _ => fun
  | [d1, d2, d3] => { results := [.lit (.bool true)], args := [d1, d2, d3] }
  | _ => none }
def fnExactInSpaceRow : OpenClaim := { program := "ytooffimgfnacoaa", sum := "8b43a8647909961589d995986bb91c6b03cd45cf7856d9df035855e4fd32ea71", func := "loop.example/g03404/laws.FnExactInSpace", spec := "fnExactInSpace", unfollowed := true, recurses := true, apart := false }
def FnExactInSpaceSaid : Prop := fnExactInSpaceRow.holds Try.pinned (OpenSpec.ofChange fnExactInSpaceSpec)

/-- ITS FALSE NEIGHBOUR: 'it returns false'. Refute it at one input. -/
def fnExactInSpaceWrong : ChangeSpec := { name := "fnExactInSpace", fn := fun _ => fun
  | [d1, d2, d3] => { results := [.lit (.bool false)], args := [d1, d2, d3] }
  | _ => none }
def FnExactInSpaceWrongFalsely : Prop := fnExactInSpaceRow.holds Try.pinned (OpenSpec.ofChange fnExactInSpaceWrong)

/-- 'laws.FnExactIsWithin': WHATEVER THE INPUT: true; the input reads as it did. -/
def fnExactIsWithinSpec : ChangeSpec := { name := "fnExactIsWithin", fn := fun _ => fun
  | [d1, d2, d3] => { results := [.lit (.bool true)], args := [d1, d2, d3] }
  | _ => none }
def fnExactIsWithinRow : OpenClaim := { program := "ytooffimgfnacoaa", sum := "8b43a8647909961589d995986bb91c6b03cd45cf7856d9df035855e4fd32ea71", func := "loop.example/g03404/laws.FnExactIsWithin", spec := "fnExactIsWithin", unfollowed := true, recurses := true, apart := false }
def FnExactIsWithinSaid : Prop := fnExactIsWithinRow.holds Try.pinned (OpenSpec.ofChange fnExactIsWithinSpec)

/-- ITS FALSE NEIGHBOUR: 'it returns false'. Refute it at one input. -/
def fnExactIsWithinWrong : ChangeSpec := { name := "fnExactIsWithin", fn := fun _ => fun
  | [d1, d2, d3] => { results := [.lit (.bool false)], args := [d1, d2, d3] }
  | _ => none }
def FnExactIsWithinWrongFalsely : Prop := fnExactIsWithinRow.holds Try.pinned (OpenSpec.ofChange fnExactIsWithinWrong)

/-- 'laws.FnExactIsMorphism': WHATEVER THE INPUT: true; the input reads as it did. -/
def fnExactIsMorphismSpec : ChangeSpec := { name := "fnExactIsMorphism", fn := fun _ => fun
  | [d1, d2, d3] => { results := [.lit (.bool true)], args := [d1, d2, d3] }
  | _ => none }
def fnExactIsMorphismRow : OpenClaim := { program := "ytooffimgfnacoaa", sum := "8b43a8647909961589d995986bb91c6b03cd45cf7856d9df035855e4fd32ea71", func := "loop.example/g03404/laws.FnExactIsMorphism", spec := "fnExactIsMorphism", unfollowed := true, recurses := true, apart := false }
def FnExactIsMorphismSaid : Prop := fnExactIsMorphismRow.holds Try.pinned (OpenSpec.ofChange fnExactIsMorphismSpec)

/-- ITS FALSE NEIGHBOUR: 'it returns false'. Refute it at one input. -/
def fnExactIsMorphismWrong : ChangeSpec := { name := "fnExactIsMorphism", fn := fun _ => fun
  | [d1, d2, d3] => { results := [.lit (.bool false)], args := [d1, d2, d3] }
  | _ => none }
def FnExactIsMorphismWrongFalsely : Prop := fnExactIsMorphismRow.holds Try.pinned (OpenSpec.ofChange fnExactIsMorphismWrong)

/-- 'laws.FnExactDualRep': WHATEVER THE INPUT: true; the input reads as it did. -/
def fnExactDualRepSpec : ChangeSpec := { name := "fnExactDualRep", fn := fun _ => fun
  | [d] => { results := [.lit (.bool true)], args := [d] }
  | _ => none }
def fnExactDualRepRow : OpenClaim := { program := "ytooffimgfnacoaa", sum := "8b43a8647909961589d995986bb91c6b03cd45cf7856d9df035855e4fd32ea71", func := "loop.example/g03404/laws.FnExactDualRep", spec := "fnExactDualRep", unfollowed := true, recurses := true, apart := false }
def FnExactDualRepSaid : Prop := fnExactDualRepRow.holds Try.pinned (OpenSpec.ofChange fnExactDualRepSpec)

/-- ITS FALSE NEIGHBOUR: 'it returns false'. Refute it at one input. -/
def fnExactDualRepWrong : ChangeSpec := { name := "fnExactDualRep", fn := fun _ => fun
  | [d] => { results := [.lit (.bool false)], args := [d] }
  | _ => none }
def FnExactDualRepWrongFalsely : Prop := fnExactDualRepRow.holds Try.pinned (OpenSpec.ofChange fnExactDualRepWrong)

/-- 'laws.FnExactAddSpaces': WHATEVER THE INPUT: true; the input reads as it did. -/
def fnExactAddSpacesSpec : ChangeSpec := { name := "fnExactAddSpaces", fn := fun _ => fun
  | [d1, d2, d3] => { results := [.lit (.bool true)], args := [d1, d2, d3] }
  | _ => none }
def fnExactAddSpacesRow : OpenClaim := { program := "ytooffimgfnacoaa", sum := "8b43a8647909961589d995986bb91c6b03cd45cf7856d9df035855e4fd32ea71", func := "loop.example/g03404/laws.FnExactAddSpaces", spec := "fnExactAddSpaces", unfollowed := true, recurses := true, apart := false }
def FnExactAddSpacesSaid : Prop := fnExactAddSpacesRow.holds Try.pinned (OpenSpec.ofChange fnExactAddSpacesSpec)

/-- ITS FALSE NEIGHBOUR: 'it returns false'. Refute it at one input. -/
def fnExactAddSpacesWrong : ChangeSpec := { name := "fnExactAddSpaces", fn := fun _ => fun
  | [d1, d2, d3] => { results := [.lit (.bool false)], args := [d1, d2, d3] }
  | _ => none }
def FnExactAddSpacesWrongFalsely : Prop := fnExactAddSpacesRow.holds Try.pinned (OpenSpec.ofChange fnExactAddSpacesWrong)

/-- 'laws.FnExactMapAlong': WHATEVER THE INPUT: true; the input reads as it did. -/
def fnExactMapAlongSpec : ChangeSpec := { name := "fnExactMapAlong", fn := fun _ => fun
  | [d1, d2] => { results := [.lit (.bool true)], args := [d1, d2] }
  | _ => none }
def fnExactMapAlongRow : OpenClaim := { program := "ytooffimgfnacoaa", sum := "8b43a8647909961589d995986bb91c6b03cd45cf7856d9df035855e4fd32ea71", func := "loop.example/g03404/laws.FnExactMapAlong", spec := "fnExactMapAlong", unfollowed := true, recurses := true, apart := false }
def FnExactMapAlongSaid : Prop := fnExactMapAlongRow.holds Try.pinned (OpenSpec.ofChange fnExactMapAlongSpec)

/-- ITS FALSE NEIGHBOUR: 'it returns false'. Refute it at one input. -/
def fnExactMapAlongWrong : ChangeSpec := { name := "fnExactMapAlong", fn := fun _ => fun
  | [d1, d2] => { results := [.lit (.bool false)], args := [d1, d2] }
  | _ => none }
def FnExactMapAlongWrongFalsely : Prop := fnExactMapAlongRow.holds Try.pinned (OpenSpec.ofChange fnExactMapAlongWrong)

/-- 'laws.FnExactRanksOf': WHATEVER THE INPUT: true; the input reads as it did. -/
def fnExactRanksOfSpec : ChangeSpec := { name := "fnExactRanksOf", fn := fun _ => fun
  | [d] => { results := [.lit (.bool true)], args := [d] }
  | _ => none }
def fnExactRanksOfRow : OpenClaim := { program := "ytooffimgfnacoaa", sum := "8b43a8647909961589d995986bb91c6b03cd45cf7856d9df035855e4fd32ea71", func := "loop.example/g03404/laws.FnExactRanksOf", spec := "fnExactRanksOf", unfollowed := true, recurses := true, apart := false }
def FnExactRanksOfSaid : Prop := fnExactRanksOfRow.holds Try.pinned (OpenSpec.ofChange fnExactRanksOfSpec)

/-- ITS FALSE NEIGHBOUR: 'it returns false'. Refute it at one input. -/
def fnExactRanksOfWrong : ChangeSpec := { name := "fnExactRanksOf", fn := fun _ => fun
  | [d] => { results := [.lit (.bool false)], args := [d] }
  | _ => none }
def FnExactRanksOfWrongFalsely : Prop := fnExactRanksOfRow.holds Try.pinned (OpenSpec.ofChange fnExactRanksOfWrong)

/-- 'laws.FnExactRestrictRep': WHATEVER THE INPUT: true; the input reads as it did. -/
def fnExactRestrictRepSpec : ChangeSpec := { name := "fnExactRestrictRep", fn := fun _ => fun
  | [d1, d2] => { results := [.lit (.bool true)], args := [d1, d2] }
  | _ => none }
def fnExactRestrictRepRow : OpenClaim := { program := "ytooffimgfnacoaa", sum := "8b43a8647909961589d995986bb91c6b03cd45cf7856d9df035855e4fd32ea71", func := "loop.example/g03404/laws.FnExactRestrictRep", spec := "fnExactRestrictRep", unfollowed := true, recurses := true, apart := false }
def FnExactRestrictRepSaid : Prop := fnExactRestrictRepRow.holds Try.pinned (OpenSpec.ofChange fnExactRestrictRepSpec)

/-- ITS FALSE NEIGHBOUR: 'it returns false'. Refute it at one input. -/
def fnExactRestrictRepWrong : ChangeSpec := { name := "fnExactRestrictRep", fn := fun _ => fun
  | [d1, d2] => { results := [.lit (.bool false)], args := [d1, d2] }
  | _ => none }
def FnExactRestrictRepWrongFalsely : Prop := fnExactRestrictRepRow.holds Try.pinned (OpenSpec.ofChange fnExactRestrictRepWrong)

/-- 'laws.FnExactAreChanges': WHATEVER THE INPUT: true; the input reads as it did. -/
def fnExactAreChangesSpec : ChangeSpec := { name := "fnExactAreChanges", fn := fun _ => fun
  | [d1, d2] => { results := [.lit (.bool true)], args := [d1, d2] }
  | _ => none }
def fnExactAreChangesRow : OpenClaim := { program := "ytooffimgfnacoaa", sum := "8b43a8647909961589d995986bb91c6b03cd45cf7856d9df035855e4fd32ea71", func := "loop.example/g03404/laws.FnExactAreChanges", spec := "fnExactAreChanges", unfollowed := true, recurses := true, apart := false }
def FnExactAreChangesSaid : Prop := fnExactAreChangesRow.holds Try.pinned (OpenSpec.ofChange fnExactAreChangesSpec)

/-- ITS FALSE NEIGHBOUR: 'it returns false'. Refute it at one input. -/
def fnExactAreChangesWrong : ChangeSpec := { name := "fnExactAreChanges", fn := fun _ => fun
  | [d1, d2] => { results := [.lit (.bool false)], args := [d1, d2] }
  | _ => none }
def FnExactAreChangesWrongFalsely : Prop := fnExactAreChangesRow.holds Try.pinned (OpenSpec.ofChange fnExactAreChangesWrong)

/-- 'laws.FnExactWholeSub': WHATEVER THE INPUT: true; the input reads as it did. -/
def fnExactWholeSubSpec : ChangeSpec := { name := "fnExactWholeSub", fn := fun _ => fun
  | [d] => { results := [.lit (.bool true)], args := [d] }
  | _ => none }
def fnExactWholeSubRow : OpenClaim := { program := "ytooffimgfnacoaa", sum := "8b43a8647909961589d995986bb91c6b03cd45cf7856d9df035855e4fd32ea71", func := "loop.example/g03404/laws.FnExactWholeSub", spec := "fnExactWholeSub", unfollowed := true, recurses := true, apart := false }
def FnExactWholeSubSaid : Prop := fnExactWholeSubRow.holds Try.pinned (OpenSpec.ofChange fnExactWholeSubSpec)

/-- ITS FALSE NEIGHBOUR: 'it returns false'. Refute it at one input. -/
def fnExactWholeSubWrong : ChangeSpec := { name := "fnExactWholeSub", fn := fun _ => fun
  | [d] => { results := [.lit (.bool false)], args := [d] }
  | _ => none }
def FnExactWholeSubWrongFalsely : Prop := fnExactWholeSubRow.holds Try.pinned (OpenSpec.ofChange fnExactWholeSubWrong)

/-- 'laws.FnExactComposeMorphisms': WHATEVER THE INPUT: true; the input reads as it did. -/
def fnExactComposeMorphismsSpec : ChangeSpec := { name := "fnExactComposeMorphisms", fn := fun _ => fun
  | [d1, d2, d3, d4, d5] => { results := [.lit (.bool true)], args := [d1, d2, d3, d4, d5] }
  | _ => none }
def fnExactComposeMorphismsRow : OpenClaim := { program := "ytooffimgfnacoaa", sum := "8b43a8647909961589d995986bb91c6b03cd45cf7856d9df035855e4fd32ea71", func := "loop.example/g03404/laws.FnExactComposeMorphisms", spec := "fnExactComposeMorphisms", unfollowed := true, recurses := true, apart := false }
def FnExactComposeMorphismsSaid : Prop := fnExactComposeMorphismsRow.holds Try.pinned (OpenSpec.ofChange fnExactComposeMorphismsSpec)

/-- ITS FALSE NEIGHBOUR: 'it returns false'. Refute it at one input. -/
def fnExactComposeMorphismsWrong : ChangeSpec := { name := "fnExactComposeMorphisms", fn := fun _ => fun
  | [d1, d2, d3, d4, d5] => { results := [.lit (.bool false)], args := [d1, d2, d3, d4, d5] }
  | _ => none }
def FnExactComposeMorphismsWrongFalsely : Prop := fnExactComposeMorphismsRow.holds Try.pinned (OpenSpec.ofChange fnExactComposeMorphismsWrong)

/-- 'laws.FnExactDirectSum': WHATEVER THE INPUT: true; the input reads as it did. -/
def fnExactDirectSumSpec : ChangeSpec := { name := "fnExactDirectSum", fn := fun _ => fun
  | [d1, d2] => { results := [.lit (.bool true)], args := [d1, d2] }
  | _ => none }
def fnExactDirectSumRow : OpenClaim := { program := "ytooffimgfnacoaa", sum := "8b43a8647909961589d995986bb91c6b03cd45cf7856d9df035855e4fd32ea71", func := "loop.example/g03404/laws.FnExactDirectSum", spec := "fnExactDirectSum", unfollowed := true, recurses := true, apart := false }
def FnExactDirectSumSaid : Prop := fnExactDirectSumRow.holds Try.pinned (OpenSpec.ofChange fnExactDirectSumSpec)

/-- ITS FALSE NEIGHBOUR: 'it returns false'. Refute it at one input. -/
def fnExactDirectSumWrong : ChangeSpec := { name := "fnExactDirectSum", fn := fun _ => fun
  | [d1, d2] => { results := [.lit (.bool false)], args := [d1, d2] }
  | _ => none }
def FnExactDirectSumWrongFalsely : Prop := fnExactDirectSumRow.holds Try.pinned (OpenSpec.ofChange fnExactDirectSumWrong)

/- THE SECOND FORM. 'bulk': how many values and letters a reading holds, each counted each time it is reached (what is shared counts as often as it is met; a slice's spare places count too). A statement '..UptoSaid' is the law's where the arguments, and the package variables that the reading takes, are together of bulk at most 1048576: NARROWER than '..Said'. Prove '..Said' where nothing that the law and all that it calls make is longer than what came in: it says more and counts as full. Else prove '..UptoSaid'. A law counts once. -/
mutual
def uptoBulk {H : Type} : DataW H → Nat
  | .lit (.string bytes) => bytes.length + 1
  | .lit _ => 1
  | .nil => 1
  | .ptr d => uptoBulk d + 1
  | .slice elems spare => uptoBulkAll elems + uptoBulkAll spare + 1
  | .agg parts => uptoBulkAll parts + 1
  | .iface _ d => uptoBulk d + 1
  | .map entries => uptoBulkEntries entries + 1
  | .held _ => 1
def uptoBulkAll {H : Type} : List (DataW H) → Nat
  | [] => 0
  | d :: r => uptoBulk d + uptoBulkAll r
def uptoBulkEntries {H : Type} : List (Lit × DataW H) → Nat
  | [] => 0
  | x :: r => uptoBulkEntry x + uptoBulkEntries r
def uptoBulkEntry {H : Type} : Lit × DataW H → Nat
  | (.string bytes, d) => bytes.length + uptoBulk d + 1
  | (_, d) => uptoBulk d + 1
 end
def uptoSmall : (H : Type) → List (DataW H) → Bool := fun _ ds => decide (uptoBulkAll ds ≤ 1048576)
def OpenSpec.upto (s : _root_.Go.ChangeSpec) : _root_.Go.OpenSpec := { _root_.Go.OpenSpec.ofChange s with cond := some uptoSmall }

/-- 'laws.FnExactSpanOf', WHERE WHAT IT READS IS OF BULK AT MOST 1048576: true; the input reads as it did. -/
def fnExactSpanOfUptoRow : OpenClaim := { program := "ytooffimgfnacoaa", sum := "8b43a8647909961589d995986bb91c6b03cd45cf7856d9df035855e4fd32ea71", func := "loop.example/g03404/laws.FnExactSpanOf", spec := "fnExactSpanOf", unfollowed := true, recurses := true, apart := false, narrowed := true }
def FnExactSpanOfUptoSaid : Prop := fnExactSpanOfUptoRow.holds Try.pinned (OpenSpec.upto fnExactSpanOfSpec)

/-- 'laws.FnExactIsSpace', WHERE WHAT IT READS IS OF BULK AT MOST 1048576: true; the input reads as it did. -/
def fnExactIsSpaceUptoRow : OpenClaim := { program := "ytooffimgfnacoaa", sum := "8b43a8647909961589d995986bb91c6b03cd45cf7856d9df035855e4fd32ea71", func := "loop.example/g03404/laws.FnExactIsSpace", spec := "fnExactIsSpace", unfollowed := true, recurses := true, apart := false, narrowed := true }
def FnExactIsSpaceUptoSaid : Prop := fnExactIsSpaceUptoRow.holds Try.pinned (OpenSpec.upto fnExactIsSpaceSpec)

/-- 'laws.FnExactZeroMorphism', WHERE WHAT IT READS IS OF BULK AT MOST 1048576: true; the input reads as it did. -/
def fnExactZeroMorphismUptoRow : OpenClaim := { program := "ytooffimgfnacoaa", sum := "8b43a8647909961589d995986bb91c6b03cd45cf7856d9df035855e4fd32ea71", func := "loop.example/g03404/laws.FnExactZeroMorphism", spec := "fnExactZeroMorphism", unfollowed := true, recurses := true, apart := false, narrowed := true }
def FnExactZeroMorphismUptoSaid : Prop := fnExactZeroMorphismUptoRow.holds Try.pinned (OpenSpec.upto fnExactZeroMorphismSpec)

/-- 'laws.FnExactZeroSub', WHERE WHAT IT READS IS OF BULK AT MOST 1048576: true; the input reads as it did. -/
def fnExactZeroSubUptoRow : OpenClaim := { program := "ytooffimgfnacoaa", sum := "8b43a8647909961589d995986bb91c6b03cd45cf7856d9df035855e4fd32ea71", func := "loop.example/g03404/laws.FnExactZeroSub", spec := "fnExactZeroSub", unfollowed := true, recurses := true, apart := false, narrowed := true }
def FnExactZeroSubUptoSaid : Prop := fnExactZeroSubUptoRow.holds Try.pinned (OpenSpec.upto fnExactZeroSubSpec)

/-- 'laws.FnExactInSpace', WHERE WHAT IT READS IS OF BULK AT MOST 1048576: true; the input reads as it did. -/
def fnExactInSpaceUptoRow : OpenClaim := { program := "ytooffimgfnacoaa", sum := "8b43a8647909961589d995986bb91c6b03cd45cf7856d9df035855e4fd32ea71", func := "loop.example/g03404/laws.FnExactInSpace", spec := "fnExactInSpace", unfollowed := true, recurses := true, apart := false, narrowed := true }
def FnExactInSpaceUptoSaid : Prop := fnExactInSpaceUptoRow.holds Try.pinned (OpenSpec.upto fnExactInSpaceSpec)

/-- 'laws.FnExactIsWithin', WHERE WHAT IT READS IS OF BULK AT MOST 1048576: true; the input reads as it did. -/
def fnExactIsWithinUptoRow : OpenClaim := { program := "ytooffimgfnacoaa", sum := "8b43a8647909961589d995986bb91c6b03cd45cf7856d9df035855e4fd32ea71", func := "loop.example/g03404/laws.FnExactIsWithin", spec := "fnExactIsWithin", unfollowed := true, recurses := true, apart := false, narrowed := true }
def FnExactIsWithinUptoSaid : Prop := fnExactIsWithinUptoRow.holds Try.pinned (OpenSpec.upto fnExactIsWithinSpec)

/-- 'laws.FnExactIsMorphism', WHERE WHAT IT READS IS OF BULK AT MOST 1048576: true; the input reads as it did. -/
def fnExactIsMorphismUptoRow : OpenClaim := { program := "ytooffimgfnacoaa", sum := "8b43a8647909961589d995986bb91c6b03cd45cf7856d9df035855e4fd32ea71", func := "loop.example/g03404/laws.FnExactIsMorphism", spec := "fnExactIsMorphism", unfollowed := true, recurses := true, apart := false, narrowed := true }
def FnExactIsMorphismUptoSaid : Prop := fnExactIsMorphismUptoRow.holds Try.pinned (OpenSpec.upto fnExactIsMorphismSpec)

/-- 'laws.FnExactDualRep', WHERE WHAT IT READS IS OF BULK AT MOST 1048576: true; the input reads as it did. -/
def fnExactDualRepUptoRow : OpenClaim := { program := "ytooffimgfnacoaa", sum := "8b43a8647909961589d995986bb91c6b03cd45cf7856d9df035855e4fd32ea71", func := "loop.example/g03404/laws.FnExactDualRep", spec := "fnExactDualRep", unfollowed := true, recurses := true, apart := false, narrowed := true }
def FnExactDualRepUptoSaid : Prop := fnExactDualRepUptoRow.holds Try.pinned (OpenSpec.upto fnExactDualRepSpec)

/-- 'laws.FnExactAddSpaces', WHERE WHAT IT READS IS OF BULK AT MOST 1048576: true; the input reads as it did. -/
def fnExactAddSpacesUptoRow : OpenClaim := { program := "ytooffimgfnacoaa", sum := "8b43a8647909961589d995986bb91c6b03cd45cf7856d9df035855e4fd32ea71", func := "loop.example/g03404/laws.FnExactAddSpaces", spec := "fnExactAddSpaces", unfollowed := true, recurses := true, apart := false, narrowed := true }
def FnExactAddSpacesUptoSaid : Prop := fnExactAddSpacesUptoRow.holds Try.pinned (OpenSpec.upto fnExactAddSpacesSpec)

/-- 'laws.FnExactMapAlong', WHERE WHAT IT READS IS OF BULK AT MOST 1048576: true; the input reads as it did. -/
def fnExactMapAlongUptoRow : OpenClaim := { program := "ytooffimgfnacoaa", sum := "8b43a8647909961589d995986bb91c6b03cd45cf7856d9df035855e4fd32ea71", func := "loop.example/g03404/laws.FnExactMapAlong", spec := "fnExactMapAlong", unfollowed := true, recurses := true, apart := false, narrowed := true }
def FnExactMapAlongUptoSaid : Prop := fnExactMapAlongUptoRow.holds Try.pinned (OpenSpec.upto fnExactMapAlongSpec)

/-- 'laws.FnExactRanksOf', WHERE WHAT IT READS IS OF BULK AT MOST 1048576: true; the input reads as it did. -/
def fnExactRanksOfUptoRow : OpenClaim := { program := "ytooffimgfnacoaa", sum := "8b43a8647909961589d995986bb91c6b03cd45cf7856d9df035855e4fd32ea71", func := "loop.example/g03404/laws.FnExactRanksOf", spec := "fnExactRanksOf", unfollowed := true, recurses := true, apart := false, narrowed := true }
def FnExactRanksOfUptoSaid : Prop := fnExactRanksOfUptoRow.holds Try.pinned (OpenSpec.upto fnExactRanksOfSpec)

/-- 'laws.FnExactRestrictRep', WHERE WHAT IT READS IS OF BULK AT MOST 1048576: true; the input reads as it did. -/
def fnExactRestrictRepUptoRow : OpenClaim := { program := "ytooffimgfnacoaa", sum := "8b43a8647909961589d995986bb91c6b03cd45cf7856d9df035855e4fd32ea71", func := "loop.example/g03404/laws.FnExactRestrictRep", spec := "fnExactRestrictRep", unfollowed := true, recurses := true, apart := false, narrowed := true }
def FnExactRestrictRepUptoSaid : Prop := fnExactRestrictRepUptoRow.holds Try.pinned (OpenSpec.upto fnExactRestrictRepSpec)

/-- 'laws.FnExactAreChanges', WHERE WHAT IT READS IS OF BULK AT MOST 1048576: true; the input reads as it did. -/
def fnExactAreChangesUptoRow : OpenClaim := { program := "ytooffimgfnacoaa", sum := "8b43a8647909961589d995986bb91c6b03cd45cf7856d9df035855e4fd32ea71", func := "loop.example/g03404/laws.FnExactAreChanges", spec := "fnExactAreChanges", unfollowed := true, recurses := true, apart := false, narrowed := true }
def FnExactAreChangesUptoSaid : Prop := fnExactAreChangesUptoRow.holds Try.pinned (OpenSpec.upto fnExactAreChangesSpec)

/-- 'laws.FnExactWholeSub', WHERE WHAT IT READS IS OF BULK AT MOST 1048576: true; the input reads as it did. -/
def fnExactWholeSubUptoRow : OpenClaim := { program := "ytooffimgfnacoaa", sum := "8b43a8647909961589d995986bb91c6b03cd45cf7856d9df035855e4fd32ea71", func := "loop.example/g03404/laws.FnExactWholeSub", spec := "fnExactWholeSub", unfollowed := true, recurses := true, apart := false, narrowed := true }
def FnExactWholeSubUptoSaid : Prop := fnExactWholeSubUptoRow.holds Try.pinned (OpenSpec.upto fnExactWholeSubSpec)

/-- 'laws.FnExactComposeMorphisms', WHERE WHAT IT READS IS OF BULK AT MOST 1048576: true; the input reads as it did. -/
def fnExactComposeMorphismsUptoRow : OpenClaim := { program := "ytooffimgfnacoaa", sum := "8b43a8647909961589d995986bb91c6b03cd45cf7856d9df035855e4fd32ea71", func := "loop.example/g03404/laws.FnExactComposeMorphisms", spec := "fnExactComposeMorphisms", unfollowed := true, recurses := true, apart := false, narrowed := true }
def FnExactComposeMorphismsUptoSaid : Prop := fnExactComposeMorphismsUptoRow.holds Try.pinned (OpenSpec.upto fnExactComposeMorphismsSpec)

/-- 'laws.FnExactDirectSum', WHERE WHAT IT READS IS OF BULK AT MOST 1048576: true; the input reads as it did. -/
def fnExactDirectSumUptoRow : OpenClaim := { program := "ytooffimgfnacoaa", sum := "8b43a8647909961589d995986bb91c6b03cd45cf7856d9df035855e4fd32ea71", func := "loop.example/g03404/laws.FnExactDirectSum", spec := "fnExactDirectSum", unfollowed := true, recurses := true, apart := false, narrowed := true }
def FnExactDirectSumUptoSaid : Prop := fnExactDirectSumUptoRow.holds Try.pinned (OpenSpec.upto fnExactDirectSumSpec)

end Rows
end Go.Proofs.Ytooffimgfnacoaa
