/-
  No cell of these rows narrows 'for every input' (looked for: loops, veiled, ifaces, maps, wideKeys, modest, calm, conditions, laid).
  DERIVED. THE GIVEN ROWS OF THIS SEAT. 12 by the template 'for every input the law returns true; each argument reads behind the call as it read before'; 0 by the template 'total and deterministic' (their statements: YtoppfpamdagckaaTotals.lean).
  GIVEN WITH THE SEED: the statements are not yours to turn. If you find one false, say at which input.
  Laid BY PROGRAM, IN A SANDBOX (cutbox-rows.mjs): the forced cells as the released guide's own fill.sh prints them over the translation 5d1229bec2d4e639… (all of the seat's roots in one cut). By AI agents, Wed Nov 11 2026. No macro, syntax, notation, axiom, sorry.
-/
import Derived.Test.YtoppfpamdagckaaChecked
import GoSem.Claim
import GoSem.ClaimJoined
import GoSem.ClaimMapViews
import Derived.JoinedTies
import Derived.KernelRfl
namespace Go.Proofs.Ytoppfpamdagckaa
/- THE CELL 'sum', in the pinned program and in every row, IS THE sha256 OF THE DUMP (.gsa) THAT YtoppfpamdagckaaProg.lean LOADS. Nothing in Lean hashes anything: it is a label: what it is worth is what the hold of that sum in a sandbox is worth. -/
noncomputable def Try.pinned : Pinned := { name := "ytoppfpamdagckaa", sum := "5d1229bec2d4e6393d67329c0af7742b1293d2f7186172fddb722c1261087b5f", checked := Try.checked }
namespace Rows
def none {H : Type} : Left H := { results := [], args := [] }

/-- 'laws.FnExactKernelBasis': WHATEVER THE INPUT: true; the input reads as it did. -/
def fnExactKernelBasisSpec : ChangeSpec := { name := "fnExactKernelBasis", fn := fun _ => fun
  | [d1, d2] => { results := [.lit (.bool true)], args := [d1, d2] }
  | _ => none }
def fnExactKernelBasisRow : OpenClaim := { program := "ytoppfpamdagckaa", sum := "5d1229bec2d4e6393d67329c0af7742b1293d2f7186172fddb722c1261087b5f", func := "loop.example/g03404/laws.FnExactKernelBasis", spec := "fnExactKernelBasis", unfollowed := true, recurses := true, apart := false }
def FnExactKernelBasisSaid : Prop := fnExactKernelBasisRow.holds Try.pinned (OpenSpec.ofChange fnExactKernelBasisSpec)

/-- ITS FALSE NEIGHBOUR: 'it returns false'. Refute it at one input. -/
def fnExactKernelBasisWrong : ChangeSpec := { name := "fnExactKernelBasis", fn := fun _ => fun
  | [d1, d2] => { results := [.lit (.bool false)], args := [d1, d2] }
  | _ => none }
def FnExactKernelBasisWrongFalsely : Prop := fnExactKernelBasisRow.holds Try.pinned (OpenSpec.ofChange fnExactKernelBasisWrong)

/-- 'laws.FnExactIdentityMorphism': WHATEVER THE INPUT: true; the input reads as it did. -/
def fnExactIdentityMorphismSpec : ChangeSpec := { name := "fnExactIdentityMorphism", fn := fun _ => fun
  | [d] => { results := [.lit (.bool true)], args := [d] }
  | _ => none }
def fnExactIdentityMorphismRow : OpenClaim := { program := "ytoppfpamdagckaa", sum := "5d1229bec2d4e6393d67329c0af7742b1293d2f7186172fddb722c1261087b5f", func := "loop.example/g03404/laws.FnExactIdentityMorphism", spec := "fnExactIdentityMorphism", unfollowed := true, recurses := true, apart := false }
def FnExactIdentityMorphismSaid : Prop := fnExactIdentityMorphismRow.holds Try.pinned (OpenSpec.ofChange fnExactIdentityMorphismSpec)

/-- ITS FALSE NEIGHBOUR: 'it returns false'. Refute it at one input. -/
def fnExactIdentityMorphismWrong : ChangeSpec := { name := "fnExactIdentityMorphism", fn := fun _ => fun
  | [d] => { results := [.lit (.bool false)], args := [d] }
  | _ => none }
def FnExactIdentityMorphismWrongFalsely : Prop := fnExactIdentityMorphismRow.holds Try.pinned (OpenSpec.ofChange fnExactIdentityMorphismWrong)

/-- 'laws.FnExactSpanOf': WHATEVER THE INPUT: true; the input reads as it did. -/
def fnExactSpanOfSpec : ChangeSpec := { name := "fnExactSpanOf", fn := fun _ => fun
  | [d1, d2, d3] => { results := [.lit (.bool true)], args := [d1, d2, d3] }
  | _ => none }
def fnExactSpanOfRow : OpenClaim := { program := "ytoppfpamdagckaa", sum := "5d1229bec2d4e6393d67329c0af7742b1293d2f7186172fddb722c1261087b5f", func := "loop.example/g03404/laws.FnExactSpanOf", spec := "fnExactSpanOf", unfollowed := true, recurses := true, apart := false }
def FnExactSpanOfSaid : Prop := fnExactSpanOfRow.holds Try.pinned (OpenSpec.ofChange fnExactSpanOfSpec)

/-- ITS FALSE NEIGHBOUR: 'it returns false'. Refute it at one input. -/
def fnExactSpanOfWrong : ChangeSpec := { name := "fnExactSpanOf", fn := fun _ => fun
  | [d1, d2, d3] => { results := [.lit (.bool false)], args := [d1, d2, d3] }
  | _ => none }
def FnExactSpanOfWrongFalsely : Prop := fnExactSpanOfRow.holds Try.pinned (OpenSpec.ofChange fnExactSpanOfWrong)

/-- 'laws.FnExactInverseOf': WHATEVER THE INPUT: true; the input reads as it did. -/
def fnExactInverseOfSpec : ChangeSpec := { name := "fnExactInverseOf", fn := fun _ => fun
  | [d1, d2] => { results := [.lit (.bool true)], args := [d1, d2] }
  | _ => none }
def fnExactInverseOfRow : OpenClaim := { program := "ytoppfpamdagckaa", sum := "5d1229bec2d4e6393d67329c0af7742b1293d2f7186172fddb722c1261087b5f", func := "loop.example/g03404/laws.FnExactInverseOf", spec := "fnExactInverseOf", unfollowed := true, recurses := true, apart := false }
def FnExactInverseOfSaid : Prop := fnExactInverseOfRow.holds Try.pinned (OpenSpec.ofChange fnExactInverseOfSpec)

/-- ITS FALSE NEIGHBOUR: 'it returns false'. Refute it at one input. -/
def fnExactInverseOfWrong : ChangeSpec := { name := "fnExactInverseOf", fn := fun _ => fun
  | [d1, d2] => { results := [.lit (.bool false)], args := [d1, d2] }
  | _ => none }
def FnExactInverseOfWrongFalsely : Prop := fnExactInverseOfRow.holds Try.pinned (OpenSpec.ofChange fnExactInverseOfWrong)

/-- 'laws.FnExactIsSpace': WHATEVER THE INPUT: true; the input reads as it did. -/
def fnExactIsSpaceSpec : ChangeSpec := { name := "fnExactIsSpace", fn := fun _ => fun
  | [d1, d2] => { results := [.lit (.bool true)], args := [d1, d2] }
  | _ => none }
def fnExactIsSpaceRow : OpenClaim := { program := "ytoppfpamdagckaa", sum := "5d1229bec2d4e6393d67329c0af7742b1293d2f7186172fddb722c1261087b5f", func := "loop.example/g03404/laws.FnExactIsSpace", spec := "fnExactIsSpace", unfollowed := true, recurses := true, apart := false }
def FnExactIsSpaceSaid : Prop := fnExactIsSpaceRow.holds Try.pinned (OpenSpec.ofChange fnExactIsSpaceSpec)

/-- ITS FALSE NEIGHBOUR: 'it returns false'. Refute it at one input. -/
def fnExactIsSpaceWrong : ChangeSpec := { name := "fnExactIsSpace", fn := fun _ => fun
  | [d1, d2] => { results := [.lit (.bool false)], args := [d1, d2] }
  | _ => none }
def FnExactIsSpaceWrongFalsely : Prop := fnExactIsSpaceRow.holds Try.pinned (OpenSpec.ofChange fnExactIsSpaceWrong)

/-- 'laws.FnExactZeroMorphism': WHATEVER THE INPUT: true; the input reads as it did. -/
def fnExactZeroMorphismSpec : ChangeSpec := { name := "fnExactZeroMorphism", fn := fun _ => fun
  | [d1, d2] => { results := [.lit (.bool true)], args := [d1, d2] }
  | _ => none }
def fnExactZeroMorphismRow : OpenClaim := { program := "ytoppfpamdagckaa", sum := "5d1229bec2d4e6393d67329c0af7742b1293d2f7186172fddb722c1261087b5f", func := "loop.example/g03404/laws.FnExactZeroMorphism", spec := "fnExactZeroMorphism", unfollowed := true, recurses := true, apart := false }
def FnExactZeroMorphismSaid : Prop := fnExactZeroMorphismRow.holds Try.pinned (OpenSpec.ofChange fnExactZeroMorphismSpec)

/-- ITS FALSE NEIGHBOUR: 'it returns false'. Refute it at one input. -/
def fnExactZeroMorphismWrong : ChangeSpec := { name := "fnExactZeroMorphism", fn := fun _ => fun
  | [d1, d2] => { results := [.lit (.bool false)], args := [d1, d2] }
  | _ => none }
def FnExactZeroMorphismWrongFalsely : Prop := fnExactZeroMorphismRow.holds Try.pinned (OpenSpec.ofChange fnExactZeroMorphismWrong)

/-- 'laws.FnExactZeroSub': WHATEVER THE INPUT: true; the input reads as it did. -/
def fnExactZeroSubSpec : ChangeSpec := { name := "fnExactZeroSub", fn := fun _ => fun
  | [d] => { results := [.lit (.bool true)], args := [d] }
  | _ => none }
def fnExactZeroSubRow : OpenClaim := { program := "ytoppfpamdagckaa", sum := "5d1229bec2d4e6393d67329c0af7742b1293d2f7186172fddb722c1261087b5f", func := "loop.example/g03404/laws.FnExactZeroSub", spec := "fnExactZeroSub", unfollowed := true, recurses := true, apart := false }
def FnExactZeroSubSaid : Prop := fnExactZeroSubRow.holds Try.pinned (OpenSpec.ofChange fnExactZeroSubSpec)

/-- ITS FALSE NEIGHBOUR: 'it returns false'. Refute it at one input. -/
def fnExactZeroSubWrong : ChangeSpec := { name := "fnExactZeroSub", fn := fun _ => fun
  | [d] => { results := [.lit (.bool false)], args := [d] }
  | _ => none }
def FnExactZeroSubWrongFalsely : Prop := fnExactZeroSubRow.holds Try.pinned (OpenSpec.ofChange fnExactZeroSubWrong)

/-- 'laws.FnExactInSpace': WHATEVER THE INPUT: true; the input reads as it did. -/
def fnExactInSpaceSpec : ChangeSpec := { name := "fnExactInSpace", fn := fun _ => fun
  | [d1, d2, d3] => { results := [.lit (.bool true)], args := [d1, d2, d3] }
  | _ => none }
def fnExactInSpaceRow : OpenClaim := { program := "ytoppfpamdagckaa", sum := "5d1229bec2d4e6393d67329c0af7742b1293d2f7186172fddb722c1261087b5f", func := "loop.example/g03404/laws.FnExactInSpace", spec := "fnExactInSpace", unfollowed := true, recurses := true, apart := false }
def FnExactInSpaceSaid : Prop := fnExactInSpaceRow.holds Try.pinned (OpenSpec.ofChange fnExactInSpaceSpec)

/-- ITS FALSE NEIGHBOUR: 'it returns false'. Refute it at one input. -/
def fnExactInSpaceWrong : ChangeSpec := { name := "fnExactInSpace", fn := fun _ => fun
  | [d1, d2, d3] => { results := [.lit (.bool false)], args := [d1, d2, d3] }
  | _ => none }
def FnExactInSpaceWrongFalsely : Prop := fnExactInSpaceRow.holds Try.pinned (OpenSpec.ofChange fnExactInSpaceWrong)

/-- 'laws.FnExactIsWithin': WHATEVER THE INPUT: true; the input reads as it did. -/
def fnExactIsWithinSpec : ChangeSpec := { name := "fnExactIsWithin", fn := fun _ => fun
  | [d1, d2, d3] => { results := [.lit (.bool true)], args := [d1, d2, d3] }
  | _ => none }
def fnExactIsWithinRow : OpenClaim := { program := "ytoppfpamdagckaa", sum := "5d1229bec2d4e6393d67329c0af7742b1293d2f7186172fddb722c1261087b5f", func := "loop.example/g03404/laws.FnExactIsWithin", spec := "fnExactIsWithin", unfollowed := true, recurses := true, apart := false }
def FnExactIsWithinSaid : Prop := fnExactIsWithinRow.holds Try.pinned (OpenSpec.ofChange fnExactIsWithinSpec)

/-- ITS FALSE NEIGHBOUR: 'it returns false'. Refute it at one input. -/
def fnExactIsWithinWrong : ChangeSpec := { name := "fnExactIsWithin", fn := fun _ => fun
  | [d1, d2, d3] => { results := [.lit (.bool false)], args := [d1, d2, d3] }
  | _ => none }
def FnExactIsWithinWrongFalsely : Prop := fnExactIsWithinRow.holds Try.pinned (OpenSpec.ofChange fnExactIsWithinWrong)

/-- 'laws.FnExactIsMorphism': WHATEVER THE INPUT: true; the input reads as it did. -/
def fnExactIsMorphismSpec : ChangeSpec := { name := "fnExactIsMorphism", fn := fun _ => fun
  | [d1, d2, d3] => { results := [.lit (.bool true)], args := [d1, d2, d3] }
  | _ => none }
def fnExactIsMorphismRow : OpenClaim := { program := "ytoppfpamdagckaa", sum := "5d1229bec2d4e6393d67329c0af7742b1293d2f7186172fddb722c1261087b5f", func := "loop.example/g03404/laws.FnExactIsMorphism", spec := "fnExactIsMorphism", unfollowed := true, recurses := true, apart := false }
def FnExactIsMorphismSaid : Prop := fnExactIsMorphismRow.holds Try.pinned (OpenSpec.ofChange fnExactIsMorphismSpec)

/-- ITS FALSE NEIGHBOUR: 'it returns false'. Refute it at one input. -/
def fnExactIsMorphismWrong : ChangeSpec := { name := "fnExactIsMorphism", fn := fun _ => fun
  | [d1, d2, d3] => { results := [.lit (.bool false)], args := [d1, d2, d3] }
  | _ => none }
def FnExactIsMorphismWrongFalsely : Prop := fnExactIsMorphismRow.holds Try.pinned (OpenSpec.ofChange fnExactIsMorphismWrong)

/-- 'laws.FnExactDualRep': WHATEVER THE INPUT: true; the input reads as it did. -/
def fnExactDualRepSpec : ChangeSpec := { name := "fnExactDualRep", fn := fun _ => fun
  | [d] => { results := [.lit (.bool true)], args := [d] }
  | _ => none }
def fnExactDualRepRow : OpenClaim := { program := "ytoppfpamdagckaa", sum := "5d1229bec2d4e6393d67329c0af7742b1293d2f7186172fddb722c1261087b5f", func := "loop.example/g03404/laws.FnExactDualRep", spec := "fnExactDualRep", unfollowed := true, recurses := true, apart := false }
def FnExactDualRepSaid : Prop := fnExactDualRepRow.holds Try.pinned (OpenSpec.ofChange fnExactDualRepSpec)

/-- ITS FALSE NEIGHBOUR: 'it returns false'. Refute it at one input. -/
def fnExactDualRepWrong : ChangeSpec := { name := "fnExactDualRep", fn := fun _ => fun
  | [d] => { results := [.lit (.bool false)], args := [d] }
  | _ => none }
def FnExactDualRepWrongFalsely : Prop := fnExactDualRepRow.holds Try.pinned (OpenSpec.ofChange fnExactDualRepWrong)

/-- 'laws.FnExactAddSpaces': WHATEVER THE INPUT: true; the input reads as it did. -/
def fnExactAddSpacesSpec : ChangeSpec := { name := "fnExactAddSpaces", fn := fun _ => fun
  | [d1, d2, d3] => { results := [.lit (.bool true)], args := [d1, d2, d3] }
  | _ => none }
def fnExactAddSpacesRow : OpenClaim := { program := "ytoppfpamdagckaa", sum := "5d1229bec2d4e6393d67329c0af7742b1293d2f7186172fddb722c1261087b5f", func := "loop.example/g03404/laws.FnExactAddSpaces", spec := "fnExactAddSpaces", unfollowed := true, recurses := true, apart := false }
def FnExactAddSpacesSaid : Prop := fnExactAddSpacesRow.holds Try.pinned (OpenSpec.ofChange fnExactAddSpacesSpec)

/-- ITS FALSE NEIGHBOUR: 'it returns false'. Refute it at one input. -/
def fnExactAddSpacesWrong : ChangeSpec := { name := "fnExactAddSpaces", fn := fun _ => fun
  | [d1, d2, d3] => { results := [.lit (.bool false)], args := [d1, d2, d3] }
  | _ => none }
def FnExactAddSpacesWrongFalsely : Prop := fnExactAddSpacesRow.holds Try.pinned (OpenSpec.ofChange fnExactAddSpacesWrong)

/- THE SECOND FORM. 'bulk': how many values and letters a reading holds, each counted each time it is reached (what is shared counts as often as it is met; a slice's spare places count too). A statement '..UptoSaid' is the law's where the arguments, and the package variables that the reading takes, are together of bulk at most 1048576: NARROWER than '..Said'. Prove '..Said' where nothing that the law and all that it calls make is longer than what came in: it says more and counts as full. Else prove '..UptoSaid'. A law counts once. -/
mutual
def uptoBulk {H : Type} : DataW H → Nat
  | .lit (.string bytes) => bytes.length + 1
  | .lit _ => 1
  | .nil => 1
  | .ptr d => uptoBulk d + 1
  | .slice elems spare => uptoBulkAll elems + uptoBulkAll spare + 1
  | .agg parts => uptoBulkAll parts + 1
  | .iface _ d => uptoBulk d + 1
  | .map entries => uptoBulkEntries entries + 1
  | .held _ => 1
def uptoBulkAll {H : Type} : List (DataW H) → Nat
  | [] => 0
  | d :: r => uptoBulk d + uptoBulkAll r
def uptoBulkEntries {H : Type} : List (Lit × DataW H) → Nat
  | [] => 0
  | x :: r => uptoBulkEntry x + uptoBulkEntries r
def uptoBulkEntry {H : Type} : Lit × DataW H → Nat
  | (.string bytes, d) => bytes.length + uptoBulk d + 1
  | (_, d) => uptoBulk d + 1
 end
def uptoSmall : (H : Type) → List (DataW H) → Bool := fun _ ds => decide (uptoBulkAll ds ≤ 1048576)
def OpenSpec.upto (s : _root_.Go.ChangeSpec) : _root_.Go.OpenSpec := { _root_.Go.OpenSpec.ofChange s with cond := some uptoSmall }

/-- 'laws.FnExactKernelBasis', WHERE WHAT IT READS IS OF BULK AT MOST 1048576: true; the input reads as it did. -/
def fnExactKernelBasisUptoRow : OpenClaim := { program := "ytoppfpamdagckaa", sum := "5d1229bec2d4e6393d67329c0af7742b1293d2f7186172fddb722c1261087b5f", func := "loop.example/g03404/laws.FnExactKernelBasis", spec := "fnExactKernelBasis", unfollowed := true, recurses := true, apart := false, narrowed := true }
def FnExactKernelBasisUptoSaid : Prop := fnExactKernelBasisUptoRow.holds Try.pinned (OpenSpec.upto fnExactKernelBasisSpec)

/-- 'laws.FnExactIdentityMorphism', WHERE WHAT IT READS IS OF BULK AT MOST 1048576: true; the input reads as it did. -/
def fnExactIdentityMorphismUptoRow : OpenClaim := { program := "ytoppfpamdagckaa", sum := "5d1229bec2d4e6393d67329c0af7742b1293d2f7186172fddb722c1261087b5f", func := "loop.example/g03404/laws.FnExactIdentityMorphism", spec := "fnExactIdentityMorphism", unfollowed := true, recurses := true, apart := false, narrowed := true }
def FnExactIdentityMorphismUptoSaid : Prop := fnExactIdentityMorphismUptoRow.holds Try.pinned (OpenSpec.upto fnExactIdentityMorphismSpec)

/-- 'laws.FnExactSpanOf', WHERE WHAT IT READS IS OF BULK AT MOST 1048576: true; the input reads as it did. -/
def fnExactSpanOfUptoRow : OpenClaim := { program := "ytoppfpamdagckaa", sum := "5d1229bec2d4e6393d67329c0af7742b1293d2f7186172fddb722c1261087b5f", func := "loop.example/g03404/laws.FnExactSpanOf", spec := "fnExactSpanOf", unfollowed := true, recurses := true, apart := false, narrowed := true }
def FnExactSpanOfUptoSaid : Prop := fnExactSpanOfUptoRow.holds Try.pinned (OpenSpec.upto fnExactSpanOfSpec)

/-- 'laws.FnExactInverseOf', WHERE WHAT IT READS IS OF BULK AT MOST 1048576: true; the input reads as it did. -/
def fnExactInverseOfUptoRow : OpenClaim := { program := "ytoppfpamdagckaa", sum := "5d1229bec2d4e6393d67329c0af7742b1293d2f7186172fddb722c1261087b5f", func := "loop.example/g03404/laws.FnExactInverseOf", spec := "fnExactInverseOf", unfollowed := true, recurses := true, apart := false, narrowed := true }
def FnExactInverseOfUptoSaid : Prop := fnExactInverseOfUptoRow.holds Try.pinned (OpenSpec.upto fnExactInverseOfSpec)

/-- 'laws.FnExactIsSpace', WHERE WHAT IT READS IS OF BULK AT MOST 1048576: true; the input reads as it did. -/
def fnExactIsSpaceUptoRow : OpenClaim := { program := "ytoppfpamdagckaa", sum := "5d1229bec2d4e6393d67329c0af7742b1293d2f7186172fddb722c1261087b5f", func := "loop.example/g03404/laws.FnExactIsSpace", spec := "fnExactIsSpace", unfollowed := true, recurses := true, apart := false, narrowed := true }
def FnExactIsSpaceUptoSaid : Prop := fnExactIsSpaceUptoRow.holds Try.pinned (OpenSpec.upto fnExactIsSpaceSpec)

/-- 'laws.FnExactZeroMorphism', WHERE WHAT IT READS IS OF BULK AT MOST 1048576: true; the input reads as it did. -/
def fnExactZeroMorphismUptoRow : OpenClaim := { program := "ytoppfpamdagckaa", sum := "5d1229bec2d4e6393d67329c0af7742b1293d2f7186172fddb722c1261087b5f", func := "loop.example/g03404/laws.FnExactZeroMorphism", spec := "fnExactZeroMorphism", unfollowed := true, recurses := true, apart := false, narrowed := true }
def FnExactZeroMorphismUptoSaid : Prop := fnExactZeroMorphismUptoRow.holds Try.pinned (OpenSpec.upto fnExactZeroMorphismSpec)

/-- 'laws.FnExactZeroSub', WHERE WHAT IT READS IS OF BULK AT MOST 1048576: true; the input reads as it did. -/
def fnExactZeroSubUptoRow : OpenClaim := { program := "ytoppfpamdagckaa", sum := "5d1229bec2d4e6393d67329c0af7742b1293d2f7186172fddb722c1261087b5f", func := "loop.example/g03404/laws.FnExactZeroSub", spec := "fnExactZeroSub", unfollowed := true, recurses := true, apart := false, narrowed := true }
def FnExactZeroSubUptoSaid : Prop := fnExactZeroSubUptoRow.holds Try.pinned (OpenSpec.upto fnExactZeroSubSpec)

/-- 'laws.FnExactInSpace', WHERE WHAT IT READS IS OF BULK AT MOST 1048576: true; the input reads as it did. -/
def fnExactInSpaceUptoRow : OpenClaim := { program := "ytoppfpamdagckaa", sum := "5d1229bec2d4e6393d67329c0af7742b1293d2f7186172fddb722c1261087b5f", func := "loop.example/g03404/laws.FnExactInSpace", spec := "fnExactInSpace", unfollowed := true, recurses := true, apart := false, narrowed := true }
def FnExactInSpaceUptoSaid : Prop := fnExactInSpaceUptoRow.holds Try.pinned (OpenSpec.upto fnExactInSpaceSpec)

/-- 'laws.FnExactIsWithin', WHERE WHAT IT READS IS OF BULK AT MOST 1048576: true; the input reads as it did. -/
def fnExactIsWithinUptoRow : OpenClaim := { program := "ytoppfpamdagckaa", sum := "5d1229bec2d4e6393d67329c0af7742b1293d2f7186172fddb722c1261087b5f", func := "loop.example/g03404/laws.FnExactIsWithin", spec := "fnExactIsWithin", unfollowed := true, recurses := true, apart := false, narrowed := true }
def FnExactIsWithinUptoSaid : Prop := fnExactIsWithinUptoRow.holds Try.pinned (OpenSpec.upto fnExactIsWithinSpec)

/-- 'laws.FnExactIsMorphism', WHERE WHAT IT READS IS OF BULK AT MOST 1048576: true; the input reads as it did. -/
def fnExactIsMorphismUptoRow : OpenClaim := { program := "ytoppfpamdagckaa", sum := "5d1229bec2d4e6393d67329c0af7742b1293d2f7186172fddb722c1261087b5f", func := "loop.example/g03404/laws.FnExactIsMorphism", spec := "fnExactIsMorphism", unfollowed := true, recurses := true, apart := false, narrowed := true }
def FnExactIsMorphismUptoSaid : Prop := fnExactIsMorphismUptoRow.holds Try.pinned (OpenSpec.upto fnExactIsMorphismSpec)

/-- 'laws.FnExactDualRep', WHERE WHAT IT READS IS OF BULK AT MOST 1048576: true; the input reads as it did. -/
def fnExactDualRepUptoRow : OpenClaim := { program := "ytoppfpamdagckaa", sum := "5d1229bec2d4e6393d67329c0af7742b1293d2f7186172fddb722c1261087b5f", func := "loop.example/g03404/laws.FnExactDualRep", spec := "fnExactDualRep", unfollowed := true, recurses := true, apart := false, narrowed := true }
def FnExactDualRepUptoSaid : Prop := fnExactDualRepUptoRow.holds Try.pinned (OpenSpec.upto fnExactDualRepSpec)

/-- 'laws.FnExactAddSpaces', WHERE WHAT IT READS IS OF BULK AT MOST 1048576: true; the input reads as it did. -/
def fnExactAddSpacesUptoRow : OpenClaim := { program := "ytoppfpamdagckaa", sum := "5d1229bec2d4e6393d67329c0af7742b1293d2f7186172fddb722c1261087b5f", func := "loop.example/g03404/laws.FnExactAddSpaces", spec := "fnExactAddSpaces", unfollowed := true, recurses := true, apart := false, narrowed := true }
def FnExactAddSpacesUptoSaid : Prop := fnExactAddSpacesUptoRow.holds Try.pinned (OpenSpec.upto fnExactAddSpacesSpec)

end Rows
end Go.Proofs.Ytoppfpamdagckaa
