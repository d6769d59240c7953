/-
  No cell of these rows narrows 'for every input' (looked for: loops, veiled, ifaces, maps, wideKeys, modest, calm, conditions, laid).
  DERIVED. THE GIVEN ROWS OF THIS SEAT. 12 by the template 'for every input the law returns true; each argument reads behind the call as it read before'; 0 by the template 'total and deterministic' (their statements: YtbpgnnejlablnaaTotals.lean).
  GIVEN WITH THE SEED: the statements are not yours to turn. If you find one false, say at which input.
  Laid BY PROGRAM, IN A SANDBOX (cutbox-rows.mjs): the forced cells as the released guide's own fill.sh prints them over the translation 861d516921b5afbe… (all of the seat's roots in one cut). By AI agents, Wed Nov 11 2026. No macro, syntax, notation, axiom, sorry.
-/
import Derived.Test.YtbpgnnejlablnaaChecked
import GoSem.Claim
import GoSem.ClaimJoined
import GoSem.ClaimMapViews
import Derived.JoinedTies
import Derived.KernelRfl
namespace Go.Proofs.Ytbpgnnejlablnaa
/- THE CELL 'sum', in the pinned program and in every row, IS THE sha256 OF THE DUMP (.gsa) THAT YtbpgnnejlablnaaProg.lean LOADS. Nothing in Lean hashes anything: it is a label: what it is worth is what the hold of that sum in a sandbox is worth. -/
noncomputable def Try.pinned : Pinned := { name := "ytbpgnnejlablnaa", sum := "861d516921b5afbef3b59c887c1849a4ae0ee9088721a5d7b111111522916566", checked := Try.checked }
namespace Rows
def none {H : Type} : Left H := { results := [], args := [] }

/-- 'laws.FnExactEqualMorphisms': WHATEVER THE INPUT: true; the input reads as it did. -/
def fnExactEqualMorphismsSpec : ChangeSpec := { name := "fnExactEqualMorphisms", fn := fun _ => fun
  | [d1, d2] => { results := [.lit (.bool true)], args := [d1, d2] }
  | _ => none }
def fnExactEqualMorphismsRow : OpenClaim := { program := "ytbpgnnejlablnaa", sum := "861d516921b5afbef3b59c887c1849a4ae0ee9088721a5d7b111111522916566", func := "loop.example/g03404/laws.FnExactEqualMorphisms", spec := "fnExactEqualMorphisms", unfollowed := true, recurses := true, apart := false }
def FnExactEqualMorphismsSaid : Prop := fnExactEqualMorphismsRow.holds Try.pinned (OpenSpec.ofChange fnExactEqualMorphismsSpec)

/-- ITS FALSE NEIGHBOUR: 'it returns false'. Refute it at one input. -/
def fnExactEqualMorphismsWrong : ChangeSpec := { name := "fnExactEqualMorphisms", fn := fun _ => fun
  | [d1, d2] => { results := [.lit (.bool false)], args := [d1, d2] }
  | _ => none }
def FnExactEqualMorphismsWrongFalsely : Prop := fnExactEqualMorphismsRow.holds Try.pinned (OpenSpec.ofChange fnExactEqualMorphismsWrong)

/-- 'laws.FnExactEqualSubs': WHATEVER THE INPUT: true; the input reads as it did. -/
def fnExactEqualSubsSpec : ChangeSpec := { name := "fnExactEqualSubs", fn := fun _ => fun
  | [d1, d2] => { results := [.lit (.bool true)], args := [d1, d2] }
  | _ => none }
def fnExactEqualSubsRow : OpenClaim := { program := "ytbpgnnejlablnaa", sum := "861d516921b5afbef3b59c887c1849a4ae0ee9088721a5d7b111111522916566", func := "loop.example/g03404/laws.FnExactEqualSubs", spec := "fnExactEqualSubs", unfollowed := true, recurses := true, apart := false }
def FnExactEqualSubsSaid : Prop := fnExactEqualSubsRow.holds Try.pinned (OpenSpec.ofChange fnExactEqualSubsSpec)

/-- ITS FALSE NEIGHBOUR: 'it returns false'. Refute it at one input. -/
def fnExactEqualSubsWrong : ChangeSpec := { name := "fnExactEqualSubs", fn := fun _ => fun
  | [d1, d2] => { results := [.lit (.bool false)], args := [d1, d2] }
  | _ => none }
def FnExactEqualSubsWrongFalsely : Prop := fnExactEqualSubsRow.holds Try.pinned (OpenSpec.ofChange fnExactEqualSubsWrong)

/-- 'laws.FnExactRankOf': WHATEVER THE INPUT: true; the input reads as it did. -/
def fnExactRankOfSpec : ChangeSpec := { name := "fnExactRankOf", fn := fun _ => fun
  | [d1, d2] => { results := [.lit (.bool true)], args := [d1, d2] }
  | _ => none }
def fnExactRankOfRow : OpenClaim := { program := "ytbpgnnejlablnaa", sum := "861d516921b5afbef3b59c887c1849a4ae0ee9088721a5d7b111111522916566", func := "loop.example/g03404/laws.FnExactRankOf", spec := "fnExactRankOf", unfollowed := true, recurses := true, apart := false }
def FnExactRankOfSaid : Prop := fnExactRankOfRow.holds Try.pinned (OpenSpec.ofChange fnExactRankOfSpec)

/-- ITS FALSE NEIGHBOUR: 'it returns false'. Refute it at one input. -/
def fnExactRankOfWrong : ChangeSpec := { name := "fnExactRankOf", fn := fun _ => fun
  | [d1, d2] => { results := [.lit (.bool false)], args := [d1, d2] }
  | _ => none }
def FnExactRankOfWrongFalsely : Prop := fnExactRankOfRow.holds Try.pinned (OpenSpec.ofChange fnExactRankOfWrong)

/-- 'laws.FnExactIsRep': WHATEVER THE INPUT: true; the input reads as it did. -/
def fnExactIsRepSpec : ChangeSpec := { name := "fnExactIsRep", fn := fun _ => fun
  | [d] => { results := [.lit (.bool true)], args := [d] }
  | _ => none }
def fnExactIsRepRow : OpenClaim := { program := "ytbpgnnejlablnaa", sum := "861d516921b5afbef3b59c887c1849a4ae0ee9088721a5d7b111111522916566", func := "loop.example/g03404/laws.FnExactIsRep", spec := "fnExactIsRep", unfollowed := true, recurses := true, apart := false }
def FnExactIsRepSaid : Prop := fnExactIsRepRow.holds Try.pinned (OpenSpec.ofChange fnExactIsRepSpec)

/-- ITS FALSE NEIGHBOUR: 'it returns false'. Refute it at one input. -/
def fnExactIsRepWrong : ChangeSpec := { name := "fnExactIsRep", fn := fun _ => fun
  | [d] => { results := [.lit (.bool false)], args := [d] }
  | _ => none }
def FnExactIsRepWrongFalsely : Prop := fnExactIsRepRow.holds Try.pinned (OpenSpec.ofChange fnExactIsRepWrong)

/-- 'laws.FnExactRowReduce': WHATEVER THE INPUT: true; the input reads as it did. -/
def fnExactRowReduceSpec : ChangeSpec := { name := "fnExactRowReduce", fn := fun _ => fun
  | [d1, d2] => { results := [.lit (.bool true)], args := [d1, d2] }
  | _ => none }
def fnExactRowReduceRow : OpenClaim := { program := "ytbpgnnejlablnaa", sum := "861d516921b5afbef3b59c887c1849a4ae0ee9088721a5d7b111111522916566", func := "loop.example/g03404/laws.FnExactRowReduce", spec := "fnExactRowReduce", unfollowed := true, recurses := true, apart := false }
def FnExactRowReduceSaid : Prop := fnExactRowReduceRow.holds Try.pinned (OpenSpec.ofChange fnExactRowReduceSpec)

/-- ITS FALSE NEIGHBOUR: 'it returns false'. Refute it at one input. -/
def fnExactRowReduceWrong : ChangeSpec := { name := "fnExactRowReduce", fn := fun _ => fun
  | [d1, d2] => { results := [.lit (.bool false)], args := [d1, d2] }
  | _ => none }
def FnExactRowReduceWrongFalsely : Prop := fnExactRowReduceRow.holds Try.pinned (OpenSpec.ofChange fnExactRowReduceWrong)

/-- 'laws.FnExactTotalOf': WHATEVER THE INPUT: true; the input reads as it did. -/
def fnExactTotalOfSpec : ChangeSpec := { name := "fnExactTotalOf", fn := fun _ => fun
  | [d] => { results := [.lit (.bool true)], args := [d] }
  | _ => none }
def fnExactTotalOfRow : OpenClaim := { program := "ytbpgnnejlablnaa", sum := "861d516921b5afbef3b59c887c1849a4ae0ee9088721a5d7b111111522916566", func := "loop.example/g03404/laws.FnExactTotalOf", spec := "fnExactTotalOf", unfollowed := true, recurses := true, apart := false }
def FnExactTotalOfSaid : Prop := fnExactTotalOfRow.holds Try.pinned (OpenSpec.ofChange fnExactTotalOfSpec)

/-- ITS FALSE NEIGHBOUR: 'it returns false'. Refute it at one input. -/
def fnExactTotalOfWrong : ChangeSpec := { name := "fnExactTotalOf", fn := fun _ => fun
  | [d] => { results := [.lit (.bool false)], args := [d] }
  | _ => none }
def FnExactTotalOfWrongFalsely : Prop := fnExactTotalOfRow.holds Try.pinned (OpenSpec.ofChange fnExactTotalOfWrong)

/-- 'laws.FnExactZeroRep': WHATEVER THE INPUT: true; the input reads as it did. -/
def fnExactZeroRepSpec : ChangeSpec := { name := "fnExactZeroRep", fn := fun _ => fun
  | [d1, d2, d3] => { results := [.lit (.bool true)], args := [d1, d2, d3] }
  | _ => none }
def fnExactZeroRepRow : OpenClaim := { program := "ytbpgnnejlablnaa", sum := "861d516921b5afbef3b59c887c1849a4ae0ee9088721a5d7b111111522916566", func := "loop.example/g03404/laws.FnExactZeroRep", spec := "fnExactZeroRep", unfollowed := true, recurses := true, apart := false }
def FnExactZeroRepSaid : Prop := fnExactZeroRepRow.holds Try.pinned (OpenSpec.ofChange fnExactZeroRepSpec)

/-- ITS FALSE NEIGHBOUR: 'it returns false'. Refute it at one input. -/
def fnExactZeroRepWrong : ChangeSpec := { name := "fnExactZeroRep", fn := fun _ => fun
  | [d1, d2, d3] => { results := [.lit (.bool false)], args := [d1, d2, d3] }
  | _ => none }
def FnExactZeroRepWrongFalsely : Prop := fnExactZeroRepRow.holds Try.pinned (OpenSpec.ofChange fnExactZeroRepWrong)

/-- 'laws.FnExactIsInvertible': WHATEVER THE INPUT: true; the input reads as it did. -/
def fnExactIsInvertibleSpec : ChangeSpec := { name := "fnExactIsInvertible", fn := fun _ => fun
  | [d1, d2] => { results := [.lit (.bool true)], args := [d1, d2] }
  | _ => none }
def fnExactIsInvertibleRow : OpenClaim := { program := "ytbpgnnejlablnaa", sum := "861d516921b5afbef3b59c887c1849a4ae0ee9088721a5d7b111111522916566", func := "loop.example/g03404/laws.FnExactIsInvertible", spec := "fnExactIsInvertible", unfollowed := true, recurses := true, apart := false }
def FnExactIsInvertibleSaid : Prop := fnExactIsInvertibleRow.holds Try.pinned (OpenSpec.ofChange fnExactIsInvertibleSpec)

/-- ITS FALSE NEIGHBOUR: 'it returns false'. Refute it at one input. -/
def fnExactIsInvertibleWrong : ChangeSpec := { name := "fnExactIsInvertible", fn := fun _ => fun
  | [d1, d2] => { results := [.lit (.bool false)], args := [d1, d2] }
  | _ => none }
def FnExactIsInvertibleWrongFalsely : Prop := fnExactIsInvertibleRow.holds Try.pinned (OpenSpec.ofChange fnExactIsInvertibleWrong)

/-- 'laws.FnExactImageBasis': WHATEVER THE INPUT: true; the input reads as it did. -/
def fnExactImageBasisSpec : ChangeSpec := { name := "fnExactImageBasis", fn := fun _ => fun
  | [d1, d2] => { results := [.lit (.bool true)], args := [d1, d2] }
  | _ => none }
def fnExactImageBasisRow : OpenClaim := { program := "ytbpgnnejlablnaa", sum := "861d516921b5afbef3b59c887c1849a4ae0ee9088721a5d7b111111522916566", func := "loop.example/g03404/laws.FnExactImageBasis", spec := "fnExactImageBasis", unfollowed := true, recurses := true, apart := false }
def FnExactImageBasisSaid : Prop := fnExactImageBasisRow.holds Try.pinned (OpenSpec.ofChange fnExactImageBasisSpec)

/-- ITS FALSE NEIGHBOUR: 'it returns false'. Refute it at one input. -/
def fnExactImageBasisWrong : ChangeSpec := { name := "fnExactImageBasis", fn := fun _ => fun
  | [d1, d2] => { results := [.lit (.bool false)], args := [d1, d2] }
  | _ => none }
def FnExactImageBasisWrongFalsely : Prop := fnExactImageBasisRow.holds Try.pinned (OpenSpec.ofChange fnExactImageBasisWrong)

/-- 'laws.FnExactAreMatrices': WHATEVER THE INPUT: true; the input reads as it did. -/
def fnExactAreMatricesSpec : ChangeSpec := { name := "fnExactAreMatrices", fn := fun _ => fun
  | [d1, d2, d3] => { results := [.lit (.bool true)], args := [d1, d2, d3] }
  | _ => none }
def fnExactAreMatricesRow : OpenClaim := { program := "ytbpgnnejlablnaa", sum := "861d516921b5afbef3b59c887c1849a4ae0ee9088721a5d7b111111522916566", func := "loop.example/g03404/laws.FnExactAreMatrices", spec := "fnExactAreMatrices", unfollowed := true, recurses := true, apart := false }
def FnExactAreMatricesSaid : Prop := fnExactAreMatricesRow.holds Try.pinned (OpenSpec.ofChange fnExactAreMatricesSpec)

/-- ITS FALSE NEIGHBOUR: 'it returns false'. Refute it at one input. -/
def fnExactAreMatricesWrong : ChangeSpec := { name := "fnExactAreMatrices", fn := fun _ => fun
  | [d1, d2, d3] => { results := [.lit (.bool false)], args := [d1, d2, d3] }
  | _ => none }
def FnExactAreMatricesWrongFalsely : Prop := fnExactAreMatricesRow.holds Try.pinned (OpenSpec.ofChange fnExactAreMatricesWrong)

/-- 'laws.FnExactSupportOf': WHATEVER THE INPUT: true; the input reads as it did. -/
def fnExactSupportOfSpec : ChangeSpec := { name := "fnExactSupportOf", fn := fun _ => fun
  | [d] => { results := [.lit (.bool true)], args := [d] }
  | _ => none }
def fnExactSupportOfRow : OpenClaim := { program := "ytbpgnnejlablnaa", sum := "861d516921b5afbef3b59c887c1849a4ae0ee9088721a5d7b111111522916566", func := "loop.example/g03404/laws.FnExactSupportOf", spec := "fnExactSupportOf", unfollowed := true, recurses := true, apart := false }
def FnExactSupportOfSaid : Prop := fnExactSupportOfRow.holds Try.pinned (OpenSpec.ofChange fnExactSupportOfSpec)

/-- ITS FALSE NEIGHBOUR: 'it returns false'. Refute it at one input. -/
def fnExactSupportOfWrong : ChangeSpec := { name := "fnExactSupportOf", fn := fun _ => fun
  | [d] => { results := [.lit (.bool false)], args := [d] }
  | _ => none }
def FnExactSupportOfWrongFalsely : Prop := fnExactSupportOfRow.holds Try.pinned (OpenSpec.ofChange fnExactSupportOfWrong)

/-- 'laws.FnExactSolveSystem': WHATEVER THE INPUT: true; the input reads as it did. -/
def fnExactSolveSystemSpec : ChangeSpec := { name := "fnExactSolveSystem", fn := fun _ => fun
  | [d1, d2, d3] => { results := [.lit (.bool true)], args := [d1, d2, d3] }
  | _ => none }
def fnExactSolveSystemRow : OpenClaim := { program := "ytbpgnnejlablnaa", sum := "861d516921b5afbef3b59c887c1849a4ae0ee9088721a5d7b111111522916566", func := "loop.example/g03404/laws.FnExactSolveSystem", spec := "fnExactSolveSystem", unfollowed := true, recurses := true, apart := false }
def FnExactSolveSystemSaid : Prop := fnExactSolveSystemRow.holds Try.pinned (OpenSpec.ofChange fnExactSolveSystemSpec)

/-- ITS FALSE NEIGHBOUR: 'it returns false'. Refute it at one input. -/
def fnExactSolveSystemWrong : ChangeSpec := { name := "fnExactSolveSystem", fn := fun _ => fun
  | [d1, d2, d3] => { results := [.lit (.bool false)], args := [d1, d2, d3] }
  | _ => none }
def FnExactSolveSystemWrongFalsely : Prop := fnExactSolveSystemRow.holds Try.pinned (OpenSpec.ofChange fnExactSolveSystemWrong)

/- THE SECOND FORM. 'bulk': how many values and letters a reading holds, each counted each time it is reached (what is shared counts as often as it is met; a slice's spare places count too). A statement '..UptoSaid' is the law's where the arguments, and the package variables that the reading takes, are together of bulk at most 1048576: NARROWER than '..Said'. Prove '..Said' where nothing that the law and all that it calls make is longer than what came in: it says more and counts as full. Else prove '..UptoSaid'. A law counts once. -/
mutual
def uptoBulk {H : Type} : DataW H → Nat
  | .lit (.string bytes) => bytes.length + 1
  | .lit _ => 1
  | .nil => 1
  | .ptr d => uptoBulk d + 1
  | .slice elems spare => uptoBulkAll elems + uptoBulkAll spare + 1
  | .agg parts => uptoBulkAll parts + 1
  | .iface _ d => uptoBulk d + 1
  | .map entries => uptoBulkEntries entries + 1
  | .held _ => 1
def uptoBulkAll {H : Type} : List (DataW H) → Nat
  | [] => 0
  | d :: r => uptoBulk d + uptoBulkAll r
def uptoBulkEntries {H : Type} : List (Lit × DataW H) → Nat
  | [] => 0
  | x :: r => uptoBulkEntry x + uptoBulkEntries r
def uptoBulkEntry {H : Type} : Lit × DataW H → Nat
  | (.string bytes, d) => bytes.length + uptoBulk d + 1
  | (_, d) => uptoBulk d + 1
 end
def uptoSmall : (H : Type) → List (DataW H) → Bool := fun _ ds => decide (uptoBulkAll ds ≤ 1048576)
def OpenSpec.upto (s : _root_.Go.ChangeSpec) : _root_.Go.OpenSpec := { _root_.Go.OpenSpec.ofChange s with cond := some uptoSmall }

/-- 'laws.FnExactEqualMorphisms', WHERE WHAT IT READS IS OF BULK AT MOST 1048576: true; the input reads as it did. -/
def fnExactEqualMorphismsUptoRow : OpenClaim := { program := "ytbpgnnejlablnaa", sum := "861d516921b5afbef3b59c887c1849a4ae0ee9088721a5d7b111111522916566", func := "loop.example/g03404/laws.FnExactEqualMorphisms", spec := "fnExactEqualMorphisms", unfollowed := true, recurses := true, apart := false, narrowed := true }
def FnExactEqualMorphismsUptoSaid : Prop := fnExactEqualMorphismsUptoRow.holds Try.pinned (OpenSpec.upto fnExactEqualMorphismsSpec)

/-- 'laws.FnExactEqualSubs', WHERE WHAT IT READS IS OF BULK AT MOST 1048576: true; the input reads as it did. -/
def fnExactEqualSubsUptoRow : OpenClaim := { program := "ytbpgnnejlablnaa", sum := "861d516921b5afbef3b59c887c1849a4ae0ee9088721a5d7b111111522916566", func := "loop.example/g03404/laws.FnExactEqualSubs", spec := "fnExactEqualSubs", unfollowed := true, recurses := true, apart := false, narrowed := true }
def FnExactEqualSubsUptoSaid : Prop := fnExactEqualSubsUptoRow.holds Try.pinned (OpenSpec.upto fnExactEqualSubsSpec)

/-- 'laws.FnExactRankOf', WHERE WHAT IT READS IS OF BULK AT MOST 1048576: true; the input reads as it did. -/
def fnExactRankOfUptoRow : OpenClaim := { program := "ytbpgnnejlablnaa", sum := "861d516921b5afbef3b59c887c1849a4ae0ee9088721a5d7b111111522916566", func := "loop.example/g03404/laws.FnExactRankOf", spec := "fnExactRankOf", unfollowed := true, recurses := true, apart := false, narrowed := true }
def FnExactRankOfUptoSaid : Prop := fnExactRankOfUptoRow.holds Try.pinned (OpenSpec.upto fnExactRankOfSpec)

/-- 'laws.FnExactIsRep', WHERE WHAT IT READS IS OF BULK AT MOST 1048576: true; the input reads as it did. -/
def fnExactIsRepUptoRow : OpenClaim := { program := "ytbpgnnejlablnaa", sum := "861d516921b5afbef3b59c887c1849a4ae0ee9088721a5d7b111111522916566", func := "loop.example/g03404/laws.FnExactIsRep", spec := "fnExactIsRep", unfollowed := true, recurses := true, apart := false, narrowed := true }
def FnExactIsRepUptoSaid : Prop := fnExactIsRepUptoRow.holds Try.pinned (OpenSpec.upto fnExactIsRepSpec)

/-- 'laws.FnExactRowReduce', WHERE WHAT IT READS IS OF BULK AT MOST 1048576: true; the input reads as it did. -/
def fnExactRowReduceUptoRow : OpenClaim := { program := "ytbpgnnejlablnaa", sum := "861d516921b5afbef3b59c887c1849a4ae0ee9088721a5d7b111111522916566", func := "loop.example/g03404/laws.FnExactRowReduce", spec := "fnExactRowReduce", unfollowed := true, recurses := true, apart := false, narrowed := true }
def FnExactRowReduceUptoSaid : Prop := fnExactRowReduceUptoRow.holds Try.pinned (OpenSpec.upto fnExactRowReduceSpec)

/-- 'laws.FnExactTotalOf', WHERE WHAT IT READS IS OF BULK AT MOST 1048576: true; the input reads as it did. -/
def fnExactTotalOfUptoRow : OpenClaim := { program := "ytbpgnnejlablnaa", sum := "861d516921b5afbef3b59c887c1849a4ae0ee9088721a5d7b111111522916566", func := "loop.example/g03404/laws.FnExactTotalOf", spec := "fnExactTotalOf", unfollowed := true, recurses := true, apart := false, narrowed := true }
def FnExactTotalOfUptoSaid : Prop := fnExactTotalOfUptoRow.holds Try.pinned (OpenSpec.upto fnExactTotalOfSpec)

/-- 'laws.FnExactZeroRep', WHERE WHAT IT READS IS OF BULK AT MOST 1048576: true; the input reads as it did. -/
def fnExactZeroRepUptoRow : OpenClaim := { program := "ytbpgnnejlablnaa", sum := "861d516921b5afbef3b59c887c1849a4ae0ee9088721a5d7b111111522916566", func := "loop.example/g03404/laws.FnExactZeroRep", spec := "fnExactZeroRep", unfollowed := true, recurses := true, apart := false, narrowed := true }
def FnExactZeroRepUptoSaid : Prop := fnExactZeroRepUptoRow.holds Try.pinned (OpenSpec.upto fnExactZeroRepSpec)

/-- 'laws.FnExactIsInvertible', WHERE WHAT IT READS IS OF BULK AT MOST 1048576: true; the input reads as it did. -/
def fnExactIsInvertibleUptoRow : OpenClaim := { program := "ytbpgnnejlablnaa", sum := "861d516921b5afbef3b59c887c1849a4ae0ee9088721a5d7b111111522916566", func := "loop.example/g03404/laws.FnExactIsInvertible", spec := "fnExactIsInvertible", unfollowed := true, recurses := true, apart := false, narrowed := true }
def FnExactIsInvertibleUptoSaid : Prop := fnExactIsInvertibleUptoRow.holds Try.pinned (OpenSpec.upto fnExactIsInvertibleSpec)

/-- 'laws.FnExactImageBasis', WHERE WHAT IT READS IS OF BULK AT MOST 1048576: true; the input reads as it did. -/
def fnExactImageBasisUptoRow : OpenClaim := { program := "ytbpgnnejlablnaa", sum := "861d516921b5afbef3b59c887c1849a4ae0ee9088721a5d7b111111522916566", func := "loop.example/g03404/laws.FnExactImageBasis", spec := "fnExactImageBasis", unfollowed := true, recurses := true, apart := false, narrowed := true }
def FnExactImageBasisUptoSaid : Prop := fnExactImageBasisUptoRow.holds Try.pinned (OpenSpec.upto fnExactImageBasisSpec)

/-- 'laws.FnExactAreMatrices', WHERE WHAT IT READS IS OF BULK AT MOST 1048576: true; the input reads as it did. -/
def fnExactAreMatricesUptoRow : OpenClaim := { program := "ytbpgnnejlablnaa", sum := "861d516921b5afbef3b59c887c1849a4ae0ee9088721a5d7b111111522916566", func := "loop.example/g03404/laws.FnExactAreMatrices", spec := "fnExactAreMatrices", unfollowed := true, recurses := true, apart := false, narrowed := true }
def FnExactAreMatricesUptoSaid : Prop := fnExactAreMatricesUptoRow.holds Try.pinned (OpenSpec.upto fnExactAreMatricesSpec)

/-- 'laws.FnExactSupportOf', WHERE WHAT IT READS IS OF BULK AT MOST 1048576: true; the input reads as it did. -/
def fnExactSupportOfUptoRow : OpenClaim := { program := "ytbpgnnejlablnaa", sum := "861d516921b5afbef3b59c887c1849a4ae0ee9088721a5d7b111111522916566", func := "loop.example/g03404/laws.FnExactSupportOf", spec := "fnExactSupportOf", unfollowed := true, recurses := true, apart := false, narrowed := true }
def FnExactSupportOfUptoSaid : Prop := fnExactSupportOfUptoRow.holds Try.pinned (OpenSpec.upto fnExactSupportOfSpec)

/-- 'laws.FnExactSolveSystem', WHERE WHAT IT READS IS OF BULK AT MOST 1048576: true; the input reads as it did. -/
def fnExactSolveSystemUptoRow : OpenClaim := { program := "ytbpgnnejlablnaa", sum := "861d516921b5afbef3b59c887c1849a4ae0ee9088721a5d7b111111522916566", func := "loop.example/g03404/laws.FnExactSolveSystem", spec := "fnExactSolveSystem", unfollowed := true, recurses := true, apart := false, narrowed := true }
def FnExactSolveSystemUptoSaid : Prop := fnExactSolveSystemUptoRow.holds Try.pinned (OpenSpec.upto fnExactSolveSystemSpec)

end Rows
end Go.Proofs.Ytbpgnnejlablnaa
