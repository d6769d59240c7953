/-
  No cell of these rows narrows 'for every input' (looked for: loops, veiled, ifaces, maps, wideKeys, modest, calm, conditions, laid).
  DERIVED. THE GIVEN ROWS OF THIS SEAT. 11 by the template 'for every input the law returns true; each argument reads behind the call as it read before'; 0 by the template 'total and deterministic' (their statements: YtfhgpkdhhclpbaaTotals.lean).
  GIVEN WITH THE SEED: the statements are not yours to turn. If you find one false, say at which input.
  Laid BY PROGRAM, IN A SANDBOX (cutbox-rows.mjs): the forced cells as the released guide's own fill.sh prints them over the translation 4fb2fb8a3ffe750f… (all of the seat's roots in one cut). By AI agents, Wed Nov 11 2026. No macro, syntax, notation, axiom, sorry.
-/
import Derived.Test.YtfhgpkdhhclpbaaChecked
import GoSem.Claim
import GoSem.ClaimJoined
import GoSem.ClaimMapViews
import Derived.JoinedTies
import Derived.KernelRfl
namespace Go.Proofs.Ytfhgpkdhhclpbaa
/- THE CELL 'sum', in the pinned program and in every row, IS THE sha256 OF THE DUMP (.gsa) THAT YtfhgpkdhhclpbaaProg.lean LOADS. Nothing in Lean hashes anything: it is a label: what it is worth is what the hold of that sum in a sandbox is worth. -/
noncomputable def Try.pinned : Pinned := { name := "ytfhgpkdhhclpbaa", sum := "4fb2fb8a3ffe750f6b7a02cc54190b7e8bdf870ae46d90f83d2f5ab0aae4f0be", checked := Try.checked }
namespace Rows
def none {H : Type} : Left H := { results := [], args := [] }

/-- 'laws.FnExactInverseMorphism': WHATEVER THE INPUT: true; the input reads as it did. -/
def fnExactInverseMorphismSpec : ChangeSpec := { name := "fnExactInverseMorphism", fn := fun _ => fun
  | [d1, d2, d3] => { results := [.lit (.bool true)], args := [d1, d2, d3] }
  | _ => none }
def fnExactInverseMorphismRow : OpenClaim := { program := "ytfhgpkdhhclpbaa", sum := "4fb2fb8a3ffe750f6b7a02cc54190b7e8bdf870ae46d90f83d2f5ab0aae4f0be", func := "loop.example/g03404/laws.FnExactInverseMorphism", spec := "fnExactInverseMorphism", unfollowed := true, recurses := true, apart := false }
def FnExactInverseMorphismSaid : Prop := fnExactInverseMorphismRow.holds Try.pinned (OpenSpec.ofChange fnExactInverseMorphismSpec)

/-- ITS FALSE NEIGHBOUR: 'it returns false'. Refute it at one input. -/
def fnExactInverseMorphismWrong : ChangeSpec := { name := "fnExactInverseMorphism", fn := fun _ => fun
  | [d1, d2, d3] => { results := [.lit (.bool false)], args := [d1, d2, d3] }
  | _ => none }
def FnExactInverseMorphismWrongFalsely : Prop := fnExactInverseMorphismRow.holds Try.pinned (OpenSpec.ofChange fnExactInverseMorphismWrong)

/-- 'laws.FnExactChangeBasis': WHATEVER THE INPUT: true; the input reads as it did. -/
def fnExactChangeBasisSpec : ChangeSpec := { name := "fnExactChangeBasis", fn := fun _ => fun
  | [d1, d2] => { results := [.lit (.bool true)], args := [d1, d2] }
  | _ => none }
def fnExactChangeBasisRow : OpenClaim := { program := "ytfhgpkdhhclpbaa", sum := "4fb2fb8a3ffe750f6b7a02cc54190b7e8bdf870ae46d90f83d2f5ab0aae4f0be", func := "loop.example/g03404/laws.FnExactChangeBasis", spec := "fnExactChangeBasis", unfollowed := true, recurses := true, apart := false }
def FnExactChangeBasisSaid : Prop := fnExactChangeBasisRow.holds Try.pinned (OpenSpec.ofChange fnExactChangeBasisSpec)

/-- ITS FALSE NEIGHBOUR: 'it returns false'. Refute it at one input. -/
def fnExactChangeBasisWrong : ChangeSpec := { name := "fnExactChangeBasis", fn := fun _ => fun
  | [d1, d2] => { results := [.lit (.bool false)], args := [d1, d2] }
  | _ => none }
def FnExactChangeBasisWrongFalsely : Prop := fnExactChangeBasisRow.holds Try.pinned (OpenSpec.ofChange fnExactChangeBasisWrong)

/-- 'laws.FnExactHomDim': WHATEVER THE INPUT: true; the input reads as it did. -/
def fnExactHomDimSpec : ChangeSpec := { name := "fnExactHomDim", fn := fun _ => fun
  | [d1, d2] => { results := [.lit (.bool true)], args := [d1, d2] }
  | _ => none }
def fnExactHomDimRow : OpenClaim := { program := "ytfhgpkdhhclpbaa", sum := "4fb2fb8a3ffe750f6b7a02cc54190b7e8bdf870ae46d90f83d2f5ab0aae4f0be", func := "loop.example/g03404/laws.FnExactHomDim", spec := "fnExactHomDim", unfollowed := true, recurses := true, apart := false }
def FnExactHomDimSaid : Prop := fnExactHomDimRow.holds Try.pinned (OpenSpec.ofChange fnExactHomDimSpec)

/-- ITS FALSE NEIGHBOUR: 'it returns false'. Refute it at one input. -/
def fnExactHomDimWrong : ChangeSpec := { name := "fnExactHomDim", fn := fun _ => fun
  | [d1, d2] => { results := [.lit (.bool false)], args := [d1, d2] }
  | _ => none }
def FnExactHomDimWrongFalsely : Prop := fnExactHomDimRow.holds Try.pinned (OpenSpec.ofChange fnExactHomDimWrong)

/-- 'laws.FnExactCountMorphisms': WHATEVER THE INPUT: true; the input reads as it did. -/
def fnExactCountMorphismsSpec : ChangeSpec := { name := "fnExactCountMorphisms", fn := fun _ => fun
  | [d1, d2] => { results := [.lit (.bool true)], args := [d1, d2] }
  | _ => none }
def fnExactCountMorphismsRow : OpenClaim := { program := "ytfhgpkdhhclpbaa", sum := "4fb2fb8a3ffe750f6b7a02cc54190b7e8bdf870ae46d90f83d2f5ab0aae4f0be", func := "loop.example/g03404/laws.FnExactCountMorphisms", spec := "fnExactCountMorphisms", unfollowed := true, recurses := true, apart := false }
def FnExactCountMorphismsSaid : Prop := fnExactCountMorphismsRow.holds Try.pinned (OpenSpec.ofChange fnExactCountMorphismsSpec)

/-- ITS FALSE NEIGHBOUR: 'it returns false'. Refute it at one input. -/
def fnExactCountMorphismsWrong : ChangeSpec := { name := "fnExactCountMorphisms", fn := fun _ => fun
  | [d1, d2] => { results := [.lit (.bool false)], args := [d1, d2] }
  | _ => none }
def FnExactCountMorphismsWrongFalsely : Prop := fnExactCountMorphismsRow.holds Try.pinned (OpenSpec.ofChange fnExactCountMorphismsWrong)

/-- 'laws.FnExactFindMorphism': WHATEVER THE INPUT: true; the input reads as it did. -/
def fnExactFindMorphismSpec : ChangeSpec := { name := "fnExactFindMorphism", fn := fun _ => fun
  | [d1, d2] => { results := [.lit (.bool true)], args := [d1, d2] }
  | _ => none }
def fnExactFindMorphismRow : OpenClaim := { program := "ytfhgpkdhhclpbaa", sum := "4fb2fb8a3ffe750f6b7a02cc54190b7e8bdf870ae46d90f83d2f5ab0aae4f0be", func := "loop.example/g03404/laws.FnExactFindMorphism", spec := "fnExactFindMorphism", unfollowed := true, recurses := true, apart := false }
def FnExactFindMorphismSaid : Prop := fnExactFindMorphismRow.holds Try.pinned (OpenSpec.ofChange fnExactFindMorphismSpec)

/-- ITS FALSE NEIGHBOUR: 'it returns false'. Refute it at one input. -/
def fnExactFindMorphismWrong : ChangeSpec := { name := "fnExactFindMorphism", fn := fun _ => fun
  | [d1, d2] => { results := [.lit (.bool false)], args := [d1, d2] }
  | _ => none }
def FnExactFindMorphismWrongFalsely : Prop := fnExactFindMorphismRow.holds Try.pinned (OpenSpec.ofChange fnExactFindMorphismWrong)

/-- 'laws.FnExactMorphismNumber': WHATEVER THE INPUT: true; the input reads as it did. -/
def fnExactMorphismNumberSpec : ChangeSpec := { name := "fnExactMorphismNumber", fn := fun _ => fun
  | [d1, d2, d3] => { results := [.lit (.bool true)], args := [d1, d2, d3] }
  | _ => none }
def fnExactMorphismNumberRow : OpenClaim := { program := "ytfhgpkdhhclpbaa", sum := "4fb2fb8a3ffe750f6b7a02cc54190b7e8bdf870ae46d90f83d2f5ab0aae4f0be", func := "loop.example/g03404/laws.FnExactMorphismNumber", spec := "fnExactMorphismNumber", unfollowed := true, recurses := true, apart := false }
def FnExactMorphismNumberSaid : Prop := fnExactMorphismNumberRow.holds Try.pinned (OpenSpec.ofChange fnExactMorphismNumberSpec)

/-- ITS FALSE NEIGHBOUR: 'it returns false'. Refute it at one input. -/
def fnExactMorphismNumberWrong : ChangeSpec := { name := "fnExactMorphismNumber", fn := fun _ => fun
  | [d1, d2, d3] => { results := [.lit (.bool false)], args := [d1, d2, d3] }
  | _ => none }
def FnExactMorphismNumberWrongFalsely : Prop := fnExactMorphismNumberRow.holds Try.pinned (OpenSpec.ofChange fnExactMorphismNumberWrong)

/-- 'laws.FnExactCoordinatesOf': WHATEVER THE INPUT: true; the input reads as it did. -/
def fnExactCoordinatesOfSpec : ChangeSpec := { name := "fnExactCoordinatesOf", fn := fun _ => fun
  | [d1, d2, d3] => { results := [.lit (.bool true)], args := [d1, d2, d3] }
  | _ => none }
def fnExactCoordinatesOfRow : OpenClaim := { program := "ytfhgpkdhhclpbaa", sum := "4fb2fb8a3ffe750f6b7a02cc54190b7e8bdf870ae46d90f83d2f5ab0aae4f0be", func := "loop.example/g03404/laws.FnExactCoordinatesOf", spec := "fnExactCoordinatesOf", unfollowed := true, recurses := true, apart := false }
def FnExactCoordinatesOfSaid : Prop := fnExactCoordinatesOfRow.holds Try.pinned (OpenSpec.ofChange fnExactCoordinatesOfSpec)

/-- ITS FALSE NEIGHBOUR: 'it returns false'. Refute it at one input. -/
def fnExactCoordinatesOfWrong : ChangeSpec := { name := "fnExactCoordinatesOf", fn := fun _ => fun
  | [d1, d2, d3] => { results := [.lit (.bool false)], args := [d1, d2, d3] }
  | _ => none }
def FnExactCoordinatesOfWrongFalsely : Prop := fnExactCoordinatesOfRow.holds Try.pinned (OpenSpec.ofChange fnExactCoordinatesOfWrong)

/-- 'laws.FnExactHomBasis': WHATEVER THE INPUT: true; the input reads as it did. -/
def fnExactHomBasisSpec : ChangeSpec := { name := "fnExactHomBasis", fn := fun _ => fun
  | [d1, d2] => { results := [.lit (.bool true)], args := [d1, d2] }
  | _ => none }
def fnExactHomBasisRow : OpenClaim := { program := "ytfhgpkdhhclpbaa", sum := "4fb2fb8a3ffe750f6b7a02cc54190b7e8bdf870ae46d90f83d2f5ab0aae4f0be", func := "loop.example/g03404/laws.FnExactHomBasis", spec := "fnExactHomBasis", unfollowed := true, recurses := true, apart := false }
def FnExactHomBasisSaid : Prop := fnExactHomBasisRow.holds Try.pinned (OpenSpec.ofChange fnExactHomBasisSpec)

/-- ITS FALSE NEIGHBOUR: 'it returns false'. Refute it at one input. -/
def fnExactHomBasisWrong : ChangeSpec := { name := "fnExactHomBasis", fn := fun _ => fun
  | [d1, d2] => { results := [.lit (.bool false)], args := [d1, d2] }
  | _ => none }
def FnExactHomBasisWrongFalsely : Prop := fnExactHomBasisRow.holds Try.pinned (OpenSpec.ofChange fnExactHomBasisWrong)

/-- 'laws.FnExactCombineMorphisms': WHATEVER THE INPUT: true; the input reads as it did. -/
def fnExactCombineMorphismsSpec : ChangeSpec := { name := "fnExactCombineMorphisms", fn := fun _ => fun
  | [d1, d2, d3, d4] => { results := [.lit (.bool true)], args := [d1, d2, d3, d4] }
  | _ => none }
def fnExactCombineMorphismsRow : OpenClaim := { program := "ytfhgpkdhhclpbaa", sum := "4fb2fb8a3ffe750f6b7a02cc54190b7e8bdf870ae46d90f83d2f5ab0aae4f0be", func := "loop.example/g03404/laws.FnExactCombineMorphisms", spec := "fnExactCombineMorphisms", unfollowed := true, recurses := true, apart := false }
def FnExactCombineMorphismsSaid : Prop := fnExactCombineMorphismsRow.holds Try.pinned (OpenSpec.ofChange fnExactCombineMorphismsSpec)

/-- ITS FALSE NEIGHBOUR: 'it returns false'. Refute it at one input. -/
def fnExactCombineMorphismsWrong : ChangeSpec := { name := "fnExactCombineMorphisms", fn := fun _ => fun
  | [d1, d2, d3, d4] => { results := [.lit (.bool false)], args := [d1, d2, d3, d4] }
  | _ => none }
def FnExactCombineMorphismsWrongFalsely : Prop := fnExactCombineMorphismsRow.holds Try.pinned (OpenSpec.ofChange fnExactCombineMorphismsWrong)

/-- 'laws.FnExactSumOf': WHATEVER THE INPUT: true; the input reads as it did. -/
def fnExactSumOfSpec : ChangeSpec := { name := "fnExactSumOf", fn := fun _ => fun
  | [d] => { results := [.lit (.bool true)], args := [d] }
  | _ => none }
def fnExactSumOfRow : OpenClaim := { program := "ytfhgpkdhhclpbaa", sum := "4fb2fb8a3ffe750f6b7a02cc54190b7e8bdf870ae46d90f83d2f5ab0aae4f0be", func := "loop.example/g03404/laws.FnExactSumOf", spec := "fnExactSumOf", unfollowed := true, recurses := true, apart := false }
def FnExactSumOfSaid : Prop := fnExactSumOfRow.holds Try.pinned (OpenSpec.ofChange fnExactSumOfSpec)

/-- ITS FALSE NEIGHBOUR: 'it returns false'. Refute it at one input. -/
def fnExactSumOfWrong : ChangeSpec := { name := "fnExactSumOf", fn := fun _ => fun
  | [d] => { results := [.lit (.bool false)], args := [d] }
  | _ => none }
def FnExactSumOfWrongFalsely : Prop := fnExactSumOfRow.holds Try.pinned (OpenSpec.ofChange fnExactSumOfWrong)

/-- 'laws.FnExactPowerOfRep': WHATEVER THE INPUT: true; the input reads as it did. -/
def fnExactPowerOfRepSpec : ChangeSpec := { name := "fnExactPowerOfRep", fn := fun _ => fun
  | [d1, d2] => { results := [.lit (.bool true)], args := [d1, d2] }
  | _ => none }
def fnExactPowerOfRepRow : OpenClaim := { program := "ytfhgpkdhhclpbaa", sum := "4fb2fb8a3ffe750f6b7a02cc54190b7e8bdf870ae46d90f83d2f5ab0aae4f0be", func := "loop.example/g03404/laws.FnExactPowerOfRep", spec := "fnExactPowerOfRep", unfollowed := true, recurses := true, apart := false }
def FnExactPowerOfRepSaid : Prop := fnExactPowerOfRepRow.holds Try.pinned (OpenSpec.ofChange fnExactPowerOfRepSpec)

/-- ITS FALSE NEIGHBOUR: 'it returns false'. Refute it at one input. -/
def fnExactPowerOfRepWrong : ChangeSpec := { name := "fnExactPowerOfRep", fn := fun _ => fun
  | [d1, d2] => { results := [.lit (.bool false)], args := [d1, d2] }
  | _ => none }
def FnExactPowerOfRepWrongFalsely : Prop := fnExactPowerOfRepRow.holds Try.pinned (OpenSpec.ofChange fnExactPowerOfRepWrong)

/- THE SECOND FORM. 'bulk': how many values and letters a reading holds, each counted each time it is reached (what is shared counts as often as it is met; a slice's spare places count too). A statement '..UptoSaid' is the law's where the arguments, and the package variables that the reading takes, are together of bulk at most 1048576: NARROWER than '..Said'. Prove '..Said' where nothing that the law and all that it calls make is longer than what came in: it says more and counts as full. Else prove '..UptoSaid'. A law counts once. -/
mutual
def uptoBulk {H : Type} : DataW H → Nat
  | .lit (.string bytes) => bytes.length + 1
  | .lit _ => 1
  | .nil => 1
  | .ptr d => uptoBulk d + 1
  | .slice elems spare => uptoBulkAll elems + uptoBulkAll spare + 1
  | .agg parts => uptoBulkAll parts + 1
  | .iface _ d => uptoBulk d + 1
  | .map entries => uptoBulkEntries entries + 1
  | .held _ => 1
def uptoBulkAll {H : Type} : List (DataW H) → Nat
  | [] => 0
  | d :: r => uptoBulk d + uptoBulkAll r
def uptoBulkEntries {H : Type} : List (Lit × DataW H) → Nat
  | [] => 0
  | x :: r => uptoBulkEntry x + uptoBulkEntries r
def uptoBulkEntry {H : Type} : Lit × DataW H → Nat
  | (.string bytes, d) => bytes.length + uptoBulk d + 1
  | (_, d) => uptoBulk d + 1
 end
def uptoSmall : (H : Type) → List (DataW H) → Bool := fun _ ds => decide (uptoBulkAll ds ≤ 1048576)
def OpenSpec.upto (s : _root_.Go.ChangeSpec) : _root_.Go.OpenSpec := { _root_.Go.OpenSpec.ofChange s with cond := some uptoSmall }

/-- 'laws.FnExactInverseMorphism', WHERE WHAT IT READS IS OF BULK AT MOST 1048576: true; the input reads as it did. -/
def fnExactInverseMorphismUptoRow : OpenClaim := { program := "ytfhgpkdhhclpbaa", sum := "4fb2fb8a3ffe750f6b7a02cc54190b7e8bdf870ae46d90f83d2f5ab0aae4f0be", func := "loop.example/g03404/laws.FnExactInverseMorphism", spec := "fnExactInverseMorphism", unfollowed := true, recurses := true, apart := false, narrowed := true }
def FnExactInverseMorphismUptoSaid : Prop := fnExactInverseMorphismUptoRow.holds Try.pinned (OpenSpec.upto fnExactInverseMorphismSpec)

/-- 'laws.FnExactChangeBasis', WHERE WHAT IT READS IS OF BULK AT MOST 1048576: true; the input reads as it did. -/
def fnExactChangeBasisUptoRow : OpenClaim := { program := "ytfhgpkdhhclpbaa", sum := "4fb2fb8a3ffe750f6b7a02cc54190b7e8bdf870ae46d90f83d2f5ab0aae4f0be", func := "loop.example/g03404/laws.FnExactChangeBasis", spec := "fnExactChangeBasis", unfollowed := true, recurses := true, apart := false, narrowed := true }
def FnExactChangeBasisUptoSaid : Prop := fnExactChangeBasisUptoRow.holds Try.pinned (OpenSpec.upto fnExactChangeBasisSpec)

/-- 'laws.FnExactHomDim', WHERE WHAT IT READS IS OF BULK AT MOST 1048576: true; the input reads as it did. -/
def fnExactHomDimUptoRow : OpenClaim := { program := "ytfhgpkdhhclpbaa", sum := "4fb2fb8a3ffe750f6b7a02cc54190b7e8bdf870ae46d90f83d2f5ab0aae4f0be", func := "loop.example/g03404/laws.FnExactHomDim", spec := "fnExactHomDim", unfollowed := true, recurses := true, apart := false, narrowed := true }
def FnExactHomDimUptoSaid : Prop := fnExactHomDimUptoRow.holds Try.pinned (OpenSpec.upto fnExactHomDimSpec)

/-- 'laws.FnExactCountMorphisms', WHERE WHAT IT READS IS OF BULK AT MOST 1048576: true; the input reads as it did. -/
def fnExactCountMorphismsUptoRow : OpenClaim := { program := "ytfhgpkdhhclpbaa", sum := "4fb2fb8a3ffe750f6b7a02cc54190b7e8bdf870ae46d90f83d2f5ab0aae4f0be", func := "loop.example/g03404/laws.FnExactCountMorphisms", spec := "fnExactCountMorphisms", unfollowed := true, recurses := true, apart := false, narrowed := true }
def FnExactCountMorphismsUptoSaid : Prop := fnExactCountMorphismsUptoRow.holds Try.pinned (OpenSpec.upto fnExactCountMorphismsSpec)

/-- 'laws.FnExactFindMorphism', WHERE WHAT IT READS IS OF BULK AT MOST 1048576: true; the input reads as it did. -/
def fnExactFindMorphismUptoRow : OpenClaim := { program := "ytfhgpkdhhclpbaa", sum := "4fb2fb8a3ffe750f6b7a02cc54190b7e8bdf870ae46d90f83d2f5ab0aae4f0be", func := "loop.example/g03404/laws.FnExactFindMorphism", spec := "fnExactFindMorphism", unfollowed := true, recurses := true, apart := false, narrowed := true }
def FnExactFindMorphismUptoSaid : Prop := fnExactFindMorphismUptoRow.holds Try.pinned (OpenSpec.upto fnExactFindMorphismSpec)

/-- 'laws.FnExactMorphismNumber', WHERE WHAT IT READS IS OF BULK AT MOST 1048576: true; the input reads as it did. -/
def fnExactMorphismNumberUptoRow : OpenClaim := { program := "ytfhgpkdhhclpbaa", sum := "4fb2fb8a3ffe750f6b7a02cc54190b7e8bdf870ae46d90f83d2f5ab0aae4f0be", func := "loop.example/g03404/laws.FnExactMorphismNumber", spec := "fnExactMorphismNumber", unfollowed := true, recurses := true, apart := false, narrowed := true }
def FnExactMorphismNumberUptoSaid : Prop := fnExactMorphismNumberUptoRow.holds Try.pinned (OpenSpec.upto fnExactMorphismNumberSpec)

/-- 'laws.FnExactCoordinatesOf', WHERE WHAT IT READS IS OF BULK AT MOST 1048576: true; the input reads as it did. -/
def fnExactCoordinatesOfUptoRow : OpenClaim := { program := "ytfhgpkdhhclpbaa", sum := "4fb2fb8a3ffe750f6b7a02cc54190b7e8bdf870ae46d90f83d2f5ab0aae4f0be", func := "loop.example/g03404/laws.FnExactCoordinatesOf", spec := "fnExactCoordinatesOf", unfollowed := true, recurses := true, apart := false, narrowed := true }
def FnExactCoordinatesOfUptoSaid : Prop := fnExactCoordinatesOfUptoRow.holds Try.pinned (OpenSpec.upto fnExactCoordinatesOfSpec)

/-- 'laws.FnExactHomBasis', WHERE WHAT IT READS IS OF BULK AT MOST 1048576: true; the input reads as it did. -/
def fnExactHomBasisUptoRow : OpenClaim := { program := "ytfhgpkdhhclpbaa", sum := "4fb2fb8a3ffe750f6b7a02cc54190b7e8bdf870ae46d90f83d2f5ab0aae4f0be", func := "loop.example/g03404/laws.FnExactHomBasis", spec := "fnExactHomBasis", unfollowed := true, recurses := true, apart := false, narrowed := true }
def FnExactHomBasisUptoSaid : Prop := fnExactHomBasisUptoRow.holds Try.pinned (OpenSpec.upto fnExactHomBasisSpec)

/-- 'laws.FnExactCombineMorphisms', WHERE WHAT IT READS IS OF BULK AT MOST 1048576: true; the input reads as it did. -/
def fnExactCombineMorphismsUptoRow : OpenClaim := { program := "ytfhgpkdhhclpbaa", sum := "4fb2fb8a3ffe750f6b7a02cc54190b7e8bdf870ae46d90f83d2f5ab0aae4f0be", func := "loop.example/g03404/laws.FnExactCombineMorphisms", spec := "fnExactCombineMorphisms", unfollowed := true, recurses := true, apart := false, narrowed := true }
def FnExactCombineMorphismsUptoSaid : Prop := fnExactCombineMorphismsUptoRow.holds Try.pinned (OpenSpec.upto fnExactCombineMorphismsSpec)

/-- 'laws.FnExactSumOf', WHERE WHAT IT READS IS OF BULK AT MOST 1048576: true; the input reads as it did. -/
def fnExactSumOfUptoRow : OpenClaim := { program := "ytfhgpkdhhclpbaa", sum := "4fb2fb8a3ffe750f6b7a02cc54190b7e8bdf870ae46d90f83d2f5ab0aae4f0be", func := "loop.example/g03404/laws.FnExactSumOf", spec := "fnExactSumOf", unfollowed := true, recurses := true, apart := false, narrowed := true }
def FnExactSumOfUptoSaid : Prop := fnExactSumOfUptoRow.holds Try.pinned (OpenSpec.upto fnExactSumOfSpec)

/-- 'laws.FnExactPowerOfRep', WHERE WHAT IT READS IS OF BULK AT MOST 1048576: true; the input reads as it did. -/
def fnExactPowerOfRepUptoRow : OpenClaim := { program := "ytfhgpkdhhclpbaa", sum := "4fb2fb8a3ffe750f6b7a02cc54190b7e8bdf870ae46d90f83d2f5ab0aae4f0be", func := "loop.example/g03404/laws.FnExactPowerOfRep", spec := "fnExactPowerOfRep", unfollowed := true, recurses := true, apart := false, narrowed := true }
def FnExactPowerOfRepUptoSaid : Prop := fnExactPowerOfRepUptoRow.holds Try.pinned (OpenSpec.upto fnExactPowerOfRepSpec)

end Rows
end Go.Proofs.Ytfhgpkdhhclpbaa
