/-
  No cell of these rows narrows 'for every input' (looked for: loops, veiled, ifaces, maps, wideKeys, modest, calm, conditions, laid).
  DERIVED. THE GIVEN ROWS OF THIS SEAT. 11 by the template 'for every input the law returns true; each argument reads behind the call as it read before'; 0 by the template 'total and deterministic' (their statements: YtnmhdmkfhacdbaaTotals.lean).
  GIVEN WITH THE SEED: the statements are not yours to turn. If you find one false, say at which input.
  Laid BY PROGRAM, IN A SANDBOX (cutbox-rows.mjs): the forced cells as the released guide's own fill.sh prints them over the translation 6867fe787777a984… (all of the seat's roots in one cut). By AI agents, Wed Nov 11 2026. No macro, syntax, notation, axiom, sorry.
-/
import Derived.Test.YtnmhdmkfhacdbaaChecked
import GoSem.Claim
import GoSem.ClaimJoined
import GoSem.ClaimMapViews
import Derived.JoinedTies
import Derived.KernelRfl
namespace Go.Proofs.Ytnmhdmkfhacdbaa
/- THE CELL 'sum', in the pinned program and in every row, IS THE sha256 OF THE DUMP (.gsa) THAT YtnmhdmkfhacdbaaProg.lean LOADS. Nothing in Lean hashes anything: it is a label: what it is worth is what the hold of that sum in a sandbox is worth. -/
noncomputable def Try.pinned : Pinned := { name := "ytnmhdmkfhacdbaa", sum := "6867fe787777a984377d4a9aba4a5062b48dbed914aa6e272fc17a6e5bb733e2", checked := Try.checked }
namespace Rows
def none {H : Type} : Left H := { results := [], args := [] }

/-- 'laws.FnExactRestrictRep': WHATEVER THE INPUT: true; the input reads as it did. -/
def fnExactRestrictRepSpec : ChangeSpec := { name := "fnExactRestrictRep", fn := fun _ => fun
  | [d1, d2] => { results := [.lit (.bool true)], args := [d1, d2] }
  | _ => none }
def fnExactRestrictRepRow : OpenClaim := { program := "ytnmhdmkfhacdbaa", sum := "6867fe787777a984377d4a9aba4a5062b48dbed914aa6e272fc17a6e5bb733e2", func := "loop.example/g03404/laws.FnExactRestrictRep", spec := "fnExactRestrictRep", unfollowed := true, recurses := true, apart := false }
def FnExactRestrictRepSaid : Prop := fnExactRestrictRepRow.holds Try.pinned (OpenSpec.ofChange fnExactRestrictRepSpec)

/-- ITS FALSE NEIGHBOUR: 'it returns false'. Refute it at one input. -/
def fnExactRestrictRepWrong : ChangeSpec := { name := "fnExactRestrictRep", fn := fun _ => fun
  | [d1, d2] => { results := [.lit (.bool false)], args := [d1, d2] }
  | _ => none }
def FnExactRestrictRepWrongFalsely : Prop := fnExactRestrictRepRow.holds Try.pinned (OpenSpec.ofChange fnExactRestrictRepWrong)

/-- 'laws.FnExactDirectSum': WHATEVER THE INPUT: true; the input reads as it did. -/
def fnExactDirectSumSpec : ChangeSpec := { name := "fnExactDirectSum", fn := fun _ => fun
  | [d1, d2] => { results := [.lit (.bool true)], args := [d1, d2] }
  | _ => none }
def fnExactDirectSumRow : OpenClaim := { program := "ytnmhdmkfhacdbaa", sum := "6867fe787777a984377d4a9aba4a5062b48dbed914aa6e272fc17a6e5bb733e2", func := "loop.example/g03404/laws.FnExactDirectSum", spec := "fnExactDirectSum", unfollowed := true, recurses := true, apart := false }
def FnExactDirectSumSaid : Prop := fnExactDirectSumRow.holds Try.pinned (OpenSpec.ofChange fnExactDirectSumSpec)

/-- ITS FALSE NEIGHBOUR: 'it returns false'. Refute it at one input. -/
def fnExactDirectSumWrong : ChangeSpec := { name := "fnExactDirectSum", fn := fun _ => fun
  | [d1, d2] => { results := [.lit (.bool false)], args := [d1, d2] }
  | _ => none }
def FnExactDirectSumWrongFalsely : Prop := fnExactDirectSumRow.holds Try.pinned (OpenSpec.ofChange fnExactDirectSumWrong)

/-- 'laws.FnExactComposeMorphisms': WHATEVER THE INPUT: true; the input reads as it did. -/
def fnExactComposeMorphismsSpec : ChangeSpec := { name := "fnExactComposeMorphisms", fn := fun _ => fun
  | [d1, d2, d3, d4, d5] => { results := [.lit (.bool true)], args := [d1, d2, d3, d4, d5] }
  | _ => none }
def fnExactComposeMorphismsRow : OpenClaim := { program := "ytnmhdmkfhacdbaa", sum := "6867fe787777a984377d4a9aba4a5062b48dbed914aa6e272fc17a6e5bb733e2", func := "loop.example/g03404/laws.FnExactComposeMorphisms", spec := "fnExactComposeMorphisms", unfollowed := true, recurses := true, apart := false }
def FnExactComposeMorphismsSaid : Prop := fnExactComposeMorphismsRow.holds Try.pinned (OpenSpec.ofChange fnExactComposeMorphismsSpec)

/-- ITS FALSE NEIGHBOUR: 'it returns false'. Refute it at one input. -/
def fnExactComposeMorphismsWrong : ChangeSpec := { name := "fnExactComposeMorphisms", fn := fun _ => fun
  | [d1, d2, d3, d4, d5] => { results := [.lit (.bool false)], args := [d1, d2, d3, d4, d5] }
  | _ => none }
def FnExactComposeMorphismsWrongFalsely : Prop := fnExactComposeMorphismsRow.holds Try.pinned (OpenSpec.ofChange fnExactComposeMorphismsWrong)

/-- 'laws.FnExactIsInjective': WHATEVER THE INPUT: true; the input reads as it did. -/
def fnExactIsInjectiveSpec : ChangeSpec := { name := "fnExactIsInjective", fn := fun _ => fun
  | [d1, d2, d3] => { results := [.lit (.bool true)], args := [d1, d2, d3] }
  | _ => none }
def fnExactIsInjectiveRow : OpenClaim := { program := "ytnmhdmkfhacdbaa", sum := "6867fe787777a984377d4a9aba4a5062b48dbed914aa6e272fc17a6e5bb733e2", func := "loop.example/g03404/laws.FnExactIsInjective", spec := "fnExactIsInjective", unfollowed := true, recurses := true, apart := false }
def FnExactIsInjectiveSaid : Prop := fnExactIsInjectiveRow.holds Try.pinned (OpenSpec.ofChange fnExactIsInjectiveSpec)

/-- ITS FALSE NEIGHBOUR: 'it returns false'. Refute it at one input. -/
def fnExactIsInjectiveWrong : ChangeSpec := { name := "fnExactIsInjective", fn := fun _ => fun
  | [d1, d2, d3] => { results := [.lit (.bool false)], args := [d1, d2, d3] }
  | _ => none }
def FnExactIsInjectiveWrongFalsely : Prop := fnExactIsInjectiveRow.holds Try.pinned (OpenSpec.ofChange fnExactIsInjectiveWrong)

/-- 'laws.FnExactIsSurjective': WHATEVER THE INPUT: true; the input reads as it did. -/
def fnExactIsSurjectiveSpec : ChangeSpec := { name := "fnExactIsSurjective", fn := fun _ => fun
  | [d1, d2, d3] => { results := [.lit (.bool true)], args := [d1, d2, d3] }
  | _ => none }
def fnExactIsSurjectiveRow : OpenClaim := { program := "ytnmhdmkfhacdbaa", sum := "6867fe787777a984377d4a9aba4a5062b48dbed914aa6e272fc17a6e5bb733e2", func := "loop.example/g03404/laws.FnExactIsSurjective", spec := "fnExactIsSurjective", unfollowed := true, recurses := true, apart := false }
def FnExactIsSurjectiveSaid : Prop := fnExactIsSurjectiveRow.holds Try.pinned (OpenSpec.ofChange fnExactIsSurjectiveSpec)

/-- ITS FALSE NEIGHBOUR: 'it returns false'. Refute it at one input. -/
def fnExactIsSurjectiveWrong : ChangeSpec := { name := "fnExactIsSurjective", fn := fun _ => fun
  | [d1, d2, d3] => { results := [.lit (.bool false)], args := [d1, d2, d3] }
  | _ => none }
def FnExactIsSurjectiveWrongFalsely : Prop := fnExactIsSurjectiveRow.holds Try.pinned (OpenSpec.ofChange fnExactIsSurjectiveWrong)

/-- 'laws.FnExactIsIsomorphism': WHATEVER THE INPUT: true; the input reads as it did. -/
def fnExactIsIsomorphismSpec : ChangeSpec := { name := "fnExactIsIsomorphism", fn := fun _ => fun
  | [d1, d2, d3] => { results := [.lit (.bool true)], args := [d1, d2, d3] }
  | _ => none }
def fnExactIsIsomorphismRow : OpenClaim := { program := "ytnmhdmkfhacdbaa", sum := "6867fe787777a984377d4a9aba4a5062b48dbed914aa6e272fc17a6e5bb733e2", func := "loop.example/g03404/laws.FnExactIsIsomorphism", spec := "fnExactIsIsomorphism", unfollowed := true, recurses := true, apart := false }
def FnExactIsIsomorphismSaid : Prop := fnExactIsIsomorphismRow.holds Try.pinned (OpenSpec.ofChange fnExactIsIsomorphismSpec)

/-- ITS FALSE NEIGHBOUR: 'it returns false'. Refute it at one input. -/
def fnExactIsIsomorphismWrong : ChangeSpec := { name := "fnExactIsIsomorphism", fn := fun _ => fun
  | [d1, d2, d3] => { results := [.lit (.bool false)], args := [d1, d2, d3] }
  | _ => none }
def FnExactIsIsomorphismWrongFalsely : Prop := fnExactIsIsomorphismRow.holds Try.pinned (OpenSpec.ofChange fnExactIsIsomorphismWrong)

/-- 'laws.FnExactRankVector': WHATEVER THE INPUT: true; the input reads as it did. -/
def fnExactRankVectorSpec : ChangeSpec := { name := "fnExactRankVector", fn := fun _ => fun
  | [d1, d2, d3] => { results := [.lit (.bool true)], args := [d1, d2, d3] }
  | _ => none }
def fnExactRankVectorRow : OpenClaim := { program := "ytnmhdmkfhacdbaa", sum := "6867fe787777a984377d4a9aba4a5062b48dbed914aa6e272fc17a6e5bb733e2", func := "loop.example/g03404/laws.FnExactRankVector", spec := "fnExactRankVector", unfollowed := true, recurses := true, apart := false }
def FnExactRankVectorSaid : Prop := fnExactRankVectorRow.holds Try.pinned (OpenSpec.ofChange fnExactRankVectorSpec)

/-- ITS FALSE NEIGHBOUR: 'it returns false'. Refute it at one input. -/
def fnExactRankVectorWrong : ChangeSpec := { name := "fnExactRankVector", fn := fun _ => fun
  | [d1, d2, d3] => { results := [.lit (.bool false)], args := [d1, d2, d3] }
  | _ => none }
def FnExactRankVectorWrongFalsely : Prop := fnExactRankVectorRow.holds Try.pinned (OpenSpec.ofChange fnExactRankVectorWrong)

/-- 'laws.FnExactImageOfSpace': WHATEVER THE INPUT: true; the input reads as it did. -/
def fnExactImageOfSpaceSpec : ChangeSpec := { name := "fnExactImageOfSpace", fn := fun _ => fun
  | [d1, d2, d3] => { results := [.lit (.bool true)], args := [d1, d2, d3] }
  | _ => none }
def fnExactImageOfSpaceRow : OpenClaim := { program := "ytnmhdmkfhacdbaa", sum := "6867fe787777a984377d4a9aba4a5062b48dbed914aa6e272fc17a6e5bb733e2", func := "loop.example/g03404/laws.FnExactImageOfSpace", spec := "fnExactImageOfSpace", unfollowed := true, recurses := true, apart := false }
def FnExactImageOfSpaceSaid : Prop := fnExactImageOfSpaceRow.holds Try.pinned (OpenSpec.ofChange fnExactImageOfSpaceSpec)

/-- ITS FALSE NEIGHBOUR: 'it returns false'. Refute it at one input. -/
def fnExactImageOfSpaceWrong : ChangeSpec := { name := "fnExactImageOfSpace", fn := fun _ => fun
  | [d1, d2, d3] => { results := [.lit (.bool false)], args := [d1, d2, d3] }
  | _ => none }
def FnExactImageOfSpaceWrongFalsely : Prop := fnExactImageOfSpaceRow.holds Try.pinned (OpenSpec.ofChange fnExactImageOfSpaceWrong)

/-- 'laws.FnExactMeetSpaces': WHATEVER THE INPUT: true; the input reads as it did. -/
def fnExactMeetSpacesSpec : ChangeSpec := { name := "fnExactMeetSpaces", fn := fun _ => fun
  | [d1, d2, d3] => { results := [.lit (.bool true)], args := [d1, d2, d3] }
  | _ => none }
def fnExactMeetSpacesRow : OpenClaim := { program := "ytnmhdmkfhacdbaa", sum := "6867fe787777a984377d4a9aba4a5062b48dbed914aa6e272fc17a6e5bb733e2", func := "loop.example/g03404/laws.FnExactMeetSpaces", spec := "fnExactMeetSpaces", unfollowed := true, recurses := true, apart := false }
def FnExactMeetSpacesSaid : Prop := fnExactMeetSpacesRow.holds Try.pinned (OpenSpec.ofChange fnExactMeetSpacesSpec)

/-- ITS FALSE NEIGHBOUR: 'it returns false'. Refute it at one input. -/
def fnExactMeetSpacesWrong : ChangeSpec := { name := "fnExactMeetSpaces", fn := fun _ => fun
  | [d1, d2, d3] => { results := [.lit (.bool false)], args := [d1, d2, d3] }
  | _ => none }
def FnExactMeetSpacesWrongFalsely : Prop := fnExactMeetSpacesRow.holds Try.pinned (OpenSpec.ofChange fnExactMeetSpacesWrong)

/-- 'laws.FnExactIsSub': WHATEVER THE INPUT: true; the input reads as it did. -/
def fnExactIsSubSpec : ChangeSpec := { name := "fnExactIsSub", fn := fun _ => fun
  | [d1, d2] => { results := [.lit (.bool true)], args := [d1, d2] }
  | _ => none }
def fnExactIsSubRow : OpenClaim := { program := "ytnmhdmkfhacdbaa", sum := "6867fe787777a984377d4a9aba4a5062b48dbed914aa6e272fc17a6e5bb733e2", func := "loop.example/g03404/laws.FnExactIsSub", spec := "fnExactIsSub", unfollowed := true, recurses := true, apart := false }
def FnExactIsSubSaid : Prop := fnExactIsSubRow.holds Try.pinned (OpenSpec.ofChange fnExactIsSubSpec)

/-- ITS FALSE NEIGHBOUR: 'it returns false'. Refute it at one input. -/
def fnExactIsSubWrong : ChangeSpec := { name := "fnExactIsSub", fn := fun _ => fun
  | [d1, d2] => { results := [.lit (.bool false)], args := [d1, d2] }
  | _ => none }
def FnExactIsSubWrongFalsely : Prop := fnExactIsSubRow.holds Try.pinned (OpenSpec.ofChange fnExactIsSubWrong)

/-- 'laws.FnExactGeneratedSub': WHATEVER THE INPUT: true; the input reads as it did. -/
def fnExactGeneratedSubSpec : ChangeSpec := { name := "fnExactGeneratedSub", fn := fun _ => fun
  | [d1, d2, d3] => { results := [.lit (.bool true)], args := [d1, d2, d3] }
  | _ => none }
def fnExactGeneratedSubRow : OpenClaim := { program := "ytnmhdmkfhacdbaa", sum := "6867fe787777a984377d4a9aba4a5062b48dbed914aa6e272fc17a6e5bb733e2", func := "loop.example/g03404/laws.FnExactGeneratedSub", spec := "fnExactGeneratedSub", unfollowed := true, recurses := true, apart := false }
def FnExactGeneratedSubSaid : Prop := fnExactGeneratedSubRow.holds Try.pinned (OpenSpec.ofChange fnExactGeneratedSubSpec)

/-- ITS FALSE NEIGHBOUR: 'it returns false'. Refute it at one input. -/
def fnExactGeneratedSubWrong : ChangeSpec := { name := "fnExactGeneratedSub", fn := fun _ => fun
  | [d1, d2, d3] => { results := [.lit (.bool false)], args := [d1, d2, d3] }
  | _ => none }
def FnExactGeneratedSubWrongFalsely : Prop := fnExactGeneratedSubRow.holds Try.pinned (OpenSpec.ofChange fnExactGeneratedSubWrong)

/- THE SECOND FORM. 'bulk': how many values and letters a reading holds, each counted each time it is reached (what is shared counts as often as it is met; a slice's spare places count too). A statement '..UptoSaid' is the law's where the arguments, and the package variables that the reading takes, are together of bulk at most 1048576: NARROWER than '..Said'. Prove '..Said' where nothing that the law and all that it calls make is longer than what came in: it says more and counts as full. Else prove '..UptoSaid'. A law counts once. -/
mutual
def uptoBulk {H : Type} : DataW H → Nat
  | .lit (.string bytes) => bytes.length + 1
  | .lit _ => 1
  | .nil => 1
  | .ptr d => uptoBulk d + 1
  | .slice elems spare => uptoBulkAll elems + uptoBulkAll spare + 1
  | .agg parts => uptoBulkAll parts + 1
  | .iface _ d => uptoBulk d + 1
  | .map entries => uptoBulkEntries entries + 1
  | .held _ => 1
def uptoBulkAll {H : Type} : List (DataW H) → Nat
  | [] => 0
  | d :: r => uptoBulk d + uptoBulkAll r
def uptoBulkEntries {H : Type} : List (Lit × DataW H) → Nat
  | [] => 0
  | x :: r => uptoBulkEntry x + uptoBulkEntries r
def uptoBulkEntry {H : Type} : Lit × DataW H → Nat
  | (.string bytes, d) => bytes.length + uptoBulk d + 1
  | (_, d) => uptoBulk d + 1
 end
def uptoSmall : (H : Type) → List (DataW H) → Bool := fun _ ds => decide (uptoBulkAll ds ≤ 1048576)
def OpenSpec.upto (s : _root_.Go.ChangeSpec) : _root_.Go.OpenSpec := { _root_.Go.OpenSpec.ofChange s with cond := some uptoSmall }

/-- 'laws.FnExactRestrictRep', WHERE WHAT IT READS IS OF BULK AT MOST 1048576: true; the input reads as it did. -/
def fnExactRestrictRepUptoRow : OpenClaim := { program := "ytnmhdmkfhacdbaa", sum := "6867fe787777a984377d4a9aba4a5062b48dbed914aa6e272fc17a6e5bb733e2", func := "loop.example/g03404/laws.FnExactRestrictRep", spec := "fnExactRestrictRep", unfollowed := true, recurses := true, apart := false, narrowed := true }
def FnExactRestrictRepUptoSaid : Prop := fnExactRestrictRepUptoRow.holds Try.pinned (OpenSpec.upto fnExactRestrictRepSpec)

/-- 'laws.FnExactDirectSum', WHERE WHAT IT READS IS OF BULK AT MOST 1048576: true; the input reads as it did. -/
def fnExactDirectSumUptoRow : OpenClaim := { program := "ytnmhdmkfhacdbaa", sum := "6867fe787777a984377d4a9aba4a5062b48dbed914aa6e272fc17a6e5bb733e2", func := "loop.example/g03404/laws.FnExactDirectSum", spec := "fnExactDirectSum", unfollowed := true, recurses := true, apart := false, narrowed := true }
def FnExactDirectSumUptoSaid : Prop := fnExactDirectSumUptoRow.holds Try.pinned (OpenSpec.upto fnExactDirectSumSpec)

/-- 'laws.FnExactComposeMorphisms', WHERE WHAT IT READS IS OF BULK AT MOST 1048576: true; the input reads as it did. -/
def fnExactComposeMorphismsUptoRow : OpenClaim := { program := "ytnmhdmkfhacdbaa", sum := "6867fe787777a984377d4a9aba4a5062b48dbed914aa6e272fc17a6e5bb733e2", func := "loop.example/g03404/laws.FnExactComposeMorphisms", spec := "fnExactComposeMorphisms", unfollowed := true, recurses := true, apart := false, narrowed := true }
def FnExactComposeMorphismsUptoSaid : Prop := fnExactComposeMorphismsUptoRow.holds Try.pinned (OpenSpec.upto fnExactComposeMorphismsSpec)

/-- 'laws.FnExactIsInjective', WHERE WHAT IT READS IS OF BULK AT MOST 1048576: true; the input reads as it did. -/
def fnExactIsInjectiveUptoRow : OpenClaim := { program := "ytnmhdmkfhacdbaa", sum := "6867fe787777a984377d4a9aba4a5062b48dbed914aa6e272fc17a6e5bb733e2", func := "loop.example/g03404/laws.FnExactIsInjective", spec := "fnExactIsInjective", unfollowed := true, recurses := true, apart := false, narrowed := true }
def FnExactIsInjectiveUptoSaid : Prop := fnExactIsInjectiveUptoRow.holds Try.pinned (OpenSpec.upto fnExactIsInjectiveSpec)

/-- 'laws.FnExactIsSurjective', WHERE WHAT IT READS IS OF BULK AT MOST 1048576: true; the input reads as it did. -/
def fnExactIsSurjectiveUptoRow : OpenClaim := { program := "ytnmhdmkfhacdbaa", sum := "6867fe787777a984377d4a9aba4a5062b48dbed914aa6e272fc17a6e5bb733e2", func := "loop.example/g03404/laws.FnExactIsSurjective", spec := "fnExactIsSurjective", unfollowed := true, recurses := true, apart := false, narrowed := true }
def FnExactIsSurjectiveUptoSaid : Prop := fnExactIsSurjectiveUptoRow.holds Try.pinned (OpenSpec.upto fnExactIsSurjectiveSpec)

/-- 'laws.FnExactIsIsomorphism', WHERE WHAT IT READS IS OF BULK AT MOST 1048576: true; the input reads as it did. -/
def fnExactIsIsomorphismUptoRow : OpenClaim := { program := "ytnmhdmkfhacdbaa", sum := "6867fe787777a984377d4a9aba4a5062b48dbed914aa6e272fc17a6e5bb733e2", func := "loop.example/g03404/laws.FnExactIsIsomorphism", spec := "fnExactIsIsomorphism", unfollowed := true, recurses := true, apart := false, narrowed := true }
def FnExactIsIsomorphismUptoSaid : Prop := fnExactIsIsomorphismUptoRow.holds Try.pinned (OpenSpec.upto fnExactIsIsomorphismSpec)

/-- 'laws.FnExactRankVector', WHERE WHAT IT READS IS OF BULK AT MOST 1048576: true; the input reads as it did. -/
def fnExactRankVectorUptoRow : OpenClaim := { program := "ytnmhdmkfhacdbaa", sum := "6867fe787777a984377d4a9aba4a5062b48dbed914aa6e272fc17a6e5bb733e2", func := "loop.example/g03404/laws.FnExactRankVector", spec := "fnExactRankVector", unfollowed := true, recurses := true, apart := false, narrowed := true }
def FnExactRankVectorUptoSaid : Prop := fnExactRankVectorUptoRow.holds Try.pinned (OpenSpec.upto fnExactRankVectorSpec)

/-- 'laws.FnExactImageOfSpace', WHERE WHAT IT READS IS OF BULK AT MOST 1048576: true; the input reads as it did. -/
def fnExactImageOfSpaceUptoRow : OpenClaim := { program := "ytnmhdmkfhacdbaa", sum := "6867fe787777a984377d4a9aba4a5062b48dbed914aa6e272fc17a6e5bb733e2", func := "loop.example/g03404/laws.FnExactImageOfSpace", spec := "fnExactImageOfSpace", unfollowed := true, recurses := true, apart := false, narrowed := true }
def FnExactImageOfSpaceUptoSaid : Prop := fnExactImageOfSpaceUptoRow.holds Try.pinned (OpenSpec.upto fnExactImageOfSpaceSpec)

/-- 'laws.FnExactMeetSpaces', WHERE WHAT IT READS IS OF BULK AT MOST 1048576: true; the input reads as it did. -/
def fnExactMeetSpacesUptoRow : OpenClaim := { program := "ytnmhdmkfhacdbaa", sum := "6867fe787777a984377d4a9aba4a5062b48dbed914aa6e272fc17a6e5bb733e2", func := "loop.example/g03404/laws.FnExactMeetSpaces", spec := "fnExactMeetSpaces", unfollowed := true, recurses := true, apart := false, narrowed := true }
def FnExactMeetSpacesUptoSaid : Prop := fnExactMeetSpacesUptoRow.holds Try.pinned (OpenSpec.upto fnExactMeetSpacesSpec)

/-- 'laws.FnExactIsSub', WHERE WHAT IT READS IS OF BULK AT MOST 1048576: true; the input reads as it did. -/
def fnExactIsSubUptoRow : OpenClaim := { program := "ytnmhdmkfhacdbaa", sum := "6867fe787777a984377d4a9aba4a5062b48dbed914aa6e272fc17a6e5bb733e2", func := "loop.example/g03404/laws.FnExactIsSub", spec := "fnExactIsSub", unfollowed := true, recurses := true, apart := false, narrowed := true }
def FnExactIsSubUptoSaid : Prop := fnExactIsSubUptoRow.holds Try.pinned (OpenSpec.upto fnExactIsSubSpec)

/-- 'laws.FnExactGeneratedSub', WHERE WHAT IT READS IS OF BULK AT MOST 1048576: true; the input reads as it did. -/
def fnExactGeneratedSubUptoRow : OpenClaim := { program := "ytnmhdmkfhacdbaa", sum := "6867fe787777a984377d4a9aba4a5062b48dbed914aa6e272fc17a6e5bb733e2", func := "loop.example/g03404/laws.FnExactGeneratedSub", spec := "fnExactGeneratedSub", unfollowed := true, recurses := true, apart := false, narrowed := true }
def FnExactGeneratedSubUptoSaid : Prop := fnExactGeneratedSubUptoRow.holds Try.pinned (OpenSpec.upto fnExactGeneratedSubSpec)

end Rows
end Go.Proofs.Ytnmhdmkfhacdbaa
