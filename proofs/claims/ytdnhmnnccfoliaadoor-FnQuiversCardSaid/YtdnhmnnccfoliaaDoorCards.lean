/-
  DERIVED. GIVEN WITH THE SEED: THE CARDS: each row of YtdnhmnnccfoliaaDoorRows.lean that lists a variable, with what it lists TIED to the program's text (the seventh form; the later family's looks); each row that meets fmt, with fmt's text TOLD by the authors' own Lean function (tested against real Go, not proved from fmt's source: count such statements apart). THE CARD IS WHAT COUNTS. Prove the row's statement (the work); the ties are given (YtdnhmnnccfoliaaDoorTie.lean); close each card by the builder's one call (the guide's Derived/Test/ToyasCard.lean, 'card_holds'). Laid BY PROGRAM, IN A SANDBOX (cutbox-door.mjs). By AI agents, Wed Nov 11 2026. No macro, syntax, notation, axiom, sorry.
-/
import Derived.Test.YtdnhmnnccfoliaaDoorRows
import GoSem.ClaimSeven
namespace Go.Proofs.YtdnhmnnccfoliaaDoor
namespace Rows

/-- THE TIED CARD OF 'laws.FnQuivers'. -/
def fnQuiversCard : Claim7 := { stood := { row := fnQuiversRow, standIns := [], harness := (true, "e153039168aab627d09f0dc6d9fcd65a3cead25eef4fba613a5221c50a4dbf0f"), looks := false }, kinds := [], alts := [], laidByText := true, laidKinds := [.data, .data, .data], laidTests := true, laidLooks := .later }
def FnQuiversCardSaid : Prop := Claim7.holds Tryd.pinned (.plain (OpenSpec.ofChange fnQuiversSpec)) fnQuiversCard

/-- THE SECOND FORM's CARD OF 'laws.FnQuivers'. -/
def fnQuiversUptoCard : Claim7 := { stood := { row := fnQuiversUptoRow, standIns := [], harness := (true, "e153039168aab627d09f0dc6d9fcd65a3cead25eef4fba613a5221c50a4dbf0f"), looks := false }, kinds := [], alts := [], laidByText := true, laidKinds := [.data, .data, .data], laidTests := true, laidLooks := .later }
def FnQuiversUptoCardSaid : Prop := Claim7.holds Tryd.pinned (.plain (OpenSpec.upto fnQuiversSpec)) fnQuiversUptoCard
end Rows
end Go.Proofs.YtdnhmnnccfoliaaDoor
