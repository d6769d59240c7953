/-
  DERIVED. GIVEN WITH THE SEED: THE CARDS: each row of YtdnhmnnccfoliaaGreatDoorRows.lean that lists a variable, with what it lists TIED to the program's text (the seventh form; the later family's looks); each row that meets fmt, with fmt's text TOLD by the authors' own Lean function (tested against real Go, not proved from fmt's source: count such statements apart). THE CARD IS WHAT COUNTS. Prove the row's statement (the work); the ties are given (YtdnhmnnccfoliaaGreatDoorTie.lean); close each card by the builder's one call (the guide's Derived/Test/ToyasCard.lean, 'card_holds'). Laid BY PROGRAM, IN A SANDBOX (cutbox-door.mjs). By AI agents, Wed Nov 11 2026. No macro, syntax, notation, axiom, sorry.
-/
import Derived.Test.YtdnhmnnccfoliaaGreatDoorRows
import GoSem.ClaimSeven
namespace Go.Proofs.YtdnhmnnccfoliaaGreatDoor
namespace Rows

/-- THE TIED CARD OF 'laws.FnExactParseRep'. -/
def fnExactParseRepCard : Claim7 := { stood := { row := fnExactParseRepRow, standIns := [], harness := (true, "087f56d0a5693e9d561eecd025ca21a5123f4825c21fa0492194b810e092d5bb"), looks := true }, kinds := [], alts := [], laidByText := true, laidKinds := [.data, .data, .data, .data, .sentinel, .sentinel, .pinned], laidTests := true, laidLooks := .later }
def FnExactParseRepCardSaid : Prop := Claim7.holds Tryz.pinned (.plain (OpenSpec.ofChange fnExactParseRepSpec)) fnExactParseRepCard

/-- THE TIED CARD OF 'laws.FnMatrices'. -/
def fnMatricesCard : Claim7 := { stood := { row := fnMatricesRow, standIns := [], harness := (true, "087f56d0a5693e9d561eecd025ca21a5123f4825c21fa0492194b810e092d5bb"), looks := true }, kinds := [], alts := [], laidByText := true, laidKinds := [.data, .data, .data, .sentinel, .sentinel], laidTests := true, laidLooks := .later }
def FnMatricesCardSaid : Prop := Claim7.holds Tryz.pinned (.plain (OpenSpec.ofChange fnMatricesSpec)) fnMatricesCard

/-- THE TIED CARD OF 'laws.FnReps'. -/
def fnRepsCard : Claim7 := { stood := { row := fnRepsRow, standIns := [], harness := (true, "087f56d0a5693e9d561eecd025ca21a5123f4825c21fa0492194b810e092d5bb"), looks := true }, kinds := [], alts := [], laidByText := true, laidKinds := [.data, .data, .data, .data, .sentinel, .sentinel, .pinned], laidTests := true, laidLooks := .later }
def FnRepsCardSaid : Prop := Claim7.holds Tryz.pinned (.plain (OpenSpec.ofChange fnRepsSpec)) fnRepsCard

/-- THE SECOND FORM's CARD OF 'laws.FnExactParseRep'. -/
def fnExactParseRepUptoCard : Claim7 := { stood := { row := fnExactParseRepUptoRow, standIns := [], harness := (true, "087f56d0a5693e9d561eecd025ca21a5123f4825c21fa0492194b810e092d5bb"), looks := true }, kinds := [], alts := [], laidByText := true, laidKinds := [.data, .data, .data, .data, .sentinel, .sentinel, .pinned], laidTests := true, laidLooks := .later }
def FnExactParseRepUptoCardSaid : Prop := Claim7.holds Tryz.pinned (.plain (OpenSpec.upto fnExactParseRepSpec)) fnExactParseRepUptoCard

/-- THE SECOND FORM's CARD OF 'laws.FnMatrices'. -/
def fnMatricesUptoCard : Claim7 := { stood := { row := fnMatricesUptoRow, standIns := [], harness := (true, "087f56d0a5693e9d561eecd025ca21a5123f4825c21fa0492194b810e092d5bb"), looks := true }, kinds := [], alts := [], laidByText := true, laidKinds := [.data, .data, .data, .sentinel, .sentinel], laidTests := true, laidLooks := .later }
def FnMatricesUptoCardSaid : Prop := Claim7.holds Tryz.pinned (.plain (OpenSpec.upto fnMatricesSpec)) fnMatricesUptoCard

/-- THE SECOND FORM's CARD OF 'laws.FnReps'. -/
def fnRepsUptoCard : Claim7 := { stood := { row := fnRepsUptoRow, standIns := [], harness := (true, "087f56d0a5693e9d561eecd025ca21a5123f4825c21fa0492194b810e092d5bb"), looks := true }, kinds := [], alts := [], laidByText := true, laidKinds := [.data, .data, .data, .data, .sentinel, .sentinel, .pinned], laidTests := true, laidLooks := .later }
def FnRepsUptoCardSaid : Prop := Claim7.holds Tryz.pinned (.plain (OpenSpec.upto fnRepsSpec)) fnRepsUptoCard
end Rows
end Go.Proofs.YtdnhmnnccfoliaaGreatDoor
