/-
  DERIVED. GIVEN WITH THE SEED: THE CARDS: each row of YtljgmmmgnfgbhaaDoorRows.lean that lists a variable, with what it lists TIED to the program's text (the seventh form; the later family's looks); each row that meets fmt, with fmt's text TOLD by the authors' own Lean function (tested against real Go, not proved from fmt's source: count such statements apart). THE CARD IS WHAT COUNTS. Prove the row's statement (the work); the ties are given (YtljgmmmgnfgbhaaDoorTie.lean); close each card by the builder's one call (the guide's Derived/Test/ToyasCard.lean, 'card_holds'). Laid BY PROGRAM, IN A SANDBOX (cutbox-door.mjs). By AI agents, Wed Nov 11 2026. No macro, syntax, notation, axiom, sorry.
-/
import Derived.Test.YtljgmmmgnfgbhaaDoorRows
import GoSem.ClaimSeven
namespace Go.Proofs.YtljgmmmgnfgbhaaDoor
namespace Rows

/-- THE TIED CARD OF 'laws.FnExactFormatRep'. -/
def fnExactFormatRepCard : Claim7 := { stood := { row := fnExactFormatRepRow, standIns := [], harness := (true, "ff80f7b88ad404c972b29478f1d8eb088e5d27ea8bbee8f052021c3cdd4e11ab"), looks := false }, kinds := [], alts := [], laidByText := true, laidKinds := [.data, .data, .data], laidTests := true, laidLooks := .later }
def FnExactFormatRepCardSaid : Prop := Claim7.holds Tryd.pinned (.plain (OpenSpec.ofChange fnExactFormatRepSpec)) fnExactFormatRepCard

/-- THE SECOND FORM's CARD OF 'laws.FnExactFormatRep'. -/
def fnExactFormatRepUptoCard : Claim7 := { stood := { row := fnExactFormatRepUptoRow, standIns := [], harness := (true, "ff80f7b88ad404c972b29478f1d8eb088e5d27ea8bbee8f052021c3cdd4e11ab"), looks := false }, kinds := [], alts := [], laidByText := true, laidKinds := [.data, .data, .data], laidTests := true, laidLooks := .later }
def FnExactFormatRepUptoCardSaid : Prop := Claim7.holds Tryd.pinned (.plain (OpenSpec.upto fnExactFormatRepSpec)) fnExactFormatRepUptoCard
end Rows
end Go.Proofs.YtljgmmmgnfgbhaaDoor
