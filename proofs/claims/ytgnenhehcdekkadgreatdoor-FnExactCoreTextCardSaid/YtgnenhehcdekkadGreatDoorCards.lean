/-
  DERIVED. GIVEN WITH THE SEED: THE CARDS: each row of YtgnenhehcdekkadGreatDoorRows.lean that lists a variable, with what it lists TIED to the program's text (the seventh form; the later family's looks); each row that meets fmt, with fmt's text TOLD by the authors' own Lean function (tested against real Go, not proved from fmt's source: count such statements apart). THE CARD IS WHAT COUNTS. Prove the row's statement (the work); the ties are given (YtgnenhehcdekkadGreatDoorTie.lean); close each card by the builder's one call (the guide's Derived/Test/ToyasCard.lean, 'card_holds'). Laid BY PROGRAM, IN A SANDBOX (cutbox-door.mjs). By AI agents, Wed Nov 11 2026. No macro, syntax, notation, axiom, sorry.
-/
import Derived.Test.YtgnenhehcdekkadGreatDoorRows
import GoSem.ClaimSeven
namespace Go.Proofs.YtgnenhehcdekkadGreatDoor
namespace Rows

/-- THE TIED CARD OF 'laws.FnExactCoreText'. -/
def fnExactCoreTextCard : Claim7 := { stood := { row := fnExactCoreTextRow, standIns := [], harness := (true, "f442d91666eeb099f9e65a9af2465804c329fe132fa6aa904912c339d31ea46a"), looks := false }, kinds := [], alts := [], laidByText := true, laidKinds := [.data, .data, .data, .data, .pinned], laidTests := true, laidLooks := .later }
def FnExactCoreTextCardSaid : Prop := Claim7.holds Tryz.pinned (.plain (OpenSpec.ofChange fnExactCoreTextSpec)) fnExactCoreTextCard

/-- THE SECOND FORM's CARD OF 'laws.FnExactCoreText'. -/
def fnExactCoreTextUptoCard : Claim7 := { stood := { row := fnExactCoreTextUptoRow, standIns := [], harness := (true, "f442d91666eeb099f9e65a9af2465804c329fe132fa6aa904912c339d31ea46a"), looks := false }, kinds := [], alts := [], laidByText := true, laidKinds := [.data, .data, .data, .data, .pinned], laidTests := true, laidLooks := .later }
def FnExactCoreTextUptoCardSaid : Prop := Claim7.holds Tryz.pinned (.plain (OpenSpec.upto fnExactCoreTextSpec)) fnExactCoreTextUptoCard
end Rows
end Go.Proofs.YtgnenhehcdekkadGreatDoor
