/-
  DERIVED. GIVEN WITH THE SEED: THE CARDS: each row of YtgnenhehcdekkacDoorRows.lean that lists a variable, with what it lists TIED to the program's text (the seventh form; the later family's looks); each row that meets fmt, with fmt's text TOLD by the authors' own Lean function (tested against real Go, not proved from fmt's source: count such statements apart). THE CARD IS WHAT COUNTS. Prove the row's statement (the work); the ties are given (YtgnenhehcdekkacDoorTie.lean); close each card by the builder's one call (the guide's Derived/Test/ToyasCard.lean, 'card_holds'). Laid BY PROGRAM, IN A SANDBOX (cutbox-door.mjs). By AI agents, Wed Nov 11 2026. No macro, syntax, notation, axiom, sorry.
-/
import Derived.Test.YtgnenhehcdekkacDoorRows
import GoSem.ClaimSeven
namespace Go.Proofs.YtgnenhehcdekkacDoor
namespace Rows

/-- THE TIED CARD OF 'laws.FnExactWriteData'. -/
def fnExactWriteDataCard : Claim7 := { stood := { row := fnExactWriteDataRow, standIns := [], harness := (true, "28102ed0c53d4fe31cf32f8a07745145b432af2800abf79bee1bfe5e18c0ffd8"), looks := false }, kinds := [], alts := [], laidByText := true, laidKinds := [.data, .data, .data, .data, .pinned], laidTests := true, laidLooks := .later }
def FnExactWriteDataCardSaid : Prop := Claim7.holds Tryd.pinned (.plain (OpenSpec.ofChange fnExactWriteDataSpec)) fnExactWriteDataCard

/-- THE SECOND FORM's CARD OF 'laws.FnExactWriteData'. -/
def fnExactWriteDataUptoCard : Claim7 := { stood := { row := fnExactWriteDataUptoRow, standIns := [], harness := (true, "28102ed0c53d4fe31cf32f8a07745145b432af2800abf79bee1bfe5e18c0ffd8"), looks := false }, kinds := [], alts := [], laidByText := true, laidKinds := [.data, .data, .data, .data, .pinned], laidTests := true, laidLooks := .later }
def FnExactWriteDataUptoCardSaid : Prop := Claim7.holds Tryd.pinned (.plain (OpenSpec.upto fnExactWriteDataSpec)) fnExactWriteDataUptoCard
end Rows
end Go.Proofs.YtgnenhehcdekkacDoor
