/-
  DERIVED. GIVEN WITH THE SEED: THE CARDS: each row of YtolhanigjmhkgabDoorRows.lean that lists a variable, with what it lists TIED to the program's text (the seventh form; the later family's looks); each row that meets fmt, with fmt's text TOLD by the authors' own Lean function (tested against real Go, not proved from fmt's source: count such statements apart). THE CARD IS WHAT COUNTS. Prove the row's statement (the work); the ties are given (YtolhanigjmhkgabDoorTie.lean); close each card by the builder's one call (the guide's Derived/Test/ToyasCard.lean, 'card_holds'). Laid BY PROGRAM, IN A SANDBOX (cutbox-door.mjs). By AI agents, Wed Nov 11 2026. No macro, syntax, notation, axiom, sorry.
-/
import Derived.Test.YtolhanigjmhkgabDoorRows
import GoSem.ClaimSeven
namespace Go.Proofs.YtolhanigjmhkgabDoor
namespace Rows

/-- THE TIED CARD OF 'laws.FnExactPutData'. -/
def fnExactPutDataCard : Claim7 := { stood := { row := fnExactPutDataRow, standIns := [], harness := (true, "f937f74dc0a1c40f596cabf652df178aec06c59971ee9e532e2af0aee5ac4d21"), looks := false }, kinds := [], alts := [], laidByText := true, laidKinds := [.data, .pinned], laidTests := true, laidLooks := .later }
def FnExactPutDataCardSaid : Prop := Claim7.holds Tryd.pinned (.plain (OpenSpec.ofChange fnExactPutDataSpec)) fnExactPutDataCard

/-- THE SECOND FORM's CARD OF 'laws.FnExactPutData'. -/
def fnExactPutDataUptoCard : Claim7 := { stood := { row := fnExactPutDataUptoRow, standIns := [], harness := (true, "f937f74dc0a1c40f596cabf652df178aec06c59971ee9e532e2af0aee5ac4d21"), looks := false }, kinds := [], alts := [], laidByText := true, laidKinds := [.data, .pinned], laidTests := true, laidLooks := .later }
def FnExactPutDataUptoCardSaid : Prop := Claim7.holds Tryd.pinned (.plain (OpenSpec.upto fnExactPutDataSpec)) fnExactPutDataUptoCard
end Rows
end Go.Proofs.YtolhanigjmhkgabDoor
