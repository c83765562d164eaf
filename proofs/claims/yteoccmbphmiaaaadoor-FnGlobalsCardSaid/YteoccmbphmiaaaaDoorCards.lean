/-
  DERIVED. GIVEN WITH THE SEED: THE CARDS: each row of YteoccmbphmiaaaaDoorRows.lean that lists a variable, with what it lists TIED to the program's text (the seventh form; the later family's looks); each row that meets fmt, with fmt's text TOLD by the authors' own Lean function (tested against real Go, not proved from fmt's source: count such statements apart). THE CARD IS WHAT COUNTS. Prove the row's statement (the work); the ties are given (YteoccmbphmiaaaaDoorTie.lean); close each card by the builder's one call (the guide's Derived/Test/ToyasCard.lean, 'card_holds'). Laid BY PROGRAM, IN A SANDBOX (cutbox-door.mjs). By AI agents, Wed Nov 11 2026. No macro, syntax, notation, axiom, sorry.
-/
import Derived.Test.YteoccmbphmiaaaaDoorRows
import GoSem.ClaimSeven
namespace Go.Proofs.YteoccmbphmiaaaaDoor
namespace Rows

/-- THE TIED CARD OF 'laws.FnGlobals'. -/
def fnGlobalsCard : Claim7 := { stood := { row := fnGlobalsRow, standIns := [], harness := (true, "d9c48588c5d933076bdc7e27a433018fa8b90ab54b487a4f720175f0827bd552"), looks := false }, kinds := [], alts := [], laidByText := true, laidKinds := [.data, .pinned], laidTests := true, laidLooks := .later }
def FnGlobalsCardSaid : Prop := Claim7.holds Tryd.pinned (.plain (OpenSpec.ofChange fnGlobalsSpec)) fnGlobalsCard

/-- THE SECOND FORM's CARD OF 'laws.FnGlobals'. -/
def fnGlobalsUptoCard : Claim7 := { stood := { row := fnGlobalsUptoRow, standIns := [], harness := (true, "d9c48588c5d933076bdc7e27a433018fa8b90ab54b487a4f720175f0827bd552"), looks := false }, kinds := [], alts := [], laidByText := true, laidKinds := [.data, .pinned], laidTests := true, laidLooks := .later }
def FnGlobalsUptoCardSaid : Prop := Claim7.holds Tryd.pinned (.plain (OpenSpec.upto fnGlobalsSpec)) fnGlobalsUptoCard
end Rows
end Go.Proofs.YteoccmbphmiaaaaDoor
