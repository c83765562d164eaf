/-
  DERIVED. GIVEN WITH THE SEED: THE CARDS: each row of YtolhanigjmhkgadDoorRows.lean that lists a variable, with what it lists TIED to the program's text (the seventh form; the later family's looks); each row that meets fmt, with fmt's text TOLD by the authors' own Lean function (tested against real Go, not proved from fmt's source: count such statements apart). THE CARD IS WHAT COUNTS. Prove the row's statement (the work); the ties are given (YtolhanigjmhkgadDoorTie.lean); close each card by the builder's one call (the guide's Derived/Test/ToyasCard.lean, 'card_holds'). Laid BY PROGRAM, IN A SANDBOX (cutbox-door.mjs). By AI agents, Wed Nov 11 2026. No macro, syntax, notation, axiom, sorry.
-/
import Derived.Test.YtolhanigjmhkgadDoorRows
import GoSem.ClaimSeven
namespace Go.Proofs.YtolhanigjmhkgadDoor
namespace Rows

/-- THE TIED CARD OF 'laws.FnExactApplyPrim'. -/
def fnExactApplyPrimCard : Claim7 := { stood := { row := fnExactApplyPrimRow, standIns := [], harness := (true, "d68f7cd028483b021044af26c69bcc3c165955885f7e209286c2fed8530816e6"), looks := false }, kinds := [], alts := [], laidByText := true, laidKinds := [.data, .pinned], laidTests := true, laidLooks := .later }
def FnExactApplyPrimCardSaid : Prop := Claim7.holds Tryd.pinned (.plain (OpenSpec.ofChange fnExactApplyPrimSpec)) fnExactApplyPrimCard

/-- THE SECOND FORM's CARD OF 'laws.FnExactApplyPrim'. -/
def fnExactApplyPrimUptoCard : Claim7 := { stood := { row := fnExactApplyPrimUptoRow, standIns := [], harness := (true, "d68f7cd028483b021044af26c69bcc3c165955885f7e209286c2fed8530816e6"), looks := false }, kinds := [], alts := [], laidByText := true, laidKinds := [.data, .pinned], laidTests := true, laidLooks := .later }
def FnExactApplyPrimUptoCardSaid : Prop := Claim7.holds Tryd.pinned (.plain (OpenSpec.upto fnExactApplyPrimSpec)) fnExactApplyPrimUptoCard
end Rows
end Go.Proofs.YtolhanigjmhkgadDoor
