/-
  DERIVED. GIVEN WITH THE SEED: THE CARDS: each row of YtolhanigjmhkgacDoorRows.lean that lists a variable, with what it lists TIED to the program's text (the seventh form; the later family's looks); each row that meets fmt, with fmt's text TOLD by the authors' own Lean function (tested against real Go, not proved from fmt's source: count such statements apart). THE CARD IS WHAT COUNTS. Prove the row's statement (the work); the ties are given (YtolhanigjmhkgacDoorTie.lean); close each card by the builder's one call (the guide's Derived/Test/ToyasCard.lean, 'card_holds'). Laid BY PROGRAM, IN A SANDBOX (cutbox-door.mjs). By AI agents, Wed Nov 11 2026. No macro, syntax, notation, axiom, sorry.
-/
import Derived.Test.YtolhanigjmhkgacDoorRows
import GoSem.ClaimSeven
namespace Go.Proofs.YtolhanigjmhkgacDoor
namespace Rows

/-- THE TIED CARD OF 'laws.FnApplies'. -/
def fnAppliesCard : Claim7 := { stood := { row := fnAppliesRow, standIns := [], harness := (true, "e1c2b92d2ed909f3205776929e8dda48626924a32be2cf164c5b66ed67e6d445"), looks := false }, kinds := [], alts := [], laidByText := true, laidKinds := [.data, .pinned], laidTests := true, laidLooks := .later }
def FnAppliesCardSaid : Prop := Claim7.holds Tryd.pinned (.plain (OpenSpec.ofChange fnAppliesSpec)) fnAppliesCard

/-- THE SECOND FORM's CARD OF 'laws.FnApplies'. -/
def fnAppliesUptoCard : Claim7 := { stood := { row := fnAppliesUptoRow, standIns := [], harness := (true, "e1c2b92d2ed909f3205776929e8dda48626924a32be2cf164c5b66ed67e6d445"), looks := false }, kinds := [], alts := [], laidByText := true, laidKinds := [.data, .pinned], laidTests := true, laidLooks := .later }
def FnAppliesUptoCardSaid : Prop := Claim7.holds Tryd.pinned (.plain (OpenSpec.upto fnAppliesSpec)) fnAppliesUptoCard
end Rows
end Go.Proofs.YtolhanigjmhkgacDoor
