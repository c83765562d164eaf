/-
  DERIVED. GIVEN WITH THE SEED: THE CARDS: each row of YtolhanigjmhkgaaDoorRows.lean that lists a variable, with what it lists TIED to the program's text (the seventh form; the later family's looks); each row that meets fmt, with fmt's text TOLD by the authors' own Lean function (tested against real Go, not proved from fmt's source: count such statements apart). THE CARD IS WHAT COUNTS. Prove the row's statement (the work); the ties are given (YtolhanigjmhkgaaDoorTie.lean); close each card by the builder's one call (the guide's Derived/Test/ToyasCard.lean, 'card_holds'). Laid BY PROGRAM, IN A SANDBOX (cutbox-door.mjs). By AI agents, Wed Nov 11 2026. No macro, syntax, notation, axiom, sorry.
-/
import Derived.Test.YtolhanigjmhkgaaDoorRows
import GoSem.ClaimSeven
namespace Go.Proofs.YtolhanigjmhkgaaDoor
namespace Rows

/-- THE TIED CARD OF 'laws.FnSites'. -/
def fnSitesCard : Claim7 := { stood := { row := fnSitesRow, standIns := [], harness := (true, "13d940f407a064526f9d4017132d275454a06a2e97027de2b7b6092cc348e70d"), looks := false }, kinds := [], alts := [], laidByText := true, laidKinds := [.data, .pinned], laidTests := true, laidLooks := .later }
def FnSitesCardSaid : Prop := Claim7.holds Tryd.pinned (.plain (OpenSpec.ofChange fnSitesSpec)) fnSitesCard

/-- THE SECOND FORM's CARD OF 'laws.FnSites'. -/
def fnSitesUptoCard : Claim7 := { stood := { row := fnSitesUptoRow, standIns := [], harness := (true, "13d940f407a064526f9d4017132d275454a06a2e97027de2b7b6092cc348e70d"), looks := false }, kinds := [], alts := [], laidByText := true, laidKinds := [.data, .pinned], laidTests := true, laidLooks := .later }
def FnSitesUptoCardSaid : Prop := Claim7.holds Tryd.pinned (.plain (OpenSpec.upto fnSitesSpec)) fnSitesUptoCard
end Rows
end Go.Proofs.YtolhanigjmhkgaaDoor
