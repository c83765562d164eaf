/-
  DERIVED. GIVEN WITH THE SEED: THE CARDS: each row of YtcliaceiijaafaaDoorRows.lean that lists a variable, with what it lists TIED to the program's text (the seventh form; the later family's looks); each row that meets fmt, with fmt's text TOLD by the authors' own Lean function (tested against real Go, not proved from fmt's source: count such statements apart). THE CARD IS WHAT COUNTS. Prove the row's statement (the work); the ties are given (YtcliaceiijaafaaDoorTie.lean); close each card by the builder's one call (the guide's Derived/Test/ToyasCard.lean, 'card_holds'). Laid BY PROGRAM, IN A SANDBOX (cutbox-door.mjs). By AI agents, Wed Nov 11 2026. No macro, syntax, notation, axiom, sorry.
-/
import Derived.Test.YtcliaceiijaafaaDoorRows
import GoSem.ClaimSeven
namespace Go.Proofs.YtcliaceiijaafaaDoor
namespace Rows

/-- THE TIED CARD OF 'laws.FnKnown'. -/
def fnKnownCard : Claim7 := { stood := { row := fnKnownRow, standIns := [], harness := (true, "6b96011ff7b80d16bdcd29cc4776c1601739e3eb3f46f8c131c3dd33203cca55"), looks := false }, kinds := [], alts := [], laidByText := true, laidKinds := [.data, .pinned], laidTests := true, laidLooks := .later }
def FnKnownCardSaid : Prop := Claim7.holds Tryd.pinned (.plain (OpenSpec.ofChange fnKnownSpec)) fnKnownCard

/-- THE TIED CARD OF 'laws.FnGlobals'. -/
def fnGlobalsCard : Claim7 := { stood := { row := fnGlobalsRow, standIns := [], harness := (true, "6b96011ff7b80d16bdcd29cc4776c1601739e3eb3f46f8c131c3dd33203cca55"), looks := false }, kinds := [], alts := [], laidByText := true, laidKinds := [.data, .pinned], laidTests := true, laidLooks := .later }
def FnGlobalsCardSaid : Prop := Claim7.holds Tryd.pinned (.plain (OpenSpec.ofChange fnGlobalsSpec)) fnGlobalsCard

/-- THE TIED CARD OF 'laws.FnSites'. -/
def fnSitesCard : Claim7 := { stood := { row := fnSitesRow, standIns := [], harness := (true, "6b96011ff7b80d16bdcd29cc4776c1601739e3eb3f46f8c131c3dd33203cca55"), looks := false }, kinds := [], alts := [], laidByText := true, laidKinds := [.data, .pinned], laidTests := true, laidLooks := .later }
def FnSitesCardSaid : Prop := Claim7.holds Tryd.pinned (.plain (OpenSpec.ofChange fnSitesSpec)) fnSitesCard

/-- THE TIED CARD OF 'laws.FnExactCoreFault'. -/
def fnExactCoreFaultCard : Claim7 := { stood := { row := fnExactCoreFaultRow, standIns := [], harness := (true, "6b96011ff7b80d16bdcd29cc4776c1601739e3eb3f46f8c131c3dd33203cca55"), looks := false }, kinds := [], alts := [], laidByText := true, laidKinds := [.data, .pinned], laidTests := true, laidLooks := .later }
def FnExactCoreFaultCardSaid : Prop := Claim7.holds Tryd.pinned (.plain (OpenSpec.ofChange fnExactCoreFaultSpec)) fnExactCoreFaultCard

/-- THE TIED CARD OF 'laws.FnExactGlobalsIn'. -/
def fnExactGlobalsInCard : Claim7 := { stood := { row := fnExactGlobalsInRow, standIns := [], harness := (true, "6b96011ff7b80d16bdcd29cc4776c1601739e3eb3f46f8c131c3dd33203cca55"), looks := false }, kinds := [], alts := [], laidByText := true, laidKinds := [.data, .pinned], laidTests := true, laidLooks := .later }
def FnExactGlobalsInCardSaid : Prop := Claim7.holds Tryd.pinned (.plain (OpenSpec.ofChange fnExactGlobalsInSpec)) fnExactGlobalsInCard

/-- THE SECOND FORM's CARD OF 'laws.FnKnown'. -/
def fnKnownUptoCard : Claim7 := { stood := { row := fnKnownUptoRow, standIns := [], harness := (true, "6b96011ff7b80d16bdcd29cc4776c1601739e3eb3f46f8c131c3dd33203cca55"), looks := false }, kinds := [], alts := [], laidByText := true, laidKinds := [.data, .pinned], laidTests := true, laidLooks := .later }
def FnKnownUptoCardSaid : Prop := Claim7.holds Tryd.pinned (.plain (OpenSpec.upto fnKnownSpec)) fnKnownUptoCard

/-- THE SECOND FORM's CARD OF 'laws.FnGlobals'. -/
def fnGlobalsUptoCard : Claim7 := { stood := { row := fnGlobalsUptoRow, standIns := [], harness := (true, "6b96011ff7b80d16bdcd29cc4776c1601739e3eb3f46f8c131c3dd33203cca55"), looks := false }, kinds := [], alts := [], laidByText := true, laidKinds := [.data, .pinned], laidTests := true, laidLooks := .later }
def FnGlobalsUptoCardSaid : Prop := Claim7.holds Tryd.pinned (.plain (OpenSpec.upto fnGlobalsSpec)) fnGlobalsUptoCard

/-- THE SECOND FORM's CARD OF 'laws.FnSites'. -/
def fnSitesUptoCard : Claim7 := { stood := { row := fnSitesUptoRow, standIns := [], harness := (true, "6b96011ff7b80d16bdcd29cc4776c1601739e3eb3f46f8c131c3dd33203cca55"), looks := false }, kinds := [], alts := [], laidByText := true, laidKinds := [.data, .pinned], laidTests := true, laidLooks := .later }
def FnSitesUptoCardSaid : Prop := Claim7.holds Tryd.pinned (.plain (OpenSpec.upto fnSitesSpec)) fnSitesUptoCard

/-- THE SECOND FORM's CARD OF 'laws.FnExactCoreFault'. -/
def fnExactCoreFaultUptoCard : Claim7 := { stood := { row := fnExactCoreFaultUptoRow, standIns := [], harness := (true, "6b96011ff7b80d16bdcd29cc4776c1601739e3eb3f46f8c131c3dd33203cca55"), looks := false }, kinds := [], alts := [], laidByText := true, laidKinds := [.data, .pinned], laidTests := true, laidLooks := .later }
def FnExactCoreFaultUptoCardSaid : Prop := Claim7.holds Tryd.pinned (.plain (OpenSpec.upto fnExactCoreFaultSpec)) fnExactCoreFaultUptoCard

/-- THE SECOND FORM's CARD OF 'laws.FnExactGlobalsIn'. -/
def fnExactGlobalsInUptoCard : Claim7 := { stood := { row := fnExactGlobalsInUptoRow, standIns := [], harness := (true, "6b96011ff7b80d16bdcd29cc4776c1601739e3eb3f46f8c131c3dd33203cca55"), looks := false }, kinds := [], alts := [], laidByText := true, laidKinds := [.data, .pinned], laidTests := true, laidLooks := .later }
def FnExactGlobalsInUptoCardSaid : Prop := Claim7.holds Tryd.pinned (.plain (OpenSpec.upto fnExactGlobalsInSpec)) fnExactGlobalsInUptoCard
end Rows
end Go.Proofs.YtcliaceiijaafaaDoor
