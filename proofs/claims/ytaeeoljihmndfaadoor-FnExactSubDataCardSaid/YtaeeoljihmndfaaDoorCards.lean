/-
  DERIVED. GIVEN WITH THE SEED: THE CARDS: each row of YtaeeoljihmndfaaDoorRows.lean that lists a variable, with what it lists TIED to the program's text (the seventh form; the later family's looks); each row that meets fmt, with fmt's text TOLD by the authors' own Lean function (tested against real Go, not proved from fmt's source: count such statements apart). THE CARD IS WHAT COUNTS. Prove the row's statement (the work); the ties are given (YtaeeoljihmndfaaDoorTie.lean); close each card by the builder's one call (the guide's Derived/Test/ToyasCard.lean, 'card_holds'). Laid BY PROGRAM, IN A SANDBOX (cutbox-door.mjs). By AI agents, Wed Nov 11 2026. No macro, syntax, notation, axiom, sorry.
-/
import Derived.Test.YtaeeoljihmndfaaDoorRows
import GoSem.ClaimSeven
namespace Go.Proofs.YtaeeoljihmndfaaDoor
namespace Rows

/-- THE TIED CARD OF 'laws.FnExactSiteFault'. -/
def fnExactSiteFaultCard : Claim7 := { stood := { row := fnExactSiteFaultRow, standIns := [], harness := (true, "be8e81d7edd80bf542507c6994e3d1b989b90527357b39d15c2618d54945dd82"), looks := false }, kinds := [], alts := [], laidByText := true, laidKinds := [.data, .pinned], laidTests := true, laidLooks := .later }
def FnExactSiteFaultCardSaid : Prop := Claim7.holds Tryd.pinned (.plain (OpenSpec.ofChange fnExactSiteFaultSpec)) fnExactSiteFaultCard

/-- THE TIED CARD OF 'laws.FnExactPartsOf'. -/
def fnExactPartsOfCard : Claim7 := { stood := { row := fnExactPartsOfRow, standIns := [], harness := (true, "be8e81d7edd80bf542507c6994e3d1b989b90527357b39d15c2618d54945dd82"), looks := false }, kinds := [], alts := [], laidByText := true, laidKinds := [.data, .pinned], laidTests := true, laidLooks := .later }
def FnExactPartsOfCardSaid : Prop := Claim7.holds Tryd.pinned (.plain (OpenSpec.ofChange fnExactPartsOfSpec)) fnExactPartsOfCard

/-- THE TIED CARD OF 'laws.FnExactSubData'. -/
def fnExactSubDataCard : Claim7 := { stood := { row := fnExactSubDataRow, standIns := [], harness := (true, "be8e81d7edd80bf542507c6994e3d1b989b90527357b39d15c2618d54945dd82"), looks := false }, kinds := [], alts := [], laidByText := true, laidKinds := [.data, .pinned], laidTests := true, laidLooks := .later }
def FnExactSubDataCardSaid : Prop := Claim7.holds Tryd.pinned (.plain (OpenSpec.ofChange fnExactSubDataSpec)) fnExactSubDataCard

/-- THE TIED CARD OF 'laws.FnExactListFrom'. -/
def fnExactListFromCard : Claim7 := { stood := { row := fnExactListFromRow, standIns := [], harness := (true, "be8e81d7edd80bf542507c6994e3d1b989b90527357b39d15c2618d54945dd82"), looks := false }, kinds := [], alts := [], laidByText := true, laidKinds := [.data, .pinned], laidTests := true, laidLooks := .later }
def FnExactListFromCardSaid : Prop := Claim7.holds Tryd.pinned (.plain (OpenSpec.ofChange fnExactListFromSpec)) fnExactListFromCard

/-- THE TIED CARD OF 'laws.FnExactConsTo'. -/
def fnExactConsToCard : Claim7 := { stood := { row := fnExactConsToRow, standIns := [], harness := (true, "be8e81d7edd80bf542507c6994e3d1b989b90527357b39d15c2618d54945dd82"), looks := false }, kinds := [], alts := [], laidByText := true, laidKinds := [.data, .pinned], laidTests := true, laidLooks := .later }
def FnExactConsToCardSaid : Prop := Claim7.holds Tryd.pinned (.plain (OpenSpec.ofChange fnExactConsToSpec)) fnExactConsToCard

/-- THE TIED CARD OF 'laws.FnExactFetchSite'. -/
def fnExactFetchSiteCard : Claim7 := { stood := { row := fnExactFetchSiteRow, standIns := [], harness := (true, "be8e81d7edd80bf542507c6994e3d1b989b90527357b39d15c2618d54945dd82"), looks := false }, kinds := [], alts := [], laidByText := true, laidKinds := [.data, .pinned], laidTests := true, laidLooks := .later }
def FnExactFetchSiteCardSaid : Prop := Claim7.holds Tryd.pinned (.plain (OpenSpec.ofChange fnExactFetchSiteSpec)) fnExactFetchSiteCard

/-- THE SECOND FORM's CARD OF 'laws.FnExactSiteFault'. -/
def fnExactSiteFaultUptoCard : Claim7 := { stood := { row := fnExactSiteFaultUptoRow, standIns := [], harness := (true, "be8e81d7edd80bf542507c6994e3d1b989b90527357b39d15c2618d54945dd82"), looks := false }, kinds := [], alts := [], laidByText := true, laidKinds := [.data, .pinned], laidTests := true, laidLooks := .later }
def FnExactSiteFaultUptoCardSaid : Prop := Claim7.holds Tryd.pinned (.plain (OpenSpec.upto fnExactSiteFaultSpec)) fnExactSiteFaultUptoCard

/-- THE SECOND FORM's CARD OF 'laws.FnExactPartsOf'. -/
def fnExactPartsOfUptoCard : Claim7 := { stood := { row := fnExactPartsOfUptoRow, standIns := [], harness := (true, "be8e81d7edd80bf542507c6994e3d1b989b90527357b39d15c2618d54945dd82"), looks := false }, kinds := [], alts := [], laidByText := true, laidKinds := [.data, .pinned], laidTests := true, laidLooks := .later }
def FnExactPartsOfUptoCardSaid : Prop := Claim7.holds Tryd.pinned (.plain (OpenSpec.upto fnExactPartsOfSpec)) fnExactPartsOfUptoCard

/-- THE SECOND FORM's CARD OF 'laws.FnExactSubData'. -/
def fnExactSubDataUptoCard : Claim7 := { stood := { row := fnExactSubDataUptoRow, standIns := [], harness := (true, "be8e81d7edd80bf542507c6994e3d1b989b90527357b39d15c2618d54945dd82"), looks := false }, kinds := [], alts := [], laidByText := true, laidKinds := [.data, .pinned], laidTests := true, laidLooks := .later }
def FnExactSubDataUptoCardSaid : Prop := Claim7.holds Tryd.pinned (.plain (OpenSpec.upto fnExactSubDataSpec)) fnExactSubDataUptoCard

/-- THE SECOND FORM's CARD OF 'laws.FnExactListFrom'. -/
def fnExactListFromUptoCard : Claim7 := { stood := { row := fnExactListFromUptoRow, standIns := [], harness := (true, "be8e81d7edd80bf542507c6994e3d1b989b90527357b39d15c2618d54945dd82"), looks := false }, kinds := [], alts := [], laidByText := true, laidKinds := [.data, .pinned], laidTests := true, laidLooks := .later }
def FnExactListFromUptoCardSaid : Prop := Claim7.holds Tryd.pinned (.plain (OpenSpec.upto fnExactListFromSpec)) fnExactListFromUptoCard

/-- THE SECOND FORM's CARD OF 'laws.FnExactConsTo'. -/
def fnExactConsToUptoCard : Claim7 := { stood := { row := fnExactConsToUptoRow, standIns := [], harness := (true, "be8e81d7edd80bf542507c6994e3d1b989b90527357b39d15c2618d54945dd82"), looks := false }, kinds := [], alts := [], laidByText := true, laidKinds := [.data, .pinned], laidTests := true, laidLooks := .later }
def FnExactConsToUptoCardSaid : Prop := Claim7.holds Tryd.pinned (.plain (OpenSpec.upto fnExactConsToSpec)) fnExactConsToUptoCard

/-- THE SECOND FORM's CARD OF 'laws.FnExactFetchSite'. -/
def fnExactFetchSiteUptoCard : Claim7 := { stood := { row := fnExactFetchSiteUptoRow, standIns := [], harness := (true, "be8e81d7edd80bf542507c6994e3d1b989b90527357b39d15c2618d54945dd82"), looks := false }, kinds := [], alts := [], laidByText := true, laidKinds := [.data, .pinned], laidTests := true, laidLooks := .later }
def FnExactFetchSiteUptoCardSaid : Prop := Claim7.holds Tryd.pinned (.plain (OpenSpec.upto fnExactFetchSiteSpec)) fnExactFetchSiteUptoCard
end Rows
end Go.Proofs.YtaeeoljihmndfaaDoor
