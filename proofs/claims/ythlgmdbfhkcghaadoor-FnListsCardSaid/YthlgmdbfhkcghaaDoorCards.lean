/-
  DERIVED. GIVEN WITH THE SEED: THE CARDS: each row of YthlgmdbfhkcghaaDoorRows.lean that lists a variable, with what it lists TIED to the program's text (the seventh form; the later family's looks); each row that meets fmt, with fmt's text TOLD by the authors' own Lean function (tested against real Go, not proved from fmt's source: count such statements apart). THE CARD IS WHAT COUNTS. Prove the row's statement (the work); the ties are given (YthlgmdbfhkcghaaDoorTie.lean); close each card by the builder's one call (the guide's Derived/Test/ToyasCard.lean, 'card_holds'). Laid BY PROGRAM, IN A SANDBOX (cutbox-door.mjs). By AI agents, Wed Nov 11 2026. No macro, syntax, notation, axiom, sorry.
-/
import Derived.Test.YthlgmdbfhkcghaaDoorRows
import GoSem.ClaimSeven
namespace Go.Proofs.YthlgmdbfhkcghaaDoor
namespace Rows

/-- THE TIED CARD OF 'laws.FnExactConsTo'. -/
def fnExactConsToCard : Claim7 := { stood := { row := fnExactConsToRow, standIns := [], harness := (true, "cc8f3f76d458dfbc6353f05861f0b98946d6dc8d409b426b5352623eadf37227"), looks := false }, kinds := [], alts := [], laidByText := true, laidKinds := [.data, .pinned], laidTests := true, laidLooks := .later }
def FnExactConsToCardSaid : Prop := Claim7.holds Tryd.pinned (.plain (OpenSpec.ofChange fnExactConsToSpec)) fnExactConsToCard

/-- THE TIED CARD OF 'laws.FnLists'. -/
def fnListsCard : Claim7 := { stood := { row := fnListsRow, standIns := [], harness := (true, "cc8f3f76d458dfbc6353f05861f0b98946d6dc8d409b426b5352623eadf37227"), looks := false }, kinds := [], alts := [], laidByText := true, laidKinds := [.data, .pinned], laidTests := true, laidLooks := .later }
def FnListsCardSaid : Prop := Claim7.holds Tryd.pinned (.plain (OpenSpec.ofChange fnListsSpec)) fnListsCard

/-- THE TIED CARD OF 'laws.FnExactApplyPrim'. -/
def fnExactApplyPrimCard : Claim7 := { stood := { row := fnExactApplyPrimRow, standIns := [], harness := (true, "cc8f3f76d458dfbc6353f05861f0b98946d6dc8d409b426b5352623eadf37227"), looks := false }, kinds := [], alts := [], laidByText := true, laidKinds := [.data, .pinned], laidTests := true, laidLooks := .later }
def FnExactApplyPrimCardSaid : Prop := Claim7.holds Tryd.pinned (.plain (OpenSpec.ofChange fnExactApplyPrimSpec)) fnExactApplyPrimCard

/-- THE TIED CARD OF 'laws.FnPrims'. -/
def fnPrimsCard : Claim7 := { stood := { row := fnPrimsRow, standIns := [], harness := (true, "cc8f3f76d458dfbc6353f05861f0b98946d6dc8d409b426b5352623eadf37227"), looks := false }, kinds := [], alts := [], laidByText := true, laidKinds := [.data, .pinned], laidTests := true, laidLooks := .later }
def FnPrimsCardSaid : Prop := Claim7.holds Tryd.pinned (.plain (OpenSpec.ofChange fnPrimsSpec)) fnPrimsCard

/-- THE TIED CARD OF 'laws.FnApplies'. -/
def fnAppliesCard : Claim7 := { stood := { row := fnAppliesRow, standIns := [], harness := (true, "cc8f3f76d458dfbc6353f05861f0b98946d6dc8d409b426b5352623eadf37227"), looks := false }, kinds := [], alts := [], laidByText := true, laidKinds := [.data, .pinned], laidTests := true, laidLooks := .later }
def FnAppliesCardSaid : Prop := Claim7.holds Tryd.pinned (.plain (OpenSpec.ofChange fnAppliesSpec)) fnAppliesCard

/-- THE TIED CARD OF 'laws.FnExactPutData'. -/
def fnExactPutDataCard : Claim7 := { stood := { row := fnExactPutDataRow, standIns := [], harness := (true, "cc8f3f76d458dfbc6353f05861f0b98946d6dc8d409b426b5352623eadf37227"), looks := false }, kinds := [], alts := [], laidByText := true, laidKinds := [.data, .pinned], laidTests := true, laidLooks := .later }
def FnExactPutDataCardSaid : Prop := Claim7.holds Tryd.pinned (.plain (OpenSpec.ofChange fnExactPutDataSpec)) fnExactPutDataCard

/-- THE TIED CARD OF 'laws.FnExactShowValue'. -/
def fnExactShowValueCard : Claim7 := { stood := { row := fnExactShowValueRow, standIns := [], harness := (true, "cc8f3f76d458dfbc6353f05861f0b98946d6dc8d409b426b5352623eadf37227"), looks := false }, kinds := [], alts := [], laidByText := true, laidKinds := [.data, .data, .data, .data, .pinned], laidTests := true, laidLooks := .later }
def FnExactShowValueCardSaid : Prop := Claim7.holds Tryd.pinned (.plain (OpenSpec.ofChange fnExactShowValueSpec)) fnExactShowValueCard

/-- THE SECOND FORM's CARD OF 'laws.FnExactConsTo'. -/
def fnExactConsToUptoCard : Claim7 := { stood := { row := fnExactConsToUptoRow, standIns := [], harness := (true, "cc8f3f76d458dfbc6353f05861f0b98946d6dc8d409b426b5352623eadf37227"), looks := false }, kinds := [], alts := [], laidByText := true, laidKinds := [.data, .pinned], laidTests := true, laidLooks := .later }
def FnExactConsToUptoCardSaid : Prop := Claim7.holds Tryd.pinned (.plain (OpenSpec.upto fnExactConsToSpec)) fnExactConsToUptoCard

/-- THE SECOND FORM's CARD OF 'laws.FnLists'. -/
def fnListsUptoCard : Claim7 := { stood := { row := fnListsUptoRow, standIns := [], harness := (true, "cc8f3f76d458dfbc6353f05861f0b98946d6dc8d409b426b5352623eadf37227"), looks := false }, kinds := [], alts := [], laidByText := true, laidKinds := [.data, .pinned], laidTests := true, laidLooks := .later }
def FnListsUptoCardSaid : Prop := Claim7.holds Tryd.pinned (.plain (OpenSpec.upto fnListsSpec)) fnListsUptoCard

/-- THE SECOND FORM's CARD OF 'laws.FnExactApplyPrim'. -/
def fnExactApplyPrimUptoCard : Claim7 := { stood := { row := fnExactApplyPrimUptoRow, standIns := [], harness := (true, "cc8f3f76d458dfbc6353f05861f0b98946d6dc8d409b426b5352623eadf37227"), looks := false }, kinds := [], alts := [], laidByText := true, laidKinds := [.data, .pinned], laidTests := true, laidLooks := .later }
def FnExactApplyPrimUptoCardSaid : Prop := Claim7.holds Tryd.pinned (.plain (OpenSpec.upto fnExactApplyPrimSpec)) fnExactApplyPrimUptoCard

/-- THE SECOND FORM's CARD OF 'laws.FnPrims'. -/
def fnPrimsUptoCard : Claim7 := { stood := { row := fnPrimsUptoRow, standIns := [], harness := (true, "cc8f3f76d458dfbc6353f05861f0b98946d6dc8d409b426b5352623eadf37227"), looks := false }, kinds := [], alts := [], laidByText := true, laidKinds := [.data, .pinned], laidTests := true, laidLooks := .later }
def FnPrimsUptoCardSaid : Prop := Claim7.holds Tryd.pinned (.plain (OpenSpec.upto fnPrimsSpec)) fnPrimsUptoCard

/-- THE SECOND FORM's CARD OF 'laws.FnApplies'. -/
def fnAppliesUptoCard : Claim7 := { stood := { row := fnAppliesUptoRow, standIns := [], harness := (true, "cc8f3f76d458dfbc6353f05861f0b98946d6dc8d409b426b5352623eadf37227"), looks := false }, kinds := [], alts := [], laidByText := true, laidKinds := [.data, .pinned], laidTests := true, laidLooks := .later }
def FnAppliesUptoCardSaid : Prop := Claim7.holds Tryd.pinned (.plain (OpenSpec.upto fnAppliesSpec)) fnAppliesUptoCard

/-- THE SECOND FORM's CARD OF 'laws.FnExactPutData'. -/
def fnExactPutDataUptoCard : Claim7 := { stood := { row := fnExactPutDataUptoRow, standIns := [], harness := (true, "cc8f3f76d458dfbc6353f05861f0b98946d6dc8d409b426b5352623eadf37227"), looks := false }, kinds := [], alts := [], laidByText := true, laidKinds := [.data, .pinned], laidTests := true, laidLooks := .later }
def FnExactPutDataUptoCardSaid : Prop := Claim7.holds Tryd.pinned (.plain (OpenSpec.upto fnExactPutDataSpec)) fnExactPutDataUptoCard

/-- THE SECOND FORM's CARD OF 'laws.FnExactShowValue'. -/
def fnExactShowValueUptoCard : Claim7 := { stood := { row := fnExactShowValueUptoRow, standIns := [], harness := (true, "cc8f3f76d458dfbc6353f05861f0b98946d6dc8d409b426b5352623eadf37227"), looks := false }, kinds := [], alts := [], laidByText := true, laidKinds := [.data, .data, .data, .data, .pinned], laidTests := true, laidLooks := .later }
def FnExactShowValueUptoCardSaid : Prop := Claim7.holds Tryd.pinned (.plain (OpenSpec.upto fnExactShowValueSpec)) fnExactShowValueUptoCard
end Rows
end Go.Proofs.YthlgmdbfhkcghaaDoor
