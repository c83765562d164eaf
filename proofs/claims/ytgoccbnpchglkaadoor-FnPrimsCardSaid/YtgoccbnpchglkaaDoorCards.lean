/-
  DERIVED. GIVEN WITH THE SEED: THE CARDS: each row of YtgoccbnpchglkaaDoorRows.lean that lists a variable, with what it lists TIED to the program's text (the seventh form; the later family's looks); each row that meets fmt, with fmt's text TOLD by the authors' own Lean function (tested against real Go, not proved from fmt's source: count such statements apart). THE CARD IS WHAT COUNTS. Prove the row's statement (the work); the ties are given (YtgoccbnpchglkaaDoorTie.lean); close each card by the builder's one call (the guide's Derived/Test/ToyasCard.lean, 'card_holds'). Laid BY PROGRAM, IN A SANDBOX (cutbox-door.mjs). By AI agents, Wed Nov 11 2026. No macro, syntax, notation, axiom, sorry.
-/
import Derived.Test.YtgoccbnpchglkaaDoorRows
import GoSem.ClaimSeven
namespace Go.Proofs.YtgoccbnpchglkaaDoor
namespace Rows

/-- THE TIED CARD OF 'laws.FnExactApplyPrim'. -/
def fnExactApplyPrimCard : Claim7 := { stood := { row := fnExactApplyPrimRow, standIns := [], harness := (true, "c0c7e23099ed5c4ebf0c24f2745007cad9c2e500813d468838cd92bf7e4b948d"), looks := false }, kinds := [], alts := [], laidByText := true, laidKinds := [.data, .pinned], laidTests := true, laidLooks := .later }
def FnExactApplyPrimCardSaid : Prop := Claim7.holds Tryd.pinned (.plain (OpenSpec.ofChange fnExactApplyPrimSpec)) fnExactApplyPrimCard

/-- THE TIED CARD OF 'laws.FnPrims'. -/
def fnPrimsCard : Claim7 := { stood := { row := fnPrimsRow, standIns := [], harness := (true, "c0c7e23099ed5c4ebf0c24f2745007cad9c2e500813d468838cd92bf7e4b948d"), looks := false }, kinds := [], alts := [], laidByText := true, laidKinds := [.data, .pinned], laidTests := true, laidLooks := .later }
def FnPrimsCardSaid : Prop := Claim7.holds Tryd.pinned (.plain (OpenSpec.ofChange fnPrimsSpec)) fnPrimsCard

/-- THE TIED CARD OF 'laws.FnApplies'. -/
def fnAppliesCard : Claim7 := { stood := { row := fnAppliesRow, standIns := [], harness := (true, "c0c7e23099ed5c4ebf0c24f2745007cad9c2e500813d468838cd92bf7e4b948d"), looks := false }, kinds := [], alts := [], laidByText := true, laidKinds := [.data, .pinned], laidTests := true, laidLooks := .later }
def FnAppliesCardSaid : Prop := Claim7.holds Tryd.pinned (.plain (OpenSpec.ofChange fnAppliesSpec)) fnAppliesCard

/-- THE TIED CARD OF 'laws.FnExactPutData'. -/
def fnExactPutDataCard : Claim7 := { stood := { row := fnExactPutDataRow, standIns := [], harness := (true, "c0c7e23099ed5c4ebf0c24f2745007cad9c2e500813d468838cd92bf7e4b948d"), looks := false }, kinds := [], alts := [], laidByText := true, laidKinds := [.data, .pinned], laidTests := true, laidLooks := .later }
def FnExactPutDataCardSaid : Prop := Claim7.holds Tryd.pinned (.plain (OpenSpec.ofChange fnExactPutDataSpec)) fnExactPutDataCard

/-- THE TIED CARD OF 'laws.FnExactGlobalsIn'. -/
def fnExactGlobalsInCard : Claim7 := { stood := { row := fnExactGlobalsInRow, standIns := [], harness := (true, "c0c7e23099ed5c4ebf0c24f2745007cad9c2e500813d468838cd92bf7e4b948d"), looks := false }, kinds := [], alts := [], laidByText := true, laidKinds := [.data, .pinned], laidTests := true, laidLooks := .later }
def FnExactGlobalsInCardSaid : Prop := Claim7.holds Tryd.pinned (.plain (OpenSpec.ofChange fnExactGlobalsInSpec)) fnExactGlobalsInCard

/-- THE SECOND FORM's CARD OF 'laws.FnExactApplyPrim'. -/
def fnExactApplyPrimUptoCard : Claim7 := { stood := { row := fnExactApplyPrimUptoRow, standIns := [], harness := (true, "c0c7e23099ed5c4ebf0c24f2745007cad9c2e500813d468838cd92bf7e4b948d"), looks := false }, kinds := [], alts := [], laidByText := true, laidKinds := [.data, .pinned], laidTests := true, laidLooks := .later }
def FnExactApplyPrimUptoCardSaid : Prop := Claim7.holds Tryd.pinned (.plain (OpenSpec.upto fnExactApplyPrimSpec)) fnExactApplyPrimUptoCard

/-- THE SECOND FORM's CARD OF 'laws.FnPrims'. -/
def fnPrimsUptoCard : Claim7 := { stood := { row := fnPrimsUptoRow, standIns := [], harness := (true, "c0c7e23099ed5c4ebf0c24f2745007cad9c2e500813d468838cd92bf7e4b948d"), looks := false }, kinds := [], alts := [], laidByText := true, laidKinds := [.data, .pinned], laidTests := true, laidLooks := .later }
def FnPrimsUptoCardSaid : Prop := Claim7.holds Tryd.pinned (.plain (OpenSpec.upto fnPrimsSpec)) fnPrimsUptoCard

/-- THE SECOND FORM's CARD OF 'laws.FnApplies'. -/
def fnAppliesUptoCard : Claim7 := { stood := { row := fnAppliesUptoRow, standIns := [], harness := (true, "c0c7e23099ed5c4ebf0c24f2745007cad9c2e500813d468838cd92bf7e4b948d"), looks := false }, kinds := [], alts := [], laidByText := true, laidKinds := [.data, .pinned], laidTests := true, laidLooks := .later }
def FnAppliesUptoCardSaid : Prop := Claim7.holds Tryd.pinned (.plain (OpenSpec.upto fnAppliesSpec)) fnAppliesUptoCard

/-- THE SECOND FORM's CARD OF 'laws.FnExactPutData'. -/
def fnExactPutDataUptoCard : Claim7 := { stood := { row := fnExactPutDataUptoRow, standIns := [], harness := (true, "c0c7e23099ed5c4ebf0c24f2745007cad9c2e500813d468838cd92bf7e4b948d"), looks := false }, kinds := [], alts := [], laidByText := true, laidKinds := [.data, .pinned], laidTests := true, laidLooks := .later }
def FnExactPutDataUptoCardSaid : Prop := Claim7.holds Tryd.pinned (.plain (OpenSpec.upto fnExactPutDataSpec)) fnExactPutDataUptoCard

/-- THE SECOND FORM's CARD OF 'laws.FnExactGlobalsIn'. -/
def fnExactGlobalsInUptoCard : Claim7 := { stood := { row := fnExactGlobalsInUptoRow, standIns := [], harness := (true, "c0c7e23099ed5c4ebf0c24f2745007cad9c2e500813d468838cd92bf7e4b948d"), looks := false }, kinds := [], alts := [], laidByText := true, laidKinds := [.data, .pinned], laidTests := true, laidLooks := .later }
def FnExactGlobalsInUptoCardSaid : Prop := Claim7.holds Tryd.pinned (.plain (OpenSpec.upto fnExactGlobalsInSpec)) fnExactGlobalsInUptoCard
end Rows
end Go.Proofs.YtgoccbnpchglkaaDoor
