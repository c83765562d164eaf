/-
  DERIVED. GIVEN WITH THE SEED: THE CARDS: each row of YteiokhfikbndbaaDoorRows.lean that lists a variable, with what it lists TIED to the program's text (the seventh form; the later family's looks); each row that meets fmt, with fmt's text TOLD by the authors' own Lean function (tested against real Go, not proved from fmt's source: count such statements apart). THE CARD IS WHAT COUNTS. Prove the row's statement (the work); the ties are given (YteiokhfikbndbaaDoorTie.lean); close each card by the builder's one call (the guide's Derived/Test/ToyasCard.lean, 'card_holds'). Laid BY PROGRAM, IN A SANDBOX (cutbox-door.mjs). By AI agents, Wed Nov 11 2026. No macro, syntax, notation, axiom, sorry.
-/
import Derived.Test.YteiokhfikbndbaaDoorRows
import GoSem.ClaimSeven
namespace Go.Proofs.YteiokhfikbndbaaDoor
namespace Rows

/-- THE TIED CARD OF 'laws.FnExactTokensOf'. -/
def fnExactTokensOfCard : Claim7 := { stood := { row := fnExactTokensOfRow, standIns := [], harness := (true, "23616aba464406d88560da7c5a79c30888d0414eea191fa402b4956699ce304c"), looks := true }, kinds := [], alts := [], laidByText := true, laidKinds := [.data, .data, .data, .data, .sentinel, .sentinel, .pinned], laidTests := true, laidLooks := .later }
def FnExactTokensOfCardSaid : Prop := Claim7.holds Tryd.pinned (.plain (OpenSpec.ofChange fnExactTokensOfSpec)) fnExactTokensOfCard

/-- THE TIED CARD OF 'laws.FnExactSpotOf'. -/
def fnExactSpotOfCard : Claim7 := { stood := { row := fnExactSpotOfRow, standIns := [], harness := (true, "23616aba464406d88560da7c5a79c30888d0414eea191fa402b4956699ce304c"), looks := true }, kinds := [], alts := [], laidByText := true, laidKinds := [.data, .data, .data, .data, .sentinel, .sentinel, .pinned], laidTests := true, laidLooks := .later }
def FnExactSpotOfCardSaid : Prop := Claim7.holds Tryd.pinned (.plain (OpenSpec.ofChange fnExactSpotOfSpec)) fnExactSpotOfCard

/-- THE TIED CARD OF 'laws.FnExactReadData'. -/
def fnExactReadDataCard : Claim7 := { stood := { row := fnExactReadDataRow, standIns := [], harness := (true, "23616aba464406d88560da7c5a79c30888d0414eea191fa402b4956699ce304c"), looks := true }, kinds := [], alts := [], laidByText := true, laidKinds := [.data, .data, .data, .data, .sentinel, .sentinel, .pinned], laidTests := true, laidLooks := .later }
def FnExactReadDataCardSaid : Prop := Claim7.holds Tryd.pinned (.plain (OpenSpec.ofChange fnExactReadDataSpec)) fnExactReadDataCard

/-- THE SECOND FORM's CARD OF 'laws.FnExactTokensOf'. -/
def fnExactTokensOfUptoCard : Claim7 := { stood := { row := fnExactTokensOfUptoRow, standIns := [], harness := (true, "23616aba464406d88560da7c5a79c30888d0414eea191fa402b4956699ce304c"), looks := true }, kinds := [], alts := [], laidByText := true, laidKinds := [.data, .data, .data, .data, .sentinel, .sentinel, .pinned], laidTests := true, laidLooks := .later }
def FnExactTokensOfUptoCardSaid : Prop := Claim7.holds Tryd.pinned (.plain (OpenSpec.upto fnExactTokensOfSpec)) fnExactTokensOfUptoCard

/-- THE SECOND FORM's CARD OF 'laws.FnExactSpotOf'. -/
def fnExactSpotOfUptoCard : Claim7 := { stood := { row := fnExactSpotOfUptoRow, standIns := [], harness := (true, "23616aba464406d88560da7c5a79c30888d0414eea191fa402b4956699ce304c"), looks := true }, kinds := [], alts := [], laidByText := true, laidKinds := [.data, .data, .data, .data, .sentinel, .sentinel, .pinned], laidTests := true, laidLooks := .later }
def FnExactSpotOfUptoCardSaid : Prop := Claim7.holds Tryd.pinned (.plain (OpenSpec.upto fnExactSpotOfSpec)) fnExactSpotOfUptoCard

/-- THE SECOND FORM's CARD OF 'laws.FnExactReadData'. -/
def fnExactReadDataUptoCard : Claim7 := { stood := { row := fnExactReadDataUptoRow, standIns := [], harness := (true, "23616aba464406d88560da7c5a79c30888d0414eea191fa402b4956699ce304c"), looks := true }, kinds := [], alts := [], laidByText := true, laidKinds := [.data, .data, .data, .data, .sentinel, .sentinel, .pinned], laidTests := true, laidLooks := .later }
def FnExactReadDataUptoCardSaid : Prop := Claim7.holds Tryd.pinned (.plain (OpenSpec.upto fnExactReadDataSpec)) fnExactReadDataUptoCard
end Rows
end Go.Proofs.YteiokhfikbndbaaDoor
