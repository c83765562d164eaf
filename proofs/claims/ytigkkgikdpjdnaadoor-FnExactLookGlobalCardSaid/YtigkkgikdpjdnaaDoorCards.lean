/-
  DERIVED. GIVEN WITH THE SEED: THE CARDS: each row of YtigkkgikdpjdnaaDoorRows.lean that lists a variable, with what it lists TIED to the program's text (the seventh form; the later family's looks); each row that meets fmt, with fmt's text TOLD by the authors' own Lean function (tested against real Go, not proved from fmt's source: count such statements apart). THE CARD IS WHAT COUNTS. Prove the row's statement (the work); the ties are given (YtigkkgikdpjdnaaDoorTie.lean); close each card by the builder's one call (the guide's Derived/Test/ToyasCard.lean, 'card_holds'). Laid BY PROGRAM, IN A SANDBOX (cutbox-door.mjs). By AI agents, Wed Nov 11 2026. No macro, syntax, notation, axiom, sorry.
-/
import Derived.Test.YtigkkgikdpjdnaaDoorRows
import GoSem.ClaimSeven
namespace Go.Proofs.YtigkkgikdpjdnaaDoor
namespace Rows

/-- THE TIED CARD OF 'laws.FnExactSymFault'. -/
def fnExactSymFaultCard : Claim7 := { stood := { row := fnExactSymFaultRow, standIns := [], harness := (true, "9ca572d3537c284e2e4a10e41d0ee6ed38e2ace9f36efe4fed6112fd04c16bc9"), looks := false }, kinds := [], alts := [], laidByText := true, laidKinds := [.data, .pinned], laidTests := true, laidLooks := .later }
def FnExactSymFaultCardSaid : Prop := Claim7.holds Tryd.pinned (.plain (OpenSpec.ofChange fnExactSymFaultSpec)) fnExactSymFaultCard

/-- THE TIED CARD OF 'laws.FnExactValueFault'. -/
def fnExactValueFaultCard : Claim7 := { stood := { row := fnExactValueFaultRow, standIns := [], harness := (true, "9ca572d3537c284e2e4a10e41d0ee6ed38e2ace9f36efe4fed6112fd04c16bc9"), looks := false }, kinds := [], alts := [], laidByText := true, laidKinds := [.data, .pinned], laidTests := true, laidLooks := .later }
def FnExactValueFaultCardSaid : Prop := Claim7.holds Tryd.pinned (.plain (OpenSpec.ofChange fnExactValueFaultSpec)) fnExactValueFaultCard

/-- THE TIED CARD OF 'laws.FnExactHeapFault'. -/
def fnExactHeapFaultCard : Claim7 := { stood := { row := fnExactHeapFaultRow, standIns := [], harness := (true, "9ca572d3537c284e2e4a10e41d0ee6ed38e2ace9f36efe4fed6112fd04c16bc9"), looks := false }, kinds := [], alts := [], laidByText := true, laidKinds := [.data, .pinned], laidTests := true, laidLooks := .later }
def FnExactHeapFaultCardSaid : Prop := Claim7.holds Tryd.pinned (.plain (OpenSpec.ofChange fnExactHeapFaultSpec)) fnExactHeapFaultCard

/-- THE TIED CARD OF 'laws.FnExactDataFault'. -/
def fnExactDataFaultCard : Claim7 := { stood := { row := fnExactDataFaultRow, standIns := [], harness := (true, "9ca572d3537c284e2e4a10e41d0ee6ed38e2ace9f36efe4fed6112fd04c16bc9"), looks := false }, kinds := [], alts := [], laidByText := true, laidKinds := [.data, .pinned], laidTests := true, laidLooks := .later }
def FnExactDataFaultCardSaid : Prop := Claim7.holds Tryd.pinned (.plain (OpenSpec.ofChange fnExactDataFaultSpec)) fnExactDataFaultCard

/-- THE TIED CARD OF 'laws.FnExactGlobalsFault'. -/
def fnExactGlobalsFaultCard : Claim7 := { stood := { row := fnExactGlobalsFaultRow, standIns := [], harness := (true, "9ca572d3537c284e2e4a10e41d0ee6ed38e2ace9f36efe4fed6112fd04c16bc9"), looks := false }, kinds := [], alts := [], laidByText := true, laidKinds := [.data, .pinned], laidTests := true, laidLooks := .later }
def FnExactGlobalsFaultCardSaid : Prop := Claim7.holds Tryd.pinned (.plain (OpenSpec.ofChange fnExactGlobalsFaultSpec)) fnExactGlobalsFaultCard

/-- THE TIED CARD OF 'laws.FnExactLookGlobal'. -/
def fnExactLookGlobalCard : Claim7 := { stood := { row := fnExactLookGlobalRow, standIns := [], harness := (true, "9ca572d3537c284e2e4a10e41d0ee6ed38e2ace9f36efe4fed6112fd04c16bc9"), looks := false }, kinds := [], alts := [], laidByText := true, laidKinds := [.data, .pinned], laidTests := true, laidLooks := .later }
def FnExactLookGlobalCardSaid : Prop := Claim7.holds Tryd.pinned (.plain (OpenSpec.ofChange fnExactLookGlobalSpec)) fnExactLookGlobalCard

/-- THE SECOND FORM's CARD OF 'laws.FnExactSymFault'. -/
def fnExactSymFaultUptoCard : Claim7 := { stood := { row := fnExactSymFaultUptoRow, standIns := [], harness := (true, "9ca572d3537c284e2e4a10e41d0ee6ed38e2ace9f36efe4fed6112fd04c16bc9"), looks := false }, kinds := [], alts := [], laidByText := true, laidKinds := [.data, .pinned], laidTests := true, laidLooks := .later }
def FnExactSymFaultUptoCardSaid : Prop := Claim7.holds Tryd.pinned (.plain (OpenSpec.upto fnExactSymFaultSpec)) fnExactSymFaultUptoCard

/-- THE SECOND FORM's CARD OF 'laws.FnExactValueFault'. -/
def fnExactValueFaultUptoCard : Claim7 := { stood := { row := fnExactValueFaultUptoRow, standIns := [], harness := (true, "9ca572d3537c284e2e4a10e41d0ee6ed38e2ace9f36efe4fed6112fd04c16bc9"), looks := false }, kinds := [], alts := [], laidByText := true, laidKinds := [.data, .pinned], laidTests := true, laidLooks := .later }
def FnExactValueFaultUptoCardSaid : Prop := Claim7.holds Tryd.pinned (.plain (OpenSpec.upto fnExactValueFaultSpec)) fnExactValueFaultUptoCard

/-- THE SECOND FORM's CARD OF 'laws.FnExactHeapFault'. -/
def fnExactHeapFaultUptoCard : Claim7 := { stood := { row := fnExactHeapFaultUptoRow, standIns := [], harness := (true, "9ca572d3537c284e2e4a10e41d0ee6ed38e2ace9f36efe4fed6112fd04c16bc9"), looks := false }, kinds := [], alts := [], laidByText := true, laidKinds := [.data, .pinned], laidTests := true, laidLooks := .later }
def FnExactHeapFaultUptoCardSaid : Prop := Claim7.holds Tryd.pinned (.plain (OpenSpec.upto fnExactHeapFaultSpec)) fnExactHeapFaultUptoCard

/-- THE SECOND FORM's CARD OF 'laws.FnExactDataFault'. -/
def fnExactDataFaultUptoCard : Claim7 := { stood := { row := fnExactDataFaultUptoRow, standIns := [], harness := (true, "9ca572d3537c284e2e4a10e41d0ee6ed38e2ace9f36efe4fed6112fd04c16bc9"), looks := false }, kinds := [], alts := [], laidByText := true, laidKinds := [.data, .pinned], laidTests := true, laidLooks := .later }
def FnExactDataFaultUptoCardSaid : Prop := Claim7.holds Tryd.pinned (.plain (OpenSpec.upto fnExactDataFaultSpec)) fnExactDataFaultUptoCard

/-- THE SECOND FORM's CARD OF 'laws.FnExactGlobalsFault'. -/
def fnExactGlobalsFaultUptoCard : Claim7 := { stood := { row := fnExactGlobalsFaultUptoRow, standIns := [], harness := (true, "9ca572d3537c284e2e4a10e41d0ee6ed38e2ace9f36efe4fed6112fd04c16bc9"), looks := false }, kinds := [], alts := [], laidByText := true, laidKinds := [.data, .pinned], laidTests := true, laidLooks := .later }
def FnExactGlobalsFaultUptoCardSaid : Prop := Claim7.holds Tryd.pinned (.plain (OpenSpec.upto fnExactGlobalsFaultSpec)) fnExactGlobalsFaultUptoCard

/-- THE SECOND FORM's CARD OF 'laws.FnExactLookGlobal'. -/
def fnExactLookGlobalUptoCard : Claim7 := { stood := { row := fnExactLookGlobalUptoRow, standIns := [], harness := (true, "9ca572d3537c284e2e4a10e41d0ee6ed38e2ace9f36efe4fed6112fd04c16bc9"), looks := false }, kinds := [], alts := [], laidByText := true, laidKinds := [.data, .pinned], laidTests := true, laidLooks := .later }
def FnExactLookGlobalUptoCardSaid : Prop := Claim7.holds Tryd.pinned (.plain (OpenSpec.upto fnExactLookGlobalSpec)) fnExactLookGlobalUptoCard
end Rows
end Go.Proofs.YtigkkgikdpjdnaaDoor
