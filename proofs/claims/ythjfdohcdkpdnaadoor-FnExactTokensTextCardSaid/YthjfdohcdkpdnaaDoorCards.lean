/-
  DERIVED. GIVEN WITH THE SEED: THE CARDS: each row of YthjfdohcdkpdnaaDoorRows.lean that lists a variable, with what it lists TIED to the program's text (the seventh form; the later family's looks); each row that meets fmt, with fmt's text TOLD by the authors' own Lean function (tested against real Go, not proved from fmt's source: count such statements apart). THE CARD IS WHAT COUNTS. Prove the row's statement (the work); the ties are given (YthjfdohcdkpdnaaDoorTie.lean); close each card by the builder's one call (the guide's Derived/Test/ToyasCard.lean, 'card_holds'). Laid BY PROGRAM, IN A SANDBOX (cutbox-door.mjs). By AI agents, Wed Nov 11 2026. No macro, syntax, notation, axiom, sorry.
-/
import Derived.Test.YthjfdohcdkpdnaaDoorRows
import GoSem.ClaimSeven
namespace Go.Proofs.YthjfdohcdkpdnaaDoor
namespace Rows

/-- THE TIED CARD OF 'laws.FnExactNumText'. -/
def fnExactNumTextCard : Claim7 := { stood := { row := fnExactNumTextRow, standIns := [], harness := (true, "0ce020c6c71ac4d2e3839c79ee4c47eb2f8e129bdb40216e642737e78272f4ab"), looks := true }, kinds := [], alts := [], laidByText := true, laidKinds := [.data, .data, .data], laidTests := true, laidLooks := .later }
def FnExactNumTextCardSaid : Prop := Claim7.holds Tryd.pinned (.plain (OpenSpec.ofChange fnExactNumTextSpec)) fnExactNumTextCard

/-- THE TIED CARD OF 'laws.FnExactParseNum'. -/
def fnExactParseNumCard : Claim7 := { stood := { row := fnExactParseNumRow, standIns := [], harness := (true, "0ce020c6c71ac4d2e3839c79ee4c47eb2f8e129bdb40216e642737e78272f4ab"), looks := true }, kinds := [], alts := [], laidByText := true, laidKinds := [.data, .data, .data, .sentinel, .sentinel], laidTests := true, laidLooks := .later }
def FnExactParseNumCardSaid : Prop := Claim7.holds Tryd.pinned (.plain (OpenSpec.ofChange fnExactParseNumSpec)) fnExactParseNumCard

/-- THE TIED CARD OF 'laws.FnExactTokenText'. -/
def fnExactTokenTextCard : Claim7 := { stood := { row := fnExactTokenTextRow, standIns := [], harness := (true, "0ce020c6c71ac4d2e3839c79ee4c47eb2f8e129bdb40216e642737e78272f4ab"), looks := true }, kinds := [], alts := [], laidByText := true, laidKinds := [.data, .data, .data, .data, .pinned], laidTests := true, laidLooks := .later }
def FnExactTokenTextCardSaid : Prop := Claim7.holds Tryd.pinned (.plain (OpenSpec.ofChange fnExactTokenTextSpec)) fnExactTokenTextCard

/-- THE TIED CARD OF 'laws.FnExactTokensText'. -/
def fnExactTokensTextCard : Claim7 := { stood := { row := fnExactTokensTextRow, standIns := [], harness := (true, "0ce020c6c71ac4d2e3839c79ee4c47eb2f8e129bdb40216e642737e78272f4ab"), looks := true }, kinds := [], alts := [], laidByText := true, laidKinds := [.data, .data, .data, .data, .pinned], laidTests := true, laidLooks := .later }
def FnExactTokensTextCardSaid : Prop := Claim7.holds Tryd.pinned (.plain (OpenSpec.ofChange fnExactTokensTextSpec)) fnExactTokensTextCard

/-- THE TIED CARD OF 'laws.FnExactDefineGlobal'. -/
def fnExactDefineGlobalCard : Claim7 := { stood := { row := fnExactDefineGlobalRow, standIns := [], harness := (true, "0ce020c6c71ac4d2e3839c79ee4c47eb2f8e129bdb40216e642737e78272f4ab"), looks := true }, kinds := [], alts := [], laidByText := true, laidKinds := [.data, .pinned], laidTests := true, laidLooks := .later }
def FnExactDefineGlobalCardSaid : Prop := Claim7.holds Tryd.pinned (.plain (OpenSpec.ofChange fnExactDefineGlobalSpec)) fnExactDefineGlobalCard

/-- THE TIED CARD OF 'laws.FnExactSetGlobal'. -/
def fnExactSetGlobalCard : Claim7 := { stood := { row := fnExactSetGlobalRow, standIns := [], harness := (true, "0ce020c6c71ac4d2e3839c79ee4c47eb2f8e129bdb40216e642737e78272f4ab"), looks := true }, kinds := [], alts := [], laidByText := true, laidKinds := [.data, .pinned], laidTests := true, laidLooks := .later }
def FnExactSetGlobalCardSaid : Prop := Claim7.holds Tryd.pinned (.plain (OpenSpec.ofChange fnExactSetGlobalSpec)) fnExactSetGlobalCard

/-- THE TIED CARD OF 'laws.FnExactOpFault'. -/
def fnExactOpFaultCard : Claim7 := { stood := { row := fnExactOpFaultRow, standIns := [], harness := (true, "0ce020c6c71ac4d2e3839c79ee4c47eb2f8e129bdb40216e642737e78272f4ab"), looks := true }, kinds := [], alts := [], laidByText := true, laidKinds := [.data, .pinned], laidTests := true, laidLooks := .later }
def FnExactOpFaultCardSaid : Prop := Claim7.holds Tryd.pinned (.plain (OpenSpec.ofChange fnExactOpFaultSpec)) fnExactOpFaultCard

/-- THE SECOND FORM's CARD OF 'laws.FnExactNumText'. -/
def fnExactNumTextUptoCard : Claim7 := { stood := { row := fnExactNumTextUptoRow, standIns := [], harness := (true, "0ce020c6c71ac4d2e3839c79ee4c47eb2f8e129bdb40216e642737e78272f4ab"), looks := true }, kinds := [], alts := [], laidByText := true, laidKinds := [.data, .data, .data], laidTests := true, laidLooks := .later }
def FnExactNumTextUptoCardSaid : Prop := Claim7.holds Tryd.pinned (.plain (OpenSpec.upto fnExactNumTextSpec)) fnExactNumTextUptoCard

/-- THE SECOND FORM's CARD OF 'laws.FnExactParseNum'. -/
def fnExactParseNumUptoCard : Claim7 := { stood := { row := fnExactParseNumUptoRow, standIns := [], harness := (true, "0ce020c6c71ac4d2e3839c79ee4c47eb2f8e129bdb40216e642737e78272f4ab"), looks := true }, kinds := [], alts := [], laidByText := true, laidKinds := [.data, .data, .data, .sentinel, .sentinel], laidTests := true, laidLooks := .later }
def FnExactParseNumUptoCardSaid : Prop := Claim7.holds Tryd.pinned (.plain (OpenSpec.upto fnExactParseNumSpec)) fnExactParseNumUptoCard

/-- THE SECOND FORM's CARD OF 'laws.FnExactTokenText'. -/
def fnExactTokenTextUptoCard : Claim7 := { stood := { row := fnExactTokenTextUptoRow, standIns := [], harness := (true, "0ce020c6c71ac4d2e3839c79ee4c47eb2f8e129bdb40216e642737e78272f4ab"), looks := true }, kinds := [], alts := [], laidByText := true, laidKinds := [.data, .data, .data, .data, .pinned], laidTests := true, laidLooks := .later }
def FnExactTokenTextUptoCardSaid : Prop := Claim7.holds Tryd.pinned (.plain (OpenSpec.upto fnExactTokenTextSpec)) fnExactTokenTextUptoCard

/-- THE SECOND FORM's CARD OF 'laws.FnExactTokensText'. -/
def fnExactTokensTextUptoCard : Claim7 := { stood := { row := fnExactTokensTextUptoRow, standIns := [], harness := (true, "0ce020c6c71ac4d2e3839c79ee4c47eb2f8e129bdb40216e642737e78272f4ab"), looks := true }, kinds := [], alts := [], laidByText := true, laidKinds := [.data, .data, .data, .data, .pinned], laidTests := true, laidLooks := .later }
def FnExactTokensTextUptoCardSaid : Prop := Claim7.holds Tryd.pinned (.plain (OpenSpec.upto fnExactTokensTextSpec)) fnExactTokensTextUptoCard

/-- THE SECOND FORM's CARD OF 'laws.FnExactDefineGlobal'. -/
def fnExactDefineGlobalUptoCard : Claim7 := { stood := { row := fnExactDefineGlobalUptoRow, standIns := [], harness := (true, "0ce020c6c71ac4d2e3839c79ee4c47eb2f8e129bdb40216e642737e78272f4ab"), looks := true }, kinds := [], alts := [], laidByText := true, laidKinds := [.data, .pinned], laidTests := true, laidLooks := .later }
def FnExactDefineGlobalUptoCardSaid : Prop := Claim7.holds Tryd.pinned (.plain (OpenSpec.upto fnExactDefineGlobalSpec)) fnExactDefineGlobalUptoCard

/-- THE SECOND FORM's CARD OF 'laws.FnExactSetGlobal'. -/
def fnExactSetGlobalUptoCard : Claim7 := { stood := { row := fnExactSetGlobalUptoRow, standIns := [], harness := (true, "0ce020c6c71ac4d2e3839c79ee4c47eb2f8e129bdb40216e642737e78272f4ab"), looks := true }, kinds := [], alts := [], laidByText := true, laidKinds := [.data, .pinned], laidTests := true, laidLooks := .later }
def FnExactSetGlobalUptoCardSaid : Prop := Claim7.holds Tryd.pinned (.plain (OpenSpec.upto fnExactSetGlobalSpec)) fnExactSetGlobalUptoCard

/-- THE SECOND FORM's CARD OF 'laws.FnExactOpFault'. -/
def fnExactOpFaultUptoCard : Claim7 := { stood := { row := fnExactOpFaultUptoRow, standIns := [], harness := (true, "0ce020c6c71ac4d2e3839c79ee4c47eb2f8e129bdb40216e642737e78272f4ab"), looks := true }, kinds := [], alts := [], laidByText := true, laidKinds := [.data, .pinned], laidTests := true, laidLooks := .later }
def FnExactOpFaultUptoCardSaid : Prop := Claim7.holds Tryd.pinned (.plain (OpenSpec.upto fnExactOpFaultSpec)) fnExactOpFaultUptoCard
end Rows
end Go.Proofs.YthjfdohcdkpdnaaDoor
