/-
  NARROWER THAN 'FOR EVERY INPUT', by the rows' own cells (each row's printed sentence says how): FnExactApplyPrim: laid · FnPrims: laid · FnApplies: laid · FnExactPutData: laid · FnExactGlobalsIn: laid.
  DERIVED. THE GIVEN ROWS OF THIS SEAT. 5 by the template 'for every input the law returns true; each argument reads behind the call as it read before'; 0 by the template 'total and deterministic' (their statements: YtgoccbnpchglkaaDoorTotals.lean).
  GIVEN WITH THE SEED: the statements are not yours to turn. If you find one false, say at which input.
  Laid BY PROGRAM, IN A SANDBOX (cutbox-rows.mjs): the forced cells as the released guide's own fill.sh prints them over the translation c8a6db95e620347e… (all of the seat's roots in one cut). By AI agents, Wed Nov 11 2026. No macro, syntax, notation, axiom, sorry.
-/
import Derived.Test.YtgoccbnpchglkaaDoorChecked
import GoSem.PinnedTables
import GoSem.Claim
import GoSem.ClaimJoined
import GoSem.ClaimMapViews
import Derived.JoinedTies
import Derived.KernelRfl
namespace Go.Proofs.YtgoccbnpchglkaaDoor
/- THE CELL 'sum', in the pinned program and in every row, IS THE sha256 OF THE DUMP (.gsa) THAT YtgoccbnpchglkaaDoorProg.lean LOADS. Nothing in Lean hashes anything: it is a label: what it is worth is what the hold of that sum in a sandbox is worth. -/
noncomputable def Tryd.pinned : Pinned := { name := "ytgoccbnpchglkaadoor", sum := "c8a6db95e620347eb1a8f34c7ed1cd69a5c78aad894200c2b9cb05d24b77ab5a", checked := Tryd.checked }
namespace Rows
def none {H : Type} : Left H := { results := [], args := [] }

/- WHAT THE LISTED PACKAGE-LEVEL VARIABLES READ AS WHEN THE CALL BEGINS. Each datum BY PROGRAM (the guide's laid-datum.mjs) off the statement by which the dump's own 'gosem.cut.vars' lays the variable. In a bare row this is a premise. The card (YtgoccbnpchglkaaDoorCards.lean) ties it to the program's text. -/
def laid_unicode_utf8_acceptRanges {H : Type} : DataW H := .agg [.agg [.lit (.int .u8 128), .lit (.int .u8 191)], .agg [.lit (.int .u8 160), .lit (.int .u8 191)], .agg [.lit (.int .u8 128), .lit (.int .u8 159)], .agg [.lit (.int .u8 144), .lit (.int .u8 191)], .agg [.lit (.int .u8 128), .lit (.int .u8 143)], .agg [.lit (.int .u8 0), .lit (.int .u8 0)], .agg [.lit (.int .u8 0), .lit (.int .u8 0)], .agg [.lit (.int .u8 0), .lit (.int .u8 0)], .agg [.lit (.int .u8 0), .lit (.int .u8 0)], .agg [.lit (.int .u8 0), .lit (.int .u8 0)], .agg [.lit (.int .u8 0), .lit (.int .u8 0)], .agg [.lit (.int .u8 0), .lit (.int .u8 0)], .agg [.lit (.int .u8 0), .lit (.int .u8 0)], .agg [.lit (.int .u8 0), .lit (.int .u8 0)], .agg [.lit (.int .u8 0), .lit (.int .u8 0)], .agg [.lit (.int .u8 0), .lit (.int .u8 0)]]
/-- One of Go's own tables, pinned by name: the form's constant. -/
def laid_unicode_utf8_first : DataW Unit := Go.Pinned.utf8First

/-- 'laws.FnExactApplyPrim': WHATEVER THE INPUT: true; the input reads as it did. -/
def fnExactApplyPrimSpec : ChangeSpec := { name := "fnExactApplyPrim", fn := fun _ => fun
  | [d1, d2, d3] => { results := [.lit (.bool true)], args := [d1, d2, d3] }
  | _ => none }
def fnExactApplyPrimRow : OpenClaim := { program := "ytgoccbnpchglkaadoor", sum := "c8a6db95e620347eb1a8f34c7ed1cd69a5c78aad894200c2b9cb05d24b77ab5a", func := "loop.example/g00349/laws.FnExactApplyPrim", spec := "fnExactApplyPrim", inPlace := ["internal/bytealg.IndexByteString", "internal/bytealg.IndexString"], unfollowed := true, recurses := true, named := ["unicode/utf8.first", "unicode/utf8.acceptRanges", "internal/bytealg.MaxLen"], apart := false, laid := [("unicode/utf8.acceptRanges", laid_unicode_utf8_acceptRanges), ("unicode/utf8.first", laid_unicode_utf8_first)] }
def FnExactApplyPrimSaid : Prop := fnExactApplyPrimRow.holds Tryd.pinned (OpenSpec.ofChange fnExactApplyPrimSpec)

/-- ITS FALSE NEIGHBOUR: 'it returns false'. Refute it at one input. -/
def fnExactApplyPrimWrong : ChangeSpec := { name := "fnExactApplyPrim", fn := fun _ => fun
  | [d1, d2, d3] => { results := [.lit (.bool false)], args := [d1, d2, d3] }
  | _ => none }
def FnExactApplyPrimWrongFalsely : Prop := fnExactApplyPrimRow.holds Tryd.pinned (OpenSpec.ofChange fnExactApplyPrimWrong)

/-- 'laws.FnPrims': WHATEVER THE INPUT: true; the input reads as it did. -/
def fnPrimsSpec : ChangeSpec := { name := "fnPrims", fn := fun _ => fun
  | [d] => { results := [.lit (.bool true)], args := [d] }
  | _ => none }
def fnPrimsRow : OpenClaim := { program := "ytgoccbnpchglkaadoor", sum := "c8a6db95e620347eb1a8f34c7ed1cd69a5c78aad894200c2b9cb05d24b77ab5a", func := "loop.example/g00349/laws.FnPrims", spec := "fnPrims", inPlace := ["internal/bytealg.IndexByteString", "internal/bytealg.IndexString"], unfollowed := true, recurses := true, named := ["unicode/utf8.first", "unicode/utf8.acceptRanges", "internal/bytealg.MaxLen"], apart := false, laid := [("unicode/utf8.acceptRanges", laid_unicode_utf8_acceptRanges), ("unicode/utf8.first", laid_unicode_utf8_first)] }
def FnPrimsSaid : Prop := fnPrimsRow.holds Tryd.pinned (OpenSpec.ofChange fnPrimsSpec)

/-- ITS FALSE NEIGHBOUR: 'it returns false'. Refute it at one input. -/
def fnPrimsWrong : ChangeSpec := { name := "fnPrims", fn := fun _ => fun
  | [d] => { results := [.lit (.bool false)], args := [d] }
  | _ => none }
def FnPrimsWrongFalsely : Prop := fnPrimsRow.holds Tryd.pinned (OpenSpec.ofChange fnPrimsWrong)

/-- 'laws.FnApplies': WHATEVER THE INPUT: true; the input reads as it did. -/
def fnAppliesSpec : ChangeSpec := { name := "fnApplies", fn := fun _ => fun
  | [d] => { results := [.lit (.bool true)], args := [d] }
  | _ => none }
def fnAppliesRow : OpenClaim := { program := "ytgoccbnpchglkaadoor", sum := "c8a6db95e620347eb1a8f34c7ed1cd69a5c78aad894200c2b9cb05d24b77ab5a", func := "loop.example/g00349/laws.FnApplies", spec := "fnApplies", inPlace := ["internal/bytealg.IndexByteString", "internal/bytealg.IndexString"], unfollowed := true, recurses := true, named := ["unicode/utf8.first", "unicode/utf8.acceptRanges", "internal/bytealg.MaxLen"], apart := false, laid := [("unicode/utf8.acceptRanges", laid_unicode_utf8_acceptRanges), ("unicode/utf8.first", laid_unicode_utf8_first)] }
def FnAppliesSaid : Prop := fnAppliesRow.holds Tryd.pinned (OpenSpec.ofChange fnAppliesSpec)

/-- ITS FALSE NEIGHBOUR: 'it returns false'. Refute it at one input. -/
def fnAppliesWrong : ChangeSpec := { name := "fnApplies", fn := fun _ => fun
  | [d] => { results := [.lit (.bool false)], args := [d] }
  | _ => none }
def FnAppliesWrongFalsely : Prop := fnAppliesRow.holds Tryd.pinned (OpenSpec.ofChange fnAppliesWrong)

/-- 'laws.FnExactPutData': WHATEVER THE INPUT: true; the input reads as it did. -/
def fnExactPutDataSpec : ChangeSpec := { name := "fnExactPutData", fn := fun _ => fun
  | [d1, d2] => { results := [.lit (.bool true)], args := [d1, d2] }
  | _ => none }
def fnExactPutDataRow : OpenClaim := { program := "ytgoccbnpchglkaadoor", sum := "c8a6db95e620347eb1a8f34c7ed1cd69a5c78aad894200c2b9cb05d24b77ab5a", func := "loop.example/g00349/laws.FnExactPutData", spec := "fnExactPutData", inPlace := ["internal/bytealg.IndexByteString", "internal/bytealg.IndexString"], unfollowed := true, recurses := true, named := ["unicode/utf8.first", "unicode/utf8.acceptRanges", "internal/bytealg.MaxLen"], apart := false, laid := [("unicode/utf8.acceptRanges", laid_unicode_utf8_acceptRanges), ("unicode/utf8.first", laid_unicode_utf8_first)] }
def FnExactPutDataSaid : Prop := fnExactPutDataRow.holds Tryd.pinned (OpenSpec.ofChange fnExactPutDataSpec)

/-- ITS FALSE NEIGHBOUR: 'it returns false'. Refute it at one input. -/
def fnExactPutDataWrong : ChangeSpec := { name := "fnExactPutData", fn := fun _ => fun
  | [d1, d2] => { results := [.lit (.bool false)], args := [d1, d2] }
  | _ => none }
def FnExactPutDataWrongFalsely : Prop := fnExactPutDataRow.holds Tryd.pinned (OpenSpec.ofChange fnExactPutDataWrong)

/-- 'laws.FnExactGlobalsIn': WHATEVER THE INPUT: true; the input reads as it did. -/
def fnExactGlobalsInSpec : ChangeSpec := { name := "fnExactGlobalsIn", fn := fun _ => fun
  | [d] => { results := [.lit (.bool true)], args := [d] }
  | _ => none }
def fnExactGlobalsInRow : OpenClaim := { program := "ytgoccbnpchglkaadoor", sum := "c8a6db95e620347eb1a8f34c7ed1cd69a5c78aad894200c2b9cb05d24b77ab5a", func := "loop.example/g00349/laws.FnExactGlobalsIn", spec := "fnExactGlobalsIn", inPlace := ["internal/bytealg.IndexByteString", "internal/bytealg.IndexString"], unfollowed := true, recurses := true, named := ["unicode/utf8.first", "unicode/utf8.acceptRanges", "internal/bytealg.MaxLen"], apart := false, laid := [("unicode/utf8.acceptRanges", laid_unicode_utf8_acceptRanges), ("unicode/utf8.first", laid_unicode_utf8_first)] }
def FnExactGlobalsInSaid : Prop := fnExactGlobalsInRow.holds Tryd.pinned (OpenSpec.ofChange fnExactGlobalsInSpec)

/-- ITS FALSE NEIGHBOUR: 'it returns false'. Refute it at one input. -/
def fnExactGlobalsInWrong : ChangeSpec := { name := "fnExactGlobalsIn", fn := fun _ => fun
  | [d] => { results := [.lit (.bool false)], args := [d] }
  | _ => none }
def FnExactGlobalsInWrongFalsely : Prop := fnExactGlobalsInRow.holds Tryd.pinned (OpenSpec.ofChange fnExactGlobalsInWrong)

/- THE SECOND FORM. 'bulk': how many values and letters a reading holds, each counted each time it is reached (what is shared counts as often as it is met; a slice's spare places count too). A statement '..UptoSaid' is the law's where the arguments, and the package variables that the reading takes, are together of bulk at most 1048576: NARROWER than '..Said'. Prove '..Said' where nothing that the law and all that it calls make is longer than what came in: it says more and counts as full. Else prove '..UptoSaid'. A law counts once. -/
mutual
def uptoBulk {H : Type} : DataW H → Nat
  | .lit (.string bytes) => bytes.length + 1
  | .lit _ => 1
  | .nil => 1
  | .ptr d => uptoBulk d + 1
  | .slice elems spare => uptoBulkAll elems + uptoBulkAll spare + 1
  | .agg parts => uptoBulkAll parts + 1
  | .iface _ d => uptoBulk d + 1
  | .map entries => uptoBulkEntries entries + 1
  | .held _ => 1
def uptoBulkAll {H : Type} : List (DataW H) → Nat
  | [] => 0
  | d :: r => uptoBulk d + uptoBulkAll r
def uptoBulkEntries {H : Type} : List (Lit × DataW H) → Nat
  | [] => 0
  | x :: r => uptoBulkEntry x + uptoBulkEntries r
def uptoBulkEntry {H : Type} : Lit × DataW H → Nat
  | (.string bytes, d) => bytes.length + uptoBulk d + 1
  | (_, d) => uptoBulk d + 1
 end
def uptoSmall : (H : Type) → List (DataW H) → Bool := fun _ ds => decide (uptoBulkAll ds ≤ 1048576)
def OpenSpec.upto (s : _root_.Go.ChangeSpec) : _root_.Go.OpenSpec := { _root_.Go.OpenSpec.ofChange s with cond := some uptoSmall }

/-- 'laws.FnExactApplyPrim', WHERE WHAT IT READS IS OF BULK AT MOST 1048576: true; the input reads as it did. -/
def fnExactApplyPrimUptoRow : OpenClaim := { program := "ytgoccbnpchglkaadoor", sum := "c8a6db95e620347eb1a8f34c7ed1cd69a5c78aad894200c2b9cb05d24b77ab5a", func := "loop.example/g00349/laws.FnExactApplyPrim", spec := "fnExactApplyPrim", inPlace := ["internal/bytealg.IndexByteString", "internal/bytealg.IndexString"], unfollowed := true, recurses := true, named := ["unicode/utf8.first", "unicode/utf8.acceptRanges", "internal/bytealg.MaxLen"], apart := false, laid := [("unicode/utf8.acceptRanges", laid_unicode_utf8_acceptRanges), ("unicode/utf8.first", laid_unicode_utf8_first)], narrowed := true }
def FnExactApplyPrimUptoSaid : Prop := fnExactApplyPrimUptoRow.holds Tryd.pinned (OpenSpec.upto fnExactApplyPrimSpec)

/-- 'laws.FnPrims', WHERE WHAT IT READS IS OF BULK AT MOST 1048576: true; the input reads as it did. -/
def fnPrimsUptoRow : OpenClaim := { program := "ytgoccbnpchglkaadoor", sum := "c8a6db95e620347eb1a8f34c7ed1cd69a5c78aad894200c2b9cb05d24b77ab5a", func := "loop.example/g00349/laws.FnPrims", spec := "fnPrims", inPlace := ["internal/bytealg.IndexByteString", "internal/bytealg.IndexString"], unfollowed := true, recurses := true, named := ["unicode/utf8.first", "unicode/utf8.acceptRanges", "internal/bytealg.MaxLen"], apart := false, laid := [("unicode/utf8.acceptRanges", laid_unicode_utf8_acceptRanges), ("unicode/utf8.first", laid_unicode_utf8_first)], narrowed := true }
def FnPrimsUptoSaid : Prop := fnPrimsUptoRow.holds Tryd.pinned (OpenSpec.upto fnPrimsSpec)

/-- 'laws.FnApplies', WHERE WHAT IT READS IS OF BULK AT MOST 1048576: true; the input reads as it did. -/
def fnAppliesUptoRow : OpenClaim := { program := "ytgoccbnpchglkaadoor", sum := "c8a6db95e620347eb1a8f34c7ed1cd69a5c78aad894200c2b9cb05d24b77ab5a", func := "loop.example/g00349/laws.FnApplies", spec := "fnApplies", inPlace := ["internal/bytealg.IndexByteString", "internal/bytealg.IndexString"], unfollowed := true, recurses := true, named := ["unicode/utf8.first", "unicode/utf8.acceptRanges", "internal/bytealg.MaxLen"], apart := false, laid := [("unicode/utf8.acceptRanges", laid_unicode_utf8_acceptRanges), ("unicode/utf8.first", laid_unicode_utf8_first)], narrowed := true }
def FnAppliesUptoSaid : Prop := fnAppliesUptoRow.holds Tryd.pinned (OpenSpec.upto fnAppliesSpec)

/-- 'laws.FnExactPutData', WHERE WHAT IT READS IS OF BULK AT MOST 1048576: true; the input reads as it did. -/
def fnExactPutDataUptoRow : OpenClaim := { program := "ytgoccbnpchglkaadoor", sum := "c8a6db95e620347eb1a8f34c7ed1cd69a5c78aad894200c2b9cb05d24b77ab5a", func := "loop.example/g00349/laws.FnExactPutData", spec := "fnExactPutData", inPlace := ["internal/bytealg.IndexByteString", "internal/bytealg.IndexString"], unfollowed := true, recurses := true, named := ["unicode/utf8.first", "unicode/utf8.acceptRanges", "internal/bytealg.MaxLen"], apart := false, laid := [("unicode/utf8.acceptRanges", laid_unicode_utf8_acceptRanges), ("unicode/utf8.first", laid_unicode_utf8_first)], narrowed := true }
def FnExactPutDataUptoSaid : Prop := fnExactPutDataUptoRow.holds Tryd.pinned (OpenSpec.upto fnExactPutDataSpec)

/-- 'laws.FnExactGlobalsIn', WHERE WHAT IT READS IS OF BULK AT MOST 1048576: true; the input reads as it did. -/
def fnExactGlobalsInUptoRow : OpenClaim := { program := "ytgoccbnpchglkaadoor", sum := "c8a6db95e620347eb1a8f34c7ed1cd69a5c78aad894200c2b9cb05d24b77ab5a", func := "loop.example/g00349/laws.FnExactGlobalsIn", spec := "fnExactGlobalsIn", inPlace := ["internal/bytealg.IndexByteString", "internal/bytealg.IndexString"], unfollowed := true, recurses := true, named := ["unicode/utf8.first", "unicode/utf8.acceptRanges", "internal/bytealg.MaxLen"], apart := false, laid := [("unicode/utf8.acceptRanges", laid_unicode_utf8_acceptRanges), ("unicode/utf8.first", laid_unicode_utf8_first)], narrowed := true }
def FnExactGlobalsInUptoSaid : Prop := fnExactGlobalsInUptoRow.holds Tryd.pinned (OpenSpec.upto fnExactGlobalsInSpec)

end Rows
end Go.Proofs.YtgoccbnpchglkaaDoor
