/-
  NARROWER THAN 'FOR EVERY INPUT', by the rows' own cells (each row's printed sentence says how): FnExactSiteFault: laid · FnExactPartsOf: laid · FnExactSubData: laid · FnExactListFrom: laid · FnExactConsTo: laid · FnExactFetchSite: laid.
  DERIVED. THE GIVEN ROWS OF THIS SEAT. 6 by the template 'for every input the law returns true; each argument reads behind the call as it read before'; 0 by the template 'total and deterministic' (their statements: YtaeeoljihmndfaaDoorTotals.lean).
  GIVEN WITH THE SEED: the statements are not yours to turn. If you find one false, say at which input.
  Laid BY PROGRAM, IN A SANDBOX (cutbox-rows.mjs): the forced cells as the released guide's own fill.sh prints them over the translation 9935319e7aace4d7… (all of the seat's roots in one cut). By AI agents, Wed Nov 11 2026. No macro, syntax, notation, axiom, sorry.
-/
import Derived.Test.YtaeeoljihmndfaaDoorChecked
import GoSem.PinnedTables
import GoSem.Claim
import GoSem.ClaimJoined
import GoSem.ClaimMapViews
import Derived.JoinedTies
import Derived.KernelRfl
namespace Go.Proofs.YtaeeoljihmndfaaDoor
/- THE CELL 'sum', in the pinned program and in every row, IS THE sha256 OF THE DUMP (.gsa) THAT YtaeeoljihmndfaaDoorProg.lean LOADS. Nothing in Lean hashes anything: it is a label: what it is worth is what the hold of that sum in a sandbox is worth. -/
noncomputable def Tryd.pinned : Pinned := { name := "ytaeeoljihmndfaadoor", sum := "9935319e7aace4d7bb45c5d1d12d60a22426914338250f011e5f92da6812f1ef", checked := Tryd.checked }
namespace Rows
def none {H : Type} : Left H := { results := [], args := [] }

/- WHAT THE LISTED PACKAGE-LEVEL VARIABLES READ AS WHEN THE CALL BEGINS. Each datum BY PROGRAM (the guide's laid-datum.mjs) off the statement by which the dump's own 'gosem.cut.vars' lays the variable. In a bare row this is a premise. The card (YtaeeoljihmndfaaDoorCards.lean) ties it to the program's text. -/
def laid_unicode_utf8_acceptRanges {H : Type} : DataW H := .agg [.agg [.lit (.int .u8 128), .lit (.int .u8 191)], .agg [.lit (.int .u8 160), .lit (.int .u8 191)], .agg [.lit (.int .u8 128), .lit (.int .u8 159)], .agg [.lit (.int .u8 144), .lit (.int .u8 191)], .agg [.lit (.int .u8 128), .lit (.int .u8 143)], .agg [.lit (.int .u8 0), .lit (.int .u8 0)], .agg [.lit (.int .u8 0), .lit (.int .u8 0)], .agg [.lit (.int .u8 0), .lit (.int .u8 0)], .agg [.lit (.int .u8 0), .lit (.int .u8 0)], .agg [.lit (.int .u8 0), .lit (.int .u8 0)], .agg [.lit (.int .u8 0), .lit (.int .u8 0)], .agg [.lit (.int .u8 0), .lit (.int .u8 0)], .agg [.lit (.int .u8 0), .lit (.int .u8 0)], .agg [.lit (.int .u8 0), .lit (.int .u8 0)], .agg [.lit (.int .u8 0), .lit (.int .u8 0)], .agg [.lit (.int .u8 0), .lit (.int .u8 0)]]
/-- One of Go's own tables, pinned by name: the form's constant. -/
def laid_unicode_utf8_first : DataW Unit := Go.Pinned.utf8First

/-- 'laws.FnExactSiteFault': WHATEVER THE INPUT: true; the input reads as it did. -/
def fnExactSiteFaultSpec : ChangeSpec := { name := "fnExactSiteFault", fn := fun _ => fun
  | [d1, d2, d3] => { results := [.lit (.bool true)], args := [d1, d2, d3] }
  | _ => none }
def fnExactSiteFaultRow : OpenClaim := { program := "ytaeeoljihmndfaadoor", sum := "9935319e7aace4d7bb45c5d1d12d60a22426914338250f011e5f92da6812f1ef", func := "loop.example/g00349/laws.FnExactSiteFault", spec := "fnExactSiteFault", inPlace := ["internal/bytealg.IndexByteString", "internal/bytealg.IndexString"], unfollowed := true, recurses := true, named := ["unicode/utf8.first", "unicode/utf8.acceptRanges", "internal/bytealg.MaxLen"], apart := false, laid := [("unicode/utf8.acceptRanges", laid_unicode_utf8_acceptRanges), ("unicode/utf8.first", laid_unicode_utf8_first)] }
def FnExactSiteFaultSaid : Prop := fnExactSiteFaultRow.holds Tryd.pinned (OpenSpec.ofChange fnExactSiteFaultSpec)

/-- ITS FALSE NEIGHBOUR: 'it returns false'. Refute it at one input. -/
def fnExactSiteFaultWrong : ChangeSpec := { name := "fnExactSiteFault", fn := fun _ => fun
  | [d1, d2, d3] => { results := [.lit (.bool false)], args := [d1, d2, d3] }
  | _ => none }
def FnExactSiteFaultWrongFalsely : Prop := fnExactSiteFaultRow.holds Tryd.pinned (OpenSpec.ofChange fnExactSiteFaultWrong)

/-- 'laws.FnExactPartsOf': WHATEVER THE INPUT: true; the input reads as it did. -/
def fnExactPartsOfSpec : ChangeSpec := { name := "fnExactPartsOf", fn := fun _ => fun
  | [d1, d2] => { results := [.lit (.bool true)], args := [d1, d2] }
  | _ => none }
def fnExactPartsOfRow : OpenClaim := { program := "ytaeeoljihmndfaadoor", sum := "9935319e7aace4d7bb45c5d1d12d60a22426914338250f011e5f92da6812f1ef", func := "loop.example/g00349/laws.FnExactPartsOf", spec := "fnExactPartsOf", inPlace := ["internal/bytealg.IndexByteString", "internal/bytealg.IndexString"], unfollowed := true, recurses := true, named := ["unicode/utf8.first", "unicode/utf8.acceptRanges", "internal/bytealg.MaxLen"], apart := false, laid := [("unicode/utf8.acceptRanges", laid_unicode_utf8_acceptRanges), ("unicode/utf8.first", laid_unicode_utf8_first)] }
def FnExactPartsOfSaid : Prop := fnExactPartsOfRow.holds Tryd.pinned (OpenSpec.ofChange fnExactPartsOfSpec)

/-- ITS FALSE NEIGHBOUR: 'it returns false'. Refute it at one input. -/
def fnExactPartsOfWrong : ChangeSpec := { name := "fnExactPartsOf", fn := fun _ => fun
  | [d1, d2] => { results := [.lit (.bool false)], args := [d1, d2] }
  | _ => none }
def FnExactPartsOfWrongFalsely : Prop := fnExactPartsOfRow.holds Tryd.pinned (OpenSpec.ofChange fnExactPartsOfWrong)

/-- 'laws.FnExactSubData': WHATEVER THE INPUT: true; the input reads as it did. -/
def fnExactSubDataSpec : ChangeSpec := { name := "fnExactSubData", fn := fun _ => fun
  | [d1, d2] => { results := [.lit (.bool true)], args := [d1, d2] }
  | _ => none }
def fnExactSubDataRow : OpenClaim := { program := "ytaeeoljihmndfaadoor", sum := "9935319e7aace4d7bb45c5d1d12d60a22426914338250f011e5f92da6812f1ef", func := "loop.example/g00349/laws.FnExactSubData", spec := "fnExactSubData", inPlace := ["internal/bytealg.IndexByteString", "internal/bytealg.IndexString"], unfollowed := true, recurses := true, named := ["unicode/utf8.first", "unicode/utf8.acceptRanges", "internal/bytealg.MaxLen"], apart := false, laid := [("unicode/utf8.acceptRanges", laid_unicode_utf8_acceptRanges), ("unicode/utf8.first", laid_unicode_utf8_first)] }
def FnExactSubDataSaid : Prop := fnExactSubDataRow.holds Tryd.pinned (OpenSpec.ofChange fnExactSubDataSpec)

/-- ITS FALSE NEIGHBOUR: 'it returns false'. Refute it at one input. -/
def fnExactSubDataWrong : ChangeSpec := { name := "fnExactSubData", fn := fun _ => fun
  | [d1, d2] => { results := [.lit (.bool false)], args := [d1, d2] }
  | _ => none }
def FnExactSubDataWrongFalsely : Prop := fnExactSubDataRow.holds Tryd.pinned (OpenSpec.ofChange fnExactSubDataWrong)

/-- 'laws.FnExactListFrom': WHATEVER THE INPUT: true; the input reads as it did. -/
def fnExactListFromSpec : ChangeSpec := { name := "fnExactListFrom", fn := fun _ => fun
  | [d1, d2] => { results := [.lit (.bool true)], args := [d1, d2] }
  | _ => none }
def fnExactListFromRow : OpenClaim := { program := "ytaeeoljihmndfaadoor", sum := "9935319e7aace4d7bb45c5d1d12d60a22426914338250f011e5f92da6812f1ef", func := "loop.example/g00349/laws.FnExactListFrom", spec := "fnExactListFrom", inPlace := ["internal/bytealg.IndexByteString", "internal/bytealg.IndexString"], named := ["unicode/utf8.first", "unicode/utf8.acceptRanges", "internal/bytealg.MaxLen"], apart := false, laid := [("unicode/utf8.acceptRanges", laid_unicode_utf8_acceptRanges), ("unicode/utf8.first", laid_unicode_utf8_first)] }
def FnExactListFromSaid : Prop := fnExactListFromRow.holds Tryd.pinned (OpenSpec.ofChange fnExactListFromSpec)

/-- ITS FALSE NEIGHBOUR: 'it returns false'. Refute it at one input. -/
def fnExactListFromWrong : ChangeSpec := { name := "fnExactListFrom", fn := fun _ => fun
  | [d1, d2] => { results := [.lit (.bool false)], args := [d1, d2] }
  | _ => none }
def FnExactListFromWrongFalsely : Prop := fnExactListFromRow.holds Tryd.pinned (OpenSpec.ofChange fnExactListFromWrong)

/-- 'laws.FnExactConsTo': WHATEVER THE INPUT: true; the input reads as it did. -/
def fnExactConsToSpec : ChangeSpec := { name := "fnExactConsTo", fn := fun _ => fun
  | [d1, d2, d3] => { results := [.lit (.bool true)], args := [d1, d2, d3] }
  | _ => none }
def fnExactConsToRow : OpenClaim := { program := "ytaeeoljihmndfaadoor", sum := "9935319e7aace4d7bb45c5d1d12d60a22426914338250f011e5f92da6812f1ef", func := "loop.example/g00349/laws.FnExactConsTo", spec := "fnExactConsTo", inPlace := ["internal/bytealg.IndexByteString", "internal/bytealg.IndexString"], named := ["unicode/utf8.first", "unicode/utf8.acceptRanges", "internal/bytealg.MaxLen"], apart := false, laid := [("unicode/utf8.acceptRanges", laid_unicode_utf8_acceptRanges), ("unicode/utf8.first", laid_unicode_utf8_first)] }
def FnExactConsToSaid : Prop := fnExactConsToRow.holds Tryd.pinned (OpenSpec.ofChange fnExactConsToSpec)

/-- ITS FALSE NEIGHBOUR: 'it returns false'. Refute it at one input. -/
def fnExactConsToWrong : ChangeSpec := { name := "fnExactConsTo", fn := fun _ => fun
  | [d1, d2, d3] => { results := [.lit (.bool false)], args := [d1, d2, d3] }
  | _ => none }
def FnExactConsToWrongFalsely : Prop := fnExactConsToRow.holds Tryd.pinned (OpenSpec.ofChange fnExactConsToWrong)

/-- 'laws.FnExactFetchSite': WHATEVER THE INPUT: true; the input reads as it did. -/
def fnExactFetchSiteSpec : ChangeSpec := { name := "fnExactFetchSite", fn := fun _ => fun
  | [d1, d2, d3] => { results := [.lit (.bool true)], args := [d1, d2, d3] }
  | _ => none }
def fnExactFetchSiteRow : OpenClaim := { program := "ytaeeoljihmndfaadoor", sum := "9935319e7aace4d7bb45c5d1d12d60a22426914338250f011e5f92da6812f1ef", func := "loop.example/g00349/laws.FnExactFetchSite", spec := "fnExactFetchSite", inPlace := ["internal/bytealg.IndexByteString", "internal/bytealg.IndexString"], unfollowed := true, recurses := true, named := ["unicode/utf8.first", "unicode/utf8.acceptRanges", "internal/bytealg.MaxLen"], apart := false, laid := [("unicode/utf8.acceptRanges", laid_unicode_utf8_acceptRanges), ("unicode/utf8.first", laid_unicode_utf8_first)] }
def FnExactFetchSiteSaid : Prop := fnExactFetchSiteRow.holds Tryd.pinned (OpenSpec.ofChange fnExactFetchSiteSpec)

/-- ITS FALSE NEIGHBOUR: 'it returns false'. Refute it at one input. -/
def fnExactFetchSiteWrong : ChangeSpec := { name := "fnExactFetchSite", fn := fun _ => fun
  | [d1, d2, d3] => { results := [.lit (.bool false)], args := [d1, d2, d3] }
  | _ => none }
def FnExactFetchSiteWrongFalsely : Prop := fnExactFetchSiteRow.holds Tryd.pinned (OpenSpec.ofChange fnExactFetchSiteWrong)

/- THE SECOND FORM. 'bulk': how many values and letters a reading holds, each counted each time it is reached (what is shared counts as often as it is met; a slice's spare places count too). A statement '..UptoSaid' is the law's where the arguments, and the package variables that the reading takes, are together of bulk at most 1048576: NARROWER than '..Said'. Prove '..Said' where nothing that the law and all that it calls make is longer than what came in: it says more and counts as full. Else prove '..UptoSaid'. A law counts once. -/
mutual
def uptoBulk {H : Type} : DataW H → Nat
  | .lit (.string bytes) => bytes.length + 1
  | .lit _ => 1
  | .nil => 1
  | .ptr d => uptoBulk d + 1
  | .slice elems spare => uptoBulkAll elems + uptoBulkAll spare + 1
  | .agg parts => uptoBulkAll parts + 1
  | .iface _ d => uptoBulk d + 1
  | .map entries => uptoBulkEntries entries + 1
  | .held _ => 1
def uptoBulkAll {H : Type} : List (DataW H) → Nat
  | [] => 0
  | d :: r => uptoBulk d + uptoBulkAll r
def uptoBulkEntries {H : Type} : List (Lit × DataW H) → Nat
  | [] => 0
  | x :: r => uptoBulkEntry x + uptoBulkEntries r
def uptoBulkEntry {H : Type} : Lit × DataW H → Nat
  | (.string bytes, d) => bytes.length + uptoBulk d + 1
  | (_, d) => uptoBulk d + 1
 end
def uptoSmall : (H : Type) → List (DataW H) → Bool := fun _ ds => decide (uptoBulkAll ds ≤ 1048576)
def OpenSpec.upto (s : _root_.Go.ChangeSpec) : _root_.Go.OpenSpec := { _root_.Go.OpenSpec.ofChange s with cond := some uptoSmall }

/-- 'laws.FnExactSiteFault', WHERE WHAT IT READS IS OF BULK AT MOST 1048576: true; the input reads as it did. -/
def fnExactSiteFaultUptoRow : OpenClaim := { program := "ytaeeoljihmndfaadoor", sum := "9935319e7aace4d7bb45c5d1d12d60a22426914338250f011e5f92da6812f1ef", func := "loop.example/g00349/laws.FnExactSiteFault", spec := "fnExactSiteFault", inPlace := ["internal/bytealg.IndexByteString", "internal/bytealg.IndexString"], unfollowed := true, recurses := true, named := ["unicode/utf8.first", "unicode/utf8.acceptRanges", "internal/bytealg.MaxLen"], apart := false, laid := [("unicode/utf8.acceptRanges", laid_unicode_utf8_acceptRanges), ("unicode/utf8.first", laid_unicode_utf8_first)], narrowed := true }
def FnExactSiteFaultUptoSaid : Prop := fnExactSiteFaultUptoRow.holds Tryd.pinned (OpenSpec.upto fnExactSiteFaultSpec)

/-- 'laws.FnExactPartsOf', WHERE WHAT IT READS IS OF BULK AT MOST 1048576: true; the input reads as it did. -/
def fnExactPartsOfUptoRow : OpenClaim := { program := "ytaeeoljihmndfaadoor", sum := "9935319e7aace4d7bb45c5d1d12d60a22426914338250f011e5f92da6812f1ef", func := "loop.example/g00349/laws.FnExactPartsOf", spec := "fnExactPartsOf", inPlace := ["internal/bytealg.IndexByteString", "internal/bytealg.IndexString"], unfollowed := true, recurses := true, named := ["unicode/utf8.first", "unicode/utf8.acceptRanges", "internal/bytealg.MaxLen"], apart := false, laid := [("unicode/utf8.acceptRanges", laid_unicode_utf8_acceptRanges), ("unicode/utf8.first", laid_unicode_utf8_first)], narrowed := true }
def FnExactPartsOfUptoSaid : Prop := fnExactPartsOfUptoRow.holds Tryd.pinned (OpenSpec.upto fnExactPartsOfSpec)

/-- 'laws.FnExactSubData', WHERE WHAT IT READS IS OF BULK AT MOST 1048576: true; the input reads as it did. -/
def fnExactSubDataUptoRow : OpenClaim := { program := "ytaeeoljihmndfaadoor", sum := "9935319e7aace4d7bb45c5d1d12d60a22426914338250f011e5f92da6812f1ef", func := "loop.example/g00349/laws.FnExactSubData", spec := "fnExactSubData", inPlace := ["internal/bytealg.IndexByteString", "internal/bytealg.IndexString"], unfollowed := true, recurses := true, named := ["unicode/utf8.first", "unicode/utf8.acceptRanges", "internal/bytealg.MaxLen"], apart := false, laid := [("unicode/utf8.acceptRanges", laid_unicode_utf8_acceptRanges), ("unicode/utf8.first", laid_unicode_utf8_first)], narrowed := true }
def FnExactSubDataUptoSaid : Prop := fnExactSubDataUptoRow.holds Tryd.pinned (OpenSpec.upto fnExactSubDataSpec)

/-- 'laws.FnExactListFrom', WHERE WHAT IT READS IS OF BULK AT MOST 1048576: true; the input reads as it did. -/
def fnExactListFromUptoRow : OpenClaim := { program := "ytaeeoljihmndfaadoor", sum := "9935319e7aace4d7bb45c5d1d12d60a22426914338250f011e5f92da6812f1ef", func := "loop.example/g00349/laws.FnExactListFrom", spec := "fnExactListFrom", inPlace := ["internal/bytealg.IndexByteString", "internal/bytealg.IndexString"], named := ["unicode/utf8.first", "unicode/utf8.acceptRanges", "internal/bytealg.MaxLen"], apart := false, laid := [("unicode/utf8.acceptRanges", laid_unicode_utf8_acceptRanges), ("unicode/utf8.first", laid_unicode_utf8_first)], narrowed := true }
def FnExactListFromUptoSaid : Prop := fnExactListFromUptoRow.holds Tryd.pinned (OpenSpec.upto fnExactListFromSpec)

/-- 'laws.FnExactConsTo', WHERE WHAT IT READS IS OF BULK AT MOST 1048576: true; the input reads as it did. -/
def fnExactConsToUptoRow : OpenClaim := { program := "ytaeeoljihmndfaadoor", sum := "9935319e7aace4d7bb45c5d1d12d60a22426914338250f011e5f92da6812f1ef", func := "loop.example/g00349/laws.FnExactConsTo", spec := "fnExactConsTo", inPlace := ["internal/bytealg.IndexByteString", "internal/bytealg.IndexString"], named := ["unicode/utf8.first", "unicode/utf8.acceptRanges", "internal/bytealg.MaxLen"], apart := false, laid := [("unicode/utf8.acceptRanges", laid_unicode_utf8_acceptRanges), ("unicode/utf8.first", laid_unicode_utf8_first)], narrowed := true }
def FnExactConsToUptoSaid : Prop := fnExactConsToUptoRow.holds Tryd.pinned (OpenSpec.upto fnExactConsToSpec)

/-- 'laws.FnExactFetchSite', WHERE WHAT IT READS IS OF BULK AT MOST 1048576: true; the input reads as it did. -/
def fnExactFetchSiteUptoRow : OpenClaim := { program := "ytaeeoljihmndfaadoor", sum := "9935319e7aace4d7bb45c5d1d12d60a22426914338250f011e5f92da6812f1ef", func := "loop.example/g00349/laws.FnExactFetchSite", spec := "fnExactFetchSite", inPlace := ["internal/bytealg.IndexByteString", "internal/bytealg.IndexString"], unfollowed := true, recurses := true, named := ["unicode/utf8.first", "unicode/utf8.acceptRanges", "internal/bytealg.MaxLen"], apart := false, laid := [("unicode/utf8.acceptRanges", laid_unicode_utf8_acceptRanges), ("unicode/utf8.first", laid_unicode_utf8_first)], narrowed := true }
def FnExactFetchSiteUptoSaid : Prop := fnExactFetchSiteUptoRow.holds Tryd.pinned (OpenSpec.upto fnExactFetchSiteSpec)

end Rows
end Go.Proofs.YtaeeoljihmndfaaDoor
