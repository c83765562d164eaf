/-
  NARROWER THAN 'FOR EVERY INPUT', by the rows' own cells (each row's printed sentence says how): FnKnown: laid · FnGlobals: laid · FnSites: laid · FnExactCoreFault: laid · FnExactGlobalsIn: laid.
  DERIVED. THE GIVEN ROWS OF THIS SEAT. 5 by the template 'for every input the law returns true; each argument reads behind the call as it read before'; 0 by the template 'total and deterministic' (their statements: YtcliaceiijaafaaDoorTotals.lean).
  GIVEN WITH THE SEED: the statements are not yours to turn. If you find one false, say at which input.
  Laid BY PROGRAM, IN A SANDBOX (cutbox-rows.mjs): the forced cells as the released guide's own fill.sh prints them over the translation 51ceeee00a6cdf02… (all of the seat's roots in one cut). By AI agents, Wed Nov 11 2026. No macro, syntax, notation, axiom, sorry.
-/
import Derived.Test.YtcliaceiijaafaaDoorChecked
import GoSem.PinnedTables
import GoSem.Claim
import GoSem.ClaimJoined
import GoSem.ClaimMapViews
import Derived.JoinedTies
import Derived.KernelRfl
namespace Go.Proofs.YtcliaceiijaafaaDoor
/- THE CELL 'sum', in the pinned program and in every row, IS THE sha256 OF THE DUMP (.gsa) THAT YtcliaceiijaafaaDoorProg.lean LOADS. Nothing in Lean hashes anything: it is a label: what it is worth is what the hold of that sum in a sandbox is worth. -/
noncomputable def Tryd.pinned : Pinned := { name := "ytcliaceiijaafaadoor", sum := "51ceeee00a6cdf02277b2a2d63987787d46f6988f2b45af24d2865666a021cc6", checked := Tryd.checked }
namespace Rows
def none {H : Type} : Left H := { results := [], args := [] }

/- WHAT THE LISTED PACKAGE-LEVEL VARIABLES READ AS WHEN THE CALL BEGINS. Each datum BY PROGRAM (the guide's laid-datum.mjs) off the statement by which the dump's own 'gosem.cut.vars' lays the variable. In a bare row this is a premise. The card (YtcliaceiijaafaaDoorCards.lean) ties it to the program's text. -/
def laid_unicode_utf8_acceptRanges {H : Type} : DataW H := .agg [.agg [.lit (.int .u8 128), .lit (.int .u8 191)], .agg [.lit (.int .u8 160), .lit (.int .u8 191)], .agg [.lit (.int .u8 128), .lit (.int .u8 159)], .agg [.lit (.int .u8 144), .lit (.int .u8 191)], .agg [.lit (.int .u8 128), .lit (.int .u8 143)], .agg [.lit (.int .u8 0), .lit (.int .u8 0)], .agg [.lit (.int .u8 0), .lit (.int .u8 0)], .agg [.lit (.int .u8 0), .lit (.int .u8 0)], .agg [.lit (.int .u8 0), .lit (.int .u8 0)], .agg [.lit (.int .u8 0), .lit (.int .u8 0)], .agg [.lit (.int .u8 0), .lit (.int .u8 0)], .agg [.lit (.int .u8 0), .lit (.int .u8 0)], .agg [.lit (.int .u8 0), .lit (.int .u8 0)], .agg [.lit (.int .u8 0), .lit (.int .u8 0)], .agg [.lit (.int .u8 0), .lit (.int .u8 0)], .agg [.lit (.int .u8 0), .lit (.int .u8 0)]]
/-- One of Go's own tables, pinned by name: the form's constant. -/
def laid_unicode_utf8_first : DataW Unit := Go.Pinned.utf8First

/-- 'laws.FnKnown': WHATEVER THE INPUT: true; the input reads as it did. -/
def fnKnownSpec : ChangeSpec := { name := "fnKnown", fn := fun _ => fun
  | [d] => { results := [.lit (.bool true)], args := [d] }
  | _ => none }
def fnKnownRow : OpenClaim := { program := "ytcliaceiijaafaadoor", sum := "51ceeee00a6cdf02277b2a2d63987787d46f6988f2b45af24d2865666a021cc6", func := "loop.example/g00349/laws.FnKnown", spec := "fnKnown", inPlace := ["internal/bytealg.IndexByteString", "internal/bytealg.IndexString"], unfollowed := true, recurses := true, named := ["unicode/utf8.first", "unicode/utf8.acceptRanges", "internal/bytealg.MaxLen"], apart := false, laid := [("unicode/utf8.acceptRanges", laid_unicode_utf8_acceptRanges), ("unicode/utf8.first", laid_unicode_utf8_first)] }
def FnKnownSaid : Prop := fnKnownRow.holds Tryd.pinned (OpenSpec.ofChange fnKnownSpec)

/-- ITS FALSE NEIGHBOUR: 'it returns false'. Refute it at one input. -/
def fnKnownWrong : ChangeSpec := { name := "fnKnown", fn := fun _ => fun
  | [d] => { results := [.lit (.bool false)], args := [d] }
  | _ => none }
def FnKnownWrongFalsely : Prop := fnKnownRow.holds Tryd.pinned (OpenSpec.ofChange fnKnownWrong)

/-- 'laws.FnGlobals': WHATEVER THE INPUT: true; the input reads as it did. -/
def fnGlobalsSpec : ChangeSpec := { name := "fnGlobals", fn := fun _ => fun
  | [d] => { results := [.lit (.bool true)], args := [d] }
  | _ => none }
def fnGlobalsRow : OpenClaim := { program := "ytcliaceiijaafaadoor", sum := "51ceeee00a6cdf02277b2a2d63987787d46f6988f2b45af24d2865666a021cc6", func := "loop.example/g00349/laws.FnGlobals", spec := "fnGlobals", inPlace := ["internal/bytealg.IndexByteString", "internal/bytealg.IndexString"], unfollowed := true, recurses := true, named := ["unicode/utf8.first", "unicode/utf8.acceptRanges", "internal/bytealg.MaxLen"], apart := false, laid := [("unicode/utf8.acceptRanges", laid_unicode_utf8_acceptRanges), ("unicode/utf8.first", laid_unicode_utf8_first)] }
def FnGlobalsSaid : Prop := fnGlobalsRow.holds Tryd.pinned (OpenSpec.ofChange fnGlobalsSpec)

/-- ITS FALSE NEIGHBOUR: 'it returns false'. Refute it at one input. -/
def fnGlobalsWrong : ChangeSpec := { name := "fnGlobals", fn := fun _ => fun
  | [d] => { results := [.lit (.bool false)], args := [d] }
  | _ => none }
def FnGlobalsWrongFalsely : Prop := fnGlobalsRow.holds Tryd.pinned (OpenSpec.ofChange fnGlobalsWrong)

/-- 'laws.FnSites': WHATEVER THE INPUT: true; the input reads as it did. -/
def fnSitesSpec : ChangeSpec := { name := "fnSites", fn := fun _ => fun
  | [d] => { results := [.lit (.bool true)], args := [d] }
  | _ => none }
def fnSitesRow : OpenClaim := { program := "ytcliaceiijaafaadoor", sum := "51ceeee00a6cdf02277b2a2d63987787d46f6988f2b45af24d2865666a021cc6", func := "loop.example/g00349/laws.FnSites", spec := "fnSites", inPlace := ["internal/bytealg.IndexByteString", "internal/bytealg.IndexString"], unfollowed := true, recurses := true, named := ["unicode/utf8.first", "unicode/utf8.acceptRanges", "internal/bytealg.MaxLen"], apart := false, laid := [("unicode/utf8.acceptRanges", laid_unicode_utf8_acceptRanges), ("unicode/utf8.first", laid_unicode_utf8_first)] }
def FnSitesSaid : Prop := fnSitesRow.holds Tryd.pinned (OpenSpec.ofChange fnSitesSpec)

/-- ITS FALSE NEIGHBOUR: 'it returns false'. Refute it at one input. -/
def fnSitesWrong : ChangeSpec := { name := "fnSites", fn := fun _ => fun
  | [d] => { results := [.lit (.bool false)], args := [d] }
  | _ => none }
def FnSitesWrongFalsely : Prop := fnSitesRow.holds Tryd.pinned (OpenSpec.ofChange fnSitesWrong)

/-- 'laws.FnExactCoreFault': WHATEVER THE INPUT: true; the input reads as it did. -/
def fnExactCoreFaultSpec : ChangeSpec := { name := "fnExactCoreFault", fn := fun _ => fun
  | [d] => { results := [.lit (.bool true)], args := [d] }
  | _ => none }
def fnExactCoreFaultRow : OpenClaim := { program := "ytcliaceiijaafaadoor", sum := "51ceeee00a6cdf02277b2a2d63987787d46f6988f2b45af24d2865666a021cc6", func := "loop.example/g00349/laws.FnExactCoreFault", spec := "fnExactCoreFault", inPlace := ["internal/bytealg.IndexByteString", "internal/bytealg.IndexString"], unfollowed := true, recurses := true, named := ["unicode/utf8.first", "unicode/utf8.acceptRanges", "internal/bytealg.MaxLen"], apart := false, laid := [("unicode/utf8.acceptRanges", laid_unicode_utf8_acceptRanges), ("unicode/utf8.first", laid_unicode_utf8_first)] }
def FnExactCoreFaultSaid : Prop := fnExactCoreFaultRow.holds Tryd.pinned (OpenSpec.ofChange fnExactCoreFaultSpec)

/-- ITS FALSE NEIGHBOUR: 'it returns false'. Refute it at one input. -/
def fnExactCoreFaultWrong : ChangeSpec := { name := "fnExactCoreFault", fn := fun _ => fun
  | [d] => { results := [.lit (.bool false)], args := [d] }
  | _ => none }
def FnExactCoreFaultWrongFalsely : Prop := fnExactCoreFaultRow.holds Tryd.pinned (OpenSpec.ofChange fnExactCoreFaultWrong)

/-- 'laws.FnExactGlobalsIn': WHATEVER THE INPUT: true; the input reads as it did. -/
def fnExactGlobalsInSpec : ChangeSpec := { name := "fnExactGlobalsIn", fn := fun _ => fun
  | [d] => { results := [.lit (.bool true)], args := [d] }
  | _ => none }
def fnExactGlobalsInRow : OpenClaim := { program := "ytcliaceiijaafaadoor", sum := "51ceeee00a6cdf02277b2a2d63987787d46f6988f2b45af24d2865666a021cc6", func := "loop.example/g00349/laws.FnExactGlobalsIn", spec := "fnExactGlobalsIn", inPlace := ["internal/bytealg.IndexByteString", "internal/bytealg.IndexString"], unfollowed := true, recurses := true, named := ["unicode/utf8.first", "unicode/utf8.acceptRanges", "internal/bytealg.MaxLen"], apart := false, laid := [("unicode/utf8.acceptRanges", laid_unicode_utf8_acceptRanges), ("unicode/utf8.first", laid_unicode_utf8_first)] }
def FnExactGlobalsInSaid : Prop := fnExactGlobalsInRow.holds Tryd.pinned (OpenSpec.ofChange fnExactGlobalsInSpec)

/-- ITS FALSE NEIGHBOUR: 'it returns false'. Refute it at one input. -/
def fnExactGlobalsInWrong : ChangeSpec := { name := "fnExactGlobalsIn", fn := fun _ => fun
  | [d] => { results := [.lit (.bool false)], args := [d] }
  | _ => none }
def FnExactGlobalsInWrongFalsely : Prop := fnExactGlobalsInRow.holds Tryd.pinned (OpenSpec.ofChange fnExactGlobalsInWrong)

/- THE SECOND FORM. 'bulk': how many values and letters a reading holds, each counted each time it is reached (what is shared counts as often as it is met; a slice's spare places count too). A statement '..UptoSaid' is the law's where the arguments, and the package variables that the reading takes, are together of bulk at most 1048576: NARROWER than '..Said'. Prove '..Said' where nothing that the law and all that it calls make is longer than what came in: it says more and counts as full. Else prove '..UptoSaid'. A law counts once. -/
mutual
def uptoBulk {H : Type} : DataW H → Nat
  | .lit (.string bytes) => bytes.length + 1
  | .lit _ => 1
  | .nil => 1
  | .ptr d => uptoBulk d + 1
  | .slice elems spare => uptoBulkAll elems + uptoBulkAll spare + 1
  | .agg parts => uptoBulkAll parts + 1
  | .iface _ d => uptoBulk d + 1
  | .map entries => uptoBulkEntries entries + 1
  | .held _ => 1
def uptoBulkAll {H : Type} : List (DataW H) → Nat
  | [] => 0
  | d :: r => uptoBulk d + uptoBulkAll r
def uptoBulkEntries {H : Type} : List (Lit × DataW H) → Nat
  | [] => 0
  | x :: r => uptoBulkEntry x + uptoBulkEntries r
def uptoBulkEntry {H : Type} : Lit × DataW H → Nat
  | (.string bytes, d) => bytes.length + uptoBulk d + 1
  | (_, d) => uptoBulk d + 1
 end
def uptoSmall : (H : Type) → List (DataW H) → Bool := fun _ ds => decide (uptoBulkAll ds ≤ 1048576)
def OpenSpec.upto (s : _root_.Go.ChangeSpec) : _root_.Go.OpenSpec := { _root_.Go.OpenSpec.ofChange s with cond := some uptoSmall }

/-- 'laws.FnKnown', WHERE WHAT IT READS IS OF BULK AT MOST 1048576: true; the input reads as it did. -/
def fnKnownUptoRow : OpenClaim := { program := "ytcliaceiijaafaadoor", sum := "51ceeee00a6cdf02277b2a2d63987787d46f6988f2b45af24d2865666a021cc6", func := "loop.example/g00349/laws.FnKnown", spec := "fnKnown", inPlace := ["internal/bytealg.IndexByteString", "internal/bytealg.IndexString"], unfollowed := true, recurses := true, named := ["unicode/utf8.first", "unicode/utf8.acceptRanges", "internal/bytealg.MaxLen"], apart := false, laid := [("unicode/utf8.acceptRanges", laid_unicode_utf8_acceptRanges), ("unicode/utf8.first", laid_unicode_utf8_first)], narrowed := true }
def FnKnownUptoSaid : Prop := fnKnownUptoRow.holds Tryd.pinned (OpenSpec.upto fnKnownSpec)

/-- 'laws.FnGlobals', WHERE WHAT IT READS IS OF BULK AT MOST 1048576: true; the input reads as it did. -/
def fnGlobalsUptoRow : OpenClaim := { program := "ytcliaceiijaafaadoor", sum := "51ceeee00a6cdf02277b2a2d63987787d46f6988f2b45af24d2865666a021cc6", func := "loop.example/g00349/laws.FnGlobals", spec := "fnGlobals", inPlace := ["internal/bytealg.IndexByteString", "internal/bytealg.IndexString"], unfollowed := true, recurses := true, named := ["unicode/utf8.first", "unicode/utf8.acceptRanges", "internal/bytealg.MaxLen"], apart := false, laid := [("unicode/utf8.acceptRanges", laid_unicode_utf8_acceptRanges), ("unicode/utf8.first", laid_unicode_utf8_first)], narrowed := true }
def FnGlobalsUptoSaid : Prop := fnGlobalsUptoRow.holds Tryd.pinned (OpenSpec.upto fnGlobalsSpec)

/-- 'laws.FnSites', WHERE WHAT IT READS IS OF BULK AT MOST 1048576: true; the input reads as it did. -/
def fnSitesUptoRow : OpenClaim := { program := "ytcliaceiijaafaadoor", sum := "51ceeee00a6cdf02277b2a2d63987787d46f6988f2b45af24d2865666a021cc6", func := "loop.example/g00349/laws.FnSites", spec := "fnSites", inPlace := ["internal/bytealg.IndexByteString", "internal/bytealg.IndexString"], unfollowed := true, recurses := true, named := ["unicode/utf8.first", "unicode/utf8.acceptRanges", "internal/bytealg.MaxLen"], apart := false, laid := [("unicode/utf8.acceptRanges", laid_unicode_utf8_acceptRanges), ("unicode/utf8.first", laid_unicode_utf8_first)], narrowed := true }
def FnSitesUptoSaid : Prop := fnSitesUptoRow.holds Tryd.pinned (OpenSpec.upto fnSitesSpec)

/-- 'laws.FnExactCoreFault', WHERE WHAT IT READS IS OF BULK AT MOST 1048576: true; the input reads as it did. -/
def fnExactCoreFaultUptoRow : OpenClaim := { program := "ytcliaceiijaafaadoor", sum := "51ceeee00a6cdf02277b2a2d63987787d46f6988f2b45af24d2865666a021cc6", func := "loop.example/g00349/laws.FnExactCoreFault", spec := "fnExactCoreFault", inPlace := ["internal/bytealg.IndexByteString", "internal/bytealg.IndexString"], unfollowed := true, recurses := true, named := ["unicode/utf8.first", "unicode/utf8.acceptRanges", "internal/bytealg.MaxLen"], apart := false, laid := [("unicode/utf8.acceptRanges", laid_unicode_utf8_acceptRanges), ("unicode/utf8.first", laid_unicode_utf8_first)], narrowed := true }
def FnExactCoreFaultUptoSaid : Prop := fnExactCoreFaultUptoRow.holds Tryd.pinned (OpenSpec.upto fnExactCoreFaultSpec)

/-- 'laws.FnExactGlobalsIn', WHERE WHAT IT READS IS OF BULK AT MOST 1048576: true; the input reads as it did. -/
def fnExactGlobalsInUptoRow : OpenClaim := { program := "ytcliaceiijaafaadoor", sum := "51ceeee00a6cdf02277b2a2d63987787d46f6988f2b45af24d2865666a021cc6", func := "loop.example/g00349/laws.FnExactGlobalsIn", spec := "fnExactGlobalsIn", inPlace := ["internal/bytealg.IndexByteString", "internal/bytealg.IndexString"], unfollowed := true, recurses := true, named := ["unicode/utf8.first", "unicode/utf8.acceptRanges", "internal/bytealg.MaxLen"], apart := false, laid := [("unicode/utf8.acceptRanges", laid_unicode_utf8_acceptRanges), ("unicode/utf8.first", laid_unicode_utf8_first)], narrowed := true }
def FnExactGlobalsInUptoSaid : Prop := fnExactGlobalsInUptoRow.holds Tryd.pinned (OpenSpec.upto fnExactGlobalsInSpec)

end Rows
end Go.Proofs.YtcliaceiijaafaaDoor
