/-
  NARROWER THAN 'FOR EVERY INPUT', by the rows' own cells (each row's printed sentence says how): FnExactSymFault: laid · FnExactValueFault: laid · FnExactHeapFault: laid · FnExactDataFault: laid · FnExactGlobalsFault: laid · FnExactLookGlobal: laid.
  DERIVED. THE GIVEN ROWS OF THIS SEAT. 6 by the template 'for every input the law returns true; each argument reads behind the call as it read before'; 0 by the template 'total and deterministic' (their statements: YtigkkgikdpjdnaaDoorTotals.lean).
  GIVEN WITH THE SEED: the statements are not yours to turn. If you find one false, say at which input.
  Laid BY PROGRAM, IN A SANDBOX (cutbox-rows.mjs): the forced cells as the released guide's own fill.sh prints them over the translation 5d4ed89a51ba1809… (all of the seat's roots in one cut). By AI agents, Wed Nov 11 2026. No macro, syntax, notation, axiom, sorry.
-/
import Derived.Test.YtigkkgikdpjdnaaDoorChecked
import GoSem.PinnedTables
import GoSem.Claim
import GoSem.ClaimJoined
import GoSem.ClaimMapViews
import Derived.JoinedTies
import Derived.KernelRfl
namespace Go.Proofs.YtigkkgikdpjdnaaDoor
/- THE CELL 'sum', in the pinned program and in every row, IS THE sha256 OF THE DUMP (.gsa) THAT YtigkkgikdpjdnaaDoorProg.lean LOADS. Nothing in Lean hashes anything: it is a label: what it is worth is what the hold of that sum in a sandbox is worth. -/
noncomputable def Tryd.pinned : Pinned := { name := "ytigkkgikdpjdnaadoor", sum := "5d4ed89a51ba180925e5305616fe8ef1377a9f0631864e7b1c1ef23443750a4a", checked := Tryd.checked }
namespace Rows
def none {H : Type} : Left H := { results := [], args := [] }

/- WHAT THE LISTED PACKAGE-LEVEL VARIABLES READ AS WHEN THE CALL BEGINS. Each datum BY PROGRAM (the guide's laid-datum.mjs) off the statement by which the dump's own 'gosem.cut.vars' lays the variable. In a bare row this is a premise. The card (YtigkkgikdpjdnaaDoorCards.lean) ties it to the program's text. -/
def laid_unicode_utf8_acceptRanges {H : Type} : DataW H := .agg [.agg [.lit (.int .u8 128), .lit (.int .u8 191)], .agg [.lit (.int .u8 160), .lit (.int .u8 191)], .agg [.lit (.int .u8 128), .lit (.int .u8 159)], .agg [.lit (.int .u8 144), .lit (.int .u8 191)], .agg [.lit (.int .u8 128), .lit (.int .u8 143)], .agg [.lit (.int .u8 0), .lit (.int .u8 0)], .agg [.lit (.int .u8 0), .lit (.int .u8 0)], .agg [.lit (.int .u8 0), .lit (.int .u8 0)], .agg [.lit (.int .u8 0), .lit (.int .u8 0)], .agg [.lit (.int .u8 0), .lit (.int .u8 0)], .agg [.lit (.int .u8 0), .lit (.int .u8 0)], .agg [.lit (.int .u8 0), .lit (.int .u8 0)], .agg [.lit (.int .u8 0), .lit (.int .u8 0)], .agg [.lit (.int .u8 0), .lit (.int .u8 0)], .agg [.lit (.int .u8 0), .lit (.int .u8 0)], .agg [.lit (.int .u8 0), .lit (.int .u8 0)]]
/-- One of Go's own tables, pinned by name: the form's constant. -/
def laid_unicode_utf8_first : DataW Unit := Go.Pinned.utf8First

/-- 'laws.FnExactSymFault': WHATEVER THE INPUT: true; the input reads as it did. -/
def fnExactSymFaultSpec : ChangeSpec := { name := "fnExactSymFault", fn := fun _ => fun
  | [d] => { results := [.lit (.bool true)], args := [d] }
  | _ => none }
def fnExactSymFaultRow : OpenClaim := { program := "ytigkkgikdpjdnaadoor", sum := "5d4ed89a51ba180925e5305616fe8ef1377a9f0631864e7b1c1ef23443750a4a", func := "loop.example/g00349/laws.FnExactSymFault", spec := "fnExactSymFault", inPlace := ["internal/bytealg.IndexByteString", "internal/bytealg.IndexString"], named := ["unicode/utf8.first", "unicode/utf8.acceptRanges", "internal/bytealg.MaxLen"], apart := false, laid := [("unicode/utf8.acceptRanges", laid_unicode_utf8_acceptRanges), ("unicode/utf8.first", laid_unicode_utf8_first)] }
def FnExactSymFaultSaid : Prop := fnExactSymFaultRow.holds Tryd.pinned (OpenSpec.ofChange fnExactSymFaultSpec)

/-- ITS FALSE NEIGHBOUR: 'it returns false'. Refute it at one input. -/
def fnExactSymFaultWrong : ChangeSpec := { name := "fnExactSymFault", fn := fun _ => fun
  | [d] => { results := [.lit (.bool false)], args := [d] }
  | _ => none }
def FnExactSymFaultWrongFalsely : Prop := fnExactSymFaultRow.holds Tryd.pinned (OpenSpec.ofChange fnExactSymFaultWrong)

/-- 'laws.FnExactValueFault': WHATEVER THE INPUT: true; the input reads as it did. -/
def fnExactValueFaultSpec : ChangeSpec := { name := "fnExactValueFault", fn := fun _ => fun
  | [d] => { results := [.lit (.bool true)], args := [d] }
  | _ => none }
def fnExactValueFaultRow : OpenClaim := { program := "ytigkkgikdpjdnaadoor", sum := "5d4ed89a51ba180925e5305616fe8ef1377a9f0631864e7b1c1ef23443750a4a", func := "loop.example/g00349/laws.FnExactValueFault", spec := "fnExactValueFault", inPlace := ["internal/bytealg.IndexByteString", "internal/bytealg.IndexString"], named := ["unicode/utf8.first", "unicode/utf8.acceptRanges", "internal/bytealg.MaxLen"], apart := false, laid := [("unicode/utf8.acceptRanges", laid_unicode_utf8_acceptRanges), ("unicode/utf8.first", laid_unicode_utf8_first)] }
def FnExactValueFaultSaid : Prop := fnExactValueFaultRow.holds Tryd.pinned (OpenSpec.ofChange fnExactValueFaultSpec)

/-- ITS FALSE NEIGHBOUR: 'it returns false'. Refute it at one input. -/
def fnExactValueFaultWrong : ChangeSpec := { name := "fnExactValueFault", fn := fun _ => fun
  | [d] => { results := [.lit (.bool false)], args := [d] }
  | _ => none }
def FnExactValueFaultWrongFalsely : Prop := fnExactValueFaultRow.holds Tryd.pinned (OpenSpec.ofChange fnExactValueFaultWrong)

/-- 'laws.FnExactHeapFault': WHATEVER THE INPUT: true; the input reads as it did. -/
def fnExactHeapFaultSpec : ChangeSpec := { name := "fnExactHeapFault", fn := fun _ => fun
  | [d] => { results := [.lit (.bool true)], args := [d] }
  | _ => none }
def fnExactHeapFaultRow : OpenClaim := { program := "ytigkkgikdpjdnaadoor", sum := "5d4ed89a51ba180925e5305616fe8ef1377a9f0631864e7b1c1ef23443750a4a", func := "loop.example/g00349/laws.FnExactHeapFault", spec := "fnExactHeapFault", inPlace := ["internal/bytealg.IndexByteString", "internal/bytealg.IndexString"], named := ["unicode/utf8.first", "unicode/utf8.acceptRanges", "internal/bytealg.MaxLen"], apart := false, laid := [("unicode/utf8.acceptRanges", laid_unicode_utf8_acceptRanges), ("unicode/utf8.first", laid_unicode_utf8_first)] }
def FnExactHeapFaultSaid : Prop := fnExactHeapFaultRow.holds Tryd.pinned (OpenSpec.ofChange fnExactHeapFaultSpec)

/-- ITS FALSE NEIGHBOUR: 'it returns false'. Refute it at one input. -/
def fnExactHeapFaultWrong : ChangeSpec := { name := "fnExactHeapFault", fn := fun _ => fun
  | [d] => { results := [.lit (.bool false)], args := [d] }
  | _ => none }
def FnExactHeapFaultWrongFalsely : Prop := fnExactHeapFaultRow.holds Tryd.pinned (OpenSpec.ofChange fnExactHeapFaultWrong)

/-- 'laws.FnExactDataFault': WHATEVER THE INPUT: true; the input reads as it did. -/
def fnExactDataFaultSpec : ChangeSpec := { name := "fnExactDataFault", fn := fun _ => fun
  | [d] => { results := [.lit (.bool true)], args := [d] }
  | _ => none }
def fnExactDataFaultRow : OpenClaim := { program := "ytigkkgikdpjdnaadoor", sum := "5d4ed89a51ba180925e5305616fe8ef1377a9f0631864e7b1c1ef23443750a4a", func := "loop.example/g00349/laws.FnExactDataFault", spec := "fnExactDataFault", inPlace := ["internal/bytealg.IndexByteString", "internal/bytealg.IndexString"], unfollowed := true, recurses := true, named := ["unicode/utf8.first", "unicode/utf8.acceptRanges", "internal/bytealg.MaxLen"], apart := false, laid := [("unicode/utf8.acceptRanges", laid_unicode_utf8_acceptRanges), ("unicode/utf8.first", laid_unicode_utf8_first)] }
def FnExactDataFaultSaid : Prop := fnExactDataFaultRow.holds Tryd.pinned (OpenSpec.ofChange fnExactDataFaultSpec)

/-- ITS FALSE NEIGHBOUR: 'it returns false'. Refute it at one input. -/
def fnExactDataFaultWrong : ChangeSpec := { name := "fnExactDataFault", fn := fun _ => fun
  | [d] => { results := [.lit (.bool false)], args := [d] }
  | _ => none }
def FnExactDataFaultWrongFalsely : Prop := fnExactDataFaultRow.holds Tryd.pinned (OpenSpec.ofChange fnExactDataFaultWrong)

/-- 'laws.FnExactGlobalsFault': WHATEVER THE INPUT: true; the input reads as it did. -/
def fnExactGlobalsFaultSpec : ChangeSpec := { name := "fnExactGlobalsFault", fn := fun _ => fun
  | [d] => { results := [.lit (.bool true)], args := [d] }
  | _ => none }
def fnExactGlobalsFaultRow : OpenClaim := { program := "ytigkkgikdpjdnaadoor", sum := "5d4ed89a51ba180925e5305616fe8ef1377a9f0631864e7b1c1ef23443750a4a", func := "loop.example/g00349/laws.FnExactGlobalsFault", spec := "fnExactGlobalsFault", inPlace := ["internal/bytealg.IndexByteString", "internal/bytealg.IndexString"], unfollowed := true, recurses := true, named := ["unicode/utf8.first", "unicode/utf8.acceptRanges", "internal/bytealg.MaxLen"], apart := false, laid := [("unicode/utf8.acceptRanges", laid_unicode_utf8_acceptRanges), ("unicode/utf8.first", laid_unicode_utf8_first)] }
def FnExactGlobalsFaultSaid : Prop := fnExactGlobalsFaultRow.holds Tryd.pinned (OpenSpec.ofChange fnExactGlobalsFaultSpec)

/-- ITS FALSE NEIGHBOUR: 'it returns false'. Refute it at one input. -/
def fnExactGlobalsFaultWrong : ChangeSpec := { name := "fnExactGlobalsFault", fn := fun _ => fun
  | [d] => { results := [.lit (.bool false)], args := [d] }
  | _ => none }
def FnExactGlobalsFaultWrongFalsely : Prop := fnExactGlobalsFaultRow.holds Tryd.pinned (OpenSpec.ofChange fnExactGlobalsFaultWrong)

/-- 'laws.FnExactLookGlobal': WHATEVER THE INPUT: true; the input reads as it did. -/
def fnExactLookGlobalSpec : ChangeSpec := { name := "fnExactLookGlobal", fn := fun _ => fun
  | [d1, d2] => { results := [.lit (.bool true)], args := [d1, d2] }
  | _ => none }
def fnExactLookGlobalRow : OpenClaim := { program := "ytigkkgikdpjdnaadoor", sum := "5d4ed89a51ba180925e5305616fe8ef1377a9f0631864e7b1c1ef23443750a4a", func := "loop.example/g00349/laws.FnExactLookGlobal", spec := "fnExactLookGlobal", inPlace := ["internal/bytealg.IndexByteString", "internal/bytealg.IndexString"], unfollowed := true, recurses := true, named := ["unicode/utf8.first", "unicode/utf8.acceptRanges", "internal/bytealg.MaxLen"], apart := false, laid := [("unicode/utf8.acceptRanges", laid_unicode_utf8_acceptRanges), ("unicode/utf8.first", laid_unicode_utf8_first)] }
def FnExactLookGlobalSaid : Prop := fnExactLookGlobalRow.holds Tryd.pinned (OpenSpec.ofChange fnExactLookGlobalSpec)

/-- ITS FALSE NEIGHBOUR: 'it returns false'. Refute it at one input. -/
def fnExactLookGlobalWrong : ChangeSpec := { name := "fnExactLookGlobal", fn := fun _ => fun
  | [d1, d2] => { results := [.lit (.bool false)], args := [d1, d2] }
  | _ => none }
def FnExactLookGlobalWrongFalsely : Prop := fnExactLookGlobalRow.holds Tryd.pinned (OpenSpec.ofChange fnExactLookGlobalWrong)

/- THE SECOND FORM. 'bulk': how many values and letters a reading holds, each counted each time it is reached (what is shared counts as often as it is met; a slice's spare places count too). A statement '..UptoSaid' is the law's where the arguments, and the package variables that the reading takes, are together of bulk at most 1048576: NARROWER than '..Said'. Prove '..Said' where nothing that the law and all that it calls make is longer than what came in: it says more and counts as full. Else prove '..UptoSaid'. A law counts once. -/
mutual
def uptoBulk {H : Type} : DataW H → Nat
  | .lit (.string bytes) => bytes.length + 1
  | .lit _ => 1
  | .nil => 1
  | .ptr d => uptoBulk d + 1
  | .slice elems spare => uptoBulkAll elems + uptoBulkAll spare + 1
  | .agg parts => uptoBulkAll parts + 1
  | .iface _ d => uptoBulk d + 1
  | .map entries => uptoBulkEntries entries + 1
  | .held _ => 1
def uptoBulkAll {H : Type} : List (DataW H) → Nat
  | [] => 0
  | d :: r => uptoBulk d + uptoBulkAll r
def uptoBulkEntries {H : Type} : List (Lit × DataW H) → Nat
  | [] => 0
  | x :: r => uptoBulkEntry x + uptoBulkEntries r
def uptoBulkEntry {H : Type} : Lit × DataW H → Nat
  | (.string bytes, d) => bytes.length + uptoBulk d + 1
  | (_, d) => uptoBulk d + 1
 end
def uptoSmall : (H : Type) → List (DataW H) → Bool := fun _ ds => decide (uptoBulkAll ds ≤ 1048576)
def OpenSpec.upto (s : _root_.Go.ChangeSpec) : _root_.Go.OpenSpec := { _root_.Go.OpenSpec.ofChange s with cond := some uptoSmall }

/-- 'laws.FnExactSymFault', WHERE WHAT IT READS IS OF BULK AT MOST 1048576: true; the input reads as it did. -/
def fnExactSymFaultUptoRow : OpenClaim := { program := "ytigkkgikdpjdnaadoor", sum := "5d4ed89a51ba180925e5305616fe8ef1377a9f0631864e7b1c1ef23443750a4a", func := "loop.example/g00349/laws.FnExactSymFault", spec := "fnExactSymFault", inPlace := ["internal/bytealg.IndexByteString", "internal/bytealg.IndexString"], named := ["unicode/utf8.first", "unicode/utf8.acceptRanges", "internal/bytealg.MaxLen"], apart := false, laid := [("unicode/utf8.acceptRanges", laid_unicode_utf8_acceptRanges), ("unicode/utf8.first", laid_unicode_utf8_first)], narrowed := true }
def FnExactSymFaultUptoSaid : Prop := fnExactSymFaultUptoRow.holds Tryd.pinned (OpenSpec.upto fnExactSymFaultSpec)

/-- 'laws.FnExactValueFault', WHERE WHAT IT READS IS OF BULK AT MOST 1048576: true; the input reads as it did. -/
def fnExactValueFaultUptoRow : OpenClaim := { program := "ytigkkgikdpjdnaadoor", sum := "5d4ed89a51ba180925e5305616fe8ef1377a9f0631864e7b1c1ef23443750a4a", func := "loop.example/g00349/laws.FnExactValueFault", spec := "fnExactValueFault", inPlace := ["internal/bytealg.IndexByteString", "internal/bytealg.IndexString"], named := ["unicode/utf8.first", "unicode/utf8.acceptRanges", "internal/bytealg.MaxLen"], apart := false, laid := [("unicode/utf8.acceptRanges", laid_unicode_utf8_acceptRanges), ("unicode/utf8.first", laid_unicode_utf8_first)], narrowed := true }
def FnExactValueFaultUptoSaid : Prop := fnExactValueFaultUptoRow.holds Tryd.pinned (OpenSpec.upto fnExactValueFaultSpec)

/-- 'laws.FnExactHeapFault', WHERE WHAT IT READS IS OF BULK AT MOST 1048576: true; the input reads as it did. -/
def fnExactHeapFaultUptoRow : OpenClaim := { program := "ytigkkgikdpjdnaadoor", sum := "5d4ed89a51ba180925e5305616fe8ef1377a9f0631864e7b1c1ef23443750a4a", func := "loop.example/g00349/laws.FnExactHeapFault", spec := "fnExactHeapFault", inPlace := ["internal/bytealg.IndexByteString", "internal/bytealg.IndexString"], named := ["unicode/utf8.first", "unicode/utf8.acceptRanges", "internal/bytealg.MaxLen"], apart := false, laid := [("unicode/utf8.acceptRanges", laid_unicode_utf8_acceptRanges), ("unicode/utf8.first", laid_unicode_utf8_first)], narrowed := true }
def FnExactHeapFaultUptoSaid : Prop := fnExactHeapFaultUptoRow.holds Tryd.pinned (OpenSpec.upto fnExactHeapFaultSpec)

/-- 'laws.FnExactDataFault', WHERE WHAT IT READS IS OF BULK AT MOST 1048576: true; the input reads as it did. -/
def fnExactDataFaultUptoRow : OpenClaim := { program := "ytigkkgikdpjdnaadoor", sum := "5d4ed89a51ba180925e5305616fe8ef1377a9f0631864e7b1c1ef23443750a4a", func := "loop.example/g00349/laws.FnExactDataFault", spec := "fnExactDataFault", inPlace := ["internal/bytealg.IndexByteString", "internal/bytealg.IndexString"], unfollowed := true, recurses := true, named := ["unicode/utf8.first", "unicode/utf8.acceptRanges", "internal/bytealg.MaxLen"], apart := false, laid := [("unicode/utf8.acceptRanges", laid_unicode_utf8_acceptRanges), ("unicode/utf8.first", laid_unicode_utf8_first)], narrowed := true }
def FnExactDataFaultUptoSaid : Prop := fnExactDataFaultUptoRow.holds Tryd.pinned (OpenSpec.upto fnExactDataFaultSpec)

/-- 'laws.FnExactGlobalsFault', WHERE WHAT IT READS IS OF BULK AT MOST 1048576: true; the input reads as it did. -/
def fnExactGlobalsFaultUptoRow : OpenClaim := { program := "ytigkkgikdpjdnaadoor", sum := "5d4ed89a51ba180925e5305616fe8ef1377a9f0631864e7b1c1ef23443750a4a", func := "loop.example/g00349/laws.FnExactGlobalsFault", spec := "fnExactGlobalsFault", inPlace := ["internal/bytealg.IndexByteString", "internal/bytealg.IndexString"], unfollowed := true, recurses := true, named := ["unicode/utf8.first", "unicode/utf8.acceptRanges", "internal/bytealg.MaxLen"], apart := false, laid := [("unicode/utf8.acceptRanges", laid_unicode_utf8_acceptRanges), ("unicode/utf8.first", laid_unicode_utf8_first)], narrowed := true }
def FnExactGlobalsFaultUptoSaid : Prop := fnExactGlobalsFaultUptoRow.holds Tryd.pinned (OpenSpec.upto fnExactGlobalsFaultSpec)

/-- 'laws.FnExactLookGlobal', WHERE WHAT IT READS IS OF BULK AT MOST 1048576: true; the input reads as it did. -/
def fnExactLookGlobalUptoRow : OpenClaim := { program := "ytigkkgikdpjdnaadoor", sum := "5d4ed89a51ba180925e5305616fe8ef1377a9f0631864e7b1c1ef23443750a4a", func := "loop.example/g00349/laws.FnExactLookGlobal", spec := "fnExactLookGlobal", inPlace := ["internal/bytealg.IndexByteString", "internal/bytealg.IndexString"], unfollowed := true, recurses := true, named := ["unicode/utf8.first", "unicode/utf8.acceptRanges", "internal/bytealg.MaxLen"], apart := false, laid := [("unicode/utf8.acceptRanges", laid_unicode_utf8_acceptRanges), ("unicode/utf8.first", laid_unicode_utf8_first)], narrowed := true }
def FnExactLookGlobalUptoSaid : Prop := fnExactLookGlobalUptoRow.holds Tryd.pinned (OpenSpec.upto fnExactLookGlobalSpec)

end Rows
end Go.Proofs.YtigkkgikdpjdnaaDoor
