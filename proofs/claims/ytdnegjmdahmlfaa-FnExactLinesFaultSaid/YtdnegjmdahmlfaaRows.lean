/-
  No cell of these rows narrows 'for every input' (looked for: loops, veiled, ifaces, maps, wideKeys, modest, calm, conditions, laid).
  DERIVED. THE GIVEN ROWS OF THIS SEAT. 14 by the template 'for every input the law returns true; each argument reads behind the call as it read before'; 0 by the template 'total and deterministic' (their statements: YtdnegjmdahmlfaaTotals.lean).
  GIVEN WITH THE SEED: the statements are not yours to turn. If you find one false, say at which input.
  Laid BY PROGRAM, IN A SANDBOX (cutbox-rows.mjs): the forced cells as the released guide's own fill.sh prints them over the translation 0a986ee368465a89… (all of the seat's roots in one cut). By AI agents, Wed Nov 11 2026. No macro, syntax, notation, axiom, sorry.
-/
import Derived.Test.YtdnegjmdahmlfaaChecked
import GoSem.Claim
import GoSem.ClaimJoined
import GoSem.ClaimMapViews
import Derived.JoinedTies
import Derived.KernelRfl
namespace Go.Proofs.Ytdnegjmdahmlfaa
/- THE CELL 'sum', in the pinned program and in every row, IS THE sha256 OF THE DUMP (.gsa) THAT YtdnegjmdahmlfaaProg.lean LOADS. Nothing in Lean hashes anything: it is a label: what it is worth is what the hold of that sum in a sandbox is worth. -/
noncomputable def Try.pinned : Pinned := { name := "ytdnegjmdahmlfaa", sum := "0a986ee368465a892cc9c9acd383cb984e26d6d32d50cebec93f4d96a14cbb34", checked := Try.checked }
namespace Rows
def none {H : Type} : Left H := { results := [], args := [] }

/-- 'laws.FnExactConstants': WHATEVER THE INPUT: true; the input reads as it did. -/
def fnExactConstantsSpec : ChangeSpec := { name := "fnExactConstants", fn := fun _ => fun
  | [] => { results := [.lit (.bool true)], args := [] }
  | _ => none }
def fnExactConstantsRow : OpenClaim := { program := "ytdnegjmdahmlfaa", sum := "0a986ee368465a892cc9c9acd383cb984e26d6d32d50cebec93f4d96a14cbb34", func := "loop.example/g00349/laws.FnExactConstants", spec := "fnExactConstants", apart := false }
def FnExactConstantsSaid : Prop := fnExactConstantsRow.holds Try.pinned (OpenSpec.ofChange fnExactConstantsSpec)

/-- ITS FALSE NEIGHBOUR: 'it returns false'. Refute it at one input. -/
def fnExactConstantsWrong : ChangeSpec := { name := "fnExactConstants", fn := fun _ => fun
  | [] => { results := [.lit (.bool false)], args := [] }
  | _ => none }
def FnExactConstantsWrongFalsely : Prop := fnExactConstantsRow.holds Try.pinned (OpenSpec.ofChange fnExactConstantsWrong)

/-- 'laws.FnExactNumFault': WHATEVER THE INPUT: true; the input reads as it did. -/
def fnExactNumFaultSpec : ChangeSpec := { name := "fnExactNumFault", fn := fun _ => fun
  | [d] => { results := [.lit (.bool true)], args := [d] }
  | _ => none }
def fnExactNumFaultRow : OpenClaim := { program := "ytdnegjmdahmlfaa", sum := "0a986ee368465a892cc9c9acd383cb984e26d6d32d50cebec93f4d96a14cbb34", func := "loop.example/g00349/laws.FnExactNumFault", spec := "fnExactNumFault", apart := false }
def FnExactNumFaultSaid : Prop := fnExactNumFaultRow.holds Try.pinned (OpenSpec.ofChange fnExactNumFaultSpec)

/-- ITS FALSE NEIGHBOUR: 'it returns false'. Refute it at one input. -/
def fnExactNumFaultWrong : ChangeSpec := { name := "fnExactNumFault", fn := fun _ => fun
  | [d] => { results := [.lit (.bool false)], args := [d] }
  | _ => none }
def FnExactNumFaultWrongFalsely : Prop := fnExactNumFaultRow.holds Try.pinned (OpenSpec.ofChange fnExactNumFaultWrong)

/-- 'laws.FnExactSameValues': WHATEVER THE INPUT: true; the input reads as it did. -/
def fnExactSameValuesSpec : ChangeSpec := { name := "fnExactSameValues", fn := fun _ => fun
  | [d1, d2] => { results := [.lit (.bool true)], args := [d1, d2] }
  | _ => none }
def fnExactSameValuesRow : OpenClaim := { program := "ytdnegjmdahmlfaa", sum := "0a986ee368465a892cc9c9acd383cb984e26d6d32d50cebec93f4d96a14cbb34", func := "loop.example/g00349/laws.FnExactSameValues", spec := "fnExactSameValues", apart := false }
def FnExactSameValuesSaid : Prop := fnExactSameValuesRow.holds Try.pinned (OpenSpec.ofChange fnExactSameValuesSpec)

/-- ITS FALSE NEIGHBOUR: 'it returns false'. Refute it at one input. -/
def fnExactSameValuesWrong : ChangeSpec := { name := "fnExactSameValues", fn := fun _ => fun
  | [d1, d2] => { results := [.lit (.bool false)], args := [d1, d2] }
  | _ => none }
def FnExactSameValuesWrongFalsely : Prop := fnExactSameValuesRow.holds Try.pinned (OpenSpec.ofChange fnExactSameValuesWrong)

/-- 'laws.FnExactIsTrue': WHATEVER THE INPUT: true; the input reads as it did. -/
def fnExactIsTrueSpec : ChangeSpec := { name := "fnExactIsTrue", fn := fun _ => fun
  | [d] => { results := [.lit (.bool true)], args := [d] }
  | _ => none }
def fnExactIsTrueRow : OpenClaim := { program := "ytdnegjmdahmlfaa", sum := "0a986ee368465a892cc9c9acd383cb984e26d6d32d50cebec93f4d96a14cbb34", func := "loop.example/g00349/laws.FnExactIsTrue", spec := "fnExactIsTrue", apart := false }
def FnExactIsTrueSaid : Prop := fnExactIsTrueRow.holds Try.pinned (OpenSpec.ofChange fnExactIsTrueSpec)

/-- ITS FALSE NEIGHBOUR: 'it returns false'. Refute it at one input. -/
def fnExactIsTrueWrong : ChangeSpec := { name := "fnExactIsTrue", fn := fun _ => fun
  | [d] => { results := [.lit (.bool false)], args := [d] }
  | _ => none }
def FnExactIsTrueWrongFalsely : Prop := fnExactIsTrueRow.holds Try.pinned (OpenSpec.ofChange fnExactIsTrueWrong)

/-- 'laws.FnExactIsKeyword': WHATEVER THE INPUT: true; the input reads as it did. -/
def fnExactIsKeywordSpec : ChangeSpec := { name := "fnExactIsKeyword", fn := fun _ => fun
  | [d] => { results := [.lit (.bool true)], args := [d] }
  | _ => none }
def fnExactIsKeywordRow : OpenClaim := { program := "ytdnegjmdahmlfaa", sum := "0a986ee368465a892cc9c9acd383cb984e26d6d32d50cebec93f4d96a14cbb34", func := "loop.example/g00349/laws.FnExactIsKeyword", spec := "fnExactIsKeyword", apart := false }
def FnExactIsKeywordSaid : Prop := fnExactIsKeywordRow.holds Try.pinned (OpenSpec.ofChange fnExactIsKeywordSpec)

/-- ITS FALSE NEIGHBOUR: 'it returns false'. Refute it at one input. -/
def fnExactIsKeywordWrong : ChangeSpec := { name := "fnExactIsKeyword", fn := fun _ => fun
  | [d] => { results := [.lit (.bool false)], args := [d] }
  | _ => none }
def FnExactIsKeywordWrongFalsely : Prop := fnExactIsKeywordRow.holds Try.pinned (OpenSpec.ofChange fnExactIsKeywordWrong)

/-- 'laws.FnExactPrimText': WHATEVER THE INPUT: true; the input reads as it did. -/
def fnExactPrimTextSpec : ChangeSpec := { name := "fnExactPrimText", fn := fun _ => fun
  | [d] => { results := [.lit (.bool true)], args := [d] }
  | _ => none }
def fnExactPrimTextRow : OpenClaim := { program := "ytdnegjmdahmlfaa", sum := "0a986ee368465a892cc9c9acd383cb984e26d6d32d50cebec93f4d96a14cbb34", func := "loop.example/g00349/laws.FnExactPrimText", spec := "fnExactPrimText", apart := false }
def FnExactPrimTextSaid : Prop := fnExactPrimTextRow.holds Try.pinned (OpenSpec.ofChange fnExactPrimTextSpec)

/-- ITS FALSE NEIGHBOUR: 'it returns false'. Refute it at one input. -/
def fnExactPrimTextWrong : ChangeSpec := { name := "fnExactPrimText", fn := fun _ => fun
  | [d] => { results := [.lit (.bool false)], args := [d] }
  | _ => none }
def FnExactPrimTextWrongFalsely : Prop := fnExactPrimTextRow.holds Try.pinned (OpenSpec.ofChange fnExactPrimTextWrong)

/-- 'laws.FnExactPrimOf': WHATEVER THE INPUT: true; the input reads as it did. -/
def fnExactPrimOfSpec : ChangeSpec := { name := "fnExactPrimOf", fn := fun _ => fun
  | [d] => { results := [.lit (.bool true)], args := [d] }
  | _ => none }
def fnExactPrimOfRow : OpenClaim := { program := "ytdnegjmdahmlfaa", sum := "0a986ee368465a892cc9c9acd383cb984e26d6d32d50cebec93f4d96a14cbb34", func := "loop.example/g00349/laws.FnExactPrimOf", spec := "fnExactPrimOf", apart := false }
def FnExactPrimOfSaid : Prop := fnExactPrimOfRow.holds Try.pinned (OpenSpec.ofChange fnExactPrimOfSpec)

/-- ITS FALSE NEIGHBOUR: 'it returns false'. Refute it at one input. -/
def fnExactPrimOfWrong : ChangeSpec := { name := "fnExactPrimOf", fn := fun _ => fun
  | [d] => { results := [.lit (.bool false)], args := [d] }
  | _ => none }
def FnExactPrimOfWrongFalsely : Prop := fnExactPrimOfRow.holds Try.pinned (OpenSpec.ofChange fnExactPrimOfWrong)

/-- 'laws.FnExactAddNum': WHATEVER THE INPUT: true; the input reads as it did. -/
def fnExactAddNumSpec : ChangeSpec := { name := "fnExactAddNum", fn := fun _ => fun
  | [d1, d2] => { results := [.lit (.bool true)], args := [d1, d2] }
  | _ => none }
def fnExactAddNumRow : OpenClaim := { program := "ytdnegjmdahmlfaa", sum := "0a986ee368465a892cc9c9acd383cb984e26d6d32d50cebec93f4d96a14cbb34", func := "loop.example/g00349/laws.FnExactAddNum", spec := "fnExactAddNum", unfollowed := true, recurses := true, apart := false }
def FnExactAddNumSaid : Prop := fnExactAddNumRow.holds Try.pinned (OpenSpec.ofChange fnExactAddNumSpec)

/-- ITS FALSE NEIGHBOUR: 'it returns false'. Refute it at one input. -/
def fnExactAddNumWrong : ChangeSpec := { name := "fnExactAddNum", fn := fun _ => fun
  | [d1, d2] => { results := [.lit (.bool false)], args := [d1, d2] }
  | _ => none }
def FnExactAddNumWrongFalsely : Prop := fnExactAddNumRow.holds Try.pinned (OpenSpec.ofChange fnExactAddNumWrong)

/-- 'laws.FnExactMulNum': WHATEVER THE INPUT: true; the input reads as it did. -/
def fnExactMulNumSpec : ChangeSpec := { name := "fnExactMulNum", fn := fun _ => fun
  | [d1, d2] => { results := [.lit (.bool true)], args := [d1, d2] }
  | _ => none }
def fnExactMulNumRow : OpenClaim := { program := "ytdnegjmdahmlfaa", sum := "0a986ee368465a892cc9c9acd383cb984e26d6d32d50cebec93f4d96a14cbb34", func := "loop.example/g00349/laws.FnExactMulNum", spec := "fnExactMulNum", unfollowed := true, recurses := true, apart := false }
def FnExactMulNumSaid : Prop := fnExactMulNumRow.holds Try.pinned (OpenSpec.ofChange fnExactMulNumSpec)

/-- ITS FALSE NEIGHBOUR: 'it returns false'. Refute it at one input. -/
def fnExactMulNumWrong : ChangeSpec := { name := "fnExactMulNum", fn := fun _ => fun
  | [d1, d2] => { results := [.lit (.bool false)], args := [d1, d2] }
  | _ => none }
def FnExactMulNumWrongFalsely : Prop := fnExactMulNumRow.holds Try.pinned (OpenSpec.ofChange fnExactMulNumWrong)

/-- 'laws.FnExactSubNum': WHATEVER THE INPUT: true; the input reads as it did. -/
def fnExactSubNumSpec : ChangeSpec := { name := "fnExactSubNum", fn := fun _ => fun
  | [d1, d2] => { results := [.lit (.bool true)], args := [d1, d2] }
  | _ => none }
def fnExactSubNumRow : OpenClaim := { program := "ytdnegjmdahmlfaa", sum := "0a986ee368465a892cc9c9acd383cb984e26d6d32d50cebec93f4d96a14cbb34", func := "loop.example/g00349/laws.FnExactSubNum", spec := "fnExactSubNum", unfollowed := true, recurses := true, apart := false }
def FnExactSubNumSaid : Prop := fnExactSubNumRow.holds Try.pinned (OpenSpec.ofChange fnExactSubNumSpec)

/-- ITS FALSE NEIGHBOUR: 'it returns false'. Refute it at one input. -/
def fnExactSubNumWrong : ChangeSpec := { name := "fnExactSubNum", fn := fun _ => fun
  | [d1, d2] => { results := [.lit (.bool false)], args := [d1, d2] }
  | _ => none }
def FnExactSubNumWrongFalsely : Prop := fnExactSubNumRow.holds Try.pinned (OpenSpec.ofChange fnExactSubNumWrong)

/-- 'laws.FnExactQuoNum': WHATEVER THE INPUT: true; the input reads as it did. -/
def fnExactQuoNumSpec : ChangeSpec := { name := "fnExactQuoNum", fn := fun _ => fun
  | [d1, d2] => { results := [.lit (.bool true)], args := [d1, d2] }
  | _ => none }
def fnExactQuoNumRow : OpenClaim := { program := "ytdnegjmdahmlfaa", sum := "0a986ee368465a892cc9c9acd383cb984e26d6d32d50cebec93f4d96a14cbb34", func := "loop.example/g00349/laws.FnExactQuoNum", spec := "fnExactQuoNum", unfollowed := true, recurses := true, apart := false }
def FnExactQuoNumSaid : Prop := fnExactQuoNumRow.holds Try.pinned (OpenSpec.ofChange fnExactQuoNumSpec)

/-- ITS FALSE NEIGHBOUR: 'it returns false'. Refute it at one input. -/
def fnExactQuoNumWrong : ChangeSpec := { name := "fnExactQuoNum", fn := fun _ => fun
  | [d1, d2] => { results := [.lit (.bool false)], args := [d1, d2] }
  | _ => none }
def FnExactQuoNumWrongFalsely : Prop := fnExactQuoNumRow.holds Try.pinned (OpenSpec.ofChange fnExactQuoNumWrong)

/-- 'laws.FnExactRemNum': WHATEVER THE INPUT: true; the input reads as it did. -/
def fnExactRemNumSpec : ChangeSpec := { name := "fnExactRemNum", fn := fun _ => fun
  | [d1, d2] => { results := [.lit (.bool true)], args := [d1, d2] }
  | _ => none }
def fnExactRemNumRow : OpenClaim := { program := "ytdnegjmdahmlfaa", sum := "0a986ee368465a892cc9c9acd383cb984e26d6d32d50cebec93f4d96a14cbb34", func := "loop.example/g00349/laws.FnExactRemNum", spec := "fnExactRemNum", unfollowed := true, recurses := true, apart := false }
def FnExactRemNumSaid : Prop := fnExactRemNumRow.holds Try.pinned (OpenSpec.ofChange fnExactRemNumSpec)

/-- ITS FALSE NEIGHBOUR: 'it returns false'. Refute it at one input. -/
def fnExactRemNumWrong : ChangeSpec := { name := "fnExactRemNum", fn := fun _ => fun
  | [d1, d2] => { results := [.lit (.bool false)], args := [d1, d2] }
  | _ => none }
def FnExactRemNumWrongFalsely : Prop := fnExactRemNumRow.holds Try.pinned (OpenSpec.ofChange fnExactRemNumWrong)

/-- 'laws.FnExactLinesFault': WHATEVER THE INPUT: true; the input reads as it did. -/
def fnExactLinesFaultSpec : ChangeSpec := { name := "fnExactLinesFault", fn := fun _ => fun
  | [d1, d2] => { results := [.lit (.bool true)], args := [d1, d2] }
  | _ => none }
def fnExactLinesFaultRow : OpenClaim := { program := "ytdnegjmdahmlfaa", sum := "0a986ee368465a892cc9c9acd383cb984e26d6d32d50cebec93f4d96a14cbb34", func := "loop.example/g00349/laws.FnExactLinesFault", spec := "fnExactLinesFault", unfollowed := true, recurses := true, apart := false }
def FnExactLinesFaultSaid : Prop := fnExactLinesFaultRow.holds Try.pinned (OpenSpec.ofChange fnExactLinesFaultSpec)

/-- ITS FALSE NEIGHBOUR: 'it returns false'. Refute it at one input. -/
def fnExactLinesFaultWrong : ChangeSpec := { name := "fnExactLinesFault", fn := fun _ => fun
  | [d1, d2] => { results := [.lit (.bool false)], args := [d1, d2] }
  | _ => none }
def FnExactLinesFaultWrongFalsely : Prop := fnExactLinesFaultRow.holds Try.pinned (OpenSpec.ofChange fnExactLinesFaultWrong)

/-- 'laws.FnExactArgsFor': WHATEVER THE INPUT: true; the input reads as it did. -/
def fnExactArgsForSpec : ChangeSpec := { name := "fnExactArgsFor", fn := fun _ => fun
  | [d] => { results := [.lit (.bool true)], args := [d] }
  | _ => none }
def fnExactArgsForRow : OpenClaim := { program := "ytdnegjmdahmlfaa", sum := "0a986ee368465a892cc9c9acd383cb984e26d6d32d50cebec93f4d96a14cbb34", func := "loop.example/g00349/laws.FnExactArgsFor", spec := "fnExactArgsFor", apart := false }
def FnExactArgsForSaid : Prop := fnExactArgsForRow.holds Try.pinned (OpenSpec.ofChange fnExactArgsForSpec)

/-- ITS FALSE NEIGHBOUR: 'it returns false'. Refute it at one input. -/
def fnExactArgsForWrong : ChangeSpec := { name := "fnExactArgsFor", fn := fun _ => fun
  | [d] => { results := [.lit (.bool false)], args := [d] }
  | _ => none }
def FnExactArgsForWrongFalsely : Prop := fnExactArgsForRow.holds Try.pinned (OpenSpec.ofChange fnExactArgsForWrong)

/- THE SECOND FORM. 'bulk': how many values and letters a reading holds, each counted each time it is reached (what is shared counts as often as it is met; a slice's spare places count too). A statement '..UptoSaid' is the law's where the arguments, and the package variables that the reading takes, are together of bulk at most 1048576: NARROWER than '..Said'. Prove '..Said' where nothing that the law and all that it calls make is longer than what came in: it says more and counts as full. Else prove '..UptoSaid'. A law counts once. -/
mutual
def uptoBulk {H : Type} : DataW H → Nat
  | .lit (.string bytes) => bytes.length + 1
  | .lit _ => 1
  | .nil => 1
  | .ptr d => uptoBulk d + 1
  | .slice elems spare => uptoBulkAll elems + uptoBulkAll spare + 1
  | .agg parts => uptoBulkAll parts + 1
  | .iface _ d => uptoBulk d + 1
  | .map entries => uptoBulkEntries entries + 1
  | .held _ => 1
def uptoBulkAll {H : Type} : List (DataW H) → Nat
  | [] => 0
  | d :: r => uptoBulk d + uptoBulkAll r
def uptoBulkEntries {H : Type} : List (Lit × DataW H) → Nat
  | [] => 0
  | x :: r => uptoBulkEntry x + uptoBulkEntries r
def uptoBulkEntry {H : Type} : Lit × DataW H → Nat
  | (.string bytes, d) => bytes.length + uptoBulk d + 1
  | (_, d) => uptoBulk d + 1
 end
def uptoSmall : (H : Type) → List (DataW H) → Bool := fun _ ds => decide (uptoBulkAll ds ≤ 1048576)
def OpenSpec.upto (s : _root_.Go.ChangeSpec) : _root_.Go.OpenSpec := { _root_.Go.OpenSpec.ofChange s with cond := some uptoSmall }

/-- 'laws.FnExactConstants', WHERE WHAT IT READS IS OF BULK AT MOST 1048576: true; the input reads as it did. -/
def fnExactConstantsUptoRow : OpenClaim := { program := "ytdnegjmdahmlfaa", sum := "0a986ee368465a892cc9c9acd383cb984e26d6d32d50cebec93f4d96a14cbb34", func := "loop.example/g00349/laws.FnExactConstants", spec := "fnExactConstants", apart := false, narrowed := true }
def FnExactConstantsUptoSaid : Prop := fnExactConstantsUptoRow.holds Try.pinned (OpenSpec.upto fnExactConstantsSpec)

/-- 'laws.FnExactNumFault', WHERE WHAT IT READS IS OF BULK AT MOST 1048576: true; the input reads as it did. -/
def fnExactNumFaultUptoRow : OpenClaim := { program := "ytdnegjmdahmlfaa", sum := "0a986ee368465a892cc9c9acd383cb984e26d6d32d50cebec93f4d96a14cbb34", func := "loop.example/g00349/laws.FnExactNumFault", spec := "fnExactNumFault", apart := false, narrowed := true }
def FnExactNumFaultUptoSaid : Prop := fnExactNumFaultUptoRow.holds Try.pinned (OpenSpec.upto fnExactNumFaultSpec)

/-- 'laws.FnExactSameValues', WHERE WHAT IT READS IS OF BULK AT MOST 1048576: true; the input reads as it did. -/
def fnExactSameValuesUptoRow : OpenClaim := { program := "ytdnegjmdahmlfaa", sum := "0a986ee368465a892cc9c9acd383cb984e26d6d32d50cebec93f4d96a14cbb34", func := "loop.example/g00349/laws.FnExactSameValues", spec := "fnExactSameValues", apart := false, narrowed := true }
def FnExactSameValuesUptoSaid : Prop := fnExactSameValuesUptoRow.holds Try.pinned (OpenSpec.upto fnExactSameValuesSpec)

/-- 'laws.FnExactIsTrue', WHERE WHAT IT READS IS OF BULK AT MOST 1048576: true; the input reads as it did. -/
def fnExactIsTrueUptoRow : OpenClaim := { program := "ytdnegjmdahmlfaa", sum := "0a986ee368465a892cc9c9acd383cb984e26d6d32d50cebec93f4d96a14cbb34", func := "loop.example/g00349/laws.FnExactIsTrue", spec := "fnExactIsTrue", apart := false, narrowed := true }
def FnExactIsTrueUptoSaid : Prop := fnExactIsTrueUptoRow.holds Try.pinned (OpenSpec.upto fnExactIsTrueSpec)

/-- 'laws.FnExactIsKeyword', WHERE WHAT IT READS IS OF BULK AT MOST 1048576: true; the input reads as it did. -/
def fnExactIsKeywordUptoRow : OpenClaim := { program := "ytdnegjmdahmlfaa", sum := "0a986ee368465a892cc9c9acd383cb984e26d6d32d50cebec93f4d96a14cbb34", func := "loop.example/g00349/laws.FnExactIsKeyword", spec := "fnExactIsKeyword", apart := false, narrowed := true }
def FnExactIsKeywordUptoSaid : Prop := fnExactIsKeywordUptoRow.holds Try.pinned (OpenSpec.upto fnExactIsKeywordSpec)

/-- 'laws.FnExactPrimText', WHERE WHAT IT READS IS OF BULK AT MOST 1048576: true; the input reads as it did. -/
def fnExactPrimTextUptoRow : OpenClaim := { program := "ytdnegjmdahmlfaa", sum := "0a986ee368465a892cc9c9acd383cb984e26d6d32d50cebec93f4d96a14cbb34", func := "loop.example/g00349/laws.FnExactPrimText", spec := "fnExactPrimText", apart := false, narrowed := true }
def FnExactPrimTextUptoSaid : Prop := fnExactPrimTextUptoRow.holds Try.pinned (OpenSpec.upto fnExactPrimTextSpec)

/-- 'laws.FnExactPrimOf', WHERE WHAT IT READS IS OF BULK AT MOST 1048576: true; the input reads as it did. -/
def fnExactPrimOfUptoRow : OpenClaim := { program := "ytdnegjmdahmlfaa", sum := "0a986ee368465a892cc9c9acd383cb984e26d6d32d50cebec93f4d96a14cbb34", func := "loop.example/g00349/laws.FnExactPrimOf", spec := "fnExactPrimOf", apart := false, narrowed := true }
def FnExactPrimOfUptoSaid : Prop := fnExactPrimOfUptoRow.holds Try.pinned (OpenSpec.upto fnExactPrimOfSpec)

/-- 'laws.FnExactAddNum', WHERE WHAT IT READS IS OF BULK AT MOST 1048576: true; the input reads as it did. -/
def fnExactAddNumUptoRow : OpenClaim := { program := "ytdnegjmdahmlfaa", sum := "0a986ee368465a892cc9c9acd383cb984e26d6d32d50cebec93f4d96a14cbb34", func := "loop.example/g00349/laws.FnExactAddNum", spec := "fnExactAddNum", unfollowed := true, recurses := true, apart := false, narrowed := true }
def FnExactAddNumUptoSaid : Prop := fnExactAddNumUptoRow.holds Try.pinned (OpenSpec.upto fnExactAddNumSpec)

/-- 'laws.FnExactMulNum', WHERE WHAT IT READS IS OF BULK AT MOST 1048576: true; the input reads as it did. -/
def fnExactMulNumUptoRow : OpenClaim := { program := "ytdnegjmdahmlfaa", sum := "0a986ee368465a892cc9c9acd383cb984e26d6d32d50cebec93f4d96a14cbb34", func := "loop.example/g00349/laws.FnExactMulNum", spec := "fnExactMulNum", unfollowed := true, recurses := true, apart := false, narrowed := true }
def FnExactMulNumUptoSaid : Prop := fnExactMulNumUptoRow.holds Try.pinned (OpenSpec.upto fnExactMulNumSpec)

/-- 'laws.FnExactSubNum', WHERE WHAT IT READS IS OF BULK AT MOST 1048576: true; the input reads as it did. -/
def fnExactSubNumUptoRow : OpenClaim := { program := "ytdnegjmdahmlfaa", sum := "0a986ee368465a892cc9c9acd383cb984e26d6d32d50cebec93f4d96a14cbb34", func := "loop.example/g00349/laws.FnExactSubNum", spec := "fnExactSubNum", unfollowed := true, recurses := true, apart := false, narrowed := true }
def FnExactSubNumUptoSaid : Prop := fnExactSubNumUptoRow.holds Try.pinned (OpenSpec.upto fnExactSubNumSpec)

/-- 'laws.FnExactQuoNum', WHERE WHAT IT READS IS OF BULK AT MOST 1048576: true; the input reads as it did. -/
def fnExactQuoNumUptoRow : OpenClaim := { program := "ytdnegjmdahmlfaa", sum := "0a986ee368465a892cc9c9acd383cb984e26d6d32d50cebec93f4d96a14cbb34", func := "loop.example/g00349/laws.FnExactQuoNum", spec := "fnExactQuoNum", unfollowed := true, recurses := true, apart := false, narrowed := true }
def FnExactQuoNumUptoSaid : Prop := fnExactQuoNumUptoRow.holds Try.pinned (OpenSpec.upto fnExactQuoNumSpec)

/-- 'laws.FnExactRemNum', WHERE WHAT IT READS IS OF BULK AT MOST 1048576: true; the input reads as it did. -/
def fnExactRemNumUptoRow : OpenClaim := { program := "ytdnegjmdahmlfaa", sum := "0a986ee368465a892cc9c9acd383cb984e26d6d32d50cebec93f4d96a14cbb34", func := "loop.example/g00349/laws.FnExactRemNum", spec := "fnExactRemNum", unfollowed := true, recurses := true, apart := false, narrowed := true }
def FnExactRemNumUptoSaid : Prop := fnExactRemNumUptoRow.holds Try.pinned (OpenSpec.upto fnExactRemNumSpec)

/-- 'laws.FnExactLinesFault', WHERE WHAT IT READS IS OF BULK AT MOST 1048576: true; the input reads as it did. -/
def fnExactLinesFaultUptoRow : OpenClaim := { program := "ytdnegjmdahmlfaa", sum := "0a986ee368465a892cc9c9acd383cb984e26d6d32d50cebec93f4d96a14cbb34", func := "loop.example/g00349/laws.FnExactLinesFault", spec := "fnExactLinesFault", unfollowed := true, recurses := true, apart := false, narrowed := true }
def FnExactLinesFaultUptoSaid : Prop := fnExactLinesFaultUptoRow.holds Try.pinned (OpenSpec.upto fnExactLinesFaultSpec)

/-- 'laws.FnExactArgsFor', WHERE WHAT IT READS IS OF BULK AT MOST 1048576: true; the input reads as it did. -/
def fnExactArgsForUptoRow : OpenClaim := { program := "ytdnegjmdahmlfaa", sum := "0a986ee368465a892cc9c9acd383cb984e26d6d32d50cebec93f4d96a14cbb34", func := "loop.example/g00349/laws.FnExactArgsFor", spec := "fnExactArgsFor", apart := false, narrowed := true }
def FnExactArgsForUptoSaid : Prop := fnExactArgsForUptoRow.holds Try.pinned (OpenSpec.upto fnExactArgsForSpec)

end Rows
end Go.Proofs.Ytdnegjmdahmlfaa
