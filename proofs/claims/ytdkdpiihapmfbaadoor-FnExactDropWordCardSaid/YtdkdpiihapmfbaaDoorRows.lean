/-
  NARROWER THAN 'FOR EVERY INPUT', by the rows' own cells (each row's printed sentence says how): FnExactIsDictionary: laid · FnExactMakeDictionary: laid · FnExactDictionaryText: laid · FnExactParseDictionary: laid · FnExactDropWord: laid · FnExactAddWord: laid · FnExactKeysOfAll: laid · FnExactNextKeysOf: laid · FnExactWordsFor: laid · FnExactWordsBeginning: laid · FnExactSureAfter: laid · FnExactPressesWithNext: laid.
  DERIVED. THE GIVEN ROWS OF THIS SEAT. 12 by the template 'for every input the law returns true; each argument reads behind the call as it read before'; 0 by the template 'total and deterministic' (their statements: YtdkdpiihapmfbaaDoorTotals.lean).
  GIVEN WITH THE SEED: the statements are not yours to turn. If you find one false, say at which input.
  Laid BY PROGRAM, IN A SANDBOX (cutbox-rows.mjs): the forced cells as the released guide's own fill.sh prints them over the translation 5cc89b2d3c597b38… (all of the seat's roots in one cut). By AI agents, Wed Nov 11 2026. No macro, syntax, notation, axiom, sorry.
-/
import Derived.Test.YtdkdpiihapmfbaaDoorChecked
import GoSem.PinnedTables
import GoSem.Claim
import GoSem.ClaimJoined
import GoSem.ClaimMapViews
import Derived.JoinedTies
import Derived.KernelRfl
namespace Go.Proofs.YtdkdpiihapmfbaaDoor
/- THE CELL 'sum', in the pinned program and in every row, IS THE sha256 OF THE DUMP (.gsa) THAT YtdkdpiihapmfbaaDoorProg.lean LOADS. Nothing in Lean hashes anything: it is a label: what it is worth is what the hold of that sum in a sandbox is worth. -/
noncomputable def Tryd.pinned : Pinned := { name := "ytdkdpiihapmfbaadoor", sum := "5cc89b2d3c597b38c11dd906196b18ecd881d841c60935bb9687e19dade39c7c", checked := Tryd.checked }
namespace Rows
def none {H : Type} : Left H := { results := [], args := [] }

/- WHAT THE LISTED PACKAGE-LEVEL VARIABLES READ AS WHEN THE CALL BEGINS. Each datum BY PROGRAM (the guide's laid-datum.mjs) off the statement by which the dump's own 'gosem.cut.vars' lays the variable. In a bare row this is a premise. The card (YtdkdpiihapmfbaaDoorCards.lean) ties it to the program's text. -/
def laid_unicode_utf8_acceptRanges {H : Type} : DataW H := .agg [.agg [.lit (.int .u8 128), .lit (.int .u8 191)], .agg [.lit (.int .u8 160), .lit (.int .u8 191)], .agg [.lit (.int .u8 128), .lit (.int .u8 159)], .agg [.lit (.int .u8 144), .lit (.int .u8 191)], .agg [.lit (.int .u8 128), .lit (.int .u8 143)], .agg [.lit (.int .u8 0), .lit (.int .u8 0)], .agg [.lit (.int .u8 0), .lit (.int .u8 0)], .agg [.lit (.int .u8 0), .lit (.int .u8 0)], .agg [.lit (.int .u8 0), .lit (.int .u8 0)], .agg [.lit (.int .u8 0), .lit (.int .u8 0)], .agg [.lit (.int .u8 0), .lit (.int .u8 0)], .agg [.lit (.int .u8 0), .lit (.int .u8 0)], .agg [.lit (.int .u8 0), .lit (.int .u8 0)], .agg [.lit (.int .u8 0), .lit (.int .u8 0)], .agg [.lit (.int .u8 0), .lit (.int .u8 0)], .agg [.lit (.int .u8 0), .lit (.int .u8 0)]]
/-- One of Go's own tables, pinned by name: the form's constant. -/
def laid_unicode_utf8_first : DataW Unit := Go.Pinned.utf8First

/-- 'laws.FnExactIsDictionary': WHATEVER THE INPUT: true; the input reads as it did. -/
def fnExactIsDictionarySpec : ChangeSpec := { name := "fnExactIsDictionary", fn := fun _ => fun
  | [d] => { results := [.lit (.bool true)], args := [d] }
  | _ => none }
def fnExactIsDictionaryRow : OpenClaim := { program := "ytdkdpiihapmfbaadoor", sum := "5cc89b2d3c597b38c11dd906196b18ecd881d841c60935bb9687e19dade39c7c", func := "loop.example/g01350/laws.FnExactIsDictionary", spec := "fnExactIsDictionary", inPlace := ["internal/bytealg.IndexByteString", "internal/bytealg.IndexString"], named := ["unicode/utf8.first", "unicode/utf8.acceptRanges", "internal/bytealg.MaxLen"], apart := false, laid := [("unicode/utf8.acceptRanges", laid_unicode_utf8_acceptRanges), ("unicode/utf8.first", laid_unicode_utf8_first)] }
def FnExactIsDictionarySaid : Prop := fnExactIsDictionaryRow.holds Tryd.pinned (OpenSpec.ofChange fnExactIsDictionarySpec)

/-- ITS FALSE NEIGHBOUR: 'it returns false'. Refute it at one input. -/
def fnExactIsDictionaryWrong : ChangeSpec := { name := "fnExactIsDictionary", fn := fun _ => fun
  | [d] => { results := [.lit (.bool false)], args := [d] }
  | _ => none }
def FnExactIsDictionaryWrongFalsely : Prop := fnExactIsDictionaryRow.holds Tryd.pinned (OpenSpec.ofChange fnExactIsDictionaryWrong)

/-- 'laws.FnExactMakeDictionary': WHATEVER THE INPUT: true; the input reads as it did. -/
def fnExactMakeDictionarySpec : ChangeSpec := { name := "fnExactMakeDictionary", fn := fun _ => fun
  | [d] => { results := [.lit (.bool true)], args := [d] }
  | _ => none }
def fnExactMakeDictionaryRow : OpenClaim := { program := "ytdkdpiihapmfbaadoor", sum := "5cc89b2d3c597b38c11dd906196b18ecd881d841c60935bb9687e19dade39c7c", func := "loop.example/g01350/laws.FnExactMakeDictionary", spec := "fnExactMakeDictionary", inPlace := ["internal/bytealg.IndexByteString", "internal/bytealg.IndexString"], recurses := true, named := ["unicode/utf8.first", "unicode/utf8.acceptRanges", "internal/bytealg.MaxLen"], apart := false, laid := [("unicode/utf8.acceptRanges", laid_unicode_utf8_acceptRanges), ("unicode/utf8.first", laid_unicode_utf8_first)] }
def FnExactMakeDictionarySaid : Prop := fnExactMakeDictionaryRow.holds Tryd.pinned (OpenSpec.ofChange fnExactMakeDictionarySpec)

/-- ITS FALSE NEIGHBOUR: 'it returns false'. Refute it at one input. -/
def fnExactMakeDictionaryWrong : ChangeSpec := { name := "fnExactMakeDictionary", fn := fun _ => fun
  | [d] => { results := [.lit (.bool false)], args := [d] }
  | _ => none }
def FnExactMakeDictionaryWrongFalsely : Prop := fnExactMakeDictionaryRow.holds Tryd.pinned (OpenSpec.ofChange fnExactMakeDictionaryWrong)

/-- 'laws.FnExactDictionaryText': WHATEVER THE INPUT: true; the input reads as it did. -/
def fnExactDictionaryTextSpec : ChangeSpec := { name := "fnExactDictionaryText", fn := fun _ => fun
  | [d] => { results := [.lit (.bool true)], args := [d] }
  | _ => none }
def fnExactDictionaryTextRow : OpenClaim := { program := "ytdkdpiihapmfbaadoor", sum := "5cc89b2d3c597b38c11dd906196b18ecd881d841c60935bb9687e19dade39c7c", func := "loop.example/g01350/laws.FnExactDictionaryText", spec := "fnExactDictionaryText", inPlace := ["internal/bytealg.IndexByteString", "internal/bytealg.IndexString", "internal/abi.NoEscape", "internal/bytealg.MakeNoZero"], named := ["unicode/utf8.first", "unicode/utf8.acceptRanges", "internal/bytealg.MaxLen"], apart := false, laid := [("unicode/utf8.acceptRanges", laid_unicode_utf8_acceptRanges), ("unicode/utf8.first", laid_unicode_utf8_first)] }
def FnExactDictionaryTextSaid : Prop := fnExactDictionaryTextRow.holds Tryd.pinned (OpenSpec.ofChange fnExactDictionaryTextSpec)

/-- ITS FALSE NEIGHBOUR: 'it returns false'. Refute it at one input. -/
def fnExactDictionaryTextWrong : ChangeSpec := { name := "fnExactDictionaryText", fn := fun _ => fun
  | [d] => { results := [.lit (.bool false)], args := [d] }
  | _ => none }
def FnExactDictionaryTextWrongFalsely : Prop := fnExactDictionaryTextRow.holds Tryd.pinned (OpenSpec.ofChange fnExactDictionaryTextWrong)

/-- 'laws.FnExactParseDictionary': WHATEVER THE INPUT: true; the input reads as it did. -/
def fnExactParseDictionarySpec : ChangeSpec := { name := "fnExactParseDictionary", fn := fun _ => fun
  | [d] => { results := [.lit (.bool true)], args := [d] }
  | _ => none }
def fnExactParseDictionaryRow : OpenClaim := { program := "ytdkdpiihapmfbaadoor", sum := "5cc89b2d3c597b38c11dd906196b18ecd881d841c60935bb9687e19dade39c7c", func := "loop.example/g01350/laws.FnExactParseDictionary", spec := "fnExactParseDictionary", inPlace := ["internal/bytealg.CountString", "internal/bytealg.IndexByteString", "internal/bytealg.IndexString"], named := ["unicode/utf8.first", "unicode/utf8.acceptRanges", "internal/bytealg.MaxLen"], apart := false, laid := [("unicode/utf8.acceptRanges", laid_unicode_utf8_acceptRanges), ("unicode/utf8.first", laid_unicode_utf8_first)] }
def FnExactParseDictionarySaid : Prop := fnExactParseDictionaryRow.holds Tryd.pinned (OpenSpec.ofChange fnExactParseDictionarySpec)

/-- ITS FALSE NEIGHBOUR: 'it returns false'. Refute it at one input. -/
def fnExactParseDictionaryWrong : ChangeSpec := { name := "fnExactParseDictionary", fn := fun _ => fun
  | [d] => { results := [.lit (.bool false)], args := [d] }
  | _ => none }
def FnExactParseDictionaryWrongFalsely : Prop := fnExactParseDictionaryRow.holds Tryd.pinned (OpenSpec.ofChange fnExactParseDictionaryWrong)

/-- 'laws.FnExactDropWord': WHATEVER THE INPUT: true; the input reads as it did. -/
def fnExactDropWordSpec : ChangeSpec := { name := "fnExactDropWord", fn := fun _ => fun
  | [d1, d2] => { results := [.lit (.bool true)], args := [d1, d2] }
  | _ => none }
def fnExactDropWordRow : OpenClaim := { program := "ytdkdpiihapmfbaadoor", sum := "5cc89b2d3c597b38c11dd906196b18ecd881d841c60935bb9687e19dade39c7c", func := "loop.example/g01350/laws.FnExactDropWord", spec := "fnExactDropWord", inPlace := ["internal/bytealg.IndexByteString", "internal/bytealg.IndexString"], unfollowed := true, recurses := true, named := ["unicode/utf8.first", "unicode/utf8.acceptRanges", "internal/bytealg.MaxLen"], apart := false, laid := [("unicode/utf8.acceptRanges", laid_unicode_utf8_acceptRanges), ("unicode/utf8.first", laid_unicode_utf8_first)] }
def FnExactDropWordSaid : Prop := fnExactDropWordRow.holds Tryd.pinned (OpenSpec.ofChange fnExactDropWordSpec)

/-- ITS FALSE NEIGHBOUR: 'it returns false'. Refute it at one input. -/
def fnExactDropWordWrong : ChangeSpec := { name := "fnExactDropWord", fn := fun _ => fun
  | [d1, d2] => { results := [.lit (.bool false)], args := [d1, d2] }
  | _ => none }
def FnExactDropWordWrongFalsely : Prop := fnExactDropWordRow.holds Tryd.pinned (OpenSpec.ofChange fnExactDropWordWrong)

/-- 'laws.FnExactAddWord': WHATEVER THE INPUT: true; the input reads as it did. -/
def fnExactAddWordSpec : ChangeSpec := { name := "fnExactAddWord", fn := fun _ => fun
  | [d1, d2] => { results := [.lit (.bool true)], args := [d1, d2] }
  | _ => none }
def fnExactAddWordRow : OpenClaim := { program := "ytdkdpiihapmfbaadoor", sum := "5cc89b2d3c597b38c11dd906196b18ecd881d841c60935bb9687e19dade39c7c", func := "loop.example/g01350/laws.FnExactAddWord", spec := "fnExactAddWord", inPlace := ["internal/bytealg.IndexByteString", "internal/bytealg.IndexString", "slices.overlaps[string]"], named := ["unicode/utf8.first", "unicode/utf8.acceptRanges", "internal/bytealg.MaxLen"], apart := false, laid := [("unicode/utf8.acceptRanges", laid_unicode_utf8_acceptRanges), ("unicode/utf8.first", laid_unicode_utf8_first)] }
def FnExactAddWordSaid : Prop := fnExactAddWordRow.holds Tryd.pinned (OpenSpec.ofChange fnExactAddWordSpec)

/-- ITS FALSE NEIGHBOUR: 'it returns false'. Refute it at one input. -/
def fnExactAddWordWrong : ChangeSpec := { name := "fnExactAddWord", fn := fun _ => fun
  | [d1, d2] => { results := [.lit (.bool false)], args := [d1, d2] }
  | _ => none }
def FnExactAddWordWrongFalsely : Prop := fnExactAddWordRow.holds Tryd.pinned (OpenSpec.ofChange fnExactAddWordWrong)

/-- 'laws.FnExactKeysOfAll': WHATEVER THE INPUT: true; the input reads as it did. -/
def fnExactKeysOfAllSpec : ChangeSpec := { name := "fnExactKeysOfAll", fn := fun _ => fun
  | [d] => { results := [.lit (.bool true)], args := [d] }
  | _ => none }
def fnExactKeysOfAllRow : OpenClaim := { program := "ytdkdpiihapmfbaadoor", sum := "5cc89b2d3c597b38c11dd906196b18ecd881d841c60935bb9687e19dade39c7c", func := "loop.example/g01350/laws.FnExactKeysOfAll", spec := "fnExactKeysOfAll", inPlace := ["internal/bytealg.IndexByteString", "internal/bytealg.IndexString"], unfollowed := true, recurses := true, named := ["unicode/utf8.first", "unicode/utf8.acceptRanges", "internal/bytealg.MaxLen"], apart := false, laid := [("unicode/utf8.acceptRanges", laid_unicode_utf8_acceptRanges), ("unicode/utf8.first", laid_unicode_utf8_first)] }
def FnExactKeysOfAllSaid : Prop := fnExactKeysOfAllRow.holds Tryd.pinned (OpenSpec.ofChange fnExactKeysOfAllSpec)

/-- ITS FALSE NEIGHBOUR: 'it returns false'. Refute it at one input. -/
def fnExactKeysOfAllWrong : ChangeSpec := { name := "fnExactKeysOfAll", fn := fun _ => fun
  | [d] => { results := [.lit (.bool false)], args := [d] }
  | _ => none }
def FnExactKeysOfAllWrongFalsely : Prop := fnExactKeysOfAllRow.holds Tryd.pinned (OpenSpec.ofChange fnExactKeysOfAllWrong)

/-- 'laws.FnExactNextKeysOf': WHATEVER THE INPUT: true; the input reads as it did. -/
def fnExactNextKeysOfSpec : ChangeSpec := { name := "fnExactNextKeysOf", fn := fun _ => fun
  | [d1, d2] => { results := [.lit (.bool true)], args := [d1, d2] }
  | _ => none }
def fnExactNextKeysOfRow : OpenClaim := { program := "ytdkdpiihapmfbaadoor", sum := "5cc89b2d3c597b38c11dd906196b18ecd881d841c60935bb9687e19dade39c7c", func := "loop.example/g01350/laws.FnExactNextKeysOf", spec := "fnExactNextKeysOf", inPlace := ["internal/bytealg.IndexByteString", "internal/bytealg.IndexString"], unfollowed := true, recurses := true, named := ["unicode/utf8.first", "unicode/utf8.acceptRanges", "internal/bytealg.MaxLen"], apart := false, laid := [("unicode/utf8.acceptRanges", laid_unicode_utf8_acceptRanges), ("unicode/utf8.first", laid_unicode_utf8_first)] }
def FnExactNextKeysOfSaid : Prop := fnExactNextKeysOfRow.holds Tryd.pinned (OpenSpec.ofChange fnExactNextKeysOfSpec)

/-- ITS FALSE NEIGHBOUR: 'it returns false'. Refute it at one input. -/
def fnExactNextKeysOfWrong : ChangeSpec := { name := "fnExactNextKeysOf", fn := fun _ => fun
  | [d1, d2] => { results := [.lit (.bool false)], args := [d1, d2] }
  | _ => none }
def FnExactNextKeysOfWrongFalsely : Prop := fnExactNextKeysOfRow.holds Tryd.pinned (OpenSpec.ofChange fnExactNextKeysOfWrong)

/-- 'laws.FnExactWordsFor': WHATEVER THE INPUT: true; the input reads as it did. -/
def fnExactWordsForSpec : ChangeSpec := { name := "fnExactWordsFor", fn := fun _ => fun
  | [d1, d2] => { results := [.lit (.bool true)], args := [d1, d2] }
  | _ => none }
def fnExactWordsForRow : OpenClaim := { program := "ytdkdpiihapmfbaadoor", sum := "5cc89b2d3c597b38c11dd906196b18ecd881d841c60935bb9687e19dade39c7c", func := "loop.example/g01350/laws.FnExactWordsFor", spec := "fnExactWordsFor", inPlace := ["internal/bytealg.IndexByteString", "internal/bytealg.IndexString"], unfollowed := true, recurses := true, named := ["unicode/utf8.first", "unicode/utf8.acceptRanges", "internal/bytealg.MaxLen"], apart := false, laid := [("unicode/utf8.acceptRanges", laid_unicode_utf8_acceptRanges), ("unicode/utf8.first", laid_unicode_utf8_first)] }
def FnExactWordsForSaid : Prop := fnExactWordsForRow.holds Tryd.pinned (OpenSpec.ofChange fnExactWordsForSpec)

/-- ITS FALSE NEIGHBOUR: 'it returns false'. Refute it at one input. -/
def fnExactWordsForWrong : ChangeSpec := { name := "fnExactWordsFor", fn := fun _ => fun
  | [d1, d2] => { results := [.lit (.bool false)], args := [d1, d2] }
  | _ => none }
def FnExactWordsForWrongFalsely : Prop := fnExactWordsForRow.holds Tryd.pinned (OpenSpec.ofChange fnExactWordsForWrong)

/-- 'laws.FnExactWordsBeginning': WHATEVER THE INPUT: true; the input reads as it did. -/
def fnExactWordsBeginningSpec : ChangeSpec := { name := "fnExactWordsBeginning", fn := fun _ => fun
  | [d1, d2] => { results := [.lit (.bool true)], args := [d1, d2] }
  | _ => none }
def fnExactWordsBeginningRow : OpenClaim := { program := "ytdkdpiihapmfbaadoor", sum := "5cc89b2d3c597b38c11dd906196b18ecd881d841c60935bb9687e19dade39c7c", func := "loop.example/g01350/laws.FnExactWordsBeginning", spec := "fnExactWordsBeginning", inPlace := ["internal/bytealg.IndexByteString", "internal/bytealg.IndexString"], unfollowed := true, recurses := true, named := ["unicode/utf8.first", "unicode/utf8.acceptRanges", "internal/bytealg.MaxLen"], apart := false, laid := [("unicode/utf8.acceptRanges", laid_unicode_utf8_acceptRanges), ("unicode/utf8.first", laid_unicode_utf8_first)] }
def FnExactWordsBeginningSaid : Prop := fnExactWordsBeginningRow.holds Tryd.pinned (OpenSpec.ofChange fnExactWordsBeginningSpec)

/-- ITS FALSE NEIGHBOUR: 'it returns false'. Refute it at one input. -/
def fnExactWordsBeginningWrong : ChangeSpec := { name := "fnExactWordsBeginning", fn := fun _ => fun
  | [d1, d2] => { results := [.lit (.bool false)], args := [d1, d2] }
  | _ => none }
def FnExactWordsBeginningWrongFalsely : Prop := fnExactWordsBeginningRow.holds Tryd.pinned (OpenSpec.ofChange fnExactWordsBeginningWrong)

/-- 'laws.FnExactSureAfter': WHATEVER THE INPUT: true; the input reads as it did. -/
def fnExactSureAfterSpec : ChangeSpec := { name := "fnExactSureAfter", fn := fun _ => fun
  | [d1, d2] => { results := [.lit (.bool true)], args := [d1, d2] }
  | _ => none }
def fnExactSureAfterRow : OpenClaim := { program := "ytdkdpiihapmfbaadoor", sum := "5cc89b2d3c597b38c11dd906196b18ecd881d841c60935bb9687e19dade39c7c", func := "loop.example/g01350/laws.FnExactSureAfter", spec := "fnExactSureAfter", inPlace := ["internal/bytealg.IndexByteString", "internal/bytealg.IndexString"], unfollowed := true, recurses := true, named := ["unicode/utf8.first", "unicode/utf8.acceptRanges", "internal/bytealg.MaxLen"], apart := false, laid := [("unicode/utf8.acceptRanges", laid_unicode_utf8_acceptRanges), ("unicode/utf8.first", laid_unicode_utf8_first)] }
def FnExactSureAfterSaid : Prop := fnExactSureAfterRow.holds Tryd.pinned (OpenSpec.ofChange fnExactSureAfterSpec)

/-- ITS FALSE NEIGHBOUR: 'it returns false'. Refute it at one input. -/
def fnExactSureAfterWrong : ChangeSpec := { name := "fnExactSureAfter", fn := fun _ => fun
  | [d1, d2] => { results := [.lit (.bool false)], args := [d1, d2] }
  | _ => none }
def FnExactSureAfterWrongFalsely : Prop := fnExactSureAfterRow.holds Tryd.pinned (OpenSpec.ofChange fnExactSureAfterWrong)

/-- 'laws.FnExactPressesWithNext': WHATEVER THE INPUT: true; the input reads as it did. -/
def fnExactPressesWithNextSpec : ChangeSpec := { name := "fnExactPressesWithNext", fn := fun _ => fun
  | [d1, d2] => { results := [.lit (.bool true)], args := [d1, d2] }
  | _ => none }
def fnExactPressesWithNextRow : OpenClaim := { program := "ytdkdpiihapmfbaadoor", sum := "5cc89b2d3c597b38c11dd906196b18ecd881d841c60935bb9687e19dade39c7c", func := "loop.example/g01350/laws.FnExactPressesWithNext", spec := "fnExactPressesWithNext", inPlace := ["internal/bytealg.IndexByteString", "internal/bytealg.IndexString"], unfollowed := true, recurses := true, named := ["unicode/utf8.first", "unicode/utf8.acceptRanges", "internal/bytealg.MaxLen"], apart := false, laid := [("unicode/utf8.acceptRanges", laid_unicode_utf8_acceptRanges), ("unicode/utf8.first", laid_unicode_utf8_first)] }
def FnExactPressesWithNextSaid : Prop := fnExactPressesWithNextRow.holds Tryd.pinned (OpenSpec.ofChange fnExactPressesWithNextSpec)

/-- ITS FALSE NEIGHBOUR: 'it returns false'. Refute it at one input. -/
def fnExactPressesWithNextWrong : ChangeSpec := { name := "fnExactPressesWithNext", fn := fun _ => fun
  | [d1, d2] => { results := [.lit (.bool false)], args := [d1, d2] }
  | _ => none }
def FnExactPressesWithNextWrongFalsely : Prop := fnExactPressesWithNextRow.holds Tryd.pinned (OpenSpec.ofChange fnExactPressesWithNextWrong)

/- THE SECOND FORM. 'bulk': how many values and letters a reading holds, each counted each time it is reached (what is shared counts as often as it is met; a slice's spare places count too). A statement '..UptoSaid' is the law's where the arguments, and the package variables that the reading takes, are together of bulk at most 1048576: NARROWER than '..Said'. Prove '..Said' where nothing that the law and all that it calls make is longer than what came in: it says more and counts as full. Else prove '..UptoSaid'. A law counts once. -/
mutual
def uptoBulk {H : Type} : DataW H → Nat
  | .lit (.string bytes) => bytes.length + 1
  | .lit _ => 1
  | .nil => 1
  | .ptr d => uptoBulk d + 1
  | .slice elems spare => uptoBulkAll elems + uptoBulkAll spare + 1
  | .agg parts => uptoBulkAll parts + 1
  | .iface _ d => uptoBulk d + 1
  | .map entries => uptoBulkEntries entries + 1
  | .held _ => 1
def uptoBulkAll {H : Type} : List (DataW H) → Nat
  | [] => 0
  | d :: r => uptoBulk d + uptoBulkAll r
def uptoBulkEntries {H : Type} : List (Lit × DataW H) → Nat
  | [] => 0
  | x :: r => uptoBulkEntry x + uptoBulkEntries r
def uptoBulkEntry {H : Type} : Lit × DataW H → Nat
  | (.string bytes, d) => bytes.length + uptoBulk d + 1
  | (_, d) => uptoBulk d + 1
 end
def uptoSmall : (H : Type) → List (DataW H) → Bool := fun _ ds => decide (uptoBulkAll ds ≤ 1048576)
def OpenSpec.upto (s : _root_.Go.ChangeSpec) : _root_.Go.OpenSpec := { _root_.Go.OpenSpec.ofChange s with cond := some uptoSmall }

/-- 'laws.FnExactIsDictionary', WHERE WHAT IT READS IS OF BULK AT MOST 1048576: true; the input reads as it did. -/
def fnExactIsDictionaryUptoRow : OpenClaim := { program := "ytdkdpiihapmfbaadoor", sum := "5cc89b2d3c597b38c11dd906196b18ecd881d841c60935bb9687e19dade39c7c", func := "loop.example/g01350/laws.FnExactIsDictionary", spec := "fnExactIsDictionary", inPlace := ["internal/bytealg.IndexByteString", "internal/bytealg.IndexString"], named := ["unicode/utf8.first", "unicode/utf8.acceptRanges", "internal/bytealg.MaxLen"], apart := false, laid := [("unicode/utf8.acceptRanges", laid_unicode_utf8_acceptRanges), ("unicode/utf8.first", laid_unicode_utf8_first)], narrowed := true }
def FnExactIsDictionaryUptoSaid : Prop := fnExactIsDictionaryUptoRow.holds Tryd.pinned (OpenSpec.upto fnExactIsDictionarySpec)

/-- 'laws.FnExactMakeDictionary', WHERE WHAT IT READS IS OF BULK AT MOST 1048576: true; the input reads as it did. -/
def fnExactMakeDictionaryUptoRow : OpenClaim := { program := "ytdkdpiihapmfbaadoor", sum := "5cc89b2d3c597b38c11dd906196b18ecd881d841c60935bb9687e19dade39c7c", func := "loop.example/g01350/laws.FnExactMakeDictionary", spec := "fnExactMakeDictionary", inPlace := ["internal/bytealg.IndexByteString", "internal/bytealg.IndexString"], recurses := true, named := ["unicode/utf8.first", "unicode/utf8.acceptRanges", "internal/bytealg.MaxLen"], apart := false, laid := [("unicode/utf8.acceptRanges", laid_unicode_utf8_acceptRanges), ("unicode/utf8.first", laid_unicode_utf8_first)], narrowed := true }
def FnExactMakeDictionaryUptoSaid : Prop := fnExactMakeDictionaryUptoRow.holds Tryd.pinned (OpenSpec.upto fnExactMakeDictionarySpec)

/-- 'laws.FnExactDictionaryText', WHERE WHAT IT READS IS OF BULK AT MOST 1048576: true; the input reads as it did. -/
def fnExactDictionaryTextUptoRow : OpenClaim := { program := "ytdkdpiihapmfbaadoor", sum := "5cc89b2d3c597b38c11dd906196b18ecd881d841c60935bb9687e19dade39c7c", func := "loop.example/g01350/laws.FnExactDictionaryText", spec := "fnExactDictionaryText", inPlace := ["internal/bytealg.IndexByteString", "internal/bytealg.IndexString", "internal/abi.NoEscape", "internal/bytealg.MakeNoZero"], named := ["unicode/utf8.first", "unicode/utf8.acceptRanges", "internal/bytealg.MaxLen"], apart := false, laid := [("unicode/utf8.acceptRanges", laid_unicode_utf8_acceptRanges), ("unicode/utf8.first", laid_unicode_utf8_first)], narrowed := true }
def FnExactDictionaryTextUptoSaid : Prop := fnExactDictionaryTextUptoRow.holds Tryd.pinned (OpenSpec.upto fnExactDictionaryTextSpec)

/-- 'laws.FnExactParseDictionary', WHERE WHAT IT READS IS OF BULK AT MOST 1048576: true; the input reads as it did. -/
def fnExactParseDictionaryUptoRow : OpenClaim := { program := "ytdkdpiihapmfbaadoor", sum := "5cc89b2d3c597b38c11dd906196b18ecd881d841c60935bb9687e19dade39c7c", func := "loop.example/g01350/laws.FnExactParseDictionary", spec := "fnExactParseDictionary", inPlace := ["internal/bytealg.CountString", "internal/bytealg.IndexByteString", "internal/bytealg.IndexString"], named := ["unicode/utf8.first", "unicode/utf8.acceptRanges", "internal/bytealg.MaxLen"], apart := false, laid := [("unicode/utf8.acceptRanges", laid_unicode_utf8_acceptRanges), ("unicode/utf8.first", laid_unicode_utf8_first)], narrowed := true }
def FnExactParseDictionaryUptoSaid : Prop := fnExactParseDictionaryUptoRow.holds Tryd.pinned (OpenSpec.upto fnExactParseDictionarySpec)

/-- 'laws.FnExactDropWord', WHERE WHAT IT READS IS OF BULK AT MOST 1048576: true; the input reads as it did. -/
def fnExactDropWordUptoRow : OpenClaim := { program := "ytdkdpiihapmfbaadoor", sum := "5cc89b2d3c597b38c11dd906196b18ecd881d841c60935bb9687e19dade39c7c", func := "loop.example/g01350/laws.FnExactDropWord", spec := "fnExactDropWord", inPlace := ["internal/bytealg.IndexByteString", "internal/bytealg.IndexString"], unfollowed := true, recurses := true, named := ["unicode/utf8.first", "unicode/utf8.acceptRanges", "internal/bytealg.MaxLen"], apart := false, laid := [("unicode/utf8.acceptRanges", laid_unicode_utf8_acceptRanges), ("unicode/utf8.first", laid_unicode_utf8_first)], narrowed := true }
def FnExactDropWordUptoSaid : Prop := fnExactDropWordUptoRow.holds Tryd.pinned (OpenSpec.upto fnExactDropWordSpec)

/-- 'laws.FnExactAddWord', WHERE WHAT IT READS IS OF BULK AT MOST 1048576: true; the input reads as it did. -/
def fnExactAddWordUptoRow : OpenClaim := { program := "ytdkdpiihapmfbaadoor", sum := "5cc89b2d3c597b38c11dd906196b18ecd881d841c60935bb9687e19dade39c7c", func := "loop.example/g01350/laws.FnExactAddWord", spec := "fnExactAddWord", inPlace := ["internal/bytealg.IndexByteString", "internal/bytealg.IndexString", "slices.overlaps[string]"], named := ["unicode/utf8.first", "unicode/utf8.acceptRanges", "internal/bytealg.MaxLen"], apart := false, laid := [("unicode/utf8.acceptRanges", laid_unicode_utf8_acceptRanges), ("unicode/utf8.first", laid_unicode_utf8_first)], narrowed := true }
def FnExactAddWordUptoSaid : Prop := fnExactAddWordUptoRow.holds Tryd.pinned (OpenSpec.upto fnExactAddWordSpec)

/-- 'laws.FnExactKeysOfAll', WHERE WHAT IT READS IS OF BULK AT MOST 1048576: true; the input reads as it did. -/
def fnExactKeysOfAllUptoRow : OpenClaim := { program := "ytdkdpiihapmfbaadoor", sum := "5cc89b2d3c597b38c11dd906196b18ecd881d841c60935bb9687e19dade39c7c", func := "loop.example/g01350/laws.FnExactKeysOfAll", spec := "fnExactKeysOfAll", inPlace := ["internal/bytealg.IndexByteString", "internal/bytealg.IndexString"], unfollowed := true, recurses := true, named := ["unicode/utf8.first", "unicode/utf8.acceptRanges", "internal/bytealg.MaxLen"], apart := false, laid := [("unicode/utf8.acceptRanges", laid_unicode_utf8_acceptRanges), ("unicode/utf8.first", laid_unicode_utf8_first)], narrowed := true }
def FnExactKeysOfAllUptoSaid : Prop := fnExactKeysOfAllUptoRow.holds Tryd.pinned (OpenSpec.upto fnExactKeysOfAllSpec)

/-- 'laws.FnExactNextKeysOf', WHERE WHAT IT READS IS OF BULK AT MOST 1048576: true; the input reads as it did. -/
def fnExactNextKeysOfUptoRow : OpenClaim := { program := "ytdkdpiihapmfbaadoor", sum := "5cc89b2d3c597b38c11dd906196b18ecd881d841c60935bb9687e19dade39c7c", func := "loop.example/g01350/laws.FnExactNextKeysOf", spec := "fnExactNextKeysOf", inPlace := ["internal/bytealg.IndexByteString", "internal/bytealg.IndexString"], unfollowed := true, recurses := true, named := ["unicode/utf8.first", "unicode/utf8.acceptRanges", "internal/bytealg.MaxLen"], apart := false, laid := [("unicode/utf8.acceptRanges", laid_unicode_utf8_acceptRanges), ("unicode/utf8.first", laid_unicode_utf8_first)], narrowed := true }
def FnExactNextKeysOfUptoSaid : Prop := fnExactNextKeysOfUptoRow.holds Tryd.pinned (OpenSpec.upto fnExactNextKeysOfSpec)

/-- 'laws.FnExactWordsFor', WHERE WHAT IT READS IS OF BULK AT MOST 1048576: true; the input reads as it did. -/
def fnExactWordsForUptoRow : OpenClaim := { program := "ytdkdpiihapmfbaadoor", sum := "5cc89b2d3c597b38c11dd906196b18ecd881d841c60935bb9687e19dade39c7c", func := "loop.example/g01350/laws.FnExactWordsFor", spec := "fnExactWordsFor", inPlace := ["internal/bytealg.IndexByteString", "internal/bytealg.IndexString"], unfollowed := true, recurses := true, named := ["unicode/utf8.first", "unicode/utf8.acceptRanges", "internal/bytealg.MaxLen"], apart := false, laid := [("unicode/utf8.acceptRanges", laid_unicode_utf8_acceptRanges), ("unicode/utf8.first", laid_unicode_utf8_first)], narrowed := true }
def FnExactWordsForUptoSaid : Prop := fnExactWordsForUptoRow.holds Tryd.pinned (OpenSpec.upto fnExactWordsForSpec)

/-- 'laws.FnExactWordsBeginning', WHERE WHAT IT READS IS OF BULK AT MOST 1048576: true; the input reads as it did. -/
def fnExactWordsBeginningUptoRow : OpenClaim := { program := "ytdkdpiihapmfbaadoor", sum := "5cc89b2d3c597b38c11dd906196b18ecd881d841c60935bb9687e19dade39c7c", func := "loop.example/g01350/laws.FnExactWordsBeginning", spec := "fnExactWordsBeginning", inPlace := ["internal/bytealg.IndexByteString", "internal/bytealg.IndexString"], unfollowed := true, recurses := true, named := ["unicode/utf8.first", "unicode/utf8.acceptRanges", "internal/bytealg.MaxLen"], apart := false, laid := [("unicode/utf8.acceptRanges", laid_unicode_utf8_acceptRanges), ("unicode/utf8.first", laid_unicode_utf8_first)], narrowed := true }
def FnExactWordsBeginningUptoSaid : Prop := fnExactWordsBeginningUptoRow.holds Tryd.pinned (OpenSpec.upto fnExactWordsBeginningSpec)

/-- 'laws.FnExactSureAfter', WHERE WHAT IT READS IS OF BULK AT MOST 1048576: true; the input reads as it did. -/
def fnExactSureAfterUptoRow : OpenClaim := { program := "ytdkdpiihapmfbaadoor", sum := "5cc89b2d3c597b38c11dd906196b18ecd881d841c60935bb9687e19dade39c7c", func := "loop.example/g01350/laws.FnExactSureAfter", spec := "fnExactSureAfter", inPlace := ["internal/bytealg.IndexByteString", "internal/bytealg.IndexString"], unfollowed := true, recurses := true, named := ["unicode/utf8.first", "unicode/utf8.acceptRanges", "internal/bytealg.MaxLen"], apart := false, laid := [("unicode/utf8.acceptRanges", laid_unicode_utf8_acceptRanges), ("unicode/utf8.first", laid_unicode_utf8_first)], narrowed := true }
def FnExactSureAfterUptoSaid : Prop := fnExactSureAfterUptoRow.holds Tryd.pinned (OpenSpec.upto fnExactSureAfterSpec)

/-- 'laws.FnExactPressesWithNext', WHERE WHAT IT READS IS OF BULK AT MOST 1048576: true; the input reads as it did. -/
def fnExactPressesWithNextUptoRow : OpenClaim := { program := "ytdkdpiihapmfbaadoor", sum := "5cc89b2d3c597b38c11dd906196b18ecd881d841c60935bb9687e19dade39c7c", func := "loop.example/g01350/laws.FnExactPressesWithNext", spec := "fnExactPressesWithNext", inPlace := ["internal/bytealg.IndexByteString", "internal/bytealg.IndexString"], unfollowed := true, recurses := true, named := ["unicode/utf8.first", "unicode/utf8.acceptRanges", "internal/bytealg.MaxLen"], apart := false, laid := [("unicode/utf8.acceptRanges", laid_unicode_utf8_acceptRanges), ("unicode/utf8.first", laid_unicode_utf8_first)], narrowed := true }
def FnExactPressesWithNextUptoSaid : Prop := fnExactPressesWithNextUptoRow.holds Tryd.pinned (OpenSpec.upto fnExactPressesWithNextSpec)

end Rows
end Go.Proofs.YtdkdpiihapmfbaaDoor
