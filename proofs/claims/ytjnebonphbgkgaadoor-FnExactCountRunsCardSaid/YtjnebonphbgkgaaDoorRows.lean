/-
  NARROWER THAN 'FOR EVERY INPUT', by the rows' own cells (each row's printed sentence says how): FnExactIsWord: laid · FnExactKeyOf: laid · FnExactPressesFor: laid · FnExactCountPresses: laid · FnExactKeysOf: laid · FnExactCountSameKeys: laid · FnExactFirstWord: laid · FnExactWordOfRank: laid · FnExactRankOfWord: laid · FnExactSameKeys: laid · FnExactCollapseText: laid · FnExactCountRuns: laid.
  DERIVED. THE GIVEN ROWS OF THIS SEAT. 12 by the template 'for every input the law returns true; each argument reads behind the call as it read before'; 0 by the template 'total and deterministic' (their statements: YtjnebonphbgkgaaDoorTotals.lean).
  GIVEN WITH THE SEED: the statements are not yours to turn. If you find one false, say at which input.
  Laid BY PROGRAM, IN A SANDBOX (cutbox-rows.mjs): the forced cells as the released guide's own fill.sh prints them over the translation c7cef19b1402b739… (all of the seat's roots in one cut). By AI agents, Wed Nov 11 2026. No macro, syntax, notation, axiom, sorry.
-/
import Derived.Test.YtjnebonphbgkgaaDoorChecked
import GoSem.PinnedTables
import GoSem.Claim
import GoSem.ClaimJoined
import GoSem.ClaimMapViews
import Derived.JoinedTies
import Derived.KernelRfl
namespace Go.Proofs.YtjnebonphbgkgaaDoor
/- THE CELL 'sum', in the pinned program and in every row, IS THE sha256 OF THE DUMP (.gsa) THAT YtjnebonphbgkgaaDoorProg.lean LOADS. Nothing in Lean hashes anything: it is a label: what it is worth is what the hold of that sum in a sandbox is worth. -/
noncomputable def Tryd.pinned : Pinned := { name := "ytjnebonphbgkgaadoor", sum := "c7cef19b1402b7393a39d01c4c52cb72c8a534edda120e823cda9c9c958aebbd", checked := Tryd.checked }
namespace Rows
def none {H : Type} : Left H := { results := [], args := [] }

/- WHAT THE LISTED PACKAGE-LEVEL VARIABLES READ AS WHEN THE CALL BEGINS. Each datum BY PROGRAM (the guide's laid-datum.mjs) off the statement by which the dump's own 'gosem.cut.vars' lays the variable. In a bare row this is a premise. The card (YtjnebonphbgkgaaDoorCards.lean) ties it to the program's text. -/
def laid_unicode_utf8_acceptRanges {H : Type} : DataW H := .agg [.agg [.lit (.int .u8 128), .lit (.int .u8 191)], .agg [.lit (.int .u8 160), .lit (.int .u8 191)], .agg [.lit (.int .u8 128), .lit (.int .u8 159)], .agg [.lit (.int .u8 144), .lit (.int .u8 191)], .agg [.lit (.int .u8 128), .lit (.int .u8 143)], .agg [.lit (.int .u8 0), .lit (.int .u8 0)], .agg [.lit (.int .u8 0), .lit (.int .u8 0)], .agg [.lit (.int .u8 0), .lit (.int .u8 0)], .agg [.lit (.int .u8 0), .lit (.int .u8 0)], .agg [.lit (.int .u8 0), .lit (.int .u8 0)], .agg [.lit (.int .u8 0), .lit (.int .u8 0)], .agg [.lit (.int .u8 0), .lit (.int .u8 0)], .agg [.lit (.int .u8 0), .lit (.int .u8 0)], .agg [.lit (.int .u8 0), .lit (.int .u8 0)], .agg [.lit (.int .u8 0), .lit (.int .u8 0)], .agg [.lit (.int .u8 0), .lit (.int .u8 0)]]
/-- One of Go's own tables, pinned by name: the form's constant. -/
def laid_unicode_utf8_first : DataW Unit := Go.Pinned.utf8First

/-- 'laws.FnExactIsWord': WHATEVER THE INPUT: true; the input reads as it did. -/
def fnExactIsWordSpec : ChangeSpec := { name := "fnExactIsWord", fn := fun _ => fun
  | [d] => { results := [.lit (.bool true)], args := [d] }
  | _ => none }
def fnExactIsWordRow : OpenClaim := { program := "ytjnebonphbgkgaadoor", sum := "c7cef19b1402b7393a39d01c4c52cb72c8a534edda120e823cda9c9c958aebbd", func := "loop.example/g01350/laws.FnExactIsWord", spec := "fnExactIsWord", inPlace := ["internal/bytealg.IndexByteString", "internal/bytealg.IndexString"], named := ["unicode/utf8.first", "unicode/utf8.acceptRanges", "internal/bytealg.MaxLen"], apart := false, laid := [("unicode/utf8.acceptRanges", laid_unicode_utf8_acceptRanges), ("unicode/utf8.first", laid_unicode_utf8_first)] }
def FnExactIsWordSaid : Prop := fnExactIsWordRow.holds Tryd.pinned (OpenSpec.ofChange fnExactIsWordSpec)

/-- ITS FALSE NEIGHBOUR: 'it returns false'. Refute it at one input. -/
def fnExactIsWordWrong : ChangeSpec := { name := "fnExactIsWord", fn := fun _ => fun
  | [d] => { results := [.lit (.bool false)], args := [d] }
  | _ => none }
def FnExactIsWordWrongFalsely : Prop := fnExactIsWordRow.holds Tryd.pinned (OpenSpec.ofChange fnExactIsWordWrong)

/-- 'laws.FnExactKeyOf': WHATEVER THE INPUT: true; the input reads as it did. -/
def fnExactKeyOfSpec : ChangeSpec := { name := "fnExactKeyOf", fn := fun _ => fun
  | [d] => { results := [.lit (.bool true)], args := [d] }
  | _ => none }
def fnExactKeyOfRow : OpenClaim := { program := "ytjnebonphbgkgaadoor", sum := "c7cef19b1402b7393a39d01c4c52cb72c8a534edda120e823cda9c9c958aebbd", func := "loop.example/g01350/laws.FnExactKeyOf", spec := "fnExactKeyOf", inPlace := ["internal/bytealg.IndexByteString", "internal/bytealg.IndexString"], named := ["unicode/utf8.first", "unicode/utf8.acceptRanges", "internal/bytealg.MaxLen"], apart := false, laid := [("unicode/utf8.acceptRanges", laid_unicode_utf8_acceptRanges), ("unicode/utf8.first", laid_unicode_utf8_first)] }
def FnExactKeyOfSaid : Prop := fnExactKeyOfRow.holds Tryd.pinned (OpenSpec.ofChange fnExactKeyOfSpec)

/-- ITS FALSE NEIGHBOUR: 'it returns false'. Refute it at one input. -/
def fnExactKeyOfWrong : ChangeSpec := { name := "fnExactKeyOf", fn := fun _ => fun
  | [d] => { results := [.lit (.bool false)], args := [d] }
  | _ => none }
def FnExactKeyOfWrongFalsely : Prop := fnExactKeyOfRow.holds Tryd.pinned (OpenSpec.ofChange fnExactKeyOfWrong)

/-- 'laws.FnExactPressesFor': WHATEVER THE INPUT: true; the input reads as it did. -/
def fnExactPressesForSpec : ChangeSpec := { name := "fnExactPressesFor", fn := fun _ => fun
  | [d] => { results := [.lit (.bool true)], args := [d] }
  | _ => none }
def fnExactPressesForRow : OpenClaim := { program := "ytjnebonphbgkgaadoor", sum := "c7cef19b1402b7393a39d01c4c52cb72c8a534edda120e823cda9c9c958aebbd", func := "loop.example/g01350/laws.FnExactPressesFor", spec := "fnExactPressesFor", inPlace := ["internal/bytealg.IndexByteString", "internal/bytealg.IndexString"], named := ["unicode/utf8.first", "unicode/utf8.acceptRanges", "internal/bytealg.MaxLen"], apart := false, laid := [("unicode/utf8.acceptRanges", laid_unicode_utf8_acceptRanges), ("unicode/utf8.first", laid_unicode_utf8_first)] }
def FnExactPressesForSaid : Prop := fnExactPressesForRow.holds Tryd.pinned (OpenSpec.ofChange fnExactPressesForSpec)

/-- ITS FALSE NEIGHBOUR: 'it returns false'. Refute it at one input. -/
def fnExactPressesForWrong : ChangeSpec := { name := "fnExactPressesFor", fn := fun _ => fun
  | [d] => { results := [.lit (.bool false)], args := [d] }
  | _ => none }
def FnExactPressesForWrongFalsely : Prop := fnExactPressesForRow.holds Tryd.pinned (OpenSpec.ofChange fnExactPressesForWrong)

/-- 'laws.FnExactCountPresses': WHATEVER THE INPUT: true; the input reads as it did. -/
def fnExactCountPressesSpec : ChangeSpec := { name := "fnExactCountPresses", fn := fun _ => fun
  | [d] => { results := [.lit (.bool true)], args := [d] }
  | _ => none }
def fnExactCountPressesRow : OpenClaim := { program := "ytjnebonphbgkgaadoor", sum := "c7cef19b1402b7393a39d01c4c52cb72c8a534edda120e823cda9c9c958aebbd", func := "loop.example/g01350/laws.FnExactCountPresses", spec := "fnExactCountPresses", inPlace := ["internal/bytealg.IndexByteString", "internal/bytealg.IndexString"], named := ["unicode/utf8.first", "unicode/utf8.acceptRanges", "internal/bytealg.MaxLen"], apart := false, laid := [("unicode/utf8.acceptRanges", laid_unicode_utf8_acceptRanges), ("unicode/utf8.first", laid_unicode_utf8_first)] }
def FnExactCountPressesSaid : Prop := fnExactCountPressesRow.holds Tryd.pinned (OpenSpec.ofChange fnExactCountPressesSpec)

/-- ITS FALSE NEIGHBOUR: 'it returns false'. Refute it at one input. -/
def fnExactCountPressesWrong : ChangeSpec := { name := "fnExactCountPresses", fn := fun _ => fun
  | [d] => { results := [.lit (.bool false)], args := [d] }
  | _ => none }
def FnExactCountPressesWrongFalsely : Prop := fnExactCountPressesRow.holds Tryd.pinned (OpenSpec.ofChange fnExactCountPressesWrong)

/-- 'laws.FnExactKeysOf': WHATEVER THE INPUT: true; the input reads as it did. -/
def fnExactKeysOfSpec : ChangeSpec := { name := "fnExactKeysOf", fn := fun _ => fun
  | [d] => { results := [.lit (.bool true)], args := [d] }
  | _ => none }
def fnExactKeysOfRow : OpenClaim := { program := "ytjnebonphbgkgaadoor", sum := "c7cef19b1402b7393a39d01c4c52cb72c8a534edda120e823cda9c9c958aebbd", func := "loop.example/g01350/laws.FnExactKeysOf", spec := "fnExactKeysOf", inPlace := ["internal/bytealg.IndexByteString", "internal/bytealg.IndexString"], named := ["unicode/utf8.first", "unicode/utf8.acceptRanges", "internal/bytealg.MaxLen"], apart := false, laid := [("unicode/utf8.acceptRanges", laid_unicode_utf8_acceptRanges), ("unicode/utf8.first", laid_unicode_utf8_first)] }
def FnExactKeysOfSaid : Prop := fnExactKeysOfRow.holds Tryd.pinned (OpenSpec.ofChange fnExactKeysOfSpec)

/-- ITS FALSE NEIGHBOUR: 'it returns false'. Refute it at one input. -/
def fnExactKeysOfWrong : ChangeSpec := { name := "fnExactKeysOf", fn := fun _ => fun
  | [d] => { results := [.lit (.bool false)], args := [d] }
  | _ => none }
def FnExactKeysOfWrongFalsely : Prop := fnExactKeysOfRow.holds Tryd.pinned (OpenSpec.ofChange fnExactKeysOfWrong)

/-- 'laws.FnExactCountSameKeys': WHATEVER THE INPUT: true; the input reads as it did. -/
def fnExactCountSameKeysSpec : ChangeSpec := { name := "fnExactCountSameKeys", fn := fun _ => fun
  | [d] => { results := [.lit (.bool true)], args := [d] }
  | _ => none }
def fnExactCountSameKeysRow : OpenClaim := { program := "ytjnebonphbgkgaadoor", sum := "c7cef19b1402b7393a39d01c4c52cb72c8a534edda120e823cda9c9c958aebbd", func := "loop.example/g01350/laws.FnExactCountSameKeys", spec := "fnExactCountSameKeys", inPlace := ["internal/bytealg.IndexByteString", "internal/bytealg.IndexString"], named := ["unicode/utf8.first", "unicode/utf8.acceptRanges", "internal/bytealg.MaxLen"], apart := false, laid := [("unicode/utf8.acceptRanges", laid_unicode_utf8_acceptRanges), ("unicode/utf8.first", laid_unicode_utf8_first)] }
def FnExactCountSameKeysSaid : Prop := fnExactCountSameKeysRow.holds Tryd.pinned (OpenSpec.ofChange fnExactCountSameKeysSpec)

/-- ITS FALSE NEIGHBOUR: 'it returns false'. Refute it at one input. -/
def fnExactCountSameKeysWrong : ChangeSpec := { name := "fnExactCountSameKeys", fn := fun _ => fun
  | [d] => { results := [.lit (.bool false)], args := [d] }
  | _ => none }
def FnExactCountSameKeysWrongFalsely : Prop := fnExactCountSameKeysRow.holds Tryd.pinned (OpenSpec.ofChange fnExactCountSameKeysWrong)

/-- 'laws.FnExactFirstWord': WHATEVER THE INPUT: true; the input reads as it did. -/
def fnExactFirstWordSpec : ChangeSpec := { name := "fnExactFirstWord", fn := fun _ => fun
  | [d] => { results := [.lit (.bool true)], args := [d] }
  | _ => none }
def fnExactFirstWordRow : OpenClaim := { program := "ytjnebonphbgkgaadoor", sum := "c7cef19b1402b7393a39d01c4c52cb72c8a534edda120e823cda9c9c958aebbd", func := "loop.example/g01350/laws.FnExactFirstWord", spec := "fnExactFirstWord", inPlace := ["internal/bytealg.IndexByteString", "internal/bytealg.IndexString"], named := ["unicode/utf8.first", "unicode/utf8.acceptRanges", "internal/bytealg.MaxLen"], apart := false, laid := [("unicode/utf8.acceptRanges", laid_unicode_utf8_acceptRanges), ("unicode/utf8.first", laid_unicode_utf8_first)] }
def FnExactFirstWordSaid : Prop := fnExactFirstWordRow.holds Tryd.pinned (OpenSpec.ofChange fnExactFirstWordSpec)

/-- ITS FALSE NEIGHBOUR: 'it returns false'. Refute it at one input. -/
def fnExactFirstWordWrong : ChangeSpec := { name := "fnExactFirstWord", fn := fun _ => fun
  | [d] => { results := [.lit (.bool false)], args := [d] }
  | _ => none }
def FnExactFirstWordWrongFalsely : Prop := fnExactFirstWordRow.holds Tryd.pinned (OpenSpec.ofChange fnExactFirstWordWrong)

/-- 'laws.FnExactWordOfRank': WHATEVER THE INPUT: true; the input reads as it did. -/
def fnExactWordOfRankSpec : ChangeSpec := { name := "fnExactWordOfRank", fn := fun _ => fun
  | [d1, d2] => { results := [.lit (.bool true)], args := [d1, d2] }
  | _ => none }
def fnExactWordOfRankRow : OpenClaim := { program := "ytjnebonphbgkgaadoor", sum := "c7cef19b1402b7393a39d01c4c52cb72c8a534edda120e823cda9c9c958aebbd", func := "loop.example/g01350/laws.FnExactWordOfRank", spec := "fnExactWordOfRank", inPlace := ["internal/bytealg.IndexByteString", "internal/bytealg.IndexString"], named := ["unicode/utf8.first", "unicode/utf8.acceptRanges", "internal/bytealg.MaxLen"], apart := false, laid := [("unicode/utf8.acceptRanges", laid_unicode_utf8_acceptRanges), ("unicode/utf8.first", laid_unicode_utf8_first)] }
def FnExactWordOfRankSaid : Prop := fnExactWordOfRankRow.holds Tryd.pinned (OpenSpec.ofChange fnExactWordOfRankSpec)

/-- ITS FALSE NEIGHBOUR: 'it returns false'. Refute it at one input. -/
def fnExactWordOfRankWrong : ChangeSpec := { name := "fnExactWordOfRank", fn := fun _ => fun
  | [d1, d2] => { results := [.lit (.bool false)], args := [d1, d2] }
  | _ => none }
def FnExactWordOfRankWrongFalsely : Prop := fnExactWordOfRankRow.holds Tryd.pinned (OpenSpec.ofChange fnExactWordOfRankWrong)

/-- 'laws.FnExactRankOfWord': WHATEVER THE INPUT: true; the input reads as it did. -/
def fnExactRankOfWordSpec : ChangeSpec := { name := "fnExactRankOfWord", fn := fun _ => fun
  | [d] => { results := [.lit (.bool true)], args := [d] }
  | _ => none }
def fnExactRankOfWordRow : OpenClaim := { program := "ytjnebonphbgkgaadoor", sum := "c7cef19b1402b7393a39d01c4c52cb72c8a534edda120e823cda9c9c958aebbd", func := "loop.example/g01350/laws.FnExactRankOfWord", spec := "fnExactRankOfWord", inPlace := ["internal/bytealg.IndexByteString", "internal/bytealg.IndexString"], named := ["unicode/utf8.first", "unicode/utf8.acceptRanges", "internal/bytealg.MaxLen"], apart := false, laid := [("unicode/utf8.acceptRanges", laid_unicode_utf8_acceptRanges), ("unicode/utf8.first", laid_unicode_utf8_first)] }
def FnExactRankOfWordSaid : Prop := fnExactRankOfWordRow.holds Tryd.pinned (OpenSpec.ofChange fnExactRankOfWordSpec)

/-- ITS FALSE NEIGHBOUR: 'it returns false'. Refute it at one input. -/
def fnExactRankOfWordWrong : ChangeSpec := { name := "fnExactRankOfWord", fn := fun _ => fun
  | [d] => { results := [.lit (.bool false)], args := [d] }
  | _ => none }
def FnExactRankOfWordWrongFalsely : Prop := fnExactRankOfWordRow.holds Tryd.pinned (OpenSpec.ofChange fnExactRankOfWordWrong)

/-- 'laws.FnExactSameKeys': WHATEVER THE INPUT: true; the input reads as it did. -/
def fnExactSameKeysSpec : ChangeSpec := { name := "fnExactSameKeys", fn := fun _ => fun
  | [d1, d2] => { results := [.lit (.bool true)], args := [d1, d2] }
  | _ => none }
def fnExactSameKeysRow : OpenClaim := { program := "ytjnebonphbgkgaadoor", sum := "c7cef19b1402b7393a39d01c4c52cb72c8a534edda120e823cda9c9c958aebbd", func := "loop.example/g01350/laws.FnExactSameKeys", spec := "fnExactSameKeys", inPlace := ["internal/bytealg.IndexByteString", "internal/bytealg.IndexString"], named := ["unicode/utf8.first", "unicode/utf8.acceptRanges", "internal/bytealg.MaxLen"], apart := false, laid := [("unicode/utf8.acceptRanges", laid_unicode_utf8_acceptRanges), ("unicode/utf8.first", laid_unicode_utf8_first)] }
def FnExactSameKeysSaid : Prop := fnExactSameKeysRow.holds Tryd.pinned (OpenSpec.ofChange fnExactSameKeysSpec)

/-- ITS FALSE NEIGHBOUR: 'it returns false'. Refute it at one input. -/
def fnExactSameKeysWrong : ChangeSpec := { name := "fnExactSameKeys", fn := fun _ => fun
  | [d1, d2] => { results := [.lit (.bool false)], args := [d1, d2] }
  | _ => none }
def FnExactSameKeysWrongFalsely : Prop := fnExactSameKeysRow.holds Tryd.pinned (OpenSpec.ofChange fnExactSameKeysWrong)

/-- 'laws.FnExactCollapseText': WHATEVER THE INPUT: true; the input reads as it did. -/
def fnExactCollapseTextSpec : ChangeSpec := { name := "fnExactCollapseText", fn := fun _ => fun
  | [d] => { results := [.lit (.bool true)], args := [d] }
  | _ => none }
def fnExactCollapseTextRow : OpenClaim := { program := "ytjnebonphbgkgaadoor", sum := "c7cef19b1402b7393a39d01c4c52cb72c8a534edda120e823cda9c9c958aebbd", func := "loop.example/g01350/laws.FnExactCollapseText", spec := "fnExactCollapseText", inPlace := ["internal/bytealg.IndexByteString", "internal/bytealg.IndexString"], named := ["unicode/utf8.first", "unicode/utf8.acceptRanges", "internal/bytealg.MaxLen"], apart := false, laid := [("unicode/utf8.acceptRanges", laid_unicode_utf8_acceptRanges), ("unicode/utf8.first", laid_unicode_utf8_first)] }
def FnExactCollapseTextSaid : Prop := fnExactCollapseTextRow.holds Tryd.pinned (OpenSpec.ofChange fnExactCollapseTextSpec)

/-- ITS FALSE NEIGHBOUR: 'it returns false'. Refute it at one input. -/
def fnExactCollapseTextWrong : ChangeSpec := { name := "fnExactCollapseText", fn := fun _ => fun
  | [d] => { results := [.lit (.bool false)], args := [d] }
  | _ => none }
def FnExactCollapseTextWrongFalsely : Prop := fnExactCollapseTextRow.holds Tryd.pinned (OpenSpec.ofChange fnExactCollapseTextWrong)

/-- 'laws.FnExactCountRuns': WHATEVER THE INPUT: true; the input reads as it did. -/
def fnExactCountRunsSpec : ChangeSpec := { name := "fnExactCountRuns", fn := fun _ => fun
  | [d] => { results := [.lit (.bool true)], args := [d] }
  | _ => none }
def fnExactCountRunsRow : OpenClaim := { program := "ytjnebonphbgkgaadoor", sum := "c7cef19b1402b7393a39d01c4c52cb72c8a534edda120e823cda9c9c958aebbd", func := "loop.example/g01350/laws.FnExactCountRuns", spec := "fnExactCountRuns", inPlace := ["internal/bytealg.IndexByteString", "internal/bytealg.IndexString"], named := ["unicode/utf8.first", "unicode/utf8.acceptRanges", "internal/bytealg.MaxLen"], apart := false, laid := [("unicode/utf8.acceptRanges", laid_unicode_utf8_acceptRanges), ("unicode/utf8.first", laid_unicode_utf8_first)] }
def FnExactCountRunsSaid : Prop := fnExactCountRunsRow.holds Tryd.pinned (OpenSpec.ofChange fnExactCountRunsSpec)

/-- ITS FALSE NEIGHBOUR: 'it returns false'. Refute it at one input. -/
def fnExactCountRunsWrong : ChangeSpec := { name := "fnExactCountRuns", fn := fun _ => fun
  | [d] => { results := [.lit (.bool false)], args := [d] }
  | _ => none }
def FnExactCountRunsWrongFalsely : Prop := fnExactCountRunsRow.holds Tryd.pinned (OpenSpec.ofChange fnExactCountRunsWrong)

/- THE SECOND FORM. 'bulk': how many values and letters a reading holds, each counted each time it is reached (what is shared counts as often as it is met; a slice's spare places count too). A statement '..UptoSaid' is the law's where the arguments, and the package variables that the reading takes, are together of bulk at most 1048576: NARROWER than '..Said'. Prove '..Said' where nothing that the law and all that it calls make is longer than what came in: it says more and counts as full. Else prove '..UptoSaid'. A law counts once. -/
mutual
def uptoBulk {H : Type} : DataW H → Nat
  | .lit (.string bytes) => bytes.length + 1
  | .lit _ => 1
  | .nil => 1
  | .ptr d => uptoBulk d + 1
  | .slice elems spare => uptoBulkAll elems + uptoBulkAll spare + 1
  | .agg parts => uptoBulkAll parts + 1
  | .iface _ d => uptoBulk d + 1
  | .map entries => uptoBulkEntries entries + 1
  | .held _ => 1
def uptoBulkAll {H : Type} : List (DataW H) → Nat
  | [] => 0
  | d :: r => uptoBulk d + uptoBulkAll r
def uptoBulkEntries {H : Type} : List (Lit × DataW H) → Nat
  | [] => 0
  | x :: r => uptoBulkEntry x + uptoBulkEntries r
def uptoBulkEntry {H : Type} : Lit × DataW H → Nat
  | (.string bytes, d) => bytes.length + uptoBulk d + 1
  | (_, d) => uptoBulk d + 1
 end
def uptoSmall : (H : Type) → List (DataW H) → Bool := fun _ ds => decide (uptoBulkAll ds ≤ 1048576)
def OpenSpec.upto (s : _root_.Go.ChangeSpec) : _root_.Go.OpenSpec := { _root_.Go.OpenSpec.ofChange s with cond := some uptoSmall }

/-- 'laws.FnExactIsWord', WHERE WHAT IT READS IS OF BULK AT MOST 1048576: true; the input reads as it did. -/
def fnExactIsWordUptoRow : OpenClaim := { program := "ytjnebonphbgkgaadoor", sum := "c7cef19b1402b7393a39d01c4c52cb72c8a534edda120e823cda9c9c958aebbd", func := "loop.example/g01350/laws.FnExactIsWord", spec := "fnExactIsWord", inPlace := ["internal/bytealg.IndexByteString", "internal/bytealg.IndexString"], named := ["unicode/utf8.first", "unicode/utf8.acceptRanges", "internal/bytealg.MaxLen"], apart := false, laid := [("unicode/utf8.acceptRanges", laid_unicode_utf8_acceptRanges), ("unicode/utf8.first", laid_unicode_utf8_first)], narrowed := true }
def FnExactIsWordUptoSaid : Prop := fnExactIsWordUptoRow.holds Tryd.pinned (OpenSpec.upto fnExactIsWordSpec)

/-- 'laws.FnExactKeyOf', WHERE WHAT IT READS IS OF BULK AT MOST 1048576: true; the input reads as it did. -/
def fnExactKeyOfUptoRow : OpenClaim := { program := "ytjnebonphbgkgaadoor", sum := "c7cef19b1402b7393a39d01c4c52cb72c8a534edda120e823cda9c9c958aebbd", func := "loop.example/g01350/laws.FnExactKeyOf", spec := "fnExactKeyOf", inPlace := ["internal/bytealg.IndexByteString", "internal/bytealg.IndexString"], named := ["unicode/utf8.first", "unicode/utf8.acceptRanges", "internal/bytealg.MaxLen"], apart := false, laid := [("unicode/utf8.acceptRanges", laid_unicode_utf8_acceptRanges), ("unicode/utf8.first", laid_unicode_utf8_first)], narrowed := true }
def FnExactKeyOfUptoSaid : Prop := fnExactKeyOfUptoRow.holds Tryd.pinned (OpenSpec.upto fnExactKeyOfSpec)

/-- 'laws.FnExactPressesFor', WHERE WHAT IT READS IS OF BULK AT MOST 1048576: true; the input reads as it did. -/
def fnExactPressesForUptoRow : OpenClaim := { program := "ytjnebonphbgkgaadoor", sum := "c7cef19b1402b7393a39d01c4c52cb72c8a534edda120e823cda9c9c958aebbd", func := "loop.example/g01350/laws.FnExactPressesFor", spec := "fnExactPressesFor", inPlace := ["internal/bytealg.IndexByteString", "internal/bytealg.IndexString"], named := ["unicode/utf8.first", "unicode/utf8.acceptRanges", "internal/bytealg.MaxLen"], apart := false, laid := [("unicode/utf8.acceptRanges", laid_unicode_utf8_acceptRanges), ("unicode/utf8.first", laid_unicode_utf8_first)], narrowed := true }
def FnExactPressesForUptoSaid : Prop := fnExactPressesForUptoRow.holds Tryd.pinned (OpenSpec.upto fnExactPressesForSpec)

/-- 'laws.FnExactCountPresses', WHERE WHAT IT READS IS OF BULK AT MOST 1048576: true; the input reads as it did. -/
def fnExactCountPressesUptoRow : OpenClaim := { program := "ytjnebonphbgkgaadoor", sum := "c7cef19b1402b7393a39d01c4c52cb72c8a534edda120e823cda9c9c958aebbd", func := "loop.example/g01350/laws.FnExactCountPresses", spec := "fnExactCountPresses", inPlace := ["internal/bytealg.IndexByteString", "internal/bytealg.IndexString"], named := ["unicode/utf8.first", "unicode/utf8.acceptRanges", "internal/bytealg.MaxLen"], apart := false, laid := [("unicode/utf8.acceptRanges", laid_unicode_utf8_acceptRanges), ("unicode/utf8.first", laid_unicode_utf8_first)], narrowed := true }
def FnExactCountPressesUptoSaid : Prop := fnExactCountPressesUptoRow.holds Tryd.pinned (OpenSpec.upto fnExactCountPressesSpec)

/-- 'laws.FnExactKeysOf', WHERE WHAT IT READS IS OF BULK AT MOST 1048576: true; the input reads as it did. -/
def fnExactKeysOfUptoRow : OpenClaim := { program := "ytjnebonphbgkgaadoor", sum := "c7cef19b1402b7393a39d01c4c52cb72c8a534edda120e823cda9c9c958aebbd", func := "loop.example/g01350/laws.FnExactKeysOf", spec := "fnExactKeysOf", inPlace := ["internal/bytealg.IndexByteString", "internal/bytealg.IndexString"], named := ["unicode/utf8.first", "unicode/utf8.acceptRanges", "internal/bytealg.MaxLen"], apart := false, laid := [("unicode/utf8.acceptRanges", laid_unicode_utf8_acceptRanges), ("unicode/utf8.first", laid_unicode_utf8_first)], narrowed := true }
def FnExactKeysOfUptoSaid : Prop := fnExactKeysOfUptoRow.holds Tryd.pinned (OpenSpec.upto fnExactKeysOfSpec)

/-- 'laws.FnExactCountSameKeys', WHERE WHAT IT READS IS OF BULK AT MOST 1048576: true; the input reads as it did. -/
def fnExactCountSameKeysUptoRow : OpenClaim := { program := "ytjnebonphbgkgaadoor", sum := "c7cef19b1402b7393a39d01c4c52cb72c8a534edda120e823cda9c9c958aebbd", func := "loop.example/g01350/laws.FnExactCountSameKeys", spec := "fnExactCountSameKeys", inPlace := ["internal/bytealg.IndexByteString", "internal/bytealg.IndexString"], named := ["unicode/utf8.first", "unicode/utf8.acceptRanges", "internal/bytealg.MaxLen"], apart := false, laid := [("unicode/utf8.acceptRanges", laid_unicode_utf8_acceptRanges), ("unicode/utf8.first", laid_unicode_utf8_first)], narrowed := true }
def FnExactCountSameKeysUptoSaid : Prop := fnExactCountSameKeysUptoRow.holds Tryd.pinned (OpenSpec.upto fnExactCountSameKeysSpec)

/-- 'laws.FnExactFirstWord', WHERE WHAT IT READS IS OF BULK AT MOST 1048576: true; the input reads as it did. -/
def fnExactFirstWordUptoRow : OpenClaim := { program := "ytjnebonphbgkgaadoor", sum := "c7cef19b1402b7393a39d01c4c52cb72c8a534edda120e823cda9c9c958aebbd", func := "loop.example/g01350/laws.FnExactFirstWord", spec := "fnExactFirstWord", inPlace := ["internal/bytealg.IndexByteString", "internal/bytealg.IndexString"], named := ["unicode/utf8.first", "unicode/utf8.acceptRanges", "internal/bytealg.MaxLen"], apart := false, laid := [("unicode/utf8.acceptRanges", laid_unicode_utf8_acceptRanges), ("unicode/utf8.first", laid_unicode_utf8_first)], narrowed := true }
def FnExactFirstWordUptoSaid : Prop := fnExactFirstWordUptoRow.holds Tryd.pinned (OpenSpec.upto fnExactFirstWordSpec)

/-- 'laws.FnExactWordOfRank', WHERE WHAT IT READS IS OF BULK AT MOST 1048576: true; the input reads as it did. -/
def fnExactWordOfRankUptoRow : OpenClaim := { program := "ytjnebonphbgkgaadoor", sum := "c7cef19b1402b7393a39d01c4c52cb72c8a534edda120e823cda9c9c958aebbd", func := "loop.example/g01350/laws.FnExactWordOfRank", spec := "fnExactWordOfRank", inPlace := ["internal/bytealg.IndexByteString", "internal/bytealg.IndexString"], named := ["unicode/utf8.first", "unicode/utf8.acceptRanges", "internal/bytealg.MaxLen"], apart := false, laid := [("unicode/utf8.acceptRanges", laid_unicode_utf8_acceptRanges), ("unicode/utf8.first", laid_unicode_utf8_first)], narrowed := true }
def FnExactWordOfRankUptoSaid : Prop := fnExactWordOfRankUptoRow.holds Tryd.pinned (OpenSpec.upto fnExactWordOfRankSpec)

/-- 'laws.FnExactRankOfWord', WHERE WHAT IT READS IS OF BULK AT MOST 1048576: true; the input reads as it did. -/
def fnExactRankOfWordUptoRow : OpenClaim := { program := "ytjnebonphbgkgaadoor", sum := "c7cef19b1402b7393a39d01c4c52cb72c8a534edda120e823cda9c9c958aebbd", func := "loop.example/g01350/laws.FnExactRankOfWord", spec := "fnExactRankOfWord", inPlace := ["internal/bytealg.IndexByteString", "internal/bytealg.IndexString"], named := ["unicode/utf8.first", "unicode/utf8.acceptRanges", "internal/bytealg.MaxLen"], apart := false, laid := [("unicode/utf8.acceptRanges", laid_unicode_utf8_acceptRanges), ("unicode/utf8.first", laid_unicode_utf8_first)], narrowed := true }
def FnExactRankOfWordUptoSaid : Prop := fnExactRankOfWordUptoRow.holds Tryd.pinned (OpenSpec.upto fnExactRankOfWordSpec)

/-- 'laws.FnExactSameKeys', WHERE WHAT IT READS IS OF BULK AT MOST 1048576: true; the input reads as it did. -/
def fnExactSameKeysUptoRow : OpenClaim := { program := "ytjnebonphbgkgaadoor", sum := "c7cef19b1402b7393a39d01c4c52cb72c8a534edda120e823cda9c9c958aebbd", func := "loop.example/g01350/laws.FnExactSameKeys", spec := "fnExactSameKeys", inPlace := ["internal/bytealg.IndexByteString", "internal/bytealg.IndexString"], named := ["unicode/utf8.first", "unicode/utf8.acceptRanges", "internal/bytealg.MaxLen"], apart := false, laid := [("unicode/utf8.acceptRanges", laid_unicode_utf8_acceptRanges), ("unicode/utf8.first", laid_unicode_utf8_first)], narrowed := true }
def FnExactSameKeysUptoSaid : Prop := fnExactSameKeysUptoRow.holds Tryd.pinned (OpenSpec.upto fnExactSameKeysSpec)

/-- 'laws.FnExactCollapseText', WHERE WHAT IT READS IS OF BULK AT MOST 1048576: true; the input reads as it did. -/
def fnExactCollapseTextUptoRow : OpenClaim := { program := "ytjnebonphbgkgaadoor", sum := "c7cef19b1402b7393a39d01c4c52cb72c8a534edda120e823cda9c9c958aebbd", func := "loop.example/g01350/laws.FnExactCollapseText", spec := "fnExactCollapseText", inPlace := ["internal/bytealg.IndexByteString", "internal/bytealg.IndexString"], named := ["unicode/utf8.first", "unicode/utf8.acceptRanges", "internal/bytealg.MaxLen"], apart := false, laid := [("unicode/utf8.acceptRanges", laid_unicode_utf8_acceptRanges), ("unicode/utf8.first", laid_unicode_utf8_first)], narrowed := true }
def FnExactCollapseTextUptoSaid : Prop := fnExactCollapseTextUptoRow.holds Tryd.pinned (OpenSpec.upto fnExactCollapseTextSpec)

/-- 'laws.FnExactCountRuns', WHERE WHAT IT READS IS OF BULK AT MOST 1048576: true; the input reads as it did. -/
def fnExactCountRunsUptoRow : OpenClaim := { program := "ytjnebonphbgkgaadoor", sum := "c7cef19b1402b7393a39d01c4c52cb72c8a534edda120e823cda9c9c958aebbd", func := "loop.example/g01350/laws.FnExactCountRuns", spec := "fnExactCountRuns", inPlace := ["internal/bytealg.IndexByteString", "internal/bytealg.IndexString"], named := ["unicode/utf8.first", "unicode/utf8.acceptRanges", "internal/bytealg.MaxLen"], apart := false, laid := [("unicode/utf8.acceptRanges", laid_unicode_utf8_acceptRanges), ("unicode/utf8.first", laid_unicode_utf8_first)], narrowed := true }
def FnExactCountRunsUptoSaid : Prop := fnExactCountRunsUptoRow.holds Tryd.pinned (OpenSpec.upto fnExactCountRunsSpec)

end Rows
end Go.Proofs.YtjnebonphbgkgaaDoor
