/-
  NARROWER THAN 'FOR EVERY INPUT', by the rows' own cells (each row's printed sentence says how): FnExactFirstSplit: laid · FnExactCountSplits: laid · FnExactFewestWords: laid · FnExactFirstFewest: laid · FnExactLongestSplit: laid · FnExactSharedKeys: laid · FnExactMostPresses: laid.
  DERIVED. THE GIVEN ROWS OF THIS SEAT. 7 by the template 'for every input the law returns true; each argument reads behind the call as it read before'; 0 by the template 'total and deterministic' (their statements: YtclnjlnpconjmaaDoorTotals.lean).
  GIVEN WITH THE SEED: the statements are not yours to turn. If you find one false, say at which input.
  Laid BY PROGRAM, IN A SANDBOX (cutbox-rows.mjs): the forced cells as the released guide's own fill.sh prints them over the translation 4f20027303eb92c5… (all of the seat's roots in one cut). By AI agents, Wed Nov 11 2026. No macro, syntax, notation, axiom, sorry.
-/
import Derived.Test.YtclnjlnpconjmaaDoorChecked
import GoSem.PinnedTables
import GoSem.Claim
import GoSem.ClaimJoined
import GoSem.ClaimMapViews
import Derived.JoinedTies
import Derived.KernelRfl
namespace Go.Proofs.YtclnjlnpconjmaaDoor
/- THE CELL 'sum', in the pinned program and in every row, IS THE sha256 OF THE DUMP (.gsa) THAT YtclnjlnpconjmaaDoorProg.lean LOADS. Nothing in Lean hashes anything: it is a label: what it is worth is what the hold of that sum in a sandbox is worth. -/
noncomputable def Tryd.pinned : Pinned := { name := "ytclnjlnpconjmaadoor", sum := "4f20027303eb92c583973de402a378d75bf195a44cb542b42405afe75aedce0e", checked := Tryd.checked }
namespace Rows
def none {H : Type} : Left H := { results := [], args := [] }

/- WHAT THE LISTED PACKAGE-LEVEL VARIABLES READ AS WHEN THE CALL BEGINS. Each datum BY PROGRAM (the guide's laid-datum.mjs) off the statement by which the dump's own 'gosem.cut.vars' lays the variable. In a bare row this is a premise. The card (YtclnjlnpconjmaaDoorCards.lean) ties it to the program's text. -/
def laid_unicode_utf8_acceptRanges {H : Type} : DataW H := .agg [.agg [.lit (.int .u8 128), .lit (.int .u8 191)], .agg [.lit (.int .u8 160), .lit (.int .u8 191)], .agg [.lit (.int .u8 128), .lit (.int .u8 159)], .agg [.lit (.int .u8 144), .lit (.int .u8 191)], .agg [.lit (.int .u8 128), .lit (.int .u8 143)], .agg [.lit (.int .u8 0), .lit (.int .u8 0)], .agg [.lit (.int .u8 0), .lit (.int .u8 0)], .agg [.lit (.int .u8 0), .lit (.int .u8 0)], .agg [.lit (.int .u8 0), .lit (.int .u8 0)], .agg [.lit (.int .u8 0), .lit (.int .u8 0)], .agg [.lit (.int .u8 0), .lit (.int .u8 0)], .agg [.lit (.int .u8 0), .lit (.int .u8 0)], .agg [.lit (.int .u8 0), .lit (.int .u8 0)], .agg [.lit (.int .u8 0), .lit (.int .u8 0)], .agg [.lit (.int .u8 0), .lit (.int .u8 0)], .agg [.lit (.int .u8 0), .lit (.int .u8 0)]]
/-- One of Go's own tables, pinned by name: the form's constant. -/
def laid_unicode_utf8_first : DataW Unit := Go.Pinned.utf8First

/-- 'laws.FnExactFirstSplit': WHATEVER THE INPUT: true; the input reads as it did. -/
def fnExactFirstSplitSpec : ChangeSpec := { name := "fnExactFirstSplit", fn := fun _ => fun
  | [d1, d2] => { results := [.lit (.bool true)], args := [d1, d2] }
  | _ => none }
def fnExactFirstSplitRow : OpenClaim := { program := "ytclnjlnpconjmaadoor", sum := "4f20027303eb92c583973de402a378d75bf195a44cb542b42405afe75aedce0e", func := "loop.example/g01350/laws.FnExactFirstSplit", spec := "fnExactFirstSplit", inPlace := ["internal/bytealg.IndexByteString", "internal/bytealg.IndexString"], unfollowed := true, recurses := true, named := ["unicode/utf8.first", "unicode/utf8.acceptRanges", "internal/bytealg.MaxLen"], apart := false, laid := [("unicode/utf8.acceptRanges", laid_unicode_utf8_acceptRanges), ("unicode/utf8.first", laid_unicode_utf8_first)] }
def FnExactFirstSplitSaid : Prop := fnExactFirstSplitRow.holds Tryd.pinned (OpenSpec.ofChange fnExactFirstSplitSpec)

/-- ITS FALSE NEIGHBOUR: 'it returns false'. Refute it at one input. -/
def fnExactFirstSplitWrong : ChangeSpec := { name := "fnExactFirstSplit", fn := fun _ => fun
  | [d1, d2] => { results := [.lit (.bool false)], args := [d1, d2] }
  | _ => none }
def FnExactFirstSplitWrongFalsely : Prop := fnExactFirstSplitRow.holds Tryd.pinned (OpenSpec.ofChange fnExactFirstSplitWrong)

/-- 'laws.FnExactCountSplits': WHATEVER THE INPUT: true; the input reads as it did. -/
def fnExactCountSplitsSpec : ChangeSpec := { name := "fnExactCountSplits", fn := fun _ => fun
  | [d1, d2] => { results := [.lit (.bool true)], args := [d1, d2] }
  | _ => none }
def fnExactCountSplitsRow : OpenClaim := { program := "ytclnjlnpconjmaadoor", sum := "4f20027303eb92c583973de402a378d75bf195a44cb542b42405afe75aedce0e", func := "loop.example/g01350/laws.FnExactCountSplits", spec := "fnExactCountSplits", inPlace := ["internal/bytealg.IndexByteString", "internal/bytealg.IndexString"], named := ["unicode/utf8.first", "unicode/utf8.acceptRanges", "internal/bytealg.MaxLen"], apart := false, laid := [("unicode/utf8.acceptRanges", laid_unicode_utf8_acceptRanges), ("unicode/utf8.first", laid_unicode_utf8_first)] }
def FnExactCountSplitsSaid : Prop := fnExactCountSplitsRow.holds Tryd.pinned (OpenSpec.ofChange fnExactCountSplitsSpec)

/-- ITS FALSE NEIGHBOUR: 'it returns false'. Refute it at one input. -/
def fnExactCountSplitsWrong : ChangeSpec := { name := "fnExactCountSplits", fn := fun _ => fun
  | [d1, d2] => { results := [.lit (.bool false)], args := [d1, d2] }
  | _ => none }
def FnExactCountSplitsWrongFalsely : Prop := fnExactCountSplitsRow.holds Tryd.pinned (OpenSpec.ofChange fnExactCountSplitsWrong)

/-- 'laws.FnExactFewestWords': WHATEVER THE INPUT: true; the input reads as it did. -/
def fnExactFewestWordsSpec : ChangeSpec := { name := "fnExactFewestWords", fn := fun _ => fun
  | [d1, d2] => { results := [.lit (.bool true)], args := [d1, d2] }
  | _ => none }
def fnExactFewestWordsRow : OpenClaim := { program := "ytclnjlnpconjmaadoor", sum := "4f20027303eb92c583973de402a378d75bf195a44cb542b42405afe75aedce0e", func := "loop.example/g01350/laws.FnExactFewestWords", spec := "fnExactFewestWords", inPlace := ["internal/bytealg.IndexByteString", "internal/bytealg.IndexString"], named := ["unicode/utf8.first", "unicode/utf8.acceptRanges", "internal/bytealg.MaxLen"], apart := false, laid := [("unicode/utf8.acceptRanges", laid_unicode_utf8_acceptRanges), ("unicode/utf8.first", laid_unicode_utf8_first)] }
def FnExactFewestWordsSaid : Prop := fnExactFewestWordsRow.holds Tryd.pinned (OpenSpec.ofChange fnExactFewestWordsSpec)

/-- ITS FALSE NEIGHBOUR: 'it returns false'. Refute it at one input. -/
def fnExactFewestWordsWrong : ChangeSpec := { name := "fnExactFewestWords", fn := fun _ => fun
  | [d1, d2] => { results := [.lit (.bool false)], args := [d1, d2] }
  | _ => none }
def FnExactFewestWordsWrongFalsely : Prop := fnExactFewestWordsRow.holds Tryd.pinned (OpenSpec.ofChange fnExactFewestWordsWrong)

/-- 'laws.FnExactFirstFewest': WHATEVER THE INPUT: true; the input reads as it did. -/
def fnExactFirstFewestSpec : ChangeSpec := { name := "fnExactFirstFewest", fn := fun _ => fun
  | [d1, d2] => { results := [.lit (.bool true)], args := [d1, d2] }
  | _ => none }
def fnExactFirstFewestRow : OpenClaim := { program := "ytclnjlnpconjmaadoor", sum := "4f20027303eb92c583973de402a378d75bf195a44cb542b42405afe75aedce0e", func := "loop.example/g01350/laws.FnExactFirstFewest", spec := "fnExactFirstFewest", inPlace := ["internal/bytealg.IndexByteString", "internal/bytealg.IndexString"], unfollowed := true, recurses := true, named := ["unicode/utf8.first", "unicode/utf8.acceptRanges", "internal/bytealg.MaxLen"], apart := false, laid := [("unicode/utf8.acceptRanges", laid_unicode_utf8_acceptRanges), ("unicode/utf8.first", laid_unicode_utf8_first)] }
def FnExactFirstFewestSaid : Prop := fnExactFirstFewestRow.holds Tryd.pinned (OpenSpec.ofChange fnExactFirstFewestSpec)

/-- ITS FALSE NEIGHBOUR: 'it returns false'. Refute it at one input. -/
def fnExactFirstFewestWrong : ChangeSpec := { name := "fnExactFirstFewest", fn := fun _ => fun
  | [d1, d2] => { results := [.lit (.bool false)], args := [d1, d2] }
  | _ => none }
def FnExactFirstFewestWrongFalsely : Prop := fnExactFirstFewestRow.holds Tryd.pinned (OpenSpec.ofChange fnExactFirstFewestWrong)

/-- 'laws.FnExactLongestSplit': WHATEVER THE INPUT: true; the input reads as it did. -/
def fnExactLongestSplitSpec : ChangeSpec := { name := "fnExactLongestSplit", fn := fun _ => fun
  | [d1, d2] => { results := [.lit (.bool true)], args := [d1, d2] }
  | _ => none }
def fnExactLongestSplitRow : OpenClaim := { program := "ytclnjlnpconjmaadoor", sum := "4f20027303eb92c583973de402a378d75bf195a44cb542b42405afe75aedce0e", func := "loop.example/g01350/laws.FnExactLongestSplit", spec := "fnExactLongestSplit", inPlace := ["internal/bytealg.IndexByteString", "internal/bytealg.IndexString"], named := ["unicode/utf8.first", "unicode/utf8.acceptRanges", "internal/bytealg.MaxLen"], apart := false, laid := [("unicode/utf8.acceptRanges", laid_unicode_utf8_acceptRanges), ("unicode/utf8.first", laid_unicode_utf8_first)] }
def FnExactLongestSplitSaid : Prop := fnExactLongestSplitRow.holds Tryd.pinned (OpenSpec.ofChange fnExactLongestSplitSpec)

/-- ITS FALSE NEIGHBOUR: 'it returns false'. Refute it at one input. -/
def fnExactLongestSplitWrong : ChangeSpec := { name := "fnExactLongestSplit", fn := fun _ => fun
  | [d1, d2] => { results := [.lit (.bool false)], args := [d1, d2] }
  | _ => none }
def FnExactLongestSplitWrongFalsely : Prop := fnExactLongestSplitRow.holds Tryd.pinned (OpenSpec.ofChange fnExactLongestSplitWrong)

/-- 'laws.FnExactSharedKeys': WHATEVER THE INPUT: true; the input reads as it did. -/
def fnExactSharedKeysSpec : ChangeSpec := { name := "fnExactSharedKeys", fn := fun _ => fun
  | [d] => { results := [.lit (.bool true)], args := [d] }
  | _ => none }
def fnExactSharedKeysRow : OpenClaim := { program := "ytclnjlnpconjmaadoor", sum := "4f20027303eb92c583973de402a378d75bf195a44cb542b42405afe75aedce0e", func := "loop.example/g01350/laws.FnExactSharedKeys", spec := "fnExactSharedKeys", inPlace := ["internal/bytealg.IndexByteString", "internal/bytealg.IndexString"], unfollowed := true, recurses := true, named := ["unicode/utf8.first", "unicode/utf8.acceptRanges", "internal/bytealg.MaxLen"], apart := false, laid := [("unicode/utf8.acceptRanges", laid_unicode_utf8_acceptRanges), ("unicode/utf8.first", laid_unicode_utf8_first)] }
def FnExactSharedKeysSaid : Prop := fnExactSharedKeysRow.holds Tryd.pinned (OpenSpec.ofChange fnExactSharedKeysSpec)

/-- ITS FALSE NEIGHBOUR: 'it returns false'. Refute it at one input. -/
def fnExactSharedKeysWrong : ChangeSpec := { name := "fnExactSharedKeys", fn := fun _ => fun
  | [d] => { results := [.lit (.bool false)], args := [d] }
  | _ => none }
def FnExactSharedKeysWrongFalsely : Prop := fnExactSharedKeysRow.holds Tryd.pinned (OpenSpec.ofChange fnExactSharedKeysWrong)

/-- 'laws.FnExactMostPresses': WHATEVER THE INPUT: true; the input reads as it did. -/
def fnExactMostPressesSpec : ChangeSpec := { name := "fnExactMostPresses", fn := fun _ => fun
  | [d] => { results := [.lit (.bool true)], args := [d] }
  | _ => none }
def fnExactMostPressesRow : OpenClaim := { program := "ytclnjlnpconjmaadoor", sum := "4f20027303eb92c583973de402a378d75bf195a44cb542b42405afe75aedce0e", func := "loop.example/g01350/laws.FnExactMostPresses", spec := "fnExactMostPresses", inPlace := ["internal/bytealg.IndexByteString", "internal/bytealg.IndexString"], unfollowed := true, recurses := true, named := ["unicode/utf8.first", "unicode/utf8.acceptRanges", "internal/bytealg.MaxLen"], apart := false, laid := [("unicode/utf8.acceptRanges", laid_unicode_utf8_acceptRanges), ("unicode/utf8.first", laid_unicode_utf8_first)] }
def FnExactMostPressesSaid : Prop := fnExactMostPressesRow.holds Tryd.pinned (OpenSpec.ofChange fnExactMostPressesSpec)

/-- ITS FALSE NEIGHBOUR: 'it returns false'. Refute it at one input. -/
def fnExactMostPressesWrong : ChangeSpec := { name := "fnExactMostPresses", fn := fun _ => fun
  | [d] => { results := [.lit (.bool false)], args := [d] }
  | _ => none }
def FnExactMostPressesWrongFalsely : Prop := fnExactMostPressesRow.holds Tryd.pinned (OpenSpec.ofChange fnExactMostPressesWrong)

/- THE SECOND FORM. 'bulk': how many values and letters a reading holds, each counted each time it is reached (what is shared counts as often as it is met; a slice's spare places count too). A statement '..UptoSaid' is the law's where the arguments, and the package variables that the reading takes, are together of bulk at most 1048576: NARROWER than '..Said'. Prove '..Said' where nothing that the law and all that it calls make is longer than what came in: it says more and counts as full. Else prove '..UptoSaid'. A law counts once. -/
mutual
def uptoBulk {H : Type} : DataW H → Nat
  | .lit (.string bytes) => bytes.length + 1
  | .lit _ => 1
  | .nil => 1
  | .ptr d => uptoBulk d + 1
  | .slice elems spare => uptoBulkAll elems + uptoBulkAll spare + 1
  | .agg parts => uptoBulkAll parts + 1
  | .iface _ d => uptoBulk d + 1
  | .map entries => uptoBulkEntries entries + 1
  | .held _ => 1
def uptoBulkAll {H : Type} : List (DataW H) → Nat
  | [] => 0
  | d :: r => uptoBulk d + uptoBulkAll r
def uptoBulkEntries {H : Type} : List (Lit × DataW H) → Nat
  | [] => 0
  | x :: r => uptoBulkEntry x + uptoBulkEntries r
def uptoBulkEntry {H : Type} : Lit × DataW H → Nat
  | (.string bytes, d) => bytes.length + uptoBulk d + 1
  | (_, d) => uptoBulk d + 1
 end
def uptoSmall : (H : Type) → List (DataW H) → Bool := fun _ ds => decide (uptoBulkAll ds ≤ 1048576)
def OpenSpec.upto (s : _root_.Go.ChangeSpec) : _root_.Go.OpenSpec := { _root_.Go.OpenSpec.ofChange s with cond := some uptoSmall }

/-- 'laws.FnExactFirstSplit', WHERE WHAT IT READS IS OF BULK AT MOST 1048576: true; the input reads as it did. -/
def fnExactFirstSplitUptoRow : OpenClaim := { program := "ytclnjlnpconjmaadoor", sum := "4f20027303eb92c583973de402a378d75bf195a44cb542b42405afe75aedce0e", func := "loop.example/g01350/laws.FnExactFirstSplit", spec := "fnExactFirstSplit", inPlace := ["internal/bytealg.IndexByteString", "internal/bytealg.IndexString"], unfollowed := true, recurses := true, named := ["unicode/utf8.first", "unicode/utf8.acceptRanges", "internal/bytealg.MaxLen"], apart := false, laid := [("unicode/utf8.acceptRanges", laid_unicode_utf8_acceptRanges), ("unicode/utf8.first", laid_unicode_utf8_first)], narrowed := true }
def FnExactFirstSplitUptoSaid : Prop := fnExactFirstSplitUptoRow.holds Tryd.pinned (OpenSpec.upto fnExactFirstSplitSpec)

/-- 'laws.FnExactCountSplits', WHERE WHAT IT READS IS OF BULK AT MOST 1048576: true; the input reads as it did. -/
def fnExactCountSplitsUptoRow : OpenClaim := { program := "ytclnjlnpconjmaadoor", sum := "4f20027303eb92c583973de402a378d75bf195a44cb542b42405afe75aedce0e", func := "loop.example/g01350/laws.FnExactCountSplits", spec := "fnExactCountSplits", inPlace := ["internal/bytealg.IndexByteString", "internal/bytealg.IndexString"], named := ["unicode/utf8.first", "unicode/utf8.acceptRanges", "internal/bytealg.MaxLen"], apart := false, laid := [("unicode/utf8.acceptRanges", laid_unicode_utf8_acceptRanges), ("unicode/utf8.first", laid_unicode_utf8_first)], narrowed := true }
def FnExactCountSplitsUptoSaid : Prop := fnExactCountSplitsUptoRow.holds Tryd.pinned (OpenSpec.upto fnExactCountSplitsSpec)

/-- 'laws.FnExactFewestWords', WHERE WHAT IT READS IS OF BULK AT MOST 1048576: true; the input reads as it did. -/
def fnExactFewestWordsUptoRow : OpenClaim := { program := "ytclnjlnpconjmaadoor", sum := "4f20027303eb92c583973de402a378d75bf195a44cb542b42405afe75aedce0e", func := "loop.example/g01350/laws.FnExactFewestWords", spec := "fnExactFewestWords", inPlace := ["internal/bytealg.IndexByteString", "internal/bytealg.IndexString"], named := ["unicode/utf8.first", "unicode/utf8.acceptRanges", "internal/bytealg.MaxLen"], apart := false, laid := [("unicode/utf8.acceptRanges", laid_unicode_utf8_acceptRanges), ("unicode/utf8.first", laid_unicode_utf8_first)], narrowed := true }
def FnExactFewestWordsUptoSaid : Prop := fnExactFewestWordsUptoRow.holds Tryd.pinned (OpenSpec.upto fnExactFewestWordsSpec)

/-- 'laws.FnExactFirstFewest', WHERE WHAT IT READS IS OF BULK AT MOST 1048576: true; the input reads as it did. -/
def fnExactFirstFewestUptoRow : OpenClaim := { program := "ytclnjlnpconjmaadoor", sum := "4f20027303eb92c583973de402a378d75bf195a44cb542b42405afe75aedce0e", func := "loop.example/g01350/laws.FnExactFirstFewest", spec := "fnExactFirstFewest", inPlace := ["internal/bytealg.IndexByteString", "internal/bytealg.IndexString"], unfollowed := true, recurses := true, named := ["unicode/utf8.first", "unicode/utf8.acceptRanges", "internal/bytealg.MaxLen"], apart := false, laid := [("unicode/utf8.acceptRanges", laid_unicode_utf8_acceptRanges), ("unicode/utf8.first", laid_unicode_utf8_first)], narrowed := true }
def FnExactFirstFewestUptoSaid : Prop := fnExactFirstFewestUptoRow.holds Tryd.pinned (OpenSpec.upto fnExactFirstFewestSpec)

/-- 'laws.FnExactLongestSplit', WHERE WHAT IT READS IS OF BULK AT MOST 1048576: true; the input reads as it did. -/
def fnExactLongestSplitUptoRow : OpenClaim := { program := "ytclnjlnpconjmaadoor", sum := "4f20027303eb92c583973de402a378d75bf195a44cb542b42405afe75aedce0e", func := "loop.example/g01350/laws.FnExactLongestSplit", spec := "fnExactLongestSplit", inPlace := ["internal/bytealg.IndexByteString", "internal/bytealg.IndexString"], named := ["unicode/utf8.first", "unicode/utf8.acceptRanges", "internal/bytealg.MaxLen"], apart := false, laid := [("unicode/utf8.acceptRanges", laid_unicode_utf8_acceptRanges), ("unicode/utf8.first", laid_unicode_utf8_first)], narrowed := true }
def FnExactLongestSplitUptoSaid : Prop := fnExactLongestSplitUptoRow.holds Tryd.pinned (OpenSpec.upto fnExactLongestSplitSpec)

/-- 'laws.FnExactSharedKeys', WHERE WHAT IT READS IS OF BULK AT MOST 1048576: true; the input reads as it did. -/
def fnExactSharedKeysUptoRow : OpenClaim := { program := "ytclnjlnpconjmaadoor", sum := "4f20027303eb92c583973de402a378d75bf195a44cb542b42405afe75aedce0e", func := "loop.example/g01350/laws.FnExactSharedKeys", spec := "fnExactSharedKeys", inPlace := ["internal/bytealg.IndexByteString", "internal/bytealg.IndexString"], unfollowed := true, recurses := true, named := ["unicode/utf8.first", "unicode/utf8.acceptRanges", "internal/bytealg.MaxLen"], apart := false, laid := [("unicode/utf8.acceptRanges", laid_unicode_utf8_acceptRanges), ("unicode/utf8.first", laid_unicode_utf8_first)], narrowed := true }
def FnExactSharedKeysUptoSaid : Prop := fnExactSharedKeysUptoRow.holds Tryd.pinned (OpenSpec.upto fnExactSharedKeysSpec)

/-- 'laws.FnExactMostPresses', WHERE WHAT IT READS IS OF BULK AT MOST 1048576: true; the input reads as it did. -/
def fnExactMostPressesUptoRow : OpenClaim := { program := "ytclnjlnpconjmaadoor", sum := "4f20027303eb92c583973de402a378d75bf195a44cb542b42405afe75aedce0e", func := "loop.example/g01350/laws.FnExactMostPresses", spec := "fnExactMostPresses", inPlace := ["internal/bytealg.IndexByteString", "internal/bytealg.IndexString"], unfollowed := true, recurses := true, named := ["unicode/utf8.first", "unicode/utf8.acceptRanges", "internal/bytealg.MaxLen"], apart := false, laid := [("unicode/utf8.acceptRanges", laid_unicode_utf8_acceptRanges), ("unicode/utf8.first", laid_unicode_utf8_first)], narrowed := true }
def FnExactMostPressesUptoSaid : Prop := fnExactMostPressesUptoRow.holds Tryd.pinned (OpenSpec.upto fnExactMostPressesSpec)

end Rows
end Go.Proofs.YtclnjlnpconjmaaDoor
