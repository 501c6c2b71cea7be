/-
  NARROWER THAN 'FOR EVERY INPUT', by the rows' own cells (each row's printed sentence says how): FnExactIsDialed: laid · FnExactKeyDistance: laid · FnExactMirrorKeys: laid · FnExactTurnKeys: laid · FnExactFarthestNext: laid · FnExactKeysWithin: laid · FnExactOneThumb: laid · FnExactKeysOfMoves: laid · FnExactBestStart: laid · FnExactMovesOf: laid · FnExactLeastOrder: laid · FnExactThumbPlan: laid.
  DERIVED. THE GIVEN ROWS OF THIS SEAT. 12 by the template 'for every input the law returns true; each argument reads behind the call as it read before'; 0 by the template 'total and deterministic' (their statements: YtmnfknbjndonbaaDoorTotals.lean).
  GIVEN WITH THE SEED: the statements are not yours to turn. If you find one false, say at which input.
  Laid BY PROGRAM, IN A SANDBOX (cutbox-rows.mjs): the forced cells as the released guide's own fill.sh prints them over the translation df1669b6ef409d13… (all of the seat's roots in one cut). By AI agents, Wed Nov 11 2026. No macro, syntax, notation, axiom, sorry.
-/
import Derived.Test.YtmnfknbjndonbaaDoorChecked
import GoSem.PinnedTables
import GoSem.Claim
import GoSem.ClaimJoined
import GoSem.ClaimMapViews
import Derived.JoinedTies
import Derived.KernelRfl
namespace Go.Proofs.YtmnfknbjndonbaaDoor
/- THE CELL 'sum', in the pinned program and in every row, IS THE sha256 OF THE DUMP (.gsa) THAT YtmnfknbjndonbaaDoorProg.lean LOADS. Nothing in Lean hashes anything: it is a label: what it is worth is what the hold of that sum in a sandbox is worth. -/
noncomputable def Tryd.pinned : Pinned := { name := "ytmnfknbjndonbaadoor", sum := "df1669b6ef409d134470c3e78a087ded2099d8335c6643e9a5604b57b53cbead", checked := Tryd.checked }
namespace Rows
def none {H : Type} : Left H := { results := [], args := [] }

/- WHAT THE LISTED PACKAGE-LEVEL VARIABLES READ AS WHEN THE CALL BEGINS. Each datum BY PROGRAM (the guide's laid-datum.mjs) off the statement by which the dump's own 'gosem.cut.vars' lays the variable. In a bare row this is a premise. The card (YtmnfknbjndonbaaDoorCards.lean) ties it to the program's text. -/
def laid_unicode_utf8_acceptRanges {H : Type} : DataW H := .agg [.agg [.lit (.int .u8 128), .lit (.int .u8 191)], .agg [.lit (.int .u8 160), .lit (.int .u8 191)], .agg [.lit (.int .u8 128), .lit (.int .u8 159)], .agg [.lit (.int .u8 144), .lit (.int .u8 191)], .agg [.lit (.int .u8 128), .lit (.int .u8 143)], .agg [.lit (.int .u8 0), .lit (.int .u8 0)], .agg [.lit (.int .u8 0), .lit (.int .u8 0)], .agg [.lit (.int .u8 0), .lit (.int .u8 0)], .agg [.lit (.int .u8 0), .lit (.int .u8 0)], .agg [.lit (.int .u8 0), .lit (.int .u8 0)], .agg [.lit (.int .u8 0), .lit (.int .u8 0)], .agg [.lit (.int .u8 0), .lit (.int .u8 0)], .agg [.lit (.int .u8 0), .lit (.int .u8 0)], .agg [.lit (.int .u8 0), .lit (.int .u8 0)], .agg [.lit (.int .u8 0), .lit (.int .u8 0)], .agg [.lit (.int .u8 0), .lit (.int .u8 0)]]
/-- One of Go's own tables, pinned by name: the form's constant. -/
def laid_unicode_utf8_first : DataW Unit := Go.Pinned.utf8First

/-- 'laws.FnExactIsDialed': WHATEVER THE INPUT: true; the input reads as it did. -/
def fnExactIsDialedSpec : ChangeSpec := { name := "fnExactIsDialed", fn := fun _ => fun
  | [d] => { results := [.lit (.bool true)], args := [d] }
  | _ => none }
def fnExactIsDialedRow : OpenClaim := { program := "ytmnfknbjndonbaadoor", sum := "df1669b6ef409d134470c3e78a087ded2099d8335c6643e9a5604b57b53cbead", func := "loop.example/g01350/laws.FnExactIsDialed", spec := "fnExactIsDialed", inPlace := ["internal/bytealg.IndexByteString", "internal/bytealg.IndexString"], named := ["unicode/utf8.first", "unicode/utf8.acceptRanges", "internal/bytealg.MaxLen"], apart := false, laid := [("unicode/utf8.acceptRanges", laid_unicode_utf8_acceptRanges), ("unicode/utf8.first", laid_unicode_utf8_first)] }
def FnExactIsDialedSaid : Prop := fnExactIsDialedRow.holds Tryd.pinned (OpenSpec.ofChange fnExactIsDialedSpec)

/-- ITS FALSE NEIGHBOUR: 'it returns false'. Refute it at one input. -/
def fnExactIsDialedWrong : ChangeSpec := { name := "fnExactIsDialed", fn := fun _ => fun
  | [d] => { results := [.lit (.bool false)], args := [d] }
  | _ => none }
def FnExactIsDialedWrongFalsely : Prop := fnExactIsDialedRow.holds Tryd.pinned (OpenSpec.ofChange fnExactIsDialedWrong)

/-- 'laws.FnExactKeyDistance': WHATEVER THE INPUT: true; the input reads as it did. -/
def fnExactKeyDistanceSpec : ChangeSpec := { name := "fnExactKeyDistance", fn := fun _ => fun
  | [d1, d2, d3] => { results := [.lit (.bool true)], args := [d1, d2, d3] }
  | _ => none }
def fnExactKeyDistanceRow : OpenClaim := { program := "ytmnfknbjndonbaadoor", sum := "df1669b6ef409d134470c3e78a087ded2099d8335c6643e9a5604b57b53cbead", func := "loop.example/g01350/laws.FnExactKeyDistance", spec := "fnExactKeyDistance", inPlace := ["internal/bytealg.IndexByteString", "internal/bytealg.IndexString"], named := ["unicode/utf8.first", "unicode/utf8.acceptRanges", "internal/bytealg.MaxLen"], apart := false, laid := [("unicode/utf8.acceptRanges", laid_unicode_utf8_acceptRanges), ("unicode/utf8.first", laid_unicode_utf8_first)] }
def FnExactKeyDistanceSaid : Prop := fnExactKeyDistanceRow.holds Tryd.pinned (OpenSpec.ofChange fnExactKeyDistanceSpec)

/-- ITS FALSE NEIGHBOUR: 'it returns false'. Refute it at one input. -/
def fnExactKeyDistanceWrong : ChangeSpec := { name := "fnExactKeyDistance", fn := fun _ => fun
  | [d1, d2, d3] => { results := [.lit (.bool false)], args := [d1, d2, d3] }
  | _ => none }
def FnExactKeyDistanceWrongFalsely : Prop := fnExactKeyDistanceRow.holds Tryd.pinned (OpenSpec.ofChange fnExactKeyDistanceWrong)

/-- 'laws.FnExactMirrorKeys': WHATEVER THE INPUT: true; the input reads as it did. -/
def fnExactMirrorKeysSpec : ChangeSpec := { name := "fnExactMirrorKeys", fn := fun _ => fun
  | [d] => { results := [.lit (.bool true)], args := [d] }
  | _ => none }
def fnExactMirrorKeysRow : OpenClaim := { program := "ytmnfknbjndonbaadoor", sum := "df1669b6ef409d134470c3e78a087ded2099d8335c6643e9a5604b57b53cbead", func := "loop.example/g01350/laws.FnExactMirrorKeys", spec := "fnExactMirrorKeys", inPlace := ["internal/bytealg.IndexByteString", "internal/bytealg.IndexString"], unfollowed := true, recurses := true, named := ["unicode/utf8.first", "unicode/utf8.acceptRanges", "internal/bytealg.MaxLen"], apart := false, laid := [("unicode/utf8.acceptRanges", laid_unicode_utf8_acceptRanges), ("unicode/utf8.first", laid_unicode_utf8_first)] }
def FnExactMirrorKeysSaid : Prop := fnExactMirrorKeysRow.holds Tryd.pinned (OpenSpec.ofChange fnExactMirrorKeysSpec)

/-- ITS FALSE NEIGHBOUR: 'it returns false'. Refute it at one input. -/
def fnExactMirrorKeysWrong : ChangeSpec := { name := "fnExactMirrorKeys", fn := fun _ => fun
  | [d] => { results := [.lit (.bool false)], args := [d] }
  | _ => none }
def FnExactMirrorKeysWrongFalsely : Prop := fnExactMirrorKeysRow.holds Tryd.pinned (OpenSpec.ofChange fnExactMirrorKeysWrong)

/-- 'laws.FnExactTurnKeys': WHATEVER THE INPUT: true; the input reads as it did. -/
def fnExactTurnKeysSpec : ChangeSpec := { name := "fnExactTurnKeys", fn := fun _ => fun
  | [d] => { results := [.lit (.bool true)], args := [d] }
  | _ => none }
def fnExactTurnKeysRow : OpenClaim := { program := "ytmnfknbjndonbaadoor", sum := "df1669b6ef409d134470c3e78a087ded2099d8335c6643e9a5604b57b53cbead", func := "loop.example/g01350/laws.FnExactTurnKeys", spec := "fnExactTurnKeys", inPlace := ["internal/bytealg.IndexByteString", "internal/bytealg.IndexString"], unfollowed := true, recurses := true, named := ["unicode/utf8.first", "unicode/utf8.acceptRanges", "internal/bytealg.MaxLen"], apart := false, laid := [("unicode/utf8.acceptRanges", laid_unicode_utf8_acceptRanges), ("unicode/utf8.first", laid_unicode_utf8_first)] }
def FnExactTurnKeysSaid : Prop := fnExactTurnKeysRow.holds Tryd.pinned (OpenSpec.ofChange fnExactTurnKeysSpec)

/-- ITS FALSE NEIGHBOUR: 'it returns false'. Refute it at one input. -/
def fnExactTurnKeysWrong : ChangeSpec := { name := "fnExactTurnKeys", fn := fun _ => fun
  | [d] => { results := [.lit (.bool false)], args := [d] }
  | _ => none }
def FnExactTurnKeysWrongFalsely : Prop := fnExactTurnKeysRow.holds Tryd.pinned (OpenSpec.ofChange fnExactTurnKeysWrong)

/-- 'laws.FnExactFarthestNext': WHATEVER THE INPUT: true; the input reads as it did. -/
def fnExactFarthestNextSpec : ChangeSpec := { name := "fnExactFarthestNext", fn := fun _ => fun
  | [d1, d2] => { results := [.lit (.bool true)], args := [d1, d2] }
  | _ => none }
def fnExactFarthestNextRow : OpenClaim := { program := "ytmnfknbjndonbaadoor", sum := "df1669b6ef409d134470c3e78a087ded2099d8335c6643e9a5604b57b53cbead", func := "loop.example/g01350/laws.FnExactFarthestNext", spec := "fnExactFarthestNext", inPlace := ["internal/bytealg.IndexByteString", "internal/bytealg.IndexString"], named := ["unicode/utf8.first", "unicode/utf8.acceptRanges", "internal/bytealg.MaxLen"], apart := false, laid := [("unicode/utf8.acceptRanges", laid_unicode_utf8_acceptRanges), ("unicode/utf8.first", laid_unicode_utf8_first)] }
def FnExactFarthestNextSaid : Prop := fnExactFarthestNextRow.holds Tryd.pinned (OpenSpec.ofChange fnExactFarthestNextSpec)

/-- ITS FALSE NEIGHBOUR: 'it returns false'. Refute it at one input. -/
def fnExactFarthestNextWrong : ChangeSpec := { name := "fnExactFarthestNext", fn := fun _ => fun
  | [d1, d2] => { results := [.lit (.bool false)], args := [d1, d2] }
  | _ => none }
def FnExactFarthestNextWrongFalsely : Prop := fnExactFarthestNextRow.holds Tryd.pinned (OpenSpec.ofChange fnExactFarthestNextWrong)

/-- 'laws.FnExactKeysWithin': WHATEVER THE INPUT: true; the input reads as it did. -/
def fnExactKeysWithinSpec : ChangeSpec := { name := "fnExactKeysWithin", fn := fun _ => fun
  | [d1, d2, d3] => { results := [.lit (.bool true)], args := [d1, d2, d3] }
  | _ => none }
def fnExactKeysWithinRow : OpenClaim := { program := "ytmnfknbjndonbaadoor", sum := "df1669b6ef409d134470c3e78a087ded2099d8335c6643e9a5604b57b53cbead", func := "loop.example/g01350/laws.FnExactKeysWithin", spec := "fnExactKeysWithin", inPlace := ["internal/bytealg.IndexByteString", "internal/bytealg.IndexString"], named := ["unicode/utf8.first", "unicode/utf8.acceptRanges", "internal/bytealg.MaxLen"], apart := false, laid := [("unicode/utf8.acceptRanges", laid_unicode_utf8_acceptRanges), ("unicode/utf8.first", laid_unicode_utf8_first)] }
def FnExactKeysWithinSaid : Prop := fnExactKeysWithinRow.holds Tryd.pinned (OpenSpec.ofChange fnExactKeysWithinSpec)

/-- ITS FALSE NEIGHBOUR: 'it returns false'. Refute it at one input. -/
def fnExactKeysWithinWrong : ChangeSpec := { name := "fnExactKeysWithin", fn := fun _ => fun
  | [d1, d2, d3] => { results := [.lit (.bool false)], args := [d1, d2, d3] }
  | _ => none }
def FnExactKeysWithinWrongFalsely : Prop := fnExactKeysWithinRow.holds Tryd.pinned (OpenSpec.ofChange fnExactKeysWithinWrong)

/-- 'laws.FnExactOneThumb': WHATEVER THE INPUT: true; the input reads as it did. -/
def fnExactOneThumbSpec : ChangeSpec := { name := "fnExactOneThumb", fn := fun _ => fun
  | [d1, d2, d3] => { results := [.lit (.bool true)], args := [d1, d2, d3] }
  | _ => none }
def fnExactOneThumbRow : OpenClaim := { program := "ytmnfknbjndonbaadoor", sum := "df1669b6ef409d134470c3e78a087ded2099d8335c6643e9a5604b57b53cbead", func := "loop.example/g01350/laws.FnExactOneThumb", spec := "fnExactOneThumb", inPlace := ["internal/bytealg.IndexByteString", "internal/bytealg.IndexString"], named := ["unicode/utf8.first", "unicode/utf8.acceptRanges", "internal/bytealg.MaxLen"], apart := false, laid := [("unicode/utf8.acceptRanges", laid_unicode_utf8_acceptRanges), ("unicode/utf8.first", laid_unicode_utf8_first)] }
def FnExactOneThumbSaid : Prop := fnExactOneThumbRow.holds Tryd.pinned (OpenSpec.ofChange fnExactOneThumbSpec)

/-- ITS FALSE NEIGHBOUR: 'it returns false'. Refute it at one input. -/
def fnExactOneThumbWrong : ChangeSpec := { name := "fnExactOneThumb", fn := fun _ => fun
  | [d1, d2, d3] => { results := [.lit (.bool false)], args := [d1, d2, d3] }
  | _ => none }
def FnExactOneThumbWrongFalsely : Prop := fnExactOneThumbRow.holds Tryd.pinned (OpenSpec.ofChange fnExactOneThumbWrong)

/-- 'laws.FnExactKeysOfMoves': WHATEVER THE INPUT: true; the input reads as it did. -/
def fnExactKeysOfMovesSpec : ChangeSpec := { name := "fnExactKeysOfMoves", fn := fun _ => fun
  | [d1, d2] => { results := [.lit (.bool true)], args := [d1, d2] }
  | _ => none }
def fnExactKeysOfMovesRow : OpenClaim := { program := "ytmnfknbjndonbaadoor", sum := "df1669b6ef409d134470c3e78a087ded2099d8335c6643e9a5604b57b53cbead", func := "loop.example/g01350/laws.FnExactKeysOfMoves", spec := "fnExactKeysOfMoves", inPlace := ["internal/bytealg.IndexByteString", "internal/bytealg.IndexString"], named := ["unicode/utf8.first", "unicode/utf8.acceptRanges", "internal/bytealg.MaxLen"], apart := false, laid := [("unicode/utf8.acceptRanges", laid_unicode_utf8_acceptRanges), ("unicode/utf8.first", laid_unicode_utf8_first)] }
def FnExactKeysOfMovesSaid : Prop := fnExactKeysOfMovesRow.holds Tryd.pinned (OpenSpec.ofChange fnExactKeysOfMovesSpec)

/-- ITS FALSE NEIGHBOUR: 'it returns false'. Refute it at one input. -/
def fnExactKeysOfMovesWrong : ChangeSpec := { name := "fnExactKeysOfMoves", fn := fun _ => fun
  | [d1, d2] => { results := [.lit (.bool false)], args := [d1, d2] }
  | _ => none }
def FnExactKeysOfMovesWrongFalsely : Prop := fnExactKeysOfMovesRow.holds Tryd.pinned (OpenSpec.ofChange fnExactKeysOfMovesWrong)

/-- 'laws.FnExactBestStart': WHATEVER THE INPUT: true; the input reads as it did. -/
def fnExactBestStartSpec : ChangeSpec := { name := "fnExactBestStart", fn := fun _ => fun
  | [d1, d2] => { results := [.lit (.bool true)], args := [d1, d2] }
  | _ => none }
def fnExactBestStartRow : OpenClaim := { program := "ytmnfknbjndonbaadoor", sum := "df1669b6ef409d134470c3e78a087ded2099d8335c6643e9a5604b57b53cbead", func := "loop.example/g01350/laws.FnExactBestStart", spec := "fnExactBestStart", inPlace := ["internal/bytealg.IndexByteString", "internal/bytealg.IndexString"], named := ["unicode/utf8.first", "unicode/utf8.acceptRanges", "internal/bytealg.MaxLen"], apart := false, laid := [("unicode/utf8.acceptRanges", laid_unicode_utf8_acceptRanges), ("unicode/utf8.first", laid_unicode_utf8_first)] }
def FnExactBestStartSaid : Prop := fnExactBestStartRow.holds Tryd.pinned (OpenSpec.ofChange fnExactBestStartSpec)

/-- ITS FALSE NEIGHBOUR: 'it returns false'. Refute it at one input. -/
def fnExactBestStartWrong : ChangeSpec := { name := "fnExactBestStart", fn := fun _ => fun
  | [d1, d2] => { results := [.lit (.bool false)], args := [d1, d2] }
  | _ => none }
def FnExactBestStartWrongFalsely : Prop := fnExactBestStartRow.holds Tryd.pinned (OpenSpec.ofChange fnExactBestStartWrong)

/-- 'laws.FnExactMovesOf': WHATEVER THE INPUT: true; the input reads as it did. -/
def fnExactMovesOfSpec : ChangeSpec := { name := "fnExactMovesOf", fn := fun _ => fun
  | [d1, d2] => { results := [.lit (.bool true)], args := [d1, d2] }
  | _ => none }
def fnExactMovesOfRow : OpenClaim := { program := "ytmnfknbjndonbaadoor", sum := "df1669b6ef409d134470c3e78a087ded2099d8335c6643e9a5604b57b53cbead", func := "loop.example/g01350/laws.FnExactMovesOf", spec := "fnExactMovesOf", inPlace := ["internal/bytealg.IndexByteString", "internal/bytealg.IndexString", "internal/abi.NoEscape", "internal/bytealg.MakeNoZero"], named := ["unicode/utf8.first", "unicode/utf8.acceptRanges", "internal/bytealg.MaxLen"], apart := false, laid := [("unicode/utf8.acceptRanges", laid_unicode_utf8_acceptRanges), ("unicode/utf8.first", laid_unicode_utf8_first)] }
def FnExactMovesOfSaid : Prop := fnExactMovesOfRow.holds Tryd.pinned (OpenSpec.ofChange fnExactMovesOfSpec)

/-- ITS FALSE NEIGHBOUR: 'it returns false'. Refute it at one input. -/
def fnExactMovesOfWrong : ChangeSpec := { name := "fnExactMovesOf", fn := fun _ => fun
  | [d1, d2] => { results := [.lit (.bool false)], args := [d1, d2] }
  | _ => none }
def FnExactMovesOfWrongFalsely : Prop := fnExactMovesOfRow.holds Tryd.pinned (OpenSpec.ofChange fnExactMovesOfWrong)

/-- 'laws.FnExactLeastOrder': WHATEVER THE INPUT: true; the input reads as it did. -/
def fnExactLeastOrderSpec : ChangeSpec := { name := "fnExactLeastOrder", fn := fun _ => fun
  | [d1, d2, d3] => { results := [.lit (.bool true)], args := [d1, d2, d3] }
  | _ => none }
def fnExactLeastOrderRow : OpenClaim := { program := "ytmnfknbjndonbaadoor", sum := "df1669b6ef409d134470c3e78a087ded2099d8335c6643e9a5604b57b53cbead", func := "loop.example/g01350/laws.FnExactLeastOrder", spec := "fnExactLeastOrder", inPlace := ["internal/bytealg.IndexByteString", "internal/bytealg.IndexString"], unfollowed := true, recurses := true, named := ["unicode/utf8.first", "unicode/utf8.acceptRanges", "internal/bytealg.MaxLen"], apart := false, laid := [("unicode/utf8.acceptRanges", laid_unicode_utf8_acceptRanges), ("unicode/utf8.first", laid_unicode_utf8_first)] }
def FnExactLeastOrderSaid : Prop := fnExactLeastOrderRow.holds Tryd.pinned (OpenSpec.ofChange fnExactLeastOrderSpec)

/-- ITS FALSE NEIGHBOUR: 'it returns false'. Refute it at one input. -/
def fnExactLeastOrderWrong : ChangeSpec := { name := "fnExactLeastOrder", fn := fun _ => fun
  | [d1, d2, d3] => { results := [.lit (.bool false)], args := [d1, d2, d3] }
  | _ => none }
def FnExactLeastOrderWrongFalsely : Prop := fnExactLeastOrderRow.holds Tryd.pinned (OpenSpec.ofChange fnExactLeastOrderWrong)

/-- 'laws.FnExactThumbPlan': WHATEVER THE INPUT: true; the input reads as it did. -/
def fnExactThumbPlanSpec : ChangeSpec := { name := "fnExactThumbPlan", fn := fun _ => fun
  | [d1, d2, d3, d4, d5] => { results := [.lit (.bool true)], args := [d1, d2, d3, d4, d5] }
  | _ => none }
def fnExactThumbPlanRow : OpenClaim := { program := "ytmnfknbjndonbaadoor", sum := "df1669b6ef409d134470c3e78a087ded2099d8335c6643e9a5604b57b53cbead", func := "loop.example/g01350/laws.FnExactThumbPlan", spec := "fnExactThumbPlan", inPlace := ["internal/bytealg.IndexByteString", "internal/bytealg.IndexString"], unfollowed := true, recurses := true, named := ["unicode/utf8.first", "unicode/utf8.acceptRanges", "internal/bytealg.MaxLen"], apart := false, laid := [("unicode/utf8.acceptRanges", laid_unicode_utf8_acceptRanges), ("unicode/utf8.first", laid_unicode_utf8_first)] }
def FnExactThumbPlanSaid : Prop := fnExactThumbPlanRow.holds Tryd.pinned (OpenSpec.ofChange fnExactThumbPlanSpec)

/-- ITS FALSE NEIGHBOUR: 'it returns false'. Refute it at one input. -/
def fnExactThumbPlanWrong : ChangeSpec := { name := "fnExactThumbPlan", fn := fun _ => fun
  | [d1, d2, d3, d4, d5] => { results := [.lit (.bool false)], args := [d1, d2, d3, d4, d5] }
  | _ => none }
def FnExactThumbPlanWrongFalsely : Prop := fnExactThumbPlanRow.holds Tryd.pinned (OpenSpec.ofChange fnExactThumbPlanWrong)

/- THE SECOND FORM. 'bulk': how many values and letters a reading holds, each counted each time it is reached (what is shared counts as often as it is met; a slice's spare places count too). A statement '..UptoSaid' is the law's where the arguments, and the package variables that the reading takes, are together of bulk at most 1048576: NARROWER than '..Said'. Prove '..Said' where nothing that the law and all that it calls make is longer than what came in: it says more and counts as full. Else prove '..UptoSaid'. A law counts once. -/
mutual
def uptoBulk {H : Type} : DataW H → Nat
  | .lit (.string bytes) => bytes.length + 1
  | .lit _ => 1
  | .nil => 1
  | .ptr d => uptoBulk d + 1
  | .slice elems spare => uptoBulkAll elems + uptoBulkAll spare + 1
  | .agg parts => uptoBulkAll parts + 1
  | .iface _ d => uptoBulk d + 1
  | .map entries => uptoBulkEntries entries + 1
  | .held _ => 1
def uptoBulkAll {H : Type} : List (DataW H) → Nat
  | [] => 0
  | d :: r => uptoBulk d + uptoBulkAll r
def uptoBulkEntries {H : Type} : List (Lit × DataW H) → Nat
  | [] => 0
  | x :: r => uptoBulkEntry x + uptoBulkEntries r
def uptoBulkEntry {H : Type} : Lit × DataW H → Nat
  | (.string bytes, d) => bytes.length + uptoBulk d + 1
  | (_, d) => uptoBulk d + 1
 end
def uptoSmall : (H : Type) → List (DataW H) → Bool := fun _ ds => decide (uptoBulkAll ds ≤ 1048576)
def OpenSpec.upto (s : _root_.Go.ChangeSpec) : _root_.Go.OpenSpec := { _root_.Go.OpenSpec.ofChange s with cond := some uptoSmall }

/-- 'laws.FnExactIsDialed', WHERE WHAT IT READS IS OF BULK AT MOST 1048576: true; the input reads as it did. -/
def fnExactIsDialedUptoRow : OpenClaim := { program := "ytmnfknbjndonbaadoor", sum := "df1669b6ef409d134470c3e78a087ded2099d8335c6643e9a5604b57b53cbead", func := "loop.example/g01350/laws.FnExactIsDialed", spec := "fnExactIsDialed", inPlace := ["internal/bytealg.IndexByteString", "internal/bytealg.IndexString"], named := ["unicode/utf8.first", "unicode/utf8.acceptRanges", "internal/bytealg.MaxLen"], apart := false, laid := [("unicode/utf8.acceptRanges", laid_unicode_utf8_acceptRanges), ("unicode/utf8.first", laid_unicode_utf8_first)], narrowed := true }
def FnExactIsDialedUptoSaid : Prop := fnExactIsDialedUptoRow.holds Tryd.pinned (OpenSpec.upto fnExactIsDialedSpec)

/-- 'laws.FnExactKeyDistance', WHERE WHAT IT READS IS OF BULK AT MOST 1048576: true; the input reads as it did. -/
def fnExactKeyDistanceUptoRow : OpenClaim := { program := "ytmnfknbjndonbaadoor", sum := "df1669b6ef409d134470c3e78a087ded2099d8335c6643e9a5604b57b53cbead", func := "loop.example/g01350/laws.FnExactKeyDistance", spec := "fnExactKeyDistance", inPlace := ["internal/bytealg.IndexByteString", "internal/bytealg.IndexString"], named := ["unicode/utf8.first", "unicode/utf8.acceptRanges", "internal/bytealg.MaxLen"], apart := false, laid := [("unicode/utf8.acceptRanges", laid_unicode_utf8_acceptRanges), ("unicode/utf8.first", laid_unicode_utf8_first)], narrowed := true }
def FnExactKeyDistanceUptoSaid : Prop := fnExactKeyDistanceUptoRow.holds Tryd.pinned (OpenSpec.upto fnExactKeyDistanceSpec)

/-- 'laws.FnExactMirrorKeys', WHERE WHAT IT READS IS OF BULK AT MOST 1048576: true; the input reads as it did. -/
def fnExactMirrorKeysUptoRow : OpenClaim := { program := "ytmnfknbjndonbaadoor", sum := "df1669b6ef409d134470c3e78a087ded2099d8335c6643e9a5604b57b53cbead", func := "loop.example/g01350/laws.FnExactMirrorKeys", spec := "fnExactMirrorKeys", inPlace := ["internal/bytealg.IndexByteString", "internal/bytealg.IndexString"], unfollowed := true, recurses := true, named := ["unicode/utf8.first", "unicode/utf8.acceptRanges", "internal/bytealg.MaxLen"], apart := false, laid := [("unicode/utf8.acceptRanges", laid_unicode_utf8_acceptRanges), ("unicode/utf8.first", laid_unicode_utf8_first)], narrowed := true }
def FnExactMirrorKeysUptoSaid : Prop := fnExactMirrorKeysUptoRow.holds Tryd.pinned (OpenSpec.upto fnExactMirrorKeysSpec)

/-- 'laws.FnExactTurnKeys', WHERE WHAT IT READS IS OF BULK AT MOST 1048576: true; the input reads as it did. -/
def fnExactTurnKeysUptoRow : OpenClaim := { program := "ytmnfknbjndonbaadoor", sum := "df1669b6ef409d134470c3e78a087ded2099d8335c6643e9a5604b57b53cbead", func := "loop.example/g01350/laws.FnExactTurnKeys", spec := "fnExactTurnKeys", inPlace := ["internal/bytealg.IndexByteString", "internal/bytealg.IndexString"], unfollowed := true, recurses := true, named := ["unicode/utf8.first", "unicode/utf8.acceptRanges", "internal/bytealg.MaxLen"], apart := false, laid := [("unicode/utf8.acceptRanges", laid_unicode_utf8_acceptRanges), ("unicode/utf8.first", laid_unicode_utf8_first)], narrowed := true }
def FnExactTurnKeysUptoSaid : Prop := fnExactTurnKeysUptoRow.holds Tryd.pinned (OpenSpec.upto fnExactTurnKeysSpec)

/-- 'laws.FnExactFarthestNext', WHERE WHAT IT READS IS OF BULK AT MOST 1048576: true; the input reads as it did. -/
def fnExactFarthestNextUptoRow : OpenClaim := { program := "ytmnfknbjndonbaadoor", sum := "df1669b6ef409d134470c3e78a087ded2099d8335c6643e9a5604b57b53cbead", func := "loop.example/g01350/laws.FnExactFarthestNext", spec := "fnExactFarthestNext", inPlace := ["internal/bytealg.IndexByteString", "internal/bytealg.IndexString"], named := ["unicode/utf8.first", "unicode/utf8.acceptRanges", "internal/bytealg.MaxLen"], apart := false, laid := [("unicode/utf8.acceptRanges", laid_unicode_utf8_acceptRanges), ("unicode/utf8.first", laid_unicode_utf8_first)], narrowed := true }
def FnExactFarthestNextUptoSaid : Prop := fnExactFarthestNextUptoRow.holds Tryd.pinned (OpenSpec.upto fnExactFarthestNextSpec)

/-- 'laws.FnExactKeysWithin', WHERE WHAT IT READS IS OF BULK AT MOST 1048576: true; the input reads as it did. -/
def fnExactKeysWithinUptoRow : OpenClaim := { program := "ytmnfknbjndonbaadoor", sum := "df1669b6ef409d134470c3e78a087ded2099d8335c6643e9a5604b57b53cbead", func := "loop.example/g01350/laws.FnExactKeysWithin", spec := "fnExactKeysWithin", inPlace := ["internal/bytealg.IndexByteString", "internal/bytealg.IndexString"], named := ["unicode/utf8.first", "unicode/utf8.acceptRanges", "internal/bytealg.MaxLen"], apart := false, laid := [("unicode/utf8.acceptRanges", laid_unicode_utf8_acceptRanges), ("unicode/utf8.first", laid_unicode_utf8_first)], narrowed := true }
def FnExactKeysWithinUptoSaid : Prop := fnExactKeysWithinUptoRow.holds Tryd.pinned (OpenSpec.upto fnExactKeysWithinSpec)

/-- 'laws.FnExactOneThumb', WHERE WHAT IT READS IS OF BULK AT MOST 1048576: true; the input reads as it did. -/
def fnExactOneThumbUptoRow : OpenClaim := { program := "ytmnfknbjndonbaadoor", sum := "df1669b6ef409d134470c3e78a087ded2099d8335c6643e9a5604b57b53cbead", func := "loop.example/g01350/laws.FnExactOneThumb", spec := "fnExactOneThumb", inPlace := ["internal/bytealg.IndexByteString", "internal/bytealg.IndexString"], named := ["unicode/utf8.first", "unicode/utf8.acceptRanges", "internal/bytealg.MaxLen"], apart := false, laid := [("unicode/utf8.acceptRanges", laid_unicode_utf8_acceptRanges), ("unicode/utf8.first", laid_unicode_utf8_first)], narrowed := true }
def FnExactOneThumbUptoSaid : Prop := fnExactOneThumbUptoRow.holds Tryd.pinned (OpenSpec.upto fnExactOneThumbSpec)

/-- 'laws.FnExactKeysOfMoves', WHERE WHAT IT READS IS OF BULK AT MOST 1048576: true; the input reads as it did. -/
def fnExactKeysOfMovesUptoRow : OpenClaim := { program := "ytmnfknbjndonbaadoor", sum := "df1669b6ef409d134470c3e78a087ded2099d8335c6643e9a5604b57b53cbead", func := "loop.example/g01350/laws.FnExactKeysOfMoves", spec := "fnExactKeysOfMoves", inPlace := ["internal/bytealg.IndexByteString", "internal/bytealg.IndexString"], named := ["unicode/utf8.first", "unicode/utf8.acceptRanges", "internal/bytealg.MaxLen"], apart := false, laid := [("unicode/utf8.acceptRanges", laid_unicode_utf8_acceptRanges), ("unicode/utf8.first", laid_unicode_utf8_first)], narrowed := true }
def FnExactKeysOfMovesUptoSaid : Prop := fnExactKeysOfMovesUptoRow.holds Tryd.pinned (OpenSpec.upto fnExactKeysOfMovesSpec)

/-- 'laws.FnExactBestStart', WHERE WHAT IT READS IS OF BULK AT MOST 1048576: true; the input reads as it did. -/
def fnExactBestStartUptoRow : OpenClaim := { program := "ytmnfknbjndonbaadoor", sum := "df1669b6ef409d134470c3e78a087ded2099d8335c6643e9a5604b57b53cbead", func := "loop.example/g01350/laws.FnExactBestStart", spec := "fnExactBestStart", inPlace := ["internal/bytealg.IndexByteString", "internal/bytealg.IndexString"], named := ["unicode/utf8.first", "unicode/utf8.acceptRanges", "internal/bytealg.MaxLen"], apart := false, laid := [("unicode/utf8.acceptRanges", laid_unicode_utf8_acceptRanges), ("unicode/utf8.first", laid_unicode_utf8_first)], narrowed := true }
def FnExactBestStartUptoSaid : Prop := fnExactBestStartUptoRow.holds Tryd.pinned (OpenSpec.upto fnExactBestStartSpec)

/-- 'laws.FnExactMovesOf', WHERE WHAT IT READS IS OF BULK AT MOST 1048576: true; the input reads as it did. -/
def fnExactMovesOfUptoRow : OpenClaim := { program := "ytmnfknbjndonbaadoor", sum := "df1669b6ef409d134470c3e78a087ded2099d8335c6643e9a5604b57b53cbead", func := "loop.example/g01350/laws.FnExactMovesOf", spec := "fnExactMovesOf", inPlace := ["internal/bytealg.IndexByteString", "internal/bytealg.IndexString", "internal/abi.NoEscape", "internal/bytealg.MakeNoZero"], named := ["unicode/utf8.first", "unicode/utf8.acceptRanges", "internal/bytealg.MaxLen"], apart := false, laid := [("unicode/utf8.acceptRanges", laid_unicode_utf8_acceptRanges), ("unicode/utf8.first", laid_unicode_utf8_first)], narrowed := true }
def FnExactMovesOfUptoSaid : Prop := fnExactMovesOfUptoRow.holds Tryd.pinned (OpenSpec.upto fnExactMovesOfSpec)

/-- 'laws.FnExactLeastOrder', WHERE WHAT IT READS IS OF BULK AT MOST 1048576: true; the input reads as it did. -/
def fnExactLeastOrderUptoRow : OpenClaim := { program := "ytmnfknbjndonbaadoor", sum := "df1669b6ef409d134470c3e78a087ded2099d8335c6643e9a5604b57b53cbead", func := "loop.example/g01350/laws.FnExactLeastOrder", spec := "fnExactLeastOrder", inPlace := ["internal/bytealg.IndexByteString", "internal/bytealg.IndexString"], unfollowed := true, recurses := true, named := ["unicode/utf8.first", "unicode/utf8.acceptRanges", "internal/bytealg.MaxLen"], apart := false, laid := [("unicode/utf8.acceptRanges", laid_unicode_utf8_acceptRanges), ("unicode/utf8.first", laid_unicode_utf8_first)], narrowed := true }
def FnExactLeastOrderUptoSaid : Prop := fnExactLeastOrderUptoRow.holds Tryd.pinned (OpenSpec.upto fnExactLeastOrderSpec)

/-- 'laws.FnExactThumbPlan', WHERE WHAT IT READS IS OF BULK AT MOST 1048576: true; the input reads as it did. -/
def fnExactThumbPlanUptoRow : OpenClaim := { program := "ytmnfknbjndonbaadoor", sum := "df1669b6ef409d134470c3e78a087ded2099d8335c6643e9a5604b57b53cbead", func := "loop.example/g01350/laws.FnExactThumbPlan", spec := "fnExactThumbPlan", inPlace := ["internal/bytealg.IndexByteString", "internal/bytealg.IndexString"], unfollowed := true, recurses := true, named := ["unicode/utf8.first", "unicode/utf8.acceptRanges", "internal/bytealg.MaxLen"], apart := false, laid := [("unicode/utf8.acceptRanges", laid_unicode_utf8_acceptRanges), ("unicode/utf8.first", laid_unicode_utf8_first)], narrowed := true }
def FnExactThumbPlanUptoSaid : Prop := fnExactThumbPlanUptoRow.holds Tryd.pinned (OpenSpec.upto fnExactThumbPlanSpec)

end Rows
end Go.Proofs.YtmnfknbjndonbaaDoor
