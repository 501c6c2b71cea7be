/-
  NARROWER THAN 'FOR EVERY INPUT', by the rows' own cells (each row's printed sentence says how): FnExactTwoThumbs: laid · FnExactCountThumbs: laid · FnExactBestStarts: laid · FnExactFirstThumbs: laid.
  DERIVED. THE GIVEN ROWS OF THIS SEAT. 4 by the template 'for every input the law returns true; each argument reads behind the call as it read before'; 0 by the template 'total and deterministic' (their statements: YthnjmokaiiajmaaDoorTotals.lean).
  GIVEN WITH THE SEED: the statements are not yours to turn. If you find one false, say at which input.
  Laid BY PROGRAM, IN A SANDBOX (cutbox-rows.mjs): the forced cells as the released guide's own fill.sh prints them over the translation 9ed07da7e96017f3… (all of the seat's roots in one cut). By AI agents, Wed Nov 11 2026. No macro, syntax, notation, axiom, sorry.
-/
import Derived.Test.YthnjmokaiiajmaaDoorChecked
import GoSem.PinnedTables
import GoSem.Claim
import GoSem.ClaimJoined
import GoSem.ClaimMapViews
import Derived.JoinedTies
import Derived.KernelRfl
namespace Go.Proofs.YthnjmokaiiajmaaDoor
/- THE CELL 'sum', in the pinned program and in every row, IS THE sha256 OF THE DUMP (.gsa) THAT YthnjmokaiiajmaaDoorProg.lean LOADS. Nothing in Lean hashes anything: it is a label: what it is worth is what the hold of that sum in a sandbox is worth. -/
noncomputable def Tryd.pinned : Pinned := { name := "ythnjmokaiiajmaadoor", sum := "9ed07da7e96017f38e0aed425ed89fba57aec73f284ab1374ef85e66d0351a0f", checked := Tryd.checked }
namespace Rows
def none {H : Type} : Left H := { results := [], args := [] }

/- WHAT THE LISTED PACKAGE-LEVEL VARIABLES READ AS WHEN THE CALL BEGINS. Each datum BY PROGRAM (the guide's laid-datum.mjs) off the statement by which the dump's own 'gosem.cut.vars' lays the variable. In a bare row this is a premise. The card (YthnjmokaiiajmaaDoorCards.lean) ties it to the program's text. -/
def laid_unicode_utf8_acceptRanges {H : Type} : DataW H := .agg [.agg [.lit (.int .u8 128), .lit (.int .u8 191)], .agg [.lit (.int .u8 160), .lit (.int .u8 191)], .agg [.lit (.int .u8 128), .lit (.int .u8 159)], .agg [.lit (.int .u8 144), .lit (.int .u8 191)], .agg [.lit (.int .u8 128), .lit (.int .u8 143)], .agg [.lit (.int .u8 0), .lit (.int .u8 0)], .agg [.lit (.int .u8 0), .lit (.int .u8 0)], .agg [.lit (.int .u8 0), .lit (.int .u8 0)], .agg [.lit (.int .u8 0), .lit (.int .u8 0)], .agg [.lit (.int .u8 0), .lit (.int .u8 0)], .agg [.lit (.int .u8 0), .lit (.int .u8 0)], .agg [.lit (.int .u8 0), .lit (.int .u8 0)], .agg [.lit (.int .u8 0), .lit (.int .u8 0)], .agg [.lit (.int .u8 0), .lit (.int .u8 0)], .agg [.lit (.int .u8 0), .lit (.int .u8 0)], .agg [.lit (.int .u8 0), .lit (.int .u8 0)]]
/-- One of Go's own tables, pinned by name: the form's constant. -/
def laid_unicode_utf8_first : DataW Unit := Go.Pinned.utf8First

/-- 'laws.FnExactTwoThumbs': WHATEVER THE INPUT: true; the input reads as it did. -/
def fnExactTwoThumbsSpec : ChangeSpec := { name := "fnExactTwoThumbs", fn := fun _ => fun
  | [d1, d2, d3, d4] => { results := [.lit (.bool true)], args := [d1, d2, d3, d4] }
  | _ => none }
def fnExactTwoThumbsRow : OpenClaim := { program := "ythnjmokaiiajmaadoor", sum := "9ed07da7e96017f38e0aed425ed89fba57aec73f284ab1374ef85e66d0351a0f", func := "loop.example/g01350/laws.FnExactTwoThumbs", spec := "fnExactTwoThumbs", inPlace := ["internal/bytealg.IndexByteString", "internal/bytealg.IndexString"], recurses := true, named := ["unicode/utf8.first", "unicode/utf8.acceptRanges", "internal/bytealg.MaxLen"], plainKeys := false, apart := false, laid := [("unicode/utf8.acceptRanges", laid_unicode_utf8_acceptRanges), ("unicode/utf8.first", laid_unicode_utf8_first)] }
def FnExactTwoThumbsSaid : Prop := fnExactTwoThumbsRow.holds Tryd.pinned (OpenSpec.ofChange fnExactTwoThumbsSpec)

/-- ITS FALSE NEIGHBOUR: 'it returns false'. Refute it at one input. -/
def fnExactTwoThumbsWrong : ChangeSpec := { name := "fnExactTwoThumbs", fn := fun _ => fun
  | [d1, d2, d3, d4] => { results := [.lit (.bool false)], args := [d1, d2, d3, d4] }
  | _ => none }
def FnExactTwoThumbsWrongFalsely : Prop := fnExactTwoThumbsRow.holds Tryd.pinned (OpenSpec.ofChange fnExactTwoThumbsWrong)

/-- 'laws.FnExactCountThumbs': WHATEVER THE INPUT: true; the input reads as it did. -/
def fnExactCountThumbsSpec : ChangeSpec := { name := "fnExactCountThumbs", fn := fun _ => fun
  | [d1, d2, d3, d4] => { results := [.lit (.bool true)], args := [d1, d2, d3, d4] }
  | _ => none }
def fnExactCountThumbsRow : OpenClaim := { program := "ythnjmokaiiajmaadoor", sum := "9ed07da7e96017f38e0aed425ed89fba57aec73f284ab1374ef85e66d0351a0f", func := "loop.example/g01350/laws.FnExactCountThumbs", spec := "fnExactCountThumbs", inPlace := ["internal/bytealg.IndexByteString", "internal/bytealg.IndexString"], recurses := true, named := ["unicode/utf8.first", "unicode/utf8.acceptRanges", "internal/bytealg.MaxLen"], plainKeys := false, apart := false, laid := [("unicode/utf8.acceptRanges", laid_unicode_utf8_acceptRanges), ("unicode/utf8.first", laid_unicode_utf8_first)] }
def FnExactCountThumbsSaid : Prop := fnExactCountThumbsRow.holds Tryd.pinned (OpenSpec.ofChange fnExactCountThumbsSpec)

/-- ITS FALSE NEIGHBOUR: 'it returns false'. Refute it at one input. -/
def fnExactCountThumbsWrong : ChangeSpec := { name := "fnExactCountThumbs", fn := fun _ => fun
  | [d1, d2, d3, d4] => { results := [.lit (.bool false)], args := [d1, d2, d3, d4] }
  | _ => none }
def FnExactCountThumbsWrongFalsely : Prop := fnExactCountThumbsRow.holds Tryd.pinned (OpenSpec.ofChange fnExactCountThumbsWrong)

/-- 'laws.FnExactBestStarts': WHATEVER THE INPUT: true; the input reads as it did. -/
def fnExactBestStartsSpec : ChangeSpec := { name := "fnExactBestStarts", fn := fun _ => fun
  | [d1, d2] => { results := [.lit (.bool true)], args := [d1, d2] }
  | _ => none }
def fnExactBestStartsRow : OpenClaim := { program := "ythnjmokaiiajmaadoor", sum := "9ed07da7e96017f38e0aed425ed89fba57aec73f284ab1374ef85e66d0351a0f", func := "loop.example/g01350/laws.FnExactBestStarts", spec := "fnExactBestStarts", inPlace := ["internal/bytealg.IndexByteString", "internal/bytealg.IndexString"], recurses := true, named := ["unicode/utf8.first", "unicode/utf8.acceptRanges", "internal/bytealg.MaxLen"], plainKeys := false, apart := false, laid := [("unicode/utf8.acceptRanges", laid_unicode_utf8_acceptRanges), ("unicode/utf8.first", laid_unicode_utf8_first)] }
def FnExactBestStartsSaid : Prop := fnExactBestStartsRow.holds Tryd.pinned (OpenSpec.ofChange fnExactBestStartsSpec)

/-- ITS FALSE NEIGHBOUR: 'it returns false'. Refute it at one input. -/
def fnExactBestStartsWrong : ChangeSpec := { name := "fnExactBestStarts", fn := fun _ => fun
  | [d1, d2] => { results := [.lit (.bool false)], args := [d1, d2] }
  | _ => none }
def FnExactBestStartsWrongFalsely : Prop := fnExactBestStartsRow.holds Tryd.pinned (OpenSpec.ofChange fnExactBestStartsWrong)

/-- 'laws.FnExactFirstThumbs': WHATEVER THE INPUT: true; the input reads as it did. -/
def fnExactFirstThumbsSpec : ChangeSpec := { name := "fnExactFirstThumbs", fn := fun _ => fun
  | [d1, d2, d3, d4] => { results := [.lit (.bool true)], args := [d1, d2, d3, d4] }
  | _ => none }
def fnExactFirstThumbsRow : OpenClaim := { program := "ythnjmokaiiajmaadoor", sum := "9ed07da7e96017f38e0aed425ed89fba57aec73f284ab1374ef85e66d0351a0f", func := "loop.example/g01350/laws.FnExactFirstThumbs", spec := "fnExactFirstThumbs", inPlace := ["internal/bytealg.IndexByteString", "internal/bytealg.IndexString"], recurses := true, named := ["unicode/utf8.first", "unicode/utf8.acceptRanges", "internal/bytealg.MaxLen"], plainKeys := false, apart := false, laid := [("unicode/utf8.acceptRanges", laid_unicode_utf8_acceptRanges), ("unicode/utf8.first", laid_unicode_utf8_first)] }
def FnExactFirstThumbsSaid : Prop := fnExactFirstThumbsRow.holds Tryd.pinned (OpenSpec.ofChange fnExactFirstThumbsSpec)

/-- ITS FALSE NEIGHBOUR: 'it returns false'. Refute it at one input. -/
def fnExactFirstThumbsWrong : ChangeSpec := { name := "fnExactFirstThumbs", fn := fun _ => fun
  | [d1, d2, d3, d4] => { results := [.lit (.bool false)], args := [d1, d2, d3, d4] }
  | _ => none }
def FnExactFirstThumbsWrongFalsely : Prop := fnExactFirstThumbsRow.holds Tryd.pinned (OpenSpec.ofChange fnExactFirstThumbsWrong)

/- THE SECOND FORM. 'bulk': how many values and letters a reading holds, each counted each time it is reached (what is shared counts as often as it is met; a slice's spare places count too). A statement '..UptoSaid' is the law's where the arguments, and the package variables that the reading takes, are together of bulk at most 1048576: NARROWER than '..Said'. Prove '..Said' where nothing that the law and all that it calls make is longer than what came in: it says more and counts as full. Else prove '..UptoSaid'. A law counts once. -/
mutual
def uptoBulk {H : Type} : DataW H → Nat
  | .lit (.string bytes) => bytes.length + 1
  | .lit _ => 1
  | .nil => 1
  | .ptr d => uptoBulk d + 1
  | .slice elems spare => uptoBulkAll elems + uptoBulkAll spare + 1
  | .agg parts => uptoBulkAll parts + 1
  | .iface _ d => uptoBulk d + 1
  | .map entries => uptoBulkEntries entries + 1
  | .held _ => 1
def uptoBulkAll {H : Type} : List (DataW H) → Nat
  | [] => 0
  | d :: r => uptoBulk d + uptoBulkAll r
def uptoBulkEntries {H : Type} : List (Lit × DataW H) → Nat
  | [] => 0
  | x :: r => uptoBulkEntry x + uptoBulkEntries r
def uptoBulkEntry {H : Type} : Lit × DataW H → Nat
  | (.string bytes, d) => bytes.length + uptoBulk d + 1
  | (_, d) => uptoBulk d + 1
 end
def uptoSmall : (H : Type) → List (DataW H) → Bool := fun _ ds => decide (uptoBulkAll ds ≤ 1048576)
def OpenSpec.upto (s : _root_.Go.ChangeSpec) : _root_.Go.OpenSpec := { _root_.Go.OpenSpec.ofChange s with cond := some uptoSmall }

/-- 'laws.FnExactTwoThumbs', WHERE WHAT IT READS IS OF BULK AT MOST 1048576: true; the input reads as it did. -/
def fnExactTwoThumbsUptoRow : OpenClaim := { program := "ythnjmokaiiajmaadoor", sum := "9ed07da7e96017f38e0aed425ed89fba57aec73f284ab1374ef85e66d0351a0f", func := "loop.example/g01350/laws.FnExactTwoThumbs", spec := "fnExactTwoThumbs", inPlace := ["internal/bytealg.IndexByteString", "internal/bytealg.IndexString"], recurses := true, named := ["unicode/utf8.first", "unicode/utf8.acceptRanges", "internal/bytealg.MaxLen"], plainKeys := false, apart := false, laid := [("unicode/utf8.acceptRanges", laid_unicode_utf8_acceptRanges), ("unicode/utf8.first", laid_unicode_utf8_first)], narrowed := true }
def FnExactTwoThumbsUptoSaid : Prop := fnExactTwoThumbsUptoRow.holds Tryd.pinned (OpenSpec.upto fnExactTwoThumbsSpec)

/-- 'laws.FnExactCountThumbs', WHERE WHAT IT READS IS OF BULK AT MOST 1048576: true; the input reads as it did. -/
def fnExactCountThumbsUptoRow : OpenClaim := { program := "ythnjmokaiiajmaadoor", sum := "9ed07da7e96017f38e0aed425ed89fba57aec73f284ab1374ef85e66d0351a0f", func := "loop.example/g01350/laws.FnExactCountThumbs", spec := "fnExactCountThumbs", inPlace := ["internal/bytealg.IndexByteString", "internal/bytealg.IndexString"], recurses := true, named := ["unicode/utf8.first", "unicode/utf8.acceptRanges", "internal/bytealg.MaxLen"], plainKeys := false, apart := false, laid := [("unicode/utf8.acceptRanges", laid_unicode_utf8_acceptRanges), ("unicode/utf8.first", laid_unicode_utf8_first)], narrowed := true }
def FnExactCountThumbsUptoSaid : Prop := fnExactCountThumbsUptoRow.holds Tryd.pinned (OpenSpec.upto fnExactCountThumbsSpec)

/-- 'laws.FnExactBestStarts', WHERE WHAT IT READS IS OF BULK AT MOST 1048576: true; the input reads as it did. -/
def fnExactBestStartsUptoRow : OpenClaim := { program := "ythnjmokaiiajmaadoor", sum := "9ed07da7e96017f38e0aed425ed89fba57aec73f284ab1374ef85e66d0351a0f", func := "loop.example/g01350/laws.FnExactBestStarts", spec := "fnExactBestStarts", inPlace := ["internal/bytealg.IndexByteString", "internal/bytealg.IndexString"], recurses := true, named := ["unicode/utf8.first", "unicode/utf8.acceptRanges", "internal/bytealg.MaxLen"], plainKeys := false, apart := false, laid := [("unicode/utf8.acceptRanges", laid_unicode_utf8_acceptRanges), ("unicode/utf8.first", laid_unicode_utf8_first)], narrowed := true }
def FnExactBestStartsUptoSaid : Prop := fnExactBestStartsUptoRow.holds Tryd.pinned (OpenSpec.upto fnExactBestStartsSpec)

/-- 'laws.FnExactFirstThumbs', WHERE WHAT IT READS IS OF BULK AT MOST 1048576: true; the input reads as it did. -/
def fnExactFirstThumbsUptoRow : OpenClaim := { program := "ythnjmokaiiajmaadoor", sum := "9ed07da7e96017f38e0aed425ed89fba57aec73f284ab1374ef85e66d0351a0f", func := "loop.example/g01350/laws.FnExactFirstThumbs", spec := "fnExactFirstThumbs", inPlace := ["internal/bytealg.IndexByteString", "internal/bytealg.IndexString"], recurses := true, named := ["unicode/utf8.first", "unicode/utf8.acceptRanges", "internal/bytealg.MaxLen"], plainKeys := false, apart := false, laid := [("unicode/utf8.acceptRanges", laid_unicode_utf8_acceptRanges), ("unicode/utf8.first", laid_unicode_utf8_first)], narrowed := true }
def FnExactFirstThumbsUptoSaid : Prop := fnExactFirstThumbsUptoRow.holds Tryd.pinned (OpenSpec.upto fnExactFirstThumbsSpec)

end Rows
end Go.Proofs.YthnjmokaiiajmaaDoor
