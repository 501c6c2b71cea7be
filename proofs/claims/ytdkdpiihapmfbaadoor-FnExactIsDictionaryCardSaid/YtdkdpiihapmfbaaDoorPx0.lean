/- Written by a program (wip/drive.py) over the kit's printer: for Go functions that the laws reach, plain Lean functions, and proofs that the machine's calls come to what these say. -/
import Derived.Test.YtdkdpiihapmfbaaDoorProg
import Derived.Below
import Derived.Deep.Draws
import Derived.Deep.AppendLies
import Derived.Maps.AppendAt
import Derived.OwnWalk
import Derived.Laws.BytesArg
import Derived.Laws.MakeOwn
import Derived.Laws.OwnMore
import Derived.Deep.OwnRows
import Derived.Tactics
import Derived.Lib.ConvBytes
import Derived.Laws.Slices
import Derived.WalkKit
import Derived.KernelRfl
import Derived.RowKit3
import Derived.Deep.LoopGhost
import Derived.Deep.QuietTactic
import Derived.BigQuiet
import Derived.WideLaws
import Derived.Deep.DeepCutAuto
import Derived.Deep.CutBlock
import Derived.Deep.RegionHeld3
import Derived.Laws.Rows
import Derived.Lib.AppendStr
import Derived.ArgAppend
import Derived.Laws.IdiomCopy
import Derived.OrdersHeld
import Derived.Laws.BitsLemmas
import Derived.RowKit
import Derived.Shelf.SlicesE.IndexFunc
import Derived.Test.YtdkdpiihapmfbaaDoorShelf
import Derived.Test.YtdkdpiihapmfbaaDoorStrs
import Derived.Shelf.Strings.SlTrimAscii
import Derived.Laws.Cover1
import Derived.Test.YtdkdpiihapmfbaaDoorWWords
import Derived.Test.YtdkdpiihapmfbaaDoorWLast
import Derived.Test.YtdkdpiihapmfbaaDoorWTab
import Derived.Test.YtdkdpiihapmfbaaDoorWFour
import Derived.Test.YtdkdpiihapmfbaaDoorWQPut
import Derived.Test.YtdkdpiihapmfbaaDoorWApart
import Derived.Test.YtdkdpiihapmfbaaDoorWArr
import Derived.Test.YtdkdpiihapmfbaaDoorWZeros
import Derived.Test.YtdkdpiihapmfbaaDoorWFoot
import Derived.Test.YtdkdpiihapmfbaaDoorWKept
import Derived.Test.YtdkdpiihapmfbaaDoorWShare
import Derived.Test.YtdkdpiihapmfbaaDoorWN
import Derived.Test.YtdkdpiihapmfbaaDoorWFootNe
import Derived.Test.YtdkdpiihapmfbaaDoorWAt
import Derived.Test.YtdkdpiihapmfbaaDoorWEqStruct
import Derived.Test.YtdkdpiihapmfbaaDoorWRepsOne
import Derived.Test.YtdkdpiihapmfbaaDoorWInv
import Derived.Test.YtdkdpiihapmfbaaDoorWInvWords
import Derived.Test.YtdkdpiihapmfbaaDoorWGuard
import Derived.Test.YtdkdpiihapmfbaaDoorWNEv
import Derived.Test.YtdkdpiihapmfbaaDoorWMore
namespace Go.Proofs.YtdkdpiihapmfbaaDoor.P
open Go.RowKit Go.Proofs.YtdkdpiihapmfbaaDoorW.PrintWords Go.Proofs.YtdkdpiihapmfbaaDoorW.PrintLast Go.Proofs.YtdkdpiihapmfbaaDoorW.PrintMore
attribute [local go_sem] max2_int min2_int max_two min_two max_three min_three max_four min_four   -- for this text's walks alone
set_option linter.unusedVariables false
set_option linter.unusedSimpArgs false



def errW : Option Int → Value
  | none => .nilIface
  | some c => .iface 0 (.int .i64 c)
theorem errW_none : errW none = .nilIface := rfl
theorem errW_some (c : Int) : errW (some c) = .iface 0 (.int .i64 c) := rfl

theorem info5 : (Tryd.prog.info? 5).map (fun i => (i.zero, i.size, i.bytes)) = some (some (.int .u8 0), 1, 1) := by kernel_rfl
theorem info9 : (Tryd.prog.info? 9).map (fun i => (i.zero, i.size, i.bytes)) = some (some (.string ⟨#[]⟩), 1, 16) := by kernel_rfl
-- the values' own types

end Go.Proofs.YtdkdpiihapmfbaaDoor.P
