-- written by wip/print2.py
import Derived.Test.YtblahbenbknbmaaProg
import Derived.Below
import Derived.Deep.Draws
import Derived.Deep.AppendLies
import Derived.Maps.AppendAt
import Derived.OwnWalk
import Derived.Laws.BytesArg
import Derived.Laws.MakeOwn
import Derived.Laws.OwnMore
import Derived.Deep.OwnRows
import Derived.Tactics
import Derived.Lib.ConvBytes
import Derived.Laws.Slices
import Derived.WalkKit
import Derived.KernelRfl
import Derived.RowKit3
import Derived.Deep.LoopGhost
import Derived.Deep.QuietTactic
import Derived.BigQuiet
import Derived.WideLaws
import Derived.Deep.DeepCutAuto
import Derived.Deep.CutBlock
import Derived.Deep.RegionHeld3
import Derived.Laws.Rows
import Derived.Lib.AppendStr
import Derived.ArgAppend
import Derived.Laws.IdiomCopy
import Derived.OrdersHeld
import Derived.Laws.BitsLemmas
import Derived.RowKit
import Derived.Laws.Cover3
import Derived.Lib.SliceRun
import Derived.Test.YtblahbenbknbmaaWWords
import Derived.Test.YtblahbenbknbmaaWLast
import Derived.Test.YtblahbenbknbmaaWTab
import Derived.Test.YtblahbenbknbmaaWFour
import Derived.Test.YtblahbenbknbmaaWQPut
import Derived.Test.YtblahbenbknbmaaWApart
import Derived.Test.YtblahbenbknbmaaWArr
import Derived.Test.YtblahbenbknbmaaWZeros
import Derived.Test.YtblahbenbknbmaaWFoot
import Derived.Test.YtblahbenbknbmaaWKept
import Derived.Test.YtblahbenbknbmaaWShare
import Derived.Test.YtblahbenbknbmaaWN
import Derived.Test.YtblahbenbknbmaaWFootNe
import Derived.Test.YtblahbenbknbmaaWAt
import Derived.Test.YtblahbenbknbmaaWEqStruct
import Derived.Test.YtblahbenbknbmaaWRepsOne
import Derived.Test.YtblahbenbknbmaaWInv
import Derived.Test.YtblahbenbknbmaaWInvWords
import Derived.Test.YtblahbenbknbmaaWGuard
import Derived.Test.YtblahbenbknbmaaWNEv
import Derived.Test.YtblahbenbknbmaaWMore
namespace Go.Proofs.Ytblahbenbknbmaa.PWireLists
open Go.RowKit Go.Proofs.YtblahbenbknbmaaW.PrintWords Go.Proofs.YtblahbenbknbmaaW.PrintLast Go.Proofs.YtblahbenbknbmaaW.PrintMore
attribute [local go_sem] max2_int min2_int max_two min_two max_three min_three max_four min_four   -- for this text's walks alone
set_option linter.unusedVariables false
set_option linter.unusedSimpArgs false



def errW : Option Int → Value
  | none => .nilIface
  | some c => .iface 0 (.int .i64 c)
theorem errW_none : errW none = .nilIface := rfl
theorem errW_some (c : Int) : errW (some c) = .iface 0 (.int .i64 c) := rfl

theorem info2 : (Try.prog.info? 2).map (fun i => (i.zero, i.size, i.bytes)) = some (some (.int .i64 0), 1, 8) := by kernel_rfl
theorem info5 : (Try.prog.info? 5).map (fun i => (i.zero, i.size, i.bytes)) = some (some (.int .u8 0), 1, 1) := by kernel_rfl
-- the values' own types

end Go.Proofs.Ytblahbenbknbmaa.PWireLists
