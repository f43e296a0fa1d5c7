-- written by wip/print2.py
import Derived.Test.YtfddhmndeknpkaaProg
import Derived.Below
import Derived.Deep.Draws
import Derived.Deep.AppendLies
import Derived.Maps.AppendAt
import Derived.OwnWalk
import Derived.Laws.BytesArg
import Derived.Laws.MakeOwn
import Derived.Laws.OwnMore
import Derived.Deep.OwnRows
import Derived.Tactics
import Derived.Lib.ConvBytes
import Derived.Laws.Slices
import Derived.WalkKit
import Derived.KernelRfl
import Derived.RowKit3
import Derived.Deep.LoopGhost
import Derived.Deep.QuietTactic
import Derived.BigQuiet
import Derived.WideLaws
import Derived.Deep.DeepCutAuto
import Derived.Deep.CutBlock
import Derived.Deep.RegionHeld3
import Derived.Laws.Rows
import Derived.Lib.AppendStr
import Derived.ArgAppend
import Derived.Laws.IdiomCopy
import Derived.OrdersHeld
import Derived.Laws.BitsLemmas
import Derived.RowKit
import Derived.Laws.Cover3
import Derived.Lib.SliceRun
import Derived.Test.YtfddhmndeknpkaaShelf
import Derived.Lib.Builder
import Derived.Lib.AppendStr
import Derived.ShutString
import Derived.BigCall
import Derived.Test.YtfddhmndeknpkaaWWords
import Derived.Test.YtfddhmndeknpkaaWLast
import Derived.Test.YtfddhmndeknpkaaWTab
import Derived.Test.YtfddhmndeknpkaaWFour
import Derived.Test.YtfddhmndeknpkaaWQPut
import Derived.Test.YtfddhmndeknpkaaWApart
import Derived.Test.YtfddhmndeknpkaaWArr
import Derived.Test.YtfddhmndeknpkaaWZeros
import Derived.Test.YtfddhmndeknpkaaWFoot
import Derived.Test.YtfddhmndeknpkaaWKept
import Derived.Test.YtfddhmndeknpkaaWShare
import Derived.Test.YtfddhmndeknpkaaWN
import Derived.Test.YtfddhmndeknpkaaWFootNe
import Derived.Test.YtfddhmndeknpkaaWAt
import Derived.Test.YtfddhmndeknpkaaWEqStruct
import Derived.Test.YtfddhmndeknpkaaWRepsOne
import Derived.Test.YtfddhmndeknpkaaWInv
import Derived.Test.YtfddhmndeknpkaaWInvWords
import Derived.Test.YtfddhmndeknpkaaWGuard
import Derived.Test.YtfddhmndeknpkaaWNEv
import Derived.Test.YtfddhmndeknpkaaWMore
namespace Go.Proofs.Ytfddhmndeknpkaa.PTextReads
open Go.RowKit Go.Proofs.YtfddhmndeknpkaaW.PrintWords Go.Proofs.YtfddhmndeknpkaaW.PrintLast Go.Proofs.YtfddhmndeknpkaaW.PrintMore
attribute [local go_sem] max2_int min2_int max_two min_two max_three min_three max_four min_four   -- for this text's walks alone
set_option linter.unusedVariables false
set_option linter.unusedSimpArgs false



def errW : Option Int → Value
  | none => .nilIface
  | some c => .iface 0 (.int .i64 c)
theorem errW_none : errW none = .nilIface := rfl
theorem errW_some (c : Int) : errW (some c) = .iface 0 (.int .i64 c) := rfl

theorem info5 : (Try.prog.info? 5).map (fun i => (i.zero, i.size, i.bytes)) = some (some (.int .u8 0), 1, 1) := by kernel_rfl
-- the values' own types

end Go.Proofs.Ytfddhmndeknpkaa.PTextReads
