-- written by wip/print2.py
import Derived.Test.YtddkjckheacecaaProg
import Derived.Below
import Derived.Deep.Draws
import Derived.Deep.AppendLies
import Derived.Maps.AppendAt
import Derived.OwnWalk
import Derived.Laws.BytesArg
import Derived.Laws.MakeOwn
import Derived.Laws.OwnMore
import Derived.Deep.OwnRows
import Derived.Tactics
import Derived.Lib.ConvBytes
import Derived.Laws.Slices
import Derived.WalkKit
import Derived.KernelRfl
import Derived.RowKit3
import Derived.Deep.LoopGhost
import Derived.Deep.QuietTactic
import Derived.BigQuiet
import Derived.WideLaws
import Derived.Deep.DeepCutAuto
import Derived.Deep.CutBlock
import Derived.Deep.RegionHeld3
import Derived.Laws.Rows
import Derived.Lib.AppendStr
import Derived.ArgAppend
import Derived.Laws.IdiomCopy
import Derived.OrdersHeld
import Derived.Laws.BitsLemmas
import Derived.RowKit
import Derived.Test.YtddkjckheacecaaWWords
import Derived.Test.YtddkjckheacecaaWLast
import Derived.Test.YtddkjckheacecaaWTab
import Derived.Test.YtddkjckheacecaaWFour
import Derived.Test.YtddkjckheacecaaWQPut
import Derived.Test.YtddkjckheacecaaWApart
import Derived.Test.YtddkjckheacecaaWArr
import Derived.Test.YtddkjckheacecaaWZeros
import Derived.Test.YtddkjckheacecaaWFoot
import Derived.Test.YtddkjckheacecaaWKept
import Derived.Test.YtddkjckheacecaaWShare
import Derived.Test.YtddkjckheacecaaWN
import Derived.Test.YtddkjckheacecaaWFootNe
import Derived.Test.YtddkjckheacecaaWAt
import Derived.Test.YtddkjckheacecaaWEqStruct
import Derived.Test.YtddkjckheacecaaWRepsOne
import Derived.Test.YtddkjckheacecaaWInv
import Derived.Test.YtddkjckheacecaaWInvWords
import Derived.Test.YtddkjckheacecaaWGuard
import Derived.Test.YtddkjckheacecaaWNEv
import Derived.Test.YtddkjckheacecaaWMore
namespace Go.Proofs.Ytddkjckheacecaa.PWordChains
open Go.RowKit Go.Proofs.YtddkjckheacecaaW.PrintWords Go.Proofs.YtddkjckheacecaaW.PrintLast Go.Proofs.YtddkjckheacecaaW.PrintMore
attribute [local go_sem] max2_int min2_int max_two min_two max_three min_three max_four min_four   -- for this text's walks alone
set_option linter.unusedVariables false
set_option linter.unusedSimpArgs false



def errW : Option Int → Value
  | none => .nilIface
  | some c => .iface 0 (.int .i64 c)
theorem errW_none : errW none = .nilIface := rfl
theorem errW_some (c : Int) : errW (some c) = .iface 0 (.int .i64 c) := rfl

theorem info2 : (Try.prog.info? 2).map (fun i => (i.zero, i.size, i.bytes)) = some (some (.int .i64 0), 1, 8) := by kernel_rfl
theorem info3 : (Try.prog.info? 3).map (fun i => (i.zero, i.size, i.bytes)) = some (some (.int .i64 0), 1, 8) := by kernel_rfl
-- the values' own types

end Go.Proofs.Ytddkjckheacecaa.PWordChains
