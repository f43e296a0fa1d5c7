-- written by wip/print2.py
import Derived.Test.YtblahbenbknbmaaPWireJoinsx0
import Derived.Test.YtblahbenbknbmaaPWireJoinsx1
import Derived.Test.YtblahbenbknbmaaPWireJoinsx2
namespace Go.Proofs.Ytblahbenbknbmaa.PWireJoins
open Go.RowKit Go.Proofs.YtblahbenbknbmaaW.PrintWords Go.Proofs.YtblahbenbknbmaaW.PrintLast Go.Proofs.YtblahbenbknbmaaW.PrintMore
attribute [local go_sem] max2_int min2_int max_two min_two max_three min_three max_four min_four   -- for this text's walks alone
set_option linter.unusedVariables false
set_option linter.unusedSimpArgs false

end Go.Proofs.Ytblahbenbknbmaa.PWireJoins
