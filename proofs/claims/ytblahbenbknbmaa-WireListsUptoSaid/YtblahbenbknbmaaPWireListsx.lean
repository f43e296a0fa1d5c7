-- written by wip/print2.py
import Derived.Test.YtblahbenbknbmaaPWireListsx0
import Derived.Test.YtblahbenbknbmaaPWireListsx1
import Derived.Test.YtblahbenbknbmaaPWireListsx2
import Derived.Test.YtblahbenbknbmaaPWireListsx3
import Derived.Test.YtblahbenbknbmaaPWireListsx4
namespace Go.Proofs.Ytblahbenbknbmaa.PWireLists
open Go.RowKit Go.Proofs.YtblahbenbknbmaaW.PrintWords Go.Proofs.YtblahbenbknbmaaW.PrintLast Go.Proofs.YtblahbenbknbmaaW.PrintMore
attribute [local go_sem] max2_int min2_int max_two min_two max_three min_three max_four min_four   -- for this text's walks alone
set_option linter.unusedVariables false
set_option linter.unusedSimpArgs false

end Go.Proofs.Ytblahbenbknbmaa.PWireLists
