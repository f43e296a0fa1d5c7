-- written by wip/print2.py
import Derived.Test.YtfkicdelkjjliaaPCfgOrderx0
import Derived.Test.YtfkicdelkjjliaaPCfgOrderx1
import Derived.Test.YtfkicdelkjjliaaPCfgOrderx2
import Derived.Test.YtfkicdelkjjliaaPCfgOrderx3
import Derived.Test.YtfkicdelkjjliaaPCfgOrderx4
import Derived.Test.YtfkicdelkjjliaaPCfgOrderx5
import Derived.Test.YtfkicdelkjjliaaPCfgOrderx6
namespace Go.Proofs.Ytfkicdelkjjliaa.PCfgOrder
open Go.RowKit Go.Proofs.YtfkicdelkjjliaaW.PrintWords Go.Proofs.YtfkicdelkjjliaaW.PrintLast Go.Proofs.YtfkicdelkjjliaaW.PrintMore
attribute [local go_sem] max2_int min2_int max_two min_two max_three min_three max_four min_four   -- for this text's walks alone
set_option linter.unusedVariables false
set_option linter.unusedSimpArgs false

end Go.Proofs.Ytfkicdelkjjliaa.PCfgOrder
