-- written by wip/print2.py
import Derived.Test.YtfkicdelkjjliaaPCfgForwardx0
import Derived.Test.YtfkicdelkjjliaaPCfgForwardx1
import Derived.Test.YtfkicdelkjjliaaPCfgForwardx2
import Derived.Test.YtfkicdelkjjliaaPCfgForwardx3
import Derived.Test.YtfkicdelkjjliaaPCfgForwardx4
namespace Go.Proofs.Ytfkicdelkjjliaa.PCfgForward
open Go.RowKit Go.Proofs.YtfkicdelkjjliaaW.PrintWords Go.Proofs.YtfkicdelkjjliaaW.PrintLast Go.Proofs.YtfkicdelkjjliaaW.PrintMore
attribute [local go_sem] max2_int min2_int max_two min_two max_three min_three max_four min_four   -- for this text's walks alone
set_option linter.unusedVariables false
set_option linter.unusedSimpArgs false

end Go.Proofs.Ytfkicdelkjjliaa.PCfgForward
