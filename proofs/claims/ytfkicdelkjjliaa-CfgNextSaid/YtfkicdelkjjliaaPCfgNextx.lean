-- written by wip/print2.py
import Derived.Test.YtfkicdelkjjliaaPCfgNextx0
import Derived.Test.YtfkicdelkjjliaaPCfgNextx1
import Derived.Test.YtfkicdelkjjliaaPCfgNextx2
import Derived.Test.YtfkicdelkjjliaaPCfgNextx3
import Derived.Test.YtfkicdelkjjliaaPCfgNextx4
import Derived.Test.YtfkicdelkjjliaaPCfgNextx5
namespace Go.Proofs.Ytfkicdelkjjliaa.PCfgNext
open Go.RowKit Go.Proofs.YtfkicdelkjjliaaW.PrintWords Go.Proofs.YtfkicdelkjjliaaW.PrintLast Go.Proofs.YtfkicdelkjjliaaW.PrintMore
attribute [local go_sem] max2_int min2_int max_two min_two max_three min_three max_four min_four   -- for this text's walks alone
set_option linter.unusedVariables false
set_option linter.unusedSimpArgs false

end Go.Proofs.Ytfkicdelkjjliaa.PCfgNext
