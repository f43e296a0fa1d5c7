-- written by wip/print2.py
import Derived.Test.YtfkicdelkjjliaaPCfgOncex0
import Derived.Test.YtfkicdelkjjliaaPCfgOncex1
import Derived.Test.YtfkicdelkjjliaaPCfgOncex2
import Derived.Test.YtfkicdelkjjliaaPCfgOncex3
import Derived.Test.YtfkicdelkjjliaaPCfgOncex4
namespace Go.Proofs.Ytfkicdelkjjliaa.PCfgOnce
open Go.RowKit Go.Proofs.YtfkicdelkjjliaaW.PrintWords Go.Proofs.YtfkicdelkjjliaaW.PrintLast Go.Proofs.YtfkicdelkjjliaaW.PrintMore
attribute [local go_sem] max2_int min2_int max_two min_two max_three min_three max_four min_four   -- for this text's walks alone
set_option linter.unusedVariables false
set_option linter.unusedSimpArgs false

end Go.Proofs.Ytfkicdelkjjliaa.PCfgOnce
