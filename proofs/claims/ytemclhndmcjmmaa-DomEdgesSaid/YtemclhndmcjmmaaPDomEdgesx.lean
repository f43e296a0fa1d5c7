-- written by wip/print2.py
import Derived.Test.YtemclhndmcjmmaaPDomEdgesx0
import Derived.Test.YtemclhndmcjmmaaPDomEdgesx1
import Derived.Test.YtemclhndmcjmmaaPDomEdgesx2
import Derived.Test.YtemclhndmcjmmaaPDomEdgesx3
import Derived.Test.YtemclhndmcjmmaaPDomEdgesx4
import Derived.Test.YtemclhndmcjmmaaPDomEdgesx5
import Derived.Test.YtemclhndmcjmmaaPDomEdgesx6
import Derived.Test.YtemclhndmcjmmaaPDomEdgesx7
import Derived.Test.YtemclhndmcjmmaaPDomEdgesx8
import Derived.Test.YtemclhndmcjmmaaPDomEdgesx9
import Derived.Test.YtemclhndmcjmmaaPDomEdgesx10
namespace Go.Proofs.Ytemclhndmcjmmaa.PDomEdges
open Go.RowKit Go.Proofs.YtemclhndmcjmmaaW.PrintWords Go.Proofs.YtemclhndmcjmmaaW.PrintLast Go.Proofs.YtemclhndmcjmmaaW.PrintMore
attribute [local go_sem] max2_int min2_int max_two min_two max_three min_three max_four min_four   -- for this text's walks alone
set_option linter.unusedVariables false
set_option linter.unusedSimpArgs false

end Go.Proofs.Ytemclhndmcjmmaa.PDomEdges
