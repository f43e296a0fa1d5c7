-- written by wip/print2.py
import Derived.Test.YtemclhndmcjmmaaPDomTreex0
import Derived.Test.YtemclhndmcjmmaaPDomTreex1
import Derived.Test.YtemclhndmcjmmaaPDomTreex2
import Derived.Test.YtemclhndmcjmmaaPDomTreex3
import Derived.Test.YtemclhndmcjmmaaPDomTreex4
import Derived.Test.YtemclhndmcjmmaaPDomTreex5
import Derived.Test.YtemclhndmcjmmaaPDomTreex6
import Derived.Test.YtemclhndmcjmmaaPDomTreex7
import Derived.Test.YtemclhndmcjmmaaPDomTreex8
import Derived.Test.YtemclhndmcjmmaaPDomTreex9
import Derived.Test.YtemclhndmcjmmaaPDomTreex10
namespace Go.Proofs.Ytemclhndmcjmmaa.PDomTree
open Go.RowKit Go.Proofs.YtemclhndmcjmmaaW.PrintWords Go.Proofs.YtemclhndmcjmmaaW.PrintLast Go.Proofs.YtemclhndmcjmmaaW.PrintMore
attribute [local go_sem] max2_int min2_int max_two min_two max_three min_three max_four min_four   -- for this text's walks alone
set_option linter.unusedVariables false
set_option linter.unusedSimpArgs false

end Go.Proofs.Ytemclhndmcjmmaa.PDomTree
