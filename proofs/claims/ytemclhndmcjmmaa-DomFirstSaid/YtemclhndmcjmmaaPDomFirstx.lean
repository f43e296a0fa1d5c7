-- written by wip/print2.py
import Derived.Test.YtemclhndmcjmmaaPDomFirstx0
import Derived.Test.YtemclhndmcjmmaaPDomFirstx1
import Derived.Test.YtemclhndmcjmmaaPDomFirstx2
import Derived.Test.YtemclhndmcjmmaaPDomFirstx3
import Derived.Test.YtemclhndmcjmmaaPDomFirstx4
import Derived.Test.YtemclhndmcjmmaaPDomFirstx5
import Derived.Test.YtemclhndmcjmmaaPDomFirstx6
import Derived.Test.YtemclhndmcjmmaaPDomFirstx7
import Derived.Test.YtemclhndmcjmmaaPDomFirstx8
import Derived.Test.YtemclhndmcjmmaaPDomFirstx9
namespace Go.Proofs.Ytemclhndmcjmmaa.PDomFirst
open Go.RowKit Go.Proofs.YtemclhndmcjmmaaW.PrintWords Go.Proofs.YtemclhndmcjmmaaW.PrintLast Go.Proofs.YtemclhndmcjmmaaW.PrintMore
attribute [local go_sem] max2_int min2_int max_two min_two max_three min_three max_four min_four   -- for this text's walks alone
set_option linter.unusedVariables false
set_option linter.unusedSimpArgs false

end Go.Proofs.Ytemclhndmcjmmaa.PDomFirst
