-- written by wip/print2.py
import Derived.Test.YtemclhndmcjmmaaPDomOverx0
import Derived.Test.YtemclhndmcjmmaaPDomOverx1
import Derived.Test.YtemclhndmcjmmaaPDomOverx2
import Derived.Test.YtemclhndmcjmmaaPDomOverx3
import Derived.Test.YtemclhndmcjmmaaPDomOverx4
import Derived.Test.YtemclhndmcjmmaaPDomOverx5
import Derived.Test.YtemclhndmcjmmaaPDomOverx6
import Derived.Test.YtemclhndmcjmmaaPDomOverx7
import Derived.Test.YtemclhndmcjmmaaPDomOverx8
import Derived.Test.YtemclhndmcjmmaaPDomOverx9
namespace Go.Proofs.Ytemclhndmcjmmaa.PDomOver
open Go.RowKit Go.Proofs.YtemclhndmcjmmaaW.PrintWords Go.Proofs.YtemclhndmcjmmaaW.PrintLast Go.Proofs.YtemclhndmcjmmaaW.PrintMore
attribute [local go_sem] max2_int min2_int max_two min_two max_three min_three max_four min_four   -- for this text's walks alone
set_option linter.unusedVariables false
set_option linter.unusedSimpArgs false

end Go.Proofs.Ytemclhndmcjmmaa.PDomOver
