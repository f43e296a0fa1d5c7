-- written by wip/print2.py
import Derived.Test.YtemclhndmcjmmaaPDomTamex0
import Derived.Test.YtemclhndmcjmmaaPDomTamex1
import Derived.Test.YtemclhndmcjmmaaPDomTamex2
import Derived.Test.YtemclhndmcjmmaaPDomTamex3
import Derived.Test.YtemclhndmcjmmaaPDomTamex4
import Derived.Test.YtemclhndmcjmmaaPDomTamex5
import Derived.Test.YtemclhndmcjmmaaPDomTamex6
import Derived.Test.YtemclhndmcjmmaaPDomTamex7
import Derived.Test.YtemclhndmcjmmaaPDomTamex8
import Derived.Test.YtemclhndmcjmmaaPDomTamex9
import Derived.Test.YtemclhndmcjmmaaPDomTamex10
import Derived.Test.YtemclhndmcjmmaaPDomTamex11
namespace Go.Proofs.Ytemclhndmcjmmaa.PDomTame
open Go.RowKit Go.Proofs.YtemclhndmcjmmaaW.PrintWords Go.Proofs.YtemclhndmcjmmaaW.PrintLast Go.Proofs.YtemclhndmcjmmaaW.PrintMore
attribute [local go_sem] max2_int min2_int max_two min_two max_three min_three max_four min_four   -- for this text's walks alone
set_option linter.unusedVariables false
set_option linter.unusedSimpArgs false

end Go.Proofs.Ytemclhndmcjmmaa.PDomTame
