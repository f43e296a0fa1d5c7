-- written by wip/print2.py
import Derived.Test.YtemclhndmcjmmaaPDomLoopsx0
import Derived.Test.YtemclhndmcjmmaaPDomLoopsx1
import Derived.Test.YtemclhndmcjmmaaPDomLoopsx2
import Derived.Test.YtemclhndmcjmmaaPDomLoopsx3
import Derived.Test.YtemclhndmcjmmaaPDomLoopsx4
import Derived.Test.YtemclhndmcjmmaaPDomLoopsx5
import Derived.Test.YtemclhndmcjmmaaPDomLoopsx6
import Derived.Test.YtemclhndmcjmmaaPDomLoopsx7
import Derived.Test.YtemclhndmcjmmaaPDomLoopsx8
import Derived.Test.YtemclhndmcjmmaaPDomLoopsx9
import Derived.Test.YtemclhndmcjmmaaPDomLoopsx10
namespace Go.Proofs.Ytemclhndmcjmmaa.PDomLoops
open Go.RowKit Go.Proofs.YtemclhndmcjmmaaW.PrintWords Go.Proofs.YtemclhndmcjmmaaW.PrintLast Go.Proofs.YtemclhndmcjmmaaW.PrintMore
attribute [local go_sem] max2_int min2_int max_two min_two max_three min_three max_four min_four   -- for this text's walks alone
set_option linter.unusedVariables false
set_option linter.unusedSimpArgs false

end Go.Proofs.Ytemclhndmcjmmaa.PDomLoops
