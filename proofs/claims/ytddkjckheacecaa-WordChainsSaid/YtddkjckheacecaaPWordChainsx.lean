-- written by wip/print2.py
import Derived.Test.YtddkjckheacecaaPWordChainsx0
import Derived.Test.YtddkjckheacecaaPWordChainsx1
import Derived.Test.YtddkjckheacecaaPWordChainsx2
import Derived.Test.YtddkjckheacecaaPWordChainsx3
import Derived.Test.YtddkjckheacecaaPWordChainsx4
import Derived.Test.YtddkjckheacecaaPWordChainsx5
namespace Go.Proofs.Ytddkjckheacecaa.PWordChains
open Go.RowKit Go.Proofs.YtddkjckheacecaaW.PrintWords Go.Proofs.YtddkjckheacecaaW.PrintLast Go.Proofs.YtddkjckheacecaaW.PrintMore
attribute [local go_sem] max2_int min2_int max_two min_two max_three min_three max_four min_four   -- for this text's walks alone
set_option linter.unusedVariables false
set_option linter.unusedSimpArgs false

end Go.Proofs.Ytddkjckheacecaa.PWordChains
