-- written by wip/print2.py
import Derived.Test.YtfddhmndeknpkaaDoorPTextDigitsx0
import Derived.Test.YtfddhmndeknpkaaDoorPTextDigitsx1
namespace Go.Proofs.YtfddhmndeknpkaaDoor.PTextDigits
open Go.RowKit Go.Proofs.YtfddhmndeknpkaaDoorW.PrintWords Go.Proofs.YtfddhmndeknpkaaDoorW.PrintLast Go.Proofs.YtfddhmndeknpkaaDoorW.PrintMore
attribute [local go_sem] max2_int min2_int max_two min_two max_three min_three max_four min_four   -- for this text's walks alone
set_option linter.unusedVariables false
set_option linter.unusedSimpArgs false

end Go.Proofs.YtfddhmndeknpkaaDoor.PTextDigits
