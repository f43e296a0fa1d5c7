-- written by wip/print2.py
import Derived.Test.YtfddhmndeknpkaaPTextReadsx0
import Derived.Test.YtfddhmndeknpkaaPTextReadsx1
import Derived.Test.YtfddhmndeknpkaaPTextReadsx2
import Derived.Test.YtfddhmndeknpkaaPTextReadsx3
import Derived.Test.YtfddhmndeknpkaaPTextReadsx4
import Derived.Test.YtfddhmndeknpkaaPTextReadsx5
namespace Go.Proofs.Ytfddhmndeknpkaa.PTextReads
open Go.RowKit Go.Proofs.YtfddhmndeknpkaaW.PrintWords Go.Proofs.YtfddhmndeknpkaaW.PrintLast Go.Proofs.YtfddhmndeknpkaaW.PrintMore
attribute [local go_sem] max2_int min2_int max_two min_two max_three min_three max_four min_four   -- for this text's walks alone
set_option linter.unusedVariables false
set_option linter.unusedSimpArgs false

end Go.Proofs.Ytfddhmndeknpkaa.PTextReads
