-- written by wip/print2.py
import Derived.Test.YtojmepkhbebllaaDoorPShowTypesx0
import Derived.Test.YtojmepkhbebllaaDoorPShowTypesx1
import Derived.Test.YtojmepkhbebllaaDoorPShowTypesx2
namespace Go.Proofs.YtojmepkhbebllaaDoor.PShowTypes
open Go.RowKit Go.Proofs.YtojmepkhbebllaaDoorW.PrintWords Go.Proofs.YtojmepkhbebllaaDoorW.PrintLast Go.Proofs.YtojmepkhbebllaaDoorW.PrintMore
attribute [local go_sem] max2_int min2_int max_two min_two max_three min_three max_four min_four   -- for this text's walks alone
set_option linter.unusedVariables false
set_option linter.unusedSimpArgs false

end Go.Proofs.YtojmepkhbebllaaDoor.PShowTypes
