-- written by wip/print2.py
import Derived.Test.YtojmepkhbebllaaDoorPShowOpsx0
import Derived.Test.YtojmepkhbebllaaDoorPShowOpsx1
import Derived.Test.YtojmepkhbebllaaDoorPShowOpsx2
import Derived.Test.YtojmepkhbebllaaDoorPShowOpsx3
import Derived.Test.YtojmepkhbebllaaDoorPShowOpsx4
import Derived.Test.YtojmepkhbebllaaDoorPShowOpsx5
import Derived.Test.YtojmepkhbebllaaDoorPShowOpsx6
import Derived.Test.YtojmepkhbebllaaDoorPShowOpsx7
import Derived.Test.YtojmepkhbebllaaDoorPShowOpsx8
namespace Go.Proofs.YtojmepkhbebllaaDoor.PShowOps
open Go.RowKit Go.Proofs.YtojmepkhbebllaaDoorW.PrintWords Go.Proofs.YtojmepkhbebllaaDoorW.PrintLast Go.Proofs.YtojmepkhbebllaaDoorW.PrintMore
attribute [local go_sem] max2_int min2_int max_two min_two max_three min_three max_four min_four   -- for this text's walks alone
set_option linter.unusedVariables false
set_option linter.unusedSimpArgs false

end Go.Proofs.YtojmepkhbebllaaDoor.PShowOps
