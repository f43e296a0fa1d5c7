-- written by wip/print2.py
import Derived.Test.YtbjdiaefchcbjaaDoorPKindFieldsx0
import Derived.Test.YtbjdiaefchcbjaaDoorPKindFieldsx1
import Derived.Test.YtbjdiaefchcbjaaDoorPKindFieldsx2
import Derived.Test.YtbjdiaefchcbjaaDoorPKindFieldsx3
import Derived.Test.YtbjdiaefchcbjaaDoorPKindFieldsx4
import Derived.Test.YtbjdiaefchcbjaaDoorPKindFieldsx5
import Derived.Test.YtbjdiaefchcbjaaDoorPKindFieldsx6
import Derived.Test.YtbjdiaefchcbjaaDoorPKindFieldsx7
import Derived.Test.YtbjdiaefchcbjaaDoorPKindFieldsx8
namespace Go.Proofs.YtbjdiaefchcbjaaDoor.PKindFields
open Go.RowKit Go.Proofs.YtbjdiaefchcbjaaDoorW.PrintWords Go.Proofs.YtbjdiaefchcbjaaDoorW.PrintLast Go.Proofs.YtbjdiaefchcbjaaDoorW.PrintMore
attribute [local go_sem] max2_int min2_int max_two min_two max_three min_three max_four min_four   -- for this text's walks alone
set_option linter.unusedVariables false
set_option linter.unusedSimpArgs false

end Go.Proofs.YtbjdiaefchcbjaaDoor.PKindFields
