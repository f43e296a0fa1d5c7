-- written by wip/print2.py
import Derived.Test.YtbjdiaefchcbjaaDoorPKindUsesx0
import Derived.Test.YtbjdiaefchcbjaaDoorPKindUsesx1
import Derived.Test.YtbjdiaefchcbjaaDoorPKindUsesx2
import Derived.Test.YtbjdiaefchcbjaaDoorPKindUsesx3
import Derived.Test.YtbjdiaefchcbjaaDoorPKindUsesx4
import Derived.Test.YtbjdiaefchcbjaaDoorPKindUsesx5
import Derived.Test.YtbjdiaefchcbjaaDoorPKindUsesx6
import Derived.Test.YtbjdiaefchcbjaaDoorPKindUsesx7
import Derived.Test.YtbjdiaefchcbjaaDoorPKindUsesx8
import Derived.Test.YtbjdiaefchcbjaaDoorPKindUsesx9
import Derived.Test.YtbjdiaefchcbjaaDoorPKindUsesx10
import Derived.Test.YtbjdiaefchcbjaaDoorPKindUsesx11
namespace Go.Proofs.YtbjdiaefchcbjaaDoor.PKindUses
open Go.RowKit Go.Proofs.YtbjdiaefchcbjaaDoorW.PrintWords Go.Proofs.YtbjdiaefchcbjaaDoorW.PrintLast Go.Proofs.YtbjdiaefchcbjaaDoorW.PrintMore
attribute [local go_sem] max2_int min2_int max_two min_two max_three min_three max_four min_four   -- for this text's walks alone
set_option linter.unusedVariables false
set_option linter.unusedSimpArgs false

end Go.Proofs.YtbjdiaefchcbjaaDoor.PKindUses
