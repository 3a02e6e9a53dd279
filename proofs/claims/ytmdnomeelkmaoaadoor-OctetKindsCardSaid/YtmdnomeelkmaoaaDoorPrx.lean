-- Printed by a program (wip/tools/pr.sh): one Lean function and its contract for each Go function.
import Derived.Test.YtmdnomeelkmaoaaDoorPrx0
import Derived.Test.YtmdnomeelkmaoaaDoorPrx1
import Derived.Test.YtmdnomeelkmaoaaDoorPrx2
import Derived.Test.YtmdnomeelkmaoaaDoorPrx3
import Derived.Test.YtmdnomeelkmaoaaDoorPrx4
import Derived.Test.YtmdnomeelkmaoaaDoorPrx5
import Derived.Test.YtmdnomeelkmaoaaDoorPrx6
import Derived.Test.YtmdnomeelkmaoaaDoorPrx7
import Derived.Test.YtmdnomeelkmaoaaDoorPrx8
import Derived.Test.YtmdnomeelkmaoaaDoorPrx9
import Derived.Test.YtmdnomeelkmaoaaDoorPrx10
import Derived.Test.YtmdnomeelkmaoaaDoorPrx11
import Derived.Test.YtmdnomeelkmaoaaDoorPrx12
import Derived.Test.YtmdnomeelkmaoaaDoorPrx13
import Derived.Test.YtmdnomeelkmaoaaDoorHBase
namespace Go.Proofs.YtmdnomeelkmaoaaDoor.Pr
open Go.RowKit Go.Proofs.YtmdnomeelkmaoaaDoorH Go.Proofs.YtmdnomeelkmaoaaDoorW.PrintWords Go.Proofs.YtmdnomeelkmaoaaDoorW.PrintLast Go.Proofs.YtmdnomeelkmaoaaDoorW.PrintMore
attribute [local go_sem] max2_int min2_int max_two min_two max_three min_three max_four min_four   -- for this text's walks alone
set_option linter.unusedVariables false
set_option linter.unusedSimpArgs false

end Go.Proofs.YtmdnomeelkmaoaaDoor.Pr
