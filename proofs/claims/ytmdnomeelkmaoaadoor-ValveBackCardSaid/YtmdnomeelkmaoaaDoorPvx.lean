-- Printed by a program (wip/tools/pr.sh): one Lean function and its contract for each Go function.
import Derived.Test.YtmdnomeelkmaoaaDoorPvx0
import Derived.Test.YtmdnomeelkmaoaaDoorPvx1
import Derived.Test.YtmdnomeelkmaoaaDoorPvx2
import Derived.Test.YtmdnomeelkmaoaaDoorPvx3
import Derived.Test.YtmdnomeelkmaoaaDoorPvx4
import Derived.Test.YtmdnomeelkmaoaaDoorPvx5
import Derived.Test.YtmdnomeelkmaoaaDoorVBase
namespace Go.Proofs.YtmdnomeelkmaoaaDoor.Pv
open Go.RowKit Go.Proofs.YtmdnomeelkmaoaaDoorV Go.Proofs.YtmdnomeelkmaoaaDoorW.PrintWords Go.Proofs.YtmdnomeelkmaoaaDoorW.PrintLast Go.Proofs.YtmdnomeelkmaoaaDoorW.PrintMore
attribute [local go_sem] max2_int min2_int max_two min_two max_three min_three max_four min_four   -- for this text's walks alone
set_option linter.unusedVariables false
set_option linter.unusedSimpArgs false

end Go.Proofs.YtmdnomeelkmaoaaDoor.Pv
