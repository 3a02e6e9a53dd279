-- Printed by a program (wip/tools/pr.sh): one Lean function and its contract for each Go function.
import Derived.Test.YtmdnomeelkmaoaaDoorProg
import Derived.Below
import Derived.Deep.Draws
import Derived.Deep.AppendLies
import Derived.Maps.AppendAt
import Derived.OwnWalk
import Derived.Laws.BytesArg
import Derived.Laws.MakeOwn
import Derived.Laws.OwnMore
import Derived.Deep.OwnRows
import Derived.Tactics
import Derived.Lib.ConvBytes
import Derived.Laws.Slices
import Derived.WalkKit
import Derived.KernelRfl
import Derived.RowKit3
import Derived.Deep.LoopGhost
import Derived.Deep.QuietTactic
import Derived.BigQuiet
import Derived.WideLaws
import Derived.Deep.DeepCutAuto
import Derived.Deep.CutBlock
import Derived.Deep.RegionHeld3
import Derived.Laws.Rows
import Derived.Lib.AppendStr
import Derived.ArgAppend
import Derived.Laws.IdiomCopy
import Derived.OrdersHeld
import Derived.Laws.BitsLemmas
import Derived.RowKit
import Derived.Test.YtmdnomeelkmaoaaDoorWWords
import Derived.Test.YtmdnomeelkmaoaaDoorWLast
import Derived.Test.YtmdnomeelkmaoaaDoorWTab
import Derived.Test.YtmdnomeelkmaoaaDoorWFour
import Derived.Test.YtmdnomeelkmaoaaDoorWQPut
import Derived.Test.YtmdnomeelkmaoaaDoorWApart
import Derived.Test.YtmdnomeelkmaoaaDoorWArr
import Derived.Test.YtmdnomeelkmaoaaDoorWZeros
import Derived.Test.YtmdnomeelkmaoaaDoorWFoot
import Derived.Test.YtmdnomeelkmaoaaDoorWKept
import Derived.Test.YtmdnomeelkmaoaaDoorWShare
import Derived.Test.YtmdnomeelkmaoaaDoorWN
import Derived.Test.YtmdnomeelkmaoaaDoorWFootNe
import Derived.Test.YtmdnomeelkmaoaaDoorWAt
import Derived.Test.YtmdnomeelkmaoaaDoorWEqStruct
import Derived.Test.YtmdnomeelkmaoaaDoorWRepsOne
import Derived.Test.YtmdnomeelkmaoaaDoorWInv
import Derived.Test.YtmdnomeelkmaoaaDoorWInvWords
import Derived.Test.YtmdnomeelkmaoaaDoorWGuard
import Derived.Test.YtmdnomeelkmaoaaDoorWNEv
import Derived.Test.YtmdnomeelkmaoaaDoorWMore
import Derived.Test.YtmdnomeelkmaoaaDoorVBase
namespace Go.Proofs.YtmdnomeelkmaoaaDoor.Pv
open Go.RowKit Go.Proofs.YtmdnomeelkmaoaaDoorV Go.Proofs.YtmdnomeelkmaoaaDoorW.PrintWords Go.Proofs.YtmdnomeelkmaoaaDoorW.PrintLast Go.Proofs.YtmdnomeelkmaoaaDoorW.PrintMore
attribute [local go_sem] max2_int min2_int max_two min_two max_three min_three max_four min_four   -- for this text's walks alone
set_option linter.unusedVariables false
set_option linter.unusedSimpArgs false



def errW : Option Int → Value
  | none => .nilIface
  | some c => .iface 0 (.int .i64 c)
theorem errW_none : errW none = .nilIface := rfl
theorem errW_some (c : Int) : errW (some c) = .iface 0 (.int .i64 c) := rfl

theorem info9 : (Tryd.prog.info? 9).map (fun i => (i.zero, i.size, i.bytes)) = some (some (.string ⟨#[]⟩), 1, 16) := by kernel_rfl
-- the values' own types

end Go.Proofs.YtmdnomeelkmaoaaDoor.Pv
