-- Written by a program (the kit's print.py, called by wip/bin/prseat.sh, mended by wip/bin/mend.py).
import Derived.Test.YtcoojeeblgpfjaaProg
import Derived.Below
import Derived.Deep.Draws
import Derived.Deep.AppendLies
import Derived.Maps.AppendAt
import Derived.OwnWalk
import Derived.Laws.BytesArg
import Derived.Laws.MakeOwn
import Derived.Laws.OwnMore
import Derived.Deep.OwnRows
import Derived.Tactics
import Derived.Lib.ConvBytes
import Derived.Laws.Slices
import Derived.WalkKit
import Derived.KernelRfl
import Derived.RowKit3
import Derived.Deep.LoopGhost
import Derived.Deep.QuietTactic
import Derived.BigQuiet
import Derived.WideLaws
import Derived.Deep.DeepCutAuto
import Derived.Deep.CutBlock
import Derived.Deep.RegionHeld3
import Derived.Laws.Rows
import Derived.Lib.AppendStr
import Derived.ArgAppend
import Derived.Laws.IdiomCopy
import Derived.OrdersHeld
import Derived.Laws.BitsLemmas
import Derived.RowKit
import Derived.Test.YtcoojeeblgpfjaaWWords
import Derived.Test.YtcoojeeblgpfjaaWLast
import Derived.Test.YtcoojeeblgpfjaaWTab
import Derived.Test.YtcoojeeblgpfjaaWFour
import Derived.Test.YtcoojeeblgpfjaaWQPut
import Derived.Test.YtcoojeeblgpfjaaWApart
import Derived.Test.YtcoojeeblgpfjaaWArr
import Derived.Test.YtcoojeeblgpfjaaWZeros
import Derived.Test.YtcoojeeblgpfjaaWFoot
import Derived.Test.YtcoojeeblgpfjaaWKept
import Derived.Test.YtcoojeeblgpfjaaWShare
import Derived.Test.YtcoojeeblgpfjaaWN
import Derived.Test.YtcoojeeblgpfjaaWFootNe
import Derived.Test.YtcoojeeblgpfjaaWAt
import Derived.Test.YtcoojeeblgpfjaaWEqStruct
import Derived.Test.YtcoojeeblgpfjaaWRepsOne
import Derived.Test.YtcoojeeblgpfjaaWInv
import Derived.Test.YtcoojeeblgpfjaaWInvWords
import Derived.Test.YtcoojeeblgpfjaaWGuard
import Derived.Test.YtcoojeeblgpfjaaWNEv
import Derived.Test.YtcoojeeblgpfjaaWMore
namespace Go.Proofs.Ytcoojeeblgpfjaa.PC
open Go.RowKit Go.Proofs.YtcoojeeblgpfjaaW.PrintWords Go.Proofs.YtcoojeeblgpfjaaW.PrintLast Go.Proofs.YtcoojeeblgpfjaaW.PrintMore
attribute [local go_sem] max2_int min2_int max_two min_two max_three min_three max_four min_four   -- for this text's walks alone
set_option linter.unusedVariables false
set_option linter.unusedSimpArgs false



def errW : Option Int → Value
  | none => .nilIface
  | some c => .iface 0 (.int .i64 c)
theorem errW_none : errW none = .nilIface := rfl
theorem errW_some (c : Int) : errW (some c) = .iface 0 (.int .i64 c) := rfl

theorem info4 : (Try.prog.info? 4).map (fun i => (i.zero, i.size, i.bytes)) = some (some (.bool false), 1, 1) := by kernel_rfl
-- the values' own types

end Go.Proofs.Ytcoojeeblgpfjaa.PC
