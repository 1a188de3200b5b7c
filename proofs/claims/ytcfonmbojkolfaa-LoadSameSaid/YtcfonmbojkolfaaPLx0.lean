-- Written by a program (the kit's print.py, called by wip/bin/prseat.sh, mended by wip/bin/mend.py).
import Derived.Test.YtcfonmbojkolfaaProg
import Derived.Below
import Derived.Deep.Draws
import Derived.Deep.AppendLies
import Derived.Maps.AppendAt
import Derived.OwnWalk
import Derived.Laws.BytesArg
import Derived.Laws.MakeOwn
import Derived.Laws.OwnMore
import Derived.Deep.OwnRows
import Derived.Tactics
import Derived.Lib.ConvBytes
import Derived.Laws.Slices
import Derived.WalkKit
import Derived.KernelRfl
import Derived.RowKit3
import Derived.Deep.LoopGhost
import Derived.Deep.QuietTactic
import Derived.BigQuiet
import Derived.WideLaws
import Derived.Deep.DeepCutAuto
import Derived.Deep.CutBlock
import Derived.Deep.RegionHeld3
import Derived.Laws.Rows
import Derived.Lib.AppendStr
import Derived.ArgAppend
import Derived.Laws.IdiomCopy
import Derived.OrdersHeld
import Derived.Laws.BitsLemmas
import Derived.RowKit
import Derived.Test.YtcfonmbojkolfaaWWords
import Derived.Test.YtcfonmbojkolfaaWLast
import Derived.Test.YtcfonmbojkolfaaWTab
import Derived.Test.YtcfonmbojkolfaaWFour
import Derived.Test.YtcfonmbojkolfaaWQPut
import Derived.Test.YtcfonmbojkolfaaWApart
import Derived.Test.YtcfonmbojkolfaaWArr
import Derived.Test.YtcfonmbojkolfaaWZeros
import Derived.Test.YtcfonmbojkolfaaWFoot
import Derived.Test.YtcfonmbojkolfaaWKept
import Derived.Test.YtcfonmbojkolfaaWShare
import Derived.Test.YtcfonmbojkolfaaWN
import Derived.Test.YtcfonmbojkolfaaWFootNe
import Derived.Test.YtcfonmbojkolfaaWAt
import Derived.Test.YtcfonmbojkolfaaWEqStruct
import Derived.Test.YtcfonmbojkolfaaWRepsOne
import Derived.Test.YtcfonmbojkolfaaWInv
import Derived.Test.YtcfonmbojkolfaaWInvWords
import Derived.Test.YtcfonmbojkolfaaWGuard
import Derived.Test.YtcfonmbojkolfaaWNEv
import Derived.Test.YtcfonmbojkolfaaWMore
namespace Go.Proofs.Ytcfonmbojkolfaa.PL
open Go.RowKit Go.Proofs.YtcfonmbojkolfaaW.PrintWords Go.Proofs.YtcfonmbojkolfaaW.PrintLast Go.Proofs.YtcfonmbojkolfaaW.PrintMore
attribute [local go_sem] max2_int min2_int max_two min_two max_three min_three max_four min_four   -- for this text's walks alone
set_option linter.unusedVariables false
set_option linter.unusedSimpArgs false



def errW : Option Int → Value
  | none => .nilIface
  | some c => .iface 0 (.int .i64 c)
theorem errW_none : errW none = .nilIface := rfl
theorem errW_some (c : Int) : errW (some c) = .iface 0 (.int .i64 c) := rfl

theorem info4 : (Try.prog.info? 4).map (fun i => (i.zero, i.size, i.bytes)) = some (some (.bool false), 1, 1) := by kernel_rfl
-- the values' own types

end Go.Proofs.Ytcfonmbojkolfaa.PL
