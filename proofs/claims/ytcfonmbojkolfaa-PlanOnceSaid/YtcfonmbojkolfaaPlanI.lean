/- Package plan, by hand: the steps of six lines. -/
import Derived.Test.YtcfonmbojkolfaaProg
import Derived.Below
import Derived.Carry
import Derived.Deep.Draws
import Derived.Deep.AppendLies
import Derived.Maps.AppendAt
import Derived.OwnWalk
import Derived.Laws.BytesArg
import Derived.Laws.MakeOwn
import Derived.Laws.OwnMore
import Derived.Deep.OwnRows
import Derived.Tactics
import Derived.Lib.ConvBytes
import Derived.Laws.Slices
import Derived.WalkKit
import Derived.KernelRfl
import Derived.RowKit3
import Derived.Deep.LoopGhost
import Derived.Deep.QuietTactic
import Derived.BigQuiet
import Derived.WideLaws
import Derived.Deep.DeepCutAuto
import Derived.Deep.CutBlock
import Derived.Deep.RegionHeld3
import Derived.Deep.RegionWith
import Derived.Laws.Rows
import Derived.Lib.AppendStr
import Derived.ArgAppend
import Derived.Laws.IdiomCopy
import Derived.OrdersHeld
import Derived.Laws.BitsLemmas
import Derived.Outline
import Derived.RegionTactic
import Derived.Lib.Hide
import Derived.StillTailTactics
import Derived.Deep.RegionWith
import Derived.OpenShut
import Derived.Test.YtcfonmbojkolfaaWWords
import Derived.Test.YtcfonmbojkolfaaPlanG
import Derived.Test.YtcfonmbojkolfaaPNx5
import Derived.Lib.BufferMore
import Derived.Lib.LazyBuf
set_option linter.unusedVariables false
set_option linter.unusedSimpArgs false
namespace Go.Proofs.Ytcfonmbojkolfaa.Plan
open Go.RowKit Go.Proofs.YtcfonmbojkolfaaW.PrintWords Go.Proofs.Ytcfonmbojkolfaa.PN
/-- The steps of six lines: each line once foggy, once fine. -/
def six : List (Int × Bool) := [(0, false), (1, false), (0, true), (2, false), (1, true), (3, false), (2, true), (4, false), (3, true), (5, false), (4, true), (5, true)]
theorem at_six : ∀ k : Fin 12, order_At.f 8 6 (k.val : Nat) = some ((six.getD k.val (0, false)).1, (six.getD k.val (0, false)).2, 0) := by decide +kernel
theorem at_end : order_At.f 8 6 12 = some (0, false, 1) := by kernel_rfl
theorem six_line : ∀ k : Fin 12, 0 ≤ (six.getD k.val (0, false)).1 ∧ (six.getD k.val (0, false)).1 < 6 := by decide
end Go.Proofs.Ytcfonmbojkolfaa.Plan
