/- Package plan, by hand: Moves. -/
import Derived.Test.YtcfonmbojkolfaaProg
import Derived.Below
import Derived.Carry
import Derived.Deep.Draws
import Derived.Deep.AppendLies
import Derived.Maps.AppendAt
import Derived.OwnWalk
import Derived.Laws.BytesArg
import Derived.Laws.MakeOwn
import Derived.Laws.OwnMore
import Derived.Deep.OwnRows
import Derived.Tactics
import Derived.Lib.ConvBytes
import Derived.Laws.Slices
import Derived.WalkKit
import Derived.KernelRfl
import Derived.RowKit3
import Derived.Deep.LoopGhost
import Derived.Deep.QuietTactic
import Derived.BigQuiet
import Derived.WideLaws
import Derived.Deep.DeepCutAuto
import Derived.Deep.CutBlock
import Derived.Deep.RegionHeld3
import Derived.Deep.RegionWith
import Derived.Laws.Rows
import Derived.Lib.AppendStr
import Derived.ArgAppend
import Derived.Laws.IdiomCopy
import Derived.OrdersHeld
import Derived.Laws.BitsLemmas
import Derived.Outline
import Derived.RegionTactic
import Derived.Lib.Hide
import Derived.StillTailTactics
import Derived.Deep.RegionWith
import Derived.OpenShut
import Derived.Test.YtcfonmbojkolfaaWWords
import Derived.Test.YtcfonmbojkolfaaPlanG
import Derived.Test.YtcfonmbojkolfaaPNx5
import Derived.Lib.BufferMore
import Derived.Lib.LazyBuf
set_option linter.unusedVariables false
set_option linter.unusedSimpArgs false
namespace Go.Proofs.Ytcfonmbojkolfaa.Plan
open Go.RowKit Go.Proofs.YtcfonmbojkolfaaW.PrintWords Go.Proofs.Ytcfonmbojkolfaa.Mem Go.Proofs.Ytcfonmbojkolfaa.Own Go.Proofs.Ytcfonmbojkolfaa.Maps Go.Proofs.Ytcfonmbojkolfaa.PN

/-- The box of a plan. -/
abbrev BoxP (b g : Nat) : Asn := Pt b (.cells #[.pointer (some ⟨g, 0, none⟩)] 28)
section
variable {w0 w : World} {L : List Asn} {g c r : Nat} {A : Option Addr} {S : PlS}
set_option maxHeartbeats 2000000 in
set_option maxRecDepth 100000 in
theorem moves_own (HO : Own w0 w L) : Calls Try.prog 13 #[.pointer (some ⟨g, 0, none⟩)] w fun e w' => ∃ b, e = .returned (.func (.func 39) #[] #[.pointer (some ⟨b, 0, none⟩)]) ∧ Own w0 w' (BoxP b g :: L) := by
  have HA := Aside0.mk (HO.alloc (.cells #[.pointer (some ⟨g, 0, none⟩)] 28))
  clear HO
  go_enter Try.func13, Try.ntmps13
  go_wp2_with fail
  go_ret
  exact ⟨_, rfl, HA.out⟩
end
end Go.Proofs.Ytcfonmbojkolfaa.Plan
