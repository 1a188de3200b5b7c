/- The law's proof: words, contracts of the functions that it reaches, plain lemmas. -/
import Derived.Test.YtbcgddacmjliaaaDoorRows
import Derived.Test.YtbcgddacmjliaaaDoorFd23
import Derived.Test.YtbcgddacmjliaaaDoorFd6
import Derived.WalkKit
import Derived.ProofKit
import Derived.OpenShut
import Derived.ShutString
import Derived.ChangeOld
import Derived.Below
import Derived.SizedLaws
section
/- What is to be shown of deckle/decklelaw05.FrameDecodes, without memory. -/
namespace Go.Proofs.YtbcgddacmjliaaaDoor.frameDecodes
open Go.ChangeShapes Go.WideShapes Go.ChangeAt Go.RowKit Go.Proofs.YtbcgddacmjliaaaDoor.Opening Go.Proofs.YtbcgddacmjliaaaDoorW.PrintWords Go.Proofs.YtbcgddacmjliaaaDoor.PF
open Go.ChangeMaps (open_string shut_string)
set_option linter.unusedVariables false
set_option linter.unusedSimpArgs false
/-- The one statement over numbers and lists alone. -/
def Pure : Prop := ∀ (a0 : ByteArray), a0.size ≤ 140737488351232 → ∃ k, decklelaw05_FrameDecodes.f k a0 = some true
end Go.Proofs.YtbcgddacmjliaaaDoor.frameDecodes
end

section
/- FrameDecodes in plain Lean. -/
namespace Go.Proofs.YtbcgddacmjliaaaDoor.frameDecodes
open Go.RowKit Go.Proofs.YtbcgddacmjliaaaDoorW.PrintWords Go.Proofs.YtbcgddacmjliaaaDoor.PF

theorem pure : Pure := by
  unfold Pure
  intros
  exact frameDecodes_true _
end Go.Proofs.YtbcgddacmjliaaaDoor.frameDecodes
end
