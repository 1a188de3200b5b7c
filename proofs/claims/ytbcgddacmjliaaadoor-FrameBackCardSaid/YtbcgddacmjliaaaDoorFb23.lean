/- The law's proof: words, contracts of the functions that it reaches, plain lemmas. -/
import Derived.Test.YtbcgddacmjliaaaDoorRows
import Derived.Test.YtbcgddacmjliaaaDoorFb22
import Derived.Test.YtbcgddacmjliaaaDoorFb6
import Derived.WalkKit
import Derived.ProofKit
import Derived.OpenShut
import Derived.ShutString
import Derived.ChangeOld
import Derived.Below
import Derived.SizedLaws
section
/- What is to be shown of deckle/decklelaw05.FrameBack, without memory. -/
namespace Go.Proofs.YtbcgddacmjliaaaDoor.frameBack
open Go.ChangeShapes Go.WideShapes Go.ChangeAt Go.RowKit Go.Proofs.YtbcgddacmjliaaaDoor.Opening Go.Proofs.YtbcgddacmjliaaaDoorW.PrintWords Go.Proofs.YtbcgddacmjliaaaDoor.PF
open Go.ChangeMaps (open_string shut_string)
set_option linter.unusedVariables false
set_option linter.unusedSimpArgs false
/-- The one statement over numbers and lists alone. -/
def Pure : Prop := ∀ (a0_0 : Int) (a0_1 : Int) (a0_2 : Int) (a0_3 : Int) (a1 : ByteArray), (Lit.int .i64 a0_0).wf = true → (Lit.int .i64 a0_1).wf = true → (Lit.int .i64 a0_2).wf = true → (Lit.int .i64 a0_3).wf = true → a1.size ≤ 140737488351232 → decklelaw05_FrameBack.f a0_0 a0_1 a0_2 a0_3 a1 = some true
end Go.Proofs.YtbcgddacmjliaaaDoor.frameBack
end

section
/- FrameBack: its contract speaks of every input. -/
namespace Go.Proofs.YtbcgddacmjliaaaDoor.frameBack
open Go.RowKit Go.Proofs.YtbcgddacmjliaaaDoorW.PrintWords Go.Proofs.YtbcgddacmjliaaaDoor.PF

theorem pure : Pure := by
  unfold Pure
  intros
  exact frameBack_true _ _ _ _ _
end Go.Proofs.YtbcgddacmjliaaaDoor.frameBack
end
