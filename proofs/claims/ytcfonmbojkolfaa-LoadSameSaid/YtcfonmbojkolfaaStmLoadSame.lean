/- What is to be shown of deckle/decklelaw41.LoadSame, without memory. -/
import Derived.Test.YtcfonmbojkolfaaRows
import Derived.Test.YtcfonmbojkolfaaLoadL
import Derived.Test.YtcfonmbojkolfaaOpen
import Derived.WalkKit
import Derived.ProofKit
import Derived.OpenShut
import Derived.ShutString
import Derived.ChangeOld
import Derived.Below
import Derived.SizedLaws
namespace Go.Proofs.Ytcfonmbojkolfaa.loadSame
open Go.ChangeShapes Go.WideShapes Go.ChangeAt Go.RowKit Go.Proofs.Ytcfonmbojkolfaa.Opening Go.Proofs.YtcfonmbojkolfaaW.PrintWords Go.Proofs.Ytcfonmbojkolfaa.LoadA Go.Proofs.Ytcfonmbojkolfaa.PL
open Go.ChangeMaps (open_string shut_string)
set_option linter.unusedVariables false
set_option linter.unusedSimpArgs false
/-- The one statement over numbers and lists alone. -/
def Pure : Prop := ∀ (a0 : Int) (a1 : Int) (a2 : Int), (Lit.int .u64 a0).wf = true → (Lit.int .i64 a1).wf = true → (Lit.int .i64 a2).wf = true → decklelaw41_LoadSame.f a0 a1 a2 = some true
end Go.Proofs.Ytcfonmbojkolfaa.loadSame
