/- The law's proof: words, contracts of the functions that it reaches, plain lemmas. -/
import Derived.Test.YtliiploidjnmnaaDoorRows
import Derived.Test.YtliiploidjnmnaaDoorCt25
import Derived.Test.YtliiploidjnmnaaDoorCt6
import Derived.WalkKit
import Derived.ProofKit
import Derived.OpenShut
import Derived.ShutString
import Derived.ChangeOld
import Derived.Below
import Derived.SizedLaws
section
/- What is to be shown of deckle/decklelaw08.CellTwoPass, without memory. -/
namespace Go.Proofs.YtliiploidjnmnaaDoor.cellTwoPass
open Go.ChangeShapes Go.WideShapes Go.ChangeAt Go.RowKit Go.Proofs.YtliiploidjnmnaaDoor.Opening Go.Proofs.YtliiploidjnmnaaDoorW.PrintWords Go.Proofs.YtliiploidjnmnaaDoor.PF
open Go.ChangeMaps (open_string shut_string)
set_option linter.unusedVariables false
set_option linter.unusedSimpArgs false
/-- The one statement over numbers and lists alone. -/
def Pure : Prop := ∀ (a0 : Int) (a1 : Int) (a2_0 : Int) (a2_1 : Int) (a2_2 : Int) (a2_3 : Int), (Lit.int .i64 a0).wf = true → (Lit.int .i64 a1).wf = true → (Lit.int .i64 a2_0).wf = true → (Lit.int .i64 a2_1).wf = true → (Lit.int .i64 a2_2).wf = true → (Lit.int .i64 a2_3).wf = true → decklelaw08_CellTwoPass.f a0 a1 a2_0 a2_1 a2_2 a2_3 = some true
end Go.Proofs.YtliiploidjnmnaaDoor.cellTwoPass
end

section
/- CellTwoPass in plain Lean. -/
namespace Go.Proofs.YtliiploidjnmnaaDoor.cellTwoPass
open Go.RowKit Go.Proofs.YtliiploidjnmnaaDoorW.PrintWords Go.Proofs.YtliiploidjnmnaaDoor.PF

theorem pure : Pure := by
  unfold Pure
  intros
  exact rfl
end Go.Proofs.YtliiploidjnmnaaDoor.cellTwoPass
end
