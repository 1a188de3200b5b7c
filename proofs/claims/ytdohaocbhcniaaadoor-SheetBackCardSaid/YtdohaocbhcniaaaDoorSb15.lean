/- The law's proof: words, contracts of the functions that it reaches, plain lemmas. -/
import Derived.Test.YtdohaocbhcniaaaDoorRows
import Derived.Test.YtdohaocbhcniaaaDoorSb14
import Derived.Test.YtdohaocbhcniaaaDoorSb7
import Derived.WalkKit
import Derived.ProofKit
import Derived.OpenShut
import Derived.ShutString
import Derived.ChangeOld
import Derived.Below
import Derived.SizedLaws
section
/- What is to be shown of deckle/decklelaw12.SheetBack, without memory. -/
namespace Go.Proofs.YtdohaocbhcniaaaDoor.sheetBack
open Go.ChangeShapes Go.WideShapes Go.ChangeAt Go.RowKit Go.Proofs.YtdohaocbhcniaaaDoor.Opening Go.Proofs.YtdohaocbhcniaaaDoorW.PrintWords Go.Proofs.YtdohaocbhcniaaaDoor.PG
open Go.ChangeMaps (open_string shut_string)
set_option linter.unusedVariables false
set_option linter.unusedSimpArgs false
def wf3 (x : Int) : Prop := (Lit.int .i64 x).wf = true
def wf30 (x : S30) : Prop := ((Lit.int .i64 x.f0).wf = true) ∧ ((Lit.int .i64 x.f1).wf = true) ∧ ((Lit.int .i64 x.f2).wf = true)
/-- The one statement over numbers and lists alone. -/
def Pure : Prop := ∀ (l0 : (List S30)) (a1 : Int), (l0.length ≤ maxLen ∧ l0.length * 24 ≤ 140737488351232 ∧ ∀ y ∈ l0, wf30 y) → (Lit.int .i64 a1).wf = true → decklelaw12_SheetBack.f l0 a1 = some true
end Go.Proofs.YtdohaocbhcniaaaDoor.sheetBack
end

section
/- SheetBack in plain Lean. -/
namespace Go.Proofs.YtdohaocbhcniaaaDoor.sheetBack
open Go.RowKit Go.Proofs.YtdohaocbhcniaaaDoorW.PrintWords Go.Proofs.YtdohaocbhcniaaaDoor.PG

theorem pure : Pure := by
  unfold Pure
  intros
  exact rfl
end Go.Proofs.YtdohaocbhcniaaaDoor.sheetBack
end
