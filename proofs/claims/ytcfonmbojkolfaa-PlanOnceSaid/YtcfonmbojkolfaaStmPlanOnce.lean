/- What is to be shown of deckle/decklelaw25.PlanOnce, without memory. -/
import Derived.Test.YtcfonmbojkolfaaRows
import Derived.Test.YtcfonmbojkolfaaPlanL
import Derived.Test.YtcfonmbojkolfaaOpen
import Derived.WalkKit
import Derived.ProofKit
import Derived.OpenShut
import Derived.ShutString
import Derived.ChangeOld
import Derived.Below
import Derived.SizedLaws
namespace Go.Proofs.Ytcfonmbojkolfaa.planOnce
open Go.ChangeShapes Go.WideShapes Go.ChangeAt Go.RowKit Go.Proofs.Ytcfonmbojkolfaa.Opening Go.Proofs.YtcfonmbojkolfaaW.PrintWords Go.Proofs.Ytcfonmbojkolfaa.Plan Go.Proofs.Ytcfonmbojkolfaa.PN
open Go.ChangeMaps (open_string shut_string)
set_option linter.unusedVariables false
set_option linter.unusedSimpArgs false
def wf3 (x : Int) : Prop := (Lit.int .i64 x).wf = true
def wf27 (x : S27) : Prop := ((Lit.int .i64 x.f0).wf = true) ∧ ((Lit.int .i64 x.f1).wf = true) ∧ ((Lit.int .i64 x.f2).wf = true)
/-- The one statement over numbers and lists alone. -/
def Pure : Prop := ∀ (l0 : (List S27)) (a1 : Int), (l0.length ≤ maxLen ∧ l0.length * 24 ≤ 140737488351232 ∧ ∀ y ∈ l0, wf27 y) → (Lit.int .i64 a1).wf = true → decklelaw25_PlanOnce.f l0 a1 = some true
end Go.Proofs.Ytcfonmbojkolfaa.planOnce
