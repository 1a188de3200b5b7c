/- What is to be shown of deckle/decklelaw14.StateOrder, without memory. -/
import Derived.Test.YtiblpienmkjmgaaRows
import Derived.Test.YtiblpienmkjmgaaStateM
import Derived.Test.YtiblpienmkjmgaaOpen
import Derived.WalkKit
import Derived.ProofKit
import Derived.OpenShut
import Derived.ShutString
import Derived.ChangeOld
import Derived.Below
import Derived.SizedLaws
namespace Go.Proofs.Ytiblpienmkjmgaa.stateOrder
open Go.ChangeShapes Go.WideShapes Go.ChangeAt Go.RowKit Go.Proofs.Ytiblpienmkjmgaa.Opening Go.Proofs.YtiblpienmkjmgaaW.PrintWords Go.Proofs.Ytiblpienmkjmgaa.StateA Go.Proofs.Ytiblpienmkjmgaa.PS
open Go.ChangeMaps (open_string shut_string)
set_option linter.unusedVariables false
set_option linter.unusedSimpArgs false
def wf3 (x : Int) : Prop := (Lit.int .i64 x).wf = true
def wf73 (x : S73) : Prop := ((Lit.int .i64 x.f0).wf = true) ∧ ((Lit.int .i64 x.f1).wf = true) ∧ ((Lit.int .i64 x.f2).wf = true)
/-- The one statement over numbers and lists alone. -/
def Pure : Prop := ∀ (l0 : (List S73)) (a1 : Int), (l0.length ≤ maxLen ∧ l0.length * 24 ≤ 140737488351232 ∧ ∀ y ∈ l0, wf73 y) → (Lit.int .i64 a1).wf = true → decklelaw14_StateOrder.f l0 a1 = some true
end Go.Proofs.Ytiblpienmkjmgaa.stateOrder
