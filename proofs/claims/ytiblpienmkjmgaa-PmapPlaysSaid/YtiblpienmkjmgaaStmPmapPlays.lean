/- What is to be shown of deckle/decklelaw19.PmapPlays, without memory. -/
import Derived.Test.YtiblpienmkjmgaaRows
import Derived.Test.YtiblpienmkjmgaaPmapT
import Derived.Test.YtiblpienmkjmgaaOpen
import Derived.WalkKit
import Derived.ProofKit
import Derived.OpenShut
import Derived.ShutString
import Derived.ChangeOld
import Derived.Below
import Derived.SizedLaws
namespace Go.Proofs.Ytiblpienmkjmgaa.pmapPlays
open Go.ChangeShapes Go.WideShapes Go.ChangeAt Go.RowKit Go.Proofs.Ytiblpienmkjmgaa.Opening Go.Proofs.YtiblpienmkjmgaaW.PrintWords Go.Proofs.Ytiblpienmkjmgaa.Pmap Go.Proofs.Ytiblpienmkjmgaa.PM
open Go.ChangeMaps (open_string shut_string)
set_option linter.unusedVariables false
set_option linter.unusedSimpArgs false
def wf3 (x : Int) : Prop := (Lit.int .i64 x).wf = true
def wf24 (x : S24) : Prop := ((Lit.int .i64 x.f0).wf = true) ∧ ((Lit.int .i64 x.f1).wf = true) ∧ ((Lit.int .i64 x.f2).wf = true)
def wf46 (x : S46) : Prop := ((Lit.int .i64 x.f0).wf = true) ∧ ((Lit.int .i64 x.f1).wf = true) ∧ (((Lit.int .i64 x.f2.f0).wf = true) ∧ ((Lit.int .i64 x.f2.f1).wf = true) ∧ ((Lit.int .i64 x.f2.f2).wf = true)) ∧ (((Lit.int .i64 x.f3.f0).wf = true) ∧ ((Lit.int .i64 x.f3.f1).wf = true) ∧ ((Lit.int .i64 x.f3.f2).wf = true))
/-- The one statement over numbers and lists alone. -/
def Pure : Prop := ∀ (a0_0 : Int) (a0_1 : Int) (a0_2 : Int) (a0_3 : Int) (a0_4 : Int) (a0_5 : Int) (l1 : (List S46)), (Lit.int .i64 a0_0).wf = true → (Lit.int .i64 a0_1).wf = true → (Lit.int .i64 a0_2).wf = true → (Lit.int .i64 a0_3).wf = true → (Lit.int .i64 a0_4).wf = true → (Lit.int .i64 a0_5).wf = true → (l1.length ≤ maxLen ∧ l1.length * 64 ≤ 140737488351232 ∧ ∀ y ∈ l1, wf46 y) → decklelaw19_PmapPlays.f a0_0 a0_1 a0_2 a0_3 a0_4 a0_5 l1 = some true
end Go.Proofs.Ytiblpienmkjmgaa.pmapPlays
