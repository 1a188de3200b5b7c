/- The law's proof: words, contracts of the functions that it reaches, plain lemmas. -/
import Derived.Test.YteofihmeiikhbaaDoorRows
import Derived.Test.YteofihmeiikhbaaDoorSb20
import Derived.Test.YteofihmeiikhbaaDoorSb7
import Derived.WalkKit
import Derived.ProofKit
import Derived.OpenShut
import Derived.ShutString
import Derived.ChangeOld
import Derived.Below
import Derived.SizedLaws
section
/- What is to be shown of deckle/decklelaw13.SnapBack, without memory. -/
namespace Go.Proofs.YteofihmeiikhbaaDoor.snapBack
open Go.ChangeShapes Go.WideShapes Go.ChangeAt Go.RowKit Go.Proofs.YteofihmeiikhbaaDoor.Opening Go.Proofs.YteofihmeiikhbaaDoorW.PrintWords Go.Proofs.YteofihmeiikhbaaDoor.PG
open Go.ChangeMaps (open_string shut_string)
set_option linter.unusedVariables false
set_option linter.unusedSimpArgs false
def wf3 (x : Int) : Prop := (Lit.int .i64 x).wf = true
def wf9 (x : ByteArray) : Prop := x.size ≤ 140737488351232
/-- The one statement over numbers and lists alone. -/
def Pure : Prop := ∀ (a0_0 : Int) (a0_1 : Int) (a0_2 : Int) (a0_3 : Int) (a0_4 : Int) (a0_5 : Int) (l1_0 : (List Int)) (l1_1 : (List Int)) (l1_2 : (List Int)) (l1_3 : (List Int)) (l2 : (List ByteArray)), (Lit.int .i64 a0_0).wf = true → (Lit.int .i64 a0_1).wf = true → (Lit.int .i64 a0_2).wf = true → (Lit.int .i64 a0_3).wf = true → (Lit.int .i64 a0_4).wf = true → (Lit.int .i64 a0_5).wf = true → (l1_0.length ≤ maxLen ∧ l1_0.length * 8 ≤ 140737488351232 ∧ ∀ y ∈ l1_0, wf3 y) → (l1_1.length ≤ maxLen ∧ l1_1.length * 8 ≤ 140737488351232 ∧ ∀ y ∈ l1_1, wf3 y) → (l1_2.length ≤ maxLen ∧ l1_2.length * 8 ≤ 140737488351232 ∧ ∀ y ∈ l1_2, wf3 y) → (l1_3.length ≤ maxLen ∧ l1_3.length * 8 ≤ 140737488351232 ∧ ∀ y ∈ l1_3, wf3 y) → (l2.length ≤ maxLen ∧ l2.length * 16 ≤ 140737488351232 ∧ ∀ y ∈ l2, wf9 y) → decklelaw13_SnapBack.f a0_0 a0_1 a0_2 a0_3 a0_4 a0_5 l1_0 l1_1 l1_2 l1_3 l2 = some true
end Go.Proofs.YteofihmeiikhbaaDoor.snapBack
end

section
/- SnapBack in plain Lean: its contract speaks of every input that lies in memory. -/
namespace Go.Proofs.YteofihmeiikhbaaDoor.snapBack
open Go.RowKit Go.Proofs.YteofihmeiikhbaaDoorW.PrintWords Go.Proofs.YteofihmeiikhbaaDoor.PG

theorem pure : Pure := by
  unfold Pure
  intro a0 a1 a2 a3 a4 a5 l0 l1 l2 l3 m h0 h1 _ _ _ _ k0 k1 k2 k3
  intros
  exact if_pos ⟨⟨h0, h1⟩, by omega⟩
end Go.Proofs.YteofihmeiikhbaaDoor.snapBack
end
