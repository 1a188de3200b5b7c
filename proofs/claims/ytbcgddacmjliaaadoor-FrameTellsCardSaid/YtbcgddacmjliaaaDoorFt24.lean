/- The law's proof: words, contracts of the functions that it reaches, plain lemmas. -/
import Derived.Test.YtbcgddacmjliaaaDoorRows
import Derived.Test.YtbcgddacmjliaaaDoorFt22
import Derived.Test.YtbcgddacmjliaaaDoorFt6
import Derived.WalkKit
import Derived.ProofKit
import Derived.OpenShut
import Derived.ShutString
import Derived.ChangeOld
import Derived.Below
import Derived.SizedLaws
import Derived.Test.YtbcgddacmjliaaaDoorFt23
section
/- What is to be shown of deckle/decklelaw05.FrameTells, without memory. -/
namespace Go.Proofs.YtbcgddacmjliaaaDoor.frameTells
open Go.ChangeShapes Go.WideShapes Go.ChangeAt Go.RowKit Go.Proofs.YtbcgddacmjliaaaDoor.Opening Go.Proofs.YtbcgddacmjliaaaDoorW.PrintWords Go.Proofs.YtbcgddacmjliaaaDoor.PF
open Go.ChangeMaps (open_string shut_string)
set_option linter.unusedVariables false
set_option linter.unusedSimpArgs false
/-- The one statement over numbers and lists alone. -/
def Pure : Prop := ∀ (a0_0 : Int) (a0_1 : Int) (a0_2 : Int) (a0_3 : Int) (a1 : ByteArray) (a2_0 : Int) (a2_1 : Int) (a2_2 : Int) (a2_3 : Int), (Lit.int .i64 a0_0).wf = true → (Lit.int .i64 a0_1).wf = true → (Lit.int .i64 a0_2).wf = true → (Lit.int .i64 a0_3).wf = true → a1.size ≤ 140737488351232 → (Lit.int .i64 a2_0).wf = true → (Lit.int .i64 a2_1).wf = true → (Lit.int .i64 a2_2).wf = true → (Lit.int .i64 a2_3).wf = true → ∃ k, decklelaw05_FrameTells.f k a0_0 a0_1 a0_2 a0_3 a1 a2_0 a2_1 a2_2 a2_3 = some true
end Go.Proofs.YtbcgddacmjliaaaDoor.frameTells
end

section
/- FrameTells in plain Lean. -/
namespace Go.Proofs.YtbcgddacmjliaaaDoor.frameTells
open Go.RowKit Go.Proofs.YtbcgddacmjliaaaDoorW.PrintWords Go.Proofs.YtbcgddacmjliaaaDoor.PF

theorem pure : Pure := by
  unfold Pure
  intros
  exact frameTells_true _ _ _ _ _ _ _ _ _
end Go.Proofs.YtbcgddacmjliaaaDoor.frameTells
end
