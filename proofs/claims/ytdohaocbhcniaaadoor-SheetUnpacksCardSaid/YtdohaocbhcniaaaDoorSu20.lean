/- The law's proof: words, contracts of the functions that it reaches, plain lemmas. -/
import Derived.Test.YtdohaocbhcniaaaDoorRows
import Derived.Test.YtdohaocbhcniaaaDoorSu19
import Derived.Test.YtdohaocbhcniaaaDoorSu8
import Derived.WalkKit
import Derived.ProofKit
import Derived.OpenShut
import Derived.ShutString
import Derived.ChangeOld
import Derived.Below
import Derived.SizedLaws
section
/- What is to be shown of deckle/decklelaw12.SheetUnpacks, without memory. -/
namespace Go.Proofs.YtdohaocbhcniaaaDoor.sheetUnpacks
open Go.ChangeShapes Go.WideShapes Go.ChangeAt Go.RowKit Go.Proofs.YtdohaocbhcniaaaDoor.Opening Go.Proofs.YtdohaocbhcniaaaDoorW.PrintWords Go.Proofs.YtdohaocbhcniaaaDoor.PG
open Go.ChangeMaps (open_string shut_string)
set_option linter.unusedVariables false
set_option linter.unusedSimpArgs false
def wf9 (x : ByteArray) : Prop := x.size ≤ 140737488351232
/-- The one statement over numbers and lists alone. -/
def Pure : Prop := ∀ (l0 : (List ByteArray)) (a1 : Int), (l0.length ≤ maxLen ∧ l0.length * 16 ≤ 140737488351232 ∧ ∀ y ∈ l0, wf9 y) → (Lit.int .i64 a1).wf = true → decklelaw12_SheetUnpacks.f l0 a1 = some true
end Go.Proofs.YtdohaocbhcniaaaDoor.sheetUnpacks
end

section
/- SheetUnpacks in plain Lean. -/
namespace Go.Proofs.YtdohaocbhcniaaaDoor.sheetUnpacks
open Go.RowKit Go.Proofs.YtdohaocbhcniaaaDoorW.PrintWords Go.Proofs.YtdohaocbhcniaaaDoor.PG

theorem pure : Pure := by
  unfold Pure
  intros
  exact rfl
end Go.Proofs.YtdohaocbhcniaaaDoor.sheetUnpacks
end
