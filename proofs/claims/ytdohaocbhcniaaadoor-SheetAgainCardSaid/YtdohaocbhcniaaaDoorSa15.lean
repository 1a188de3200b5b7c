/- The law's proof: words, contracts of the functions that it reaches, plain lemmas. -/
import Derived.Test.YtdohaocbhcniaaaDoorRows
import Derived.Test.YtdohaocbhcniaaaDoorSa14
import Derived.Test.YtdohaocbhcniaaaDoorSa7
import Derived.WalkKit
import Derived.ProofKit
import Derived.OpenShut
import Derived.ShutString
import Derived.ChangeOld
import Derived.Below
import Derived.SizedLaws
section
/- What is to be shown of deckle/decklelaw12.SheetAgain, without memory. -/
namespace Go.Proofs.YtdohaocbhcniaaaDoor.sheetAgain
open Go.ChangeShapes Go.WideShapes Go.ChangeAt Go.RowKit Go.Proofs.YtdohaocbhcniaaaDoor.Opening Go.Proofs.YtdohaocbhcniaaaDoorW.PrintWords Go.Proofs.YtdohaocbhcniaaaDoor.PG
open Go.ChangeMaps (open_string shut_string)
set_option linter.unusedVariables false
set_option linter.unusedSimpArgs false
/-- The one statement over numbers and lists alone. -/
def Pure : Prop := ∀ (a0 : ByteArray), a0.size ≤ 140737488351232 → decklelaw12_SheetAgain.f a0 = some true
end Go.Proofs.YtdohaocbhcniaaaDoor.sheetAgain
end

section
/- SheetAgain in plain Lean. -/
namespace Go.Proofs.YtdohaocbhcniaaaDoor.sheetAgain
open Go.RowKit Go.Proofs.YtdohaocbhcniaaaDoorW.PrintWords Go.Proofs.YtdohaocbhcniaaaDoor.PG

theorem pure : Pure := by
  unfold Pure
  intros
  exact if_pos (by omega)
end Go.Proofs.YtdohaocbhcniaaaDoor.sheetAgain
end
