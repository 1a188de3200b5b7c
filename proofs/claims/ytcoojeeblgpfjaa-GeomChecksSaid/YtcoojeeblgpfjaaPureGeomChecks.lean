/- GeomChecks, over numbers alone. -/
import Derived.Test.YtcoojeeblgpfjaaStmGeomChecks
import Derived.Test.YtcoojeeblgpfjaaGeomChecksLaw
namespace Go.Proofs.Ytcoojeeblgpfjaa.geomChecks
open Go.RowKit Go.Proofs.YtcoojeeblgpfjaaW.PrintWords Go.Proofs.Ytcoojeeblgpfjaa.PA

theorem pure : Pure := by
  intro b l y s p w hb hl _ _ _ _
  exact ⟨26002, checks_pure b l y s p w hb hl⟩

end Go.Proofs.Ytcoojeeblgpfjaa.geomChecks
