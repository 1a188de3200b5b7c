/- GeomLeft, over numbers alone. -/
import Derived.Test.YtcoojeeblgpfjaaStmGeomLeft
import Derived.Test.YtcoojeeblgpfjaaGeomLeftLaw
namespace Go.Proofs.Ytcoojeeblgpfjaa.geomLeft
open Go.RowKit Go.Proofs.YtcoojeeblgpfjaaW.PrintWords Go.Proofs.Ytcoojeeblgpfjaa.PA

theorem pure : Pure := by
  intro b l y s p w hb hl _ _ _ _
  exact ⟨8, left_pure b l y s p w hb hl 8 (by omega)⟩

end Go.Proofs.Ytcoojeeblgpfjaa.geomLeft
