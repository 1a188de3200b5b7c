/- GeomBack, over numbers alone. -/
import Derived.Test.YtcoojeeblgpfjaaStmGeomBack
import Derived.Test.YtcoojeeblgpfjaaGeomBackLaw
namespace Go.Proofs.Ytcoojeeblgpfjaa.geomBack
open Go.RowKit Go.Proofs.YtcoojeeblgpfjaaW.PrintWords Go.Proofs.Ytcoojeeblgpfjaa.PA

theorem pure : Pure := by
  intro b l y s p w u v q n hb hl _ _ _ _ _ _ _ _
  exact ⟨9, back_pure b l y s p w u v q n hb hl 8 (by omega)⟩

end Go.Proofs.Ytcoojeeblgpfjaa.geomBack
