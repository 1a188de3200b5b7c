/- GeomNumbers, over numbers alone. -/
import Derived.Test.YtcoojeeblgpfjaaStmGeomNumbers
import Derived.Test.YtcoojeeblgpfjaaGeomNumbersLaw
namespace Go.Proofs.Ytcoojeeblgpfjaa.geomNumbers
open Go.RowKit Go.Proofs.YtcoojeeblgpfjaaW.PrintWords Go.Proofs.Ytcoojeeblgpfjaa.PA

theorem pure : Pure := by
  intro b l y s p w u v q n hb hl _ _ _ _ _ _ _ _
  exact ⟨26002, numbers_pure b l y s p w u v q n hb hl⟩

end Go.Proofs.Ytcoojeeblgpfjaa.geomNumbers
