/- GeomRoom, over numbers alone. -/
import Derived.Test.YtcoojeeblgpfjaaStmGeomRoom
import Derived.Test.YtcoojeeblgpfjaaGeomRoomLaw
namespace Go.Proofs.Ytcoojeeblgpfjaa.geomRoom
open Go.RowKit Go.Proofs.YtcoojeeblgpfjaaW.PrintWords Go.Proofs.Ytcoojeeblgpfjaa.PA

theorem pure : Pure := by
  intro b l y s p w xs hb hl _ _ _ _ _
  exact ⟨200, room_pure b l y s p w xs hb hl⟩

end Go.Proofs.Ytcoojeeblgpfjaa.geomRoom
