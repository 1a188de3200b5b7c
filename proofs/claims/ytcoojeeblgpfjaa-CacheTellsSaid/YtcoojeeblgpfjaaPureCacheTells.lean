/- CacheTells, over numbers alone. -/
import Derived.Test.YtcoojeeblgpfjaaStmCacheTells
import Derived.Test.YtcoojeeblgpfjaaPCCacheTellsLaw
namespace Go.Proofs.Ytcoojeeblgpfjaa.cacheTells
open Go.RowKit Go.Proofs.YtcoojeeblgpfjaaW.PrintWords Go.Proofs.Ytcoojeeblgpfjaa.PC

theorem pure : Pure := by
  intro b l y s p w t m f e hb hl _ _ _ _ ht _ _ _
  exact ⟨26002, tells_pure b l y s p w t m f e hb hl ht⟩

end Go.Proofs.Ytcoojeeblgpfjaa.cacheTells
