/- CacheNeeds, over numbers alone. -/
import Derived.Test.YtcoojeeblgpfjaaStmCacheNeeds
import Derived.Test.YtcoojeeblgpfjaaPCCacheNeedsLaw
namespace Go.Proofs.Ytcoojeeblgpfjaa.cacheNeeds
open Go.RowKit Go.Proofs.YtcoojeeblgpfjaaW.PrintWords Go.Proofs.Ytcoojeeblgpfjaa.PC

theorem pure : Pure := by
  intro b l y s p w t hb hl _ _ _ _ _
  exact ⟨8, needs_pure b l y s p w t hb hl⟩

end Go.Proofs.Ytcoojeeblgpfjaa.cacheNeeds
