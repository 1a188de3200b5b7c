/- CacheShrinks, over numbers alone. -/
import Derived.Test.YtcoojeeblgpfjaaStmCacheShrinks
import Derived.Test.YtcoojeeblgpfjaaPCCacheShrinksLaw
namespace Go.Proofs.Ytcoojeeblgpfjaa.cacheShrinks
open Go.RowKit Go.Proofs.YtcoojeeblgpfjaaW.PrintWords Go.Proofs.Ytcoojeeblgpfjaa.PC

theorem pure : Pure := by
  intro b l y s p w t0 t1 m0 m1 hb hl _ _ _ _ h0 h1 _ _
  exact ⟨8, shrinks_pure b l y s p w t0 t1 m0 m1 hb hl h0 h1⟩

end Go.Proofs.Ytcoojeeblgpfjaa.cacheShrinks
