/- The law GeomLeft over numbers alone. -/
import Derived.Test.YtcoojeeblgpfjaaPAx21
import Derived.Test.YtcoojeeblgpfjaaWorks06
import Derived.Test.YtcoojeeblgpfjaaGeomBound
namespace Go.Proofs.Ytcoojeeblgpfjaa.PA
open Go.RowKit Go.Proofs.YtcoojeeblgpfjaaW.PrintWords

theorem left_pure (b l y s p w : Int) (hb : (Lit.int .i64 b).wf = true) (hl : (Lit.int .i64 l).wf = true) (k : Nat) (hk : 8 ≤ k) : decklelaw06_GeomLeft.f k b l y s p w = some true := by
  unfold decklelaw06_GeomLeft.f
  rw [works06 k hk, check_some b l y s p w hb hl k hk]
  simp only [Option.bind_some, if_true]
  by_cases h : GeoOk b l y s p w
  · rw [if_pos h, if_pos rfl, bound_some h, spread_some h]
    have hbig := bound_big h
    obtain ⟨⟨h1, h2, h3, h4, h5, h6, h7⟩, h8, h9, h10⟩ := h
    have e := snaps_pos h1.1 h3.1 h7.1
    rw [snaps_some h1 h3 h7, raw_some h3]
    simp only [Option.bind_some]
    rw [if_pos e, w64 (x := l - 4) (by omega) (by omega), if_pos h10, if_pos (by omega), if_pos (by omega), w64 (x := 3 * l) (by omega) (by omega), if_pos hbig]
    congr 1
    simp
    omega
  · rw [if_neg h, if_neg (by decide)]

end Go.Proofs.Ytcoojeeblgpfjaa.PA
