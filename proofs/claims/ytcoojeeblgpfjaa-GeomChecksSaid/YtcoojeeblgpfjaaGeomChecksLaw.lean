/- The law GeomChecks over numbers alone. -/
import Derived.Test.YtcoojeeblgpfjaaPAx15
import Derived.Test.YtcoojeeblgpfjaaPAx17
import Derived.Test.YtcoojeeblgpfjaaPAx19
import Derived.Test.YtcoojeeblgpfjaaPAx20
import Derived.Test.YtcoojeeblgpfjaaWorks06
import Derived.Test.YtcoojeeblgpfjaaGeomBound
import Derived.Test.YtcoojeeblgpfjaaGeomRefCheck
namespace Go.Proofs.Ytcoojeeblgpfjaa.PA
open Go.RowKit Go.Proofs.YtcoojeeblgpfjaaW.PrintWords

theorem checks_pure (b l y s p w : Int) (hb : (Lit.int .i64 b).wf = true) (hl : (Lit.int .i64 l).wf = true) : decklelaw06_GeomChecks.f 26002 b l y s p w = some true := by
  unfold decklelaw06_GeomChecks.f
  rw [check_some b l y s p w hb hl 26002 (by omega), ref_check b l y s p w hb hl 26002 (by omega), works06 26002 (by omega)]
  simp only [Option.bind_some, if_true]
  by_cases h : GeoOk b l y s p w
  · rw [if_pos h, if_pos rfl, bound_some h, spread_some h]
    have hbs := bound_some h
    have hsp := spread_some h
    obtain ⟨⟨h1, h2, h3, h4, h5, h6, h7⟩, h8, h9, h10⟩ := h
    have eb : deckleref06_Bound.f 26002 b l y s p w = geom_Bound.f b l y s p w := by
      unfold deckleref06_Bound.f geom_Bound.f
      rw [snaps_some h1 h3 h7, ref_snaps h1 h3 h7 26002 (by omega)]
    have es : deckleref06_Spread.f b l y s p w = geom_Spread.f b l y s p w := rfl
    have er : deckleref06_Raw.f b l y s p w = some ((y + 24) / 8 * 9) := by
      unfold deckleref06_Raw.f
      rw [Int.tdiv_eq_ediv_of_nonneg (by omega), w64 (x := y / 8) (by omega) (by omega), w64 (x := y / 8 + 3) (by omega) (by omega), w64 (by omega) (by omega)]
      congr 1
      omega
    rw [eb, es, hbs, hsp, er, raw_some h3, snaps_some h1 h3 h7, ref_snaps h1 h3 h7 26002 (by omega), ref_most, most_some h1 h2 ⟨h5.1, h8⟩ h5.2]
    simp only [Option.bind_some, if_true]
  · rw [if_neg h, if_neg (by decide)]

end Go.Proofs.Ytcoojeeblgpfjaa.PA
