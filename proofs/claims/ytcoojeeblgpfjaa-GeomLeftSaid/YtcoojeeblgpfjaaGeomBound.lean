/- Bound and Spread over numbers. -/
import Derived.Test.YtcoojeeblgpfjaaPAx16
import Derived.Test.YtcoojeeblgpfjaaPAx18
import Derived.Test.YtcoojeeblgpfjaaGeomLemmas
namespace Go.Proofs.Ytcoojeeblgpfjaa.PA
open Go.RowKit Go.Proofs.YtcoojeeblgpfjaaW.PrintWords

theorem bound_some {b l y s p w : Int} (h : GeoOk b l y s p w) : geom_Bound.f b l y s p w = some (8 * (b + p + 4) * (16 * l + s + 2 * snapsOf b y s + 16)) := by
  obtain ⟨⟨h1, h2, h3, h4, h5, h6, h7⟩, h8, h9, h10⟩ := h
  have e := snaps_pos h1.1 h3.1 h7.1
  unfold geom_Bound.f
  rw [snaps_some h1 h3 h7]
  simp only [Option.bind_some]
  rw [w64 (x := b + p) (by omega) (by omega), w64 (x := b + p + 4) (by omega) (by omega), w64 (x := 8 * (b + p + 4)) (by omega) (by omega), w64 (x := 16 * l) (by omega) (by omega), w64 (x := 16 * l + s) (by omega) (by omega), w64 (x := 2 * snapsOf b y s) (by omega) (by omega), w64 (x := 16 * l + s + 2 * snapsOf b y s) (by omega) (by omega), w64 (x := 16 * l + s + 2 * snapsOf b y s + 16) (by omega) (by omega)]
  have p1 : 0 ≤ 8 * (b + p + 4) * (16 * l + s + 2 * snapsOf b y s + 16) := Int.mul_nonneg (by omega) (by omega)
  have p2 : 8 * (b + p + 4) * (16 * l + s + 2 * snapsOf b y s + 16) ≤ 1000 * 10000 := Int.mul_le_mul (by omega) (by omega) (by omega) (by omega)
  rw [w64 (by omega) (by omega)]

theorem spread_some {b l y s p w : Int} (h : GeoOk b l y s p w) : geom_Spread.f b l y s p w = some (w + 8 * (b + 1)) := by
  obtain ⟨⟨h1, h2, h3, h4, h5, h6, h7⟩, h8, h9, h10⟩ := h
  unfold geom_Spread.f
  rw [w64 (x := b + 1) (by omega) (by omega), w64 (x := 8 * (b + 1)) (by omega) (by omega), w64 (by omega) (by omega)]

theorem bound_big {b l y s p w : Int} (h : GeoOk b l y s p w) : 3 * l < 8 * (b + p + 4) * (16 * l + s + 2 * snapsOf b y s + 16) := by
  obtain ⟨⟨h1, h2, h3, h4, h5, h6, h7⟩, h8, h9, h10⟩ := h
  have e := snaps_pos h1.1 h3.1 h7.1
  have : 1 * (16 * l + s + 2 * snapsOf b y s + 16) ≤ 8 * (b + p + 4) * (16 * l + s + 2 * snapsOf b y s + 16) := Int.mul_le_mul_of_nonneg_right (by omega) (by omega)
  omega

end Go.Proofs.Ytcoojeeblgpfjaa.PA
