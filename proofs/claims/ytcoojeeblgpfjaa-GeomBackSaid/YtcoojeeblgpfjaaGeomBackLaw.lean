/- The law GeomBack over numbers alone. -/
import Derived.Test.YtcoojeeblgpfjaaPAx38
import Derived.Test.YtcoojeeblgpfjaaWorks06
import Derived.Test.YtcoojeeblgpfjaaGeomPage
namespace Go.Proofs.Ytcoojeeblgpfjaa.PA
open Go.RowKit Go.Proofs.YtcoojeeblgpfjaaW.PrintWords

theorem back_j0 (b l y s p w n : Int) (hb : (Lit.int .i64 b).wf = true) (hl : (Lit.int .i64 l).wf = true) (k : Nat) (hk : 8 ≤ k) : decklelaw06_GeomBack.j0 (k + 1) n b l y s p w = some true := by
  simp only [decklelaw06_GeomBack.j0]
  by_cases hok : GeoOk b l y s p w
  · rw [at_some hok hb hl n k hk]
    by_cases h : 0 ≤ n ∧ n ≤ b * l * 3 - 1
    · rw [if_pos h]
      obtain ⟨r1, r2, r3, r4⟩ := page_range hok.1.2.1.1 h
      simp only [Option.bind_some, if_true]
      rw [number_some hok hb hl _ _ _ k hk, if_pos ⟨r1, r2, r3⟩]
      simp [r4]
    · rw [if_neg h]; simp
  · rw [at_no hok hb hl n k hk]; simp

theorem back_pure (b l y s p w u v q n : Int) (hb : (Lit.int .i64 b).wf = true) (hl : (Lit.int .i64 l).wf = true) (k : Nat) (hk : 8 ≤ k) : decklelaw06_GeomBack.f (k + 1) b l y s p w u v q n = some true := by
  unfold decklelaw06_GeomBack.f
  rw [works06 (k + 1) (by omega)]
  simp only [Option.bind_some, if_true]
  by_cases hok : GeoOk b l y s p w
  · rw [number_some hok hb hl u v q (k + 1) (by omega)]
    by_cases h : (0 ≤ u ∧ u ≤ b - 1) ∧ (0 ≤ v ∧ v ≤ l - 1) ∧ (0 ≤ q ∧ q ≤ 2)
    · rw [if_pos h]
      obtain ⟨r1, r2, r3, r4⟩ := number_page hok.1.2.1.1 h
      simp only [Option.bind_some, if_true]
      rw [at_some hok hb hl _ (k + 1) (by omega), if_pos r1, r2, r3, r4]
      simp only [Option.bind_some, if_true]
      rw [back_j0 b l y s p w n hb hl k hk]
      simp
    · rw [if_neg h]
      simp only [Option.bind_some]
      rw [if_neg (by decide), back_j0 b l y s p w n hb hl k hk]
  · rw [number_no hok hb hl u v q (k + 1) (by omega)]
    simp only [Option.bind_some]
    rw [if_neg (by decide), back_j0 b l y s p w n hb hl k hk]
end Go.Proofs.Ytcoojeeblgpfjaa.PA
