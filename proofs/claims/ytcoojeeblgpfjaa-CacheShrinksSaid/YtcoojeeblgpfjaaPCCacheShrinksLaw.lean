/- The law CacheShrinks over numbers alone. -/
import Derived.Test.YtcoojeeblgpfjaaPCx18
import Derived.Test.YtcoojeeblgpfjaaPCCacheLemmas
namespace Go.Proofs.Ytcoojeeblgpfjaa.PC
open Go.RowKit Go.Proofs.YtcoojeeblgpfjaaW.PrintWords

theorem need_mono {l t u : Int} (hl : 6 ≤ l) (h : t ≤ u) : needOf l t ≤ needOf l u := by
  unfold needOf
  by_cases c : t < 1
  · rw [if_pos c]
    by_cases d : u < 1
    · rw [if_pos d]; omega
    · rw [if_neg d]
      have := Int.ediv_nonneg (a := u - 1) (b := 3 * l) (by omega) (by omega)
      omega
  · rw [if_neg c, if_neg (by omega)]
    have := Int.ediv_le_ediv (a := t - 1) (b := u - 1) (c := 3 * l) (by omega) (by omega)
    omega

theorem shrinks_pure (b l y s p w t0 t1 m0 m1 : Int) (hb : (Lit.int .i64 b).wf = true) (hl : (Lit.int .i64 l).wf = true) (h0 : (Lit.int .i64 t0).wf = true) (h1 : (Lit.int .i64 t1).wf = true) : decklelaw23_CacheShrinks.f 8 b l y s p w t0 t1 m0 m1 = some true := by
  have g0 := i64_bounds h0
  have g1 := i64_bounds h1
  unfold decklelaw23_CacheShrinks.f
  rw [works23 8 (by omega), check_some b l y s p w hb hl 8 (by omega)]
  simp only [Option.bind_some, if_true]
  by_cases h : GeoOk b l y s p w
  · rw [if_pos h, if_pos rfl, limit_some h hb hl (by unfold mn; omega) 8 (by omega), limit_some h hb hl (by unfold mx; omega) 8 (by omega), limit_some h hb hl (by unfold mn; omega) 8 (by omega)]
    obtain ⟨⟨h1, h2, h3, h4, h5, h6, h7⟩, h8, h9, h10⟩ := h
    simp only [Option.bind_some]
    have n1 := need_mono (l := l) h2.1 (t := min (mn t0 t1) s) (u := min (mx t0 t1) s) (by unfold mn mx; omega)
    have e : wrap64 (b - mn (mx (mn m0 m1) 0) b) = goodOf b (mn m0 m1) := by
      rw [w64 (by unfold mn mx; omega) (by unfold mn mx; omega)]
      unfold goodOf mn mx
      omega
    rw [e]
    have c1 : limitOf b l s (mx t0 t1) (mn m0 m1) ≤ limitOf b l s (mn t0 t1) (mn m0 m1) := by
      unfold limitOf
      omega
    have c2 : limitOf b l s (mn t0 t1) (mx m0 m1) ≤ limitOf b l s (mn t0 t1) (mn m0 m1) := by
      unfold limitOf
      have : goodOf b (mx m0 m1) ≤ goodOf b (mn m0 m1) := by unfold goodOf mn mx; omega
      have := (good_range (b := b) (mx m0 m1) (by omega)).1
      omega
    have gr := (good_range (b := b) (mn m0 m1) (by omega)).1
    rw [if_pos c1, if_pos c2, if_pos (by unfold limitOf; omega)]
    congr 1
    rw [decide_eq_true_eq]
    unfold limitOf mn
    omega
  · rw [if_neg h, if_neg (by decide), limit_no h hb hl t0 m0 8 (by omega)]
    simp
end Go.Proofs.Ytcoojeeblgpfjaa.PC
