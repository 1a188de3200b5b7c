/- The law CacheNeeds over numbers alone. -/
import Derived.Test.YtcoojeeblgpfjaaPCx20
import Derived.Test.YtcoojeeblgpfjaaPCx19
import Derived.Test.YtcoojeeblgpfjaaPCCacheLemmas
namespace Go.Proofs.Ytcoojeeblgpfjaa.PC
open Go.RowKit Go.Proofs.YtcoojeeblgpfjaaW.PrintWords

theorem below_mod (a n : Int) (hn : 0 < n) (hn2 : n ≤ 4611686018427387904) : ∃ r, decklebook_Below.f a n = some r ∧ 0 ≤ r ∧ r < n := by
  unfold decklebook_Below.f
  rw [if_neg (by omega)]
  by_cases h0 : 0 ≤ a
  · have e := Int.tmod_eq_emod_of_nonneg (b := n) h0
    have r1 := Int.emod_nonneg a (show n ≠ 0 by omega)
    have r2 := Int.emod_lt_of_pos a hn
    rw [e, if_neg (by omega)]
    exact ⟨_, rfl, r1, r2⟩
  · have e : Int.tmod a n = - ((-a) % n) := by
      rw [← Int.tmod_eq_emod_of_nonneg (by omega), Int.neg_tmod, Int.neg_neg]
    have r1 := Int.emod_nonneg (-a) (show n ≠ 0 by omega)
    have r2 := Int.emod_lt_of_pos (-a) hn
    rw [e]
    by_cases h : -(-a % n) < 0
    · rw [if_pos h, w64 (by omega) (by omega)]
      exact ⟨_, rfl, by omega, by omega⟩
    · rw [if_neg h]
      exact ⟨_, rfl, by omega, by omega⟩

theorem needs_pure (b l y s p w t : Int) (hb : (Lit.int .i64 b).wf = true) (hl : (Lit.int .i64 l).wf = true) : decklelaw23_CacheNeeds.f 8 b l y s p w t = some true := by
  unfold decklelaw23_CacheNeeds.f
  rw [works23 8 (by omega), check_some b l y s p w hb hl 8 (by omega)]
  simp only [Option.bind_some, if_true]
  by_cases h : GeoOk b l y s p w
  · rw [if_pos h, if_pos rfl]
    obtain ⟨r, hr, r1, r2⟩ := below_mod t 1048576 (by omega) (by omega)
    rw [hr]
    simp only [Option.bind_some]
    rw [need_some h hb hl (by omega) 8 (by omega)]
    obtain ⟨⟨h1, h2, h3, h4, h5, h6, h7⟩, h8, h9, h10⟩ := h
    simp only [Option.bind_some]
    unfold needOf
    by_cases c : r < 1
    · rw [if_pos c, if_pos (by omega)]
      have e : r = 0 := by omega
      subst e
      simp [wrap64]
    · rw [if_neg c]
      have d0 : 0 ≤ (r - 1) / (3 * l) := Int.ediv_nonneg (by omega) (by omega)
      have d1 : (r - 1) / (3 * l) ≤ r - 1 := Int.ediv_le_self _ (by omega)
      have e1 := Int.mul_ediv_add_emod (r - 1) (3 * l)
      have e2 := Int.emod_nonneg (r - 1) (show 3 * l ≠ 0 by omega)
      have e3 := Int.emod_lt_of_pos (r - 1) (show 0 < 3 * l by omega)
      have m : ((r - 1) / (3 * l)) * 3 * l = 3 * l * ((r - 1) / (3 * l)) := by rw [Int.mul_assoc, Int.mul_comm]
      generalize (r - 1) / (3 * l) = q at *
      generalize (r - 1) % (3 * l) = z at *
      have m2 : (q + 1) * 3 * l = q * 3 * l + 3 * l := by rw [Int.add_mul, Int.add_mul]; omega
      rw [if_pos (by omega), w64 (x := (q + 1) * 3) (by omega) (by omega), w64 (x := (q + 1) * 3 * l) (by omega) (by omega), if_pos (by omega), if_neg (by omega), show q + 1 - 1 = q by omega, w64 (x := q) (by omega) (by omega), w64 (x := q * 3) (by omega) (by omega), w64 (x := q * 3 * l) (by omega) (by omega)]
      congr 1
      simp
      omega
  · rw [if_neg h, if_neg (by decide), need_no h hb hl t 8 (by omega)]
    simp
end Go.Proofs.Ytcoojeeblgpfjaa.PC
