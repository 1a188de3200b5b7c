/- The reference of chapter 23 over numbers, and the law CacheTells. -/
import Derived.Test.YtcoojeeblgpfjaaPCx17
import Derived.Test.YtcoojeeblgpfjaaPCx10
import Derived.Test.YtcoojeeblgpfjaaPCx13
import Derived.Test.YtcoojeeblgpfjaaPCx15
import Derived.Test.YtcoojeeblgpfjaaPCCacheLemmas
import Derived.Test.YtcoojeeblgpfjaaPCGeomRefCheck
namespace Go.Proofs.Ytcoojeeblgpfjaa.PC
open Go.RowKit Go.Proofs.YtcoojeeblgpfjaaW.PrintWords

theorem div_up {t r : Int} (hr : 0 < r) : (if t % r > 0 then t / r + 1 else t / r) = (t - 1) / r + 1 := by
  have e1 := Int.mul_ediv_add_emod t r
  have r1 := Int.emod_nonneg t (show r ≠ 0 by omega)
  have r2 := Int.emod_lt_of_pos t hr
  by_cases c : t % r > 0
  · rw [if_pos c]
    have : t - 1 = (t % r - 1) + r * (t / r) := by omega
    have z : (t % r - 1) / r = 0 := Int.ediv_eq_zero_of_lt (by omega) (by omega)
    have d : (t - 1) / r = (t % r - 1) / r + t / r := by rw [this, Int.add_mul_ediv_left _ _ (by omega)]
    omega
  · rw [if_neg c]
    have : t - 1 = (r - 1) + r * (t / r - 1) := by rw [Int.mul_sub, Int.mul_one]; omega
    have z : (r - 1) / r = 0 := Int.ediv_eq_zero_of_lt (by omega) (by omega)
    have d : (t - 1) / r = (r - 1) / r + (t / r - 1) := by rw [this, Int.add_mul_ediv_left _ _ (by omega)]
    omega

theorem ref_need {b l y s p w t : Int} (hb : (Lit.int .i64 b).wf = true) (hl : (Lit.int .i64 l).wf = true) (ht : -9223372036854775808 ≤ t ∧ t ≤ 9223372036854775807) (k : Nat) (hk : 26002 ≤ k) : deckleref23_Need.f k b l y s p w t = cache_Need.f k b l y s p w t := by
  obtain ⟨k, rfl⟩ : ∃ m, k = m + 1 := ⟨k - 1, by omega⟩
  unfold deckleref23_Need.f
  rw [ref_check b l y s p w hb hl _ hk]
  by_cases h : GeoOk b l y s p w
  · rw [if_pos h, need_some h hb hl ht _ (by omega)]
    simp only [Option.bind_some, if_true, deckleref23_Need.j0]
    obtain ⟨⟨h1, h2, h3, h4, h5, h6, h7⟩, h8, h9, h10⟩ := h
    have hr := need_range (l := l) (t := t) h2.1 ht.2
    unfold needOf at hr ⊢
    by_cases c : t < 1
    · rw [if_pos (by simp [c]), if_pos c]
    · have hd := div_up (t := t) (r := 3 * l) (by omega)
      have d0 : 0 ≤ t / (3 * l) := Int.ediv_nonneg (by omega) (by omega)
      have d1 : t / (3 * l) ≤ t := Int.ediv_le_self _ (by omega)
      rw [if_neg c] at hr
      rw [if_neg (by simp [c]), if_neg c, w64 (x := 3 * l) (by omega) (by omega), if_neg (by omega), Int.tmod_eq_emod_of_nonneg (by omega), Int.tdiv_eq_ediv_of_nonneg (by omega), w64 (x := t / (3 * l)) (by omega) (by omega), ← hd]
      rw [← hd] at hr
      by_cases e : t % (3 * l) > 0
      · rw [if_pos e] at hr
        rw [if_pos e, if_pos e, w64 (by omega) (by omega)]
      · rw [if_neg e, if_neg e]
  · rw [if_neg h, need_no h hb hl t _ (by omega)]
    simp [deckleref23_Need.j0]

theorem ref_limit {b l y s p w t m : Int} (hb : (Lit.int .i64 b).wf = true) (hl : (Lit.int .i64 l).wf = true) (ht : -9223372036854775808 ≤ t ∧ t ≤ 9223372036854775807) (k : Nat) (hk : 26002 ≤ k) : deckleref23_Limit.f k b l y s p w t m = cache_Limit.f k b l y s p w t m := by
  unfold deckleref23_Limit.f
  rw [ref_check b l y s p w hb hl _ hk]
  by_cases h : GeoOk b l y s p w
  · have hs := h.1.2.2.2.2.2.2
    rw [if_pos h, limit_some h hb hl ht _ (by omega), ref_need hb hl (t := mn t s) (by unfold mn; omega) k hk, need_some h hb hl (t := mn t s) (by unfold mn; omega) _ (by omega)]
    obtain ⟨⟨h1, h2, h3, h4, h5, h6, h7⟩, h8, h9, h10⟩ := h
    have hr := need_range (l := l) (t := mn t s) h2.1 (by unfold mn; omega)
    have hr2 : needOf l (mn t s) ≤ 5000 := by
      unfold needOf
      by_cases c : mn t s < 1
      · rw [if_pos c]; omega
      · rw [if_neg c]
        have d1 : (mn t s - 1) / (3 * l) ≤ mn t s - 1 := Int.ediv_le_self _ (by unfold mn at *; omega)
        have : mn t s ≤ s := by unfold mn; omega
        omega
    have hg := good_range (b := b) m (by omega)
    have em : mn (mx m 0) b = min (max m 0) b := by unfold mn mx; omega
    have hmn : mn t s = min t s := by unfold mn; omega
    have hg1 : wrap64 (b - min (max m 0) b) = goodOf b m := by unfold goodOf at *; rw [w64 (by omega) (by omega)]
    simp only [Option.bind_some, if_true]
    rw [em, hg1, w64 (x := goodOf b m - 1) (by omega) (by omega), w64 (x := goodOf b m - 1 - 4) (by omega) (by omega), w64 (x := goodOf b m - 1 - 4 - needOf l (mn t s)) (by omega) (by omega), hmn]
    rw [hmn] at hr hr2
    unfold limitOf
    generalize needOf l (min t s) = q at *
    generalize goodOf b m = g at *
    by_cases c1 : g - 1 - 4 - q < 3
    · rw [if_pos c1]
      by_cases c2 : (3 : Int) > g
      · rw [if_pos c2]; congr 1; omega
      · rw [if_neg c2]; congr 1; omega
    · rw [if_neg c1]
      by_cases c2 : g - 1 - 4 - q > g
      · rw [if_pos c2]; congr 1; omega
      · rw [if_neg c2]; congr 1; omega
  · rw [if_neg h, limit_no h hb hl t m _ (by omega)]
    simp

theorem ref_wants {b l y s p w t m f e : Int} (hb : (Lit.int .i64 b).wf = true) (hl : (Lit.int .i64 l).wf = true) (ht : -9223372036854775808 ≤ t ∧ t ≤ 9223372036854775807) (k : Nat) (hk : 26002 ≤ k) : deckleref23_Wants.f k b l y s p w t m f e = cache_Wants.f k b l y s p w t m f e := by
  unfold deckleref23_Wants.f cache_Wants.f
  rw [ref_check b l y s p w hb hl _ hk, check_some b l y s p w hb hl _ (by omega), ref_limit hb hl ht k hk]

theorem need_is (b l y s p w t : Int) (hb : (Lit.int .i64 b).wf = true) (hl : (Lit.int .i64 l).wf = true) (ht : -9223372036854775808 ≤ t ∧ t ≤ 9223372036854775807) (k : Nat) (hk : 8 ≤ k) : ∃ r, cache_Need.f k b l y s p w t = some r := by
  by_cases h : GeoOk b l y s p w
  · exact ⟨_, need_some h hb hl ht k hk⟩
  · exact ⟨_, need_no h hb hl t k hk⟩
theorem limit_is (b l y s p w t m : Int) (hb : (Lit.int .i64 b).wf = true) (hl : (Lit.int .i64 l).wf = true) (ht : -9223372036854775808 ≤ t ∧ t ≤ 9223372036854775807) (k : Nat) (hk : 8 ≤ k) : ∃ r, cache_Limit.f k b l y s p w t m = some r := by
  by_cases h : GeoOk b l y s p w
  · exact ⟨_, limit_some h hb hl ht k hk⟩
  · exact ⟨_, limit_no h hb hl t m k hk⟩
theorem wants_is (b l y s p w t m f e : Int) (hb : (Lit.int .i64 b).wf = true) (hl : (Lit.int .i64 l).wf = true) (ht : -9223372036854775808 ≤ t ∧ t ≤ 9223372036854775807) (k : Nat) (hk : 8 ≤ k) : ∃ r, cache_Wants.f k b l y s p w t m f e = some r := by
  unfold cache_Wants.f
  obtain ⟨q, hq⟩ := limit_is b l y s p w t m hb hl ht k hk
  rw [check_some b l y s p w hb hl _ (by omega), hq]
  simp only [Option.bind_some]
  by_cases c1 : (if GeoOk b l y s p w then (0 : Int) else 60) = 0
  · rw [if_pos c1]
    by_cases c2 : f ≥ 3
    · rw [if_pos c2]
      by_cases c3 : f > q
      · rw [if_pos c3]; exact ⟨_, rfl⟩
      · rw [if_neg c3]; exact ⟨_, rfl⟩
    · rw [if_neg c2]; exact ⟨_, rfl⟩
  · rw [if_neg c1]; exact ⟨_, rfl⟩

theorem tells_pure (b l y s p w t m f e : Int) (hb : (Lit.int .i64 b).wf = true) (hl : (Lit.int .i64 l).wf = true) (ht : (Lit.int .i64 t).wf = true) : decklelaw23_CacheTells.f 26002 b l y s p w t m f e = some true := by
  have ht := i64_bounds ht
  unfold decklelaw23_CacheTells.f
  obtain ⟨q1, e1⟩ := need_is b l y s p w t hb hl ht 26002 (by omega)
  obtain ⟨q2, e2⟩ := limit_is b l y s p w t m hb hl ht 26002 (by omega)
  obtain ⟨q3, e3⟩ := wants_is b l y s p w t m f e hb hl ht 26002 (by omega)
  rw [ref_need hb hl ht 26002 (by omega), ref_limit hb hl ht 26002 (by omega), ref_wants hb hl ht 26002 (by omega), e1, e2, e3, works23 26002 (by omega)]
  simp
end Go.Proofs.Ytcoojeeblgpfjaa.PC
