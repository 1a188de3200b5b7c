/- Package cache and its reference over numbers alone. -/
import Derived.Test.YtcoojeeblgpfjaaPCx6
import Derived.Test.YtcoojeeblgpfjaaPCx12
import Derived.Test.YtcoojeeblgpfjaaPCx14
import Derived.Test.YtcoojeeblgpfjaaPCx11
import Derived.Test.YtcoojeeblgpfjaaPCx16
import Derived.Test.YtcoojeeblgpfjaaPCGeomLemmas
namespace Go.Proofs.Ytcoojeeblgpfjaa.PC
open Go.RowKit Go.Proofs.YtcoojeeblgpfjaaW.PrintWords

/-- How many blocks t pages need, of lines l. -/
def needOf (l t : Int) : Int := if t < 1 then 0 else (t - 1) / (3 * l) + 1
/-- How many blocks the cache may have, of b blocks, lines l, s sectors, m bad ones. -/
def goodOf (b m : Int) : Int := b - min (max m 0) b
def limitOf (b l s t m : Int) : Int := min (max (goodOf b m - 5 - needOf l (min t s)) (min 3 (goodOf b m))) (goodOf b m)

theorem works23 (k : Nat) (hk : 8 ≤ k) : decklelaw23_works.f k = some true :=
  at_rounds decklelaw23_works.mono hk (by decide +kernel)

theorem need_range {l t : Int} (hl : 6 ≤ l) (ht : t ≤ 9223372036854775807) : 0 ≤ needOf l t ∧ needOf l t ≤ 9223372036854775807 := by
  unfold needOf
  by_cases h : t < 1
  · rw [if_pos h]; omega
  · rw [if_neg h]
    have d0 : 0 ≤ (t - 1) / (3 * l) := Int.ediv_nonneg (by omega) (by omega)
    have d1 : (t - 1) / (3 * l) ≤ t - 1 := Int.ediv_le_self _ (by omega)
    omega

theorem need_some {b l y s p w t : Int} (hok : GeoOk b l y s p w) (hb : (Lit.int .i64 b).wf = true) (hl : (Lit.int .i64 l).wf = true) (ht : -9223372036854775808 ≤ t ∧ t ≤ 9223372036854775807) (k : Nat) (hk : 8 ≤ k) :
    cache_Need.f k b l y s p w t = some (needOf l t) := by
  unfold cache_Need.f
  rw [check_some b l y s p w hb hl k hk, if_pos hok]
  obtain ⟨⟨h1, h2, h3, h4, h5, h6, h7⟩, h8, h9, h10⟩ := hok
  have hr := need_range h2.1 ht.2
  unfold needOf at hr ⊢
  simp only [Option.bind_some, if_true]
  by_cases h : t < 1
  · rw [if_pos h, if_pos h]
  · rw [if_neg h] at hr
    rw [if_neg h, if_neg h, w64 (x := 3 * l) (by omega) (by omega), if_neg (by omega), w64 (x := t - 1) (by omega) (by omega), Int.tdiv_eq_ediv_of_nonneg (by omega), w64 (x := (t - 1) / (3 * l)) (by omega) (by omega), w64 (by omega) (by omega)]

theorem need_no {b l y s p w : Int} (hok : ¬ GeoOk b l y s p w) (hb : (Lit.int .i64 b).wf = true) (hl : (Lit.int .i64 l).wf = true) (t : Int) (k : Nat) (hk : 8 ≤ k) : cache_Need.f k b l y s p w t = some 0 := by
  unfold cache_Need.f
  rw [check_some b l y s p w hb hl k hk, if_neg hok]
  simp

theorem good_range {b : Int} (m : Int) (hb : 0 ≤ b) : 0 ≤ goodOf b m ∧ goodOf b m ≤ b := by unfold goodOf; omega

theorem limit_some {b l y s p w t m : Int} (hok : GeoOk b l y s p w) (hb : (Lit.int .i64 b).wf = true) (hl : (Lit.int .i64 l).wf = true) (ht : -9223372036854775808 ≤ t ∧ t ≤ 9223372036854775807) (k : Nat) (hk : 8 ≤ k) :
    cache_Limit.f k b l y s p w t m = some (limitOf b l s t m) := by
  unfold cache_Limit.f
  rw [check_some b l y s p w hb hl k hk, if_pos hok]
  have hn := need_some hok hb hl (t := mn t s) (by obtain ⟨⟨h1, h2, h3, h4, h5, h6, h7⟩, h8, h9, h10⟩ := hok; unfold mn; omega) k hk
  obtain ⟨⟨h1, h2, h3, h4, h5, h6, h7⟩, h8, h9, h10⟩ := hok
  have hr := need_range (l := l) (t := mn t s) h2.1 (by unfold mn; omega)
  have hr2 : needOf l (mn t s) ≤ 5000 := by
    unfold needOf
    by_cases h : mn t s < 1
    · rw [if_pos h]; omega
    · rw [if_neg h]
      have d1 : (mn t s - 1) / (3 * l) ≤ mn t s - 1 := Int.ediv_le_self _ (by unfold mn at *; omega)
      have : mn t s ≤ s := by unfold mn; omega
      omega
  have hg := good_range (b := b) m (by omega)
  have em : mn (mx m 0) b = min (max m 0) b := by unfold mn mx; omega
  have hmn : mn t s = min t s := by unfold mn; omega
  simp only [Option.bind_some, if_true, cache_between_int.f, hn]
  rw [em]
  have hg1 : wrap64 (b - min (max m 0) b) = goodOf b m := by unfold goodOf at *; rw [w64 (by omega) (by omega)]
  rw [hg1, w64 (x := goodOf b m - 5) (by omega) (by omega), w64 (x := goodOf b m - 5 - needOf l (mn t s)) (by omega) (by omega), hmn]
  unfold limitOf
  have e1 : ∀ a c : Int, mn a c = min a c := by intro a c; unfold mn; omega
  have e2 : ∀ a c : Int, mx a c = max a c := by intro a c; unfold mx; omega
  rw [e1, e1, e2]

theorem limit_no {b l y s p w : Int} (hok : ¬ GeoOk b l y s p w) (hb : (Lit.int .i64 b).wf = true) (hl : (Lit.int .i64 l).wf = true) (t m : Int) (k : Nat) (hk : 8 ≤ k) : cache_Limit.f k b l y s p w t m = some 0 := by
  unfold cache_Limit.f
  rw [check_some b l y s p w hb hl k hk, if_neg hok]
  simp
end Go.Proofs.Ytcoojeeblgpfjaa.PC
