/- Numbers of pages, and back, over numbers alone. -/
import Derived.Test.YtcoojeeblgpfjaaPAx8
import Derived.Test.YtcoojeeblgpfjaaPAx35
import Derived.Test.YtcoojeeblgpfjaaGeomLemmas
namespace Go.Proofs.Ytcoojeeblgpfjaa.PA
open Go.RowKit Go.Proofs.YtcoojeeblgpfjaaW.PrintWords

theorem number_some {b l y s p w : Int} (hok : GeoOk b l y s p w) (hb : (Lit.int .i64 b).wf = true) (hl : (Lit.int .i64 l).wf = true) (u v q : Int) (k : Nat) (hk : 8 ≤ k) :
    geom_Number.f k b l y s p w u v q = some (if (0 ≤ u ∧ u ≤ b - 1) ∧ (0 ≤ v ∧ v ≤ l - 1) ∧ (0 ≤ q ∧ q ≤ 2) then ((u * l + v) * 3 + q, 0) else (0, 1)) := by
  unfold geom_Number.f
  rw [check_some b l y s p w hb hl k hk, if_pos hok]
  obtain ⟨⟨h1, h2, h3, h4, h5, h6, h7⟩, h8, h9, h10⟩ := hok
  simp only [Option.bind_some, if_true, within_some]
  rw [all_some _ _ (by simp) (by simp; omega), w64 (x := b - 1) (by omega) (by omega), w64 (x := l - 1) (by omega) (by omega)]
  simp only [Option.bind_some]
  by_cases h : (0 ≤ u ∧ u ≤ b - 1) ∧ (0 ≤ v ∧ v ≤ l - 1) ∧ (0 ≤ q ∧ q ≤ 2)
  · rw [if_pos h, if_pos (by simp [h])]
    obtain ⟨a1, a2, a3⟩ := h
    have m1 : 0 ≤ u * l := Int.mul_nonneg (by omega) (by omega)
    have m2 : u * l ≤ 64 * 64 := Int.mul_le_mul (by omega) (by omega) (by omega) (by omega)
    rw [w64 (x := u * l) (by omega) (by omega), w64 (x := u * l + v) (by omega) (by omega), w64 (x := (u * l + v) * 3) (by omega) (by omega), w64 (by omega) (by omega)]
  · rw [if_neg h, if_neg (by intro hh; apply h; simp at hh; omega)]

theorem at_some {b l y s p w : Int} (hok : GeoOk b l y s p w) (hb : (Lit.int .i64 b).wf = true) (hl : (Lit.int .i64 l).wf = true) (n : Int) (k : Nat) (hk : 8 ≤ k) :
    geom_At.f k b l y s p w n = some (if 0 ≤ n ∧ n ≤ b * l * 3 - 1 then (n / 3 / l, n / 3 % l, n % 3, 0) else (0, 0, 0, 1)) := by
  unfold geom_At.f
  rw [check_some b l y s p w hb hl k hk, if_pos hok]
  obtain ⟨⟨h1, h2, h3, h4, h5, h6, h7⟩, h8, h9, h10⟩ := hok
  have m1 : 0 ≤ b * l := Int.mul_nonneg (by omega) (by omega)
  have m2 : b * l ≤ 64 * 64 := Int.mul_le_mul (by omega) (by omega) (by omega) (by omega)
  simp only [Option.bind_some, if_true, within_some]
  rw [w64 (x := b * l) (by omega) (by omega), w64 (x := b * l * 3) (by omega) (by omega), w64 (x := b * l * 3 - 1) (by omega) (by omega)]
  by_cases h : 0 ≤ n ∧ n ≤ b * l * 3 - 1
  · rw [if_pos h, if_pos (by simp [h]), if_neg (by omega), Int.tdiv_eq_ediv_of_nonneg h.1, w64 (x := n / 3) (by omega) (by omega), Int.tdiv_eq_ediv_of_nonneg (by omega), Int.tmod_eq_emod_of_nonneg (by omega), Int.tmod_eq_emod_of_nonneg h.1]
    have d1 : 0 ≤ n / 3 / l := Int.ediv_nonneg (by omega) (by omega)
    have d2 : n / 3 / l ≤ n / 3 := Int.ediv_le_self _ (by omega)
    rw [w64 (by omega) (by omega)]
  · rw [if_neg h, if_neg (by intro hh; apply h; simp at hh; omega)]

theorem number_no {b l y s p w : Int} (hok : ¬ GeoOk b l y s p w) (hb : (Lit.int .i64 b).wf = true) (hl : (Lit.int .i64 l).wf = true) (u v q : Int) (k : Nat) (hk : 8 ≤ k) : geom_Number.f k b l y s p w u v q = some (0, 60) := by
  unfold geom_Number.f
  rw [check_some b l y s p w hb hl k hk, if_neg hok]
  simp
theorem at_no {b l y s p w : Int} (hok : ¬ GeoOk b l y s p w) (hb : (Lit.int .i64 b).wf = true) (hl : (Lit.int .i64 l).wf = true) (n : Int) (k : Nat) (hk : 8 ≤ k) : geom_At.f k b l y s p w n = some (0, 0, 0, 60) := by
  unfold geom_At.f
  rw [check_some b l y s p w hb hl k hk, if_neg hok]
  simp

theorem page_range {b l n : Int} (hl : 6 ≤ l) (h : 0 ≤ n ∧ n ≤ b * l * 3 - 1) : (0 ≤ n / 3 / l ∧ n / 3 / l ≤ b - 1) ∧ (0 ≤ n / 3 % l ∧ n / 3 % l ≤ l - 1) ∧ (0 ≤ n % 3 ∧ n % 3 ≤ 2) ∧ (n / 3 / l * l + n / 3 % l) * 3 + n % 3 = n := by
  have e : n / 3 / l * l + n / 3 % l = n / 3 := by rw [Int.mul_comm]; exact Int.mul_ediv_add_emod _ _
  have r1 := Int.emod_nonneg (n / 3) (show l ≠ 0 by omega)
  have r2 := Int.emod_lt_of_pos (n / 3) (show 0 < l by omega)
  have d0 : 0 ≤ n / 3 / l := Int.ediv_nonneg (by omega) (by omega)
  have d1 : n / 3 / l < b := by
    rw [Int.ediv_lt_iff_lt_mul (by omega)]
    omega
  rw [e]
  omega

theorem number_page {b l u v q : Int} (hl : 6 ≤ l) (h : (0 ≤ u ∧ u ≤ b - 1) ∧ (0 ≤ v ∧ v ≤ l - 1) ∧ (0 ≤ q ∧ q ≤ 2)) : (0 ≤ (u * l + v) * 3 + q ∧ (u * l + v) * 3 + q ≤ b * l * 3 - 1) ∧ ((u * l + v) * 3 + q) / 3 / l = u ∧ ((u * l + v) * 3 + q) / 3 % l = v ∧ ((u * l + v) * 3 + q) % 3 = q := by
  obtain ⟨h1, h2, h3⟩ := h
  have m1 : 0 ≤ u * l := Int.mul_nonneg (by omega) (by omega)
  have m2 : u * l ≤ (b - 1) * l := Int.mul_le_mul_of_nonneg_right h1.2 (by omega)
  rw [Int.sub_mul] at m2
  have e : ((u * l + v) * 3 + q) / 3 = u * l + v := by omega
  refine ⟨by omega, ?_, ?_, by omega⟩
  · rw [e, Int.add_comm, Int.add_mul_ediv_right _ _ (by omega), Int.ediv_eq_zero_of_lt h2.1 (by omega)]
    omega
  · rw [e, Int.add_comm, Int.add_mul_emod_self_right, Int.emod_eq_of_lt h2.1 (by omega)]

end Go.Proofs.Ytcoojeeblgpfjaa.PA
