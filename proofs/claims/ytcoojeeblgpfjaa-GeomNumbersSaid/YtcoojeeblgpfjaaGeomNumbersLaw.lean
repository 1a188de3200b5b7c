/- The law GeomNumbers over numbers alone. -/
import Derived.Test.YtcoojeeblgpfjaaPAx34
import Derived.Test.YtcoojeeblgpfjaaPAx36
import Derived.Test.YtcoojeeblgpfjaaPAx33
import Derived.Test.YtcoojeeblgpfjaaPAx37
import Derived.Test.YtcoojeeblgpfjaaWorks06
import Derived.Test.YtcoojeeblgpfjaaGeomPage
import Derived.Test.YtcoojeeblgpfjaaGeomRefCheck
namespace Go.Proofs.Ytcoojeeblgpfjaa.PA
open Go.RowKit Go.Proofs.YtcoojeeblgpfjaaW.PrintWords

theorem has_some (b l y s p w u v q : Int) : deckleref06_Has.f b l y s p w u v q = some (decide ((0 ≤ u ∧ u < b) ∧ (0 ≤ v ∧ v < l) ∧ (0 ≤ q ∧ q < 3))) := by
  unfold deckleref06_Has.f
  by_cases c1 : u ≥ 0
  rotate_left
  · rw [if_neg c1]; congr 1; symm; simp; omega
  rw [if_pos c1]
  by_cases c2 : u < b
  rotate_left
  · rw [if_neg c2]; congr 1; symm; simp; omega
  rw [if_pos c2]
  by_cases c3 : v ≥ 0
  rotate_left
  · rw [if_neg c3]; congr 1; symm; simp; omega
  rw [if_pos c3]
  by_cases c4 : v < l
  rotate_left
  · rw [if_neg c4]; congr 1; symm; simp; omega
  rw [if_pos c4]
  by_cases c5 : q ≥ 0
  rotate_left
  · rw [if_neg c5]; congr 1; symm; simp; omega
  rw [if_pos c5]
  congr 1
  by_cases c6 : q < 3 <;> simp [c6] <;> omega

theorem ref_number (b l y s p w u v q : Int) (hb : (Lit.int .i64 b).wf = true) (hl : (Lit.int .i64 l).wf = true) (k : Nat) (hk : 26002 ≤ k) : deckleref06_Number.f k b l y s p w u v q = geom_Number.f k b l y s p w u v q := by
  unfold deckleref06_Number.f
  rw [ref_check b l y s p w hb hl k hk]
  by_cases h : GeoOk b l y s p w
  · rw [if_pos h, number_some h hb hl u v q k (by omega), has_some]
    simp only [Option.bind_some, if_true]
    obtain ⟨⟨h1, h2, h3, h4, h5, h6, h7⟩, h8, h9, h10⟩ := h
    by_cases c : (0 ≤ u ∧ u ≤ b - 1) ∧ (0 ≤ v ∧ v ≤ l - 1) ∧ (0 ≤ q ∧ q ≤ 2)
    · rw [if_pos c, if_pos (by simp; omega)]
      obtain ⟨a1, a2, a3⟩ := c
      have m1 : 0 ≤ u * l := Int.mul_nonneg (by omega) (by omega)
      have m2 : u * l ≤ 64 * 64 := Int.mul_le_mul (by omega) (by omega) (by omega) (by omega)
      rw [w64 (x := u * l) (by omega) (by omega), w64 (x := u * l + v) (by omega) (by omega), w64 (x := (u * l + v) * 3) (by omega) (by omega), w64 (by omega) (by omega)]
    · rw [if_neg c, if_neg (by simp; omega)]
  · rw [if_neg h, number_no h hb hl u v q k (by omega)]
    simp

theorem ref_at (b l y s p w n : Int) (hb : (Lit.int .i64 b).wf = true) (hl : (Lit.int .i64 l).wf = true) (k : Nat) (hk : 26002 ≤ k) : deckleref06_At.f k b l y s p w n = geom_At.f k b l y s p w n := by
  unfold deckleref06_At.f
  rw [ref_check b l y s p w hb hl k hk]
  by_cases h : GeoOk b l y s p w
  · rw [if_pos h, at_some h hb hl n k (by omega)]
    simp only [Option.bind_some, if_true]
    obtain ⟨⟨h1, h2, h3, h4, h5, h6, h7⟩, h8, h9, h10⟩ := h
    have m1 : 0 ≤ b * l := Int.mul_nonneg (by omega) (by omega)
    have m2 : b * l ≤ 64 * 64 := Int.mul_le_mul (by omega) (by omega) (by omega) (by omega)
    rw [w64 (x := b * l) (by omega) (by omega), w64 (x := b * l * 3) (by omega) (by omega), w64 (x := 3 * l) (by omega) (by omega)]
    by_cases c1 : n < 0
    · rw [if_pos c1, if_neg (by omega)]
    rw [if_neg c1]
    by_cases c2 : n ≥ b * l * 3
    · rw [if_pos c2, if_neg (by omega)]
    rw [if_neg c2, if_neg (by omega), if_neg (by omega), if_pos (by omega), Int.tdiv_eq_ediv_of_nonneg (by omega), Int.tdiv_eq_ediv_of_nonneg (by omega), w64 (x := n / 3) (by omega) (by omega), Int.tmod_eq_emod_of_nonneg (by omega), Int.tmod_eq_emod_of_nonneg (by omega), ← Int.ediv_ediv_of_nonneg (by omega)]
    have d1 : 0 ≤ n / 3 / l := Int.ediv_nonneg (by omega) (by omega)
    have d2 : n / 3 / l ≤ n / 3 := Int.ediv_le_self _ (by omega)
    rw [w64 (by omega) (by omega)]
  · rw [if_neg h, at_no h hb hl n k (by omega)]
    simp

theorem numbers_pure (b l y s p w u v q n : Int) (hb : (Lit.int .i64 b).wf = true) (hl : (Lit.int .i64 l).wf = true) : decklelaw06_GeomNumbers.f 26002 b l y s p w u v q n = some true := by
  unfold decklelaw06_GeomNumbers.f
  rw [ref_number b l y s p w u v q hb hl 26002 (by omega), ref_at b l y s p w n hb hl 26002 (by omega), works06 26002 (by omega)]
  have e1 : ∃ r, geom_Number.f 26002 b l y s p w u v q = some r := by
    by_cases h : GeoOk b l y s p w
    · exact ⟨_, number_some h hb hl u v q 26002 (by omega)⟩
    · exact ⟨_, number_no h hb hl u v q 26002 (by omega)⟩
  have e2 : ∃ r, geom_At.f 26002 b l y s p w n = some r := by
    by_cases h : GeoOk b l y s p w
    · exact ⟨_, at_some h hb hl n 26002 (by omega)⟩
    · exact ⟨_, at_no h hb hl n 26002 (by omega)⟩
  obtain ⟨r1, e1⟩ := e1
  obtain ⟨r2, e2⟩ := e2
  rw [e1, e2]
  simp
end Go.Proofs.Ytcoojeeblgpfjaa.PA
