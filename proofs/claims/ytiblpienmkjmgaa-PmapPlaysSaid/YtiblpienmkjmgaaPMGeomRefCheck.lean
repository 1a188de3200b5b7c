/- The reference Check of chapter 6 over numbers. -/
import Derived.Test.YtiblpienmkjmgaaPMx7
import Derived.Test.YtiblpienmkjmgaaPMx6
import Derived.Test.YtiblpienmkjmgaaPMGeomLemmas
namespace Go.Proofs.Ytiblpienmkjmgaa.PM
open Go.RowKit Go.Proofs.YtiblpienmkjmgaaW.PrintWords

theorem snaps_iff {b y s n : Int} (hy : 0 < y) : n < snapsOf b y s ↔ n * y < 6 * s + 10 * b := by
  unfold snapsOf
  constructor
  · intro h
    have h2 : n + 1 ≤ (6 * s + 10 * b + y - 1) / y := by omega
    rw [Int.le_ediv_iff_mul_le hy, Int.add_mul] at h2
    omega
  · intro h
    have h2 : n + 1 ≤ (6 * s + 10 * b + y - 1) / y := by
      rw [Int.le_ediv_iff_mul_le hy, Int.add_mul]
      omega
    omega

theorem ref_snaps_l0 (b l y s p w : Int) (hb : 8 ≤ b ∧ b ≤ 64) (hy : 16 ≤ y ∧ y ≤ 256) (hs : 1 ≤ s ∧ s ≤ 4096) :
    ∀ (d k : Nat) (n : Int), snapsOf b y s - n = d → 0 ≤ n → d < k → deckleref06_Snaps.l0 k n b l y s p w = some (snapsOf b y s) := by
  have hmax := snaps_le hb.2 hy.1 hs.2
  intro d
  induction d with
  | zero =>
    intro k n hd h0 hk
    obtain ⟨k, rfl⟩ : ∃ m, k = m + 1 := ⟨k - 1, by omega⟩
    have hn : ¬ n * y < 6 * s + 10 * b := by rw [← snaps_iff (by omega)]; omega
    have m1 : 0 ≤ n * y := Int.mul_nonneg h0 (by omega)
    have m2 : n * y ≤ 26000 * 256 := Int.mul_le_mul (by omega) (by omega) (by omega) (by omega)
    simp only [deckleref06_Snaps.l0]
    rw [w64 (x := n * y) (by omega) (by omega), w64 (x := 6 * s) (by omega) (by omega), w64 (x := 10 * b) (by omega) (by omega), w64 (x := 6 * s + 10 * b) (by omega) (by omega), if_neg hn]
    congr 1; omega
  | succ d ih =>
    intro k n hd h0 hk
    obtain ⟨k, rfl⟩ : ∃ m, k = m + 1 := ⟨k - 1, by omega⟩
    have hn : n * y < 6 * s + 10 * b := by rw [← snaps_iff (by omega)]; omega
    have m1 : 0 ≤ n * y := Int.mul_nonneg h0 (by omega)
    simp only [deckleref06_Snaps.l0]
    rw [w64 (x := n * y) (by omega) (by omega), w64 (x := 6 * s) (by omega) (by omega), w64 (x := 10 * b) (by omega) (by omega), w64 (x := 6 * s + 10 * b) (by omega) (by omega), if_pos hn, w64 (x := n + 1) (by omega) (by omega)]
    exact ih k (n + 1) (by omega) (by omega) (by omega)

theorem ref_snaps {b l y s p w : Int} (hb : 8 ≤ b ∧ b ≤ 64) (hy : 16 ≤ y ∧ y ≤ 256) (hs : 1 ≤ s ∧ s ≤ 4096) (k : Nat) (hk : 26001 ≤ k) : deckleref06_Snaps.f k b l y s p w = some (snapsOf b y s) := by
  have h1 := snaps_pos hb.1 hy.1 hs.1
  have h2 := snaps_le hb.2 hy.1 hs.2
  unfold deckleref06_Snaps.f
  exact ref_snaps_l0 b l y s p w hb hy hs (snapsOf b y s).toNat k 0 (by omega) (by omega) (by omega)

theorem ref_most (b l y s p w : Int) : deckleref06_Most.f b l y s p w = geom_Most.f b l y s p w := rfl

theorem ref_check (b l y s p w : Int) (hb : (Lit.int .i64 b).wf = true) (hl : (Lit.int .i64 l).wf = true) (k : Nat) (hk : 26002 ≤ k) : deckleref06_Check.f k b l y s p w = some (if GeoOk b l y s p w then 0 else 60) := by
  have hb := i64_bounds hb
  have hl := i64_bounds hl
  obtain ⟨k, rfl⟩ : ∃ m, k = m + 1 := ⟨k - 1, by omega⟩
  unfold deckleref06_Check.f
  simp only [deckleref06_Check.j0, if_true]
  by_cases h : GeoOk b l y s p w
  · rw [if_pos h]
    obtain ⟨⟨h1, h2, h3, h4, h5, h6, h7⟩, h8, h9, h10⟩ := h
    have e4 : ¬ ((Int.tmod y 8) != 0) = true := by rw [Int.tmod_eq_emod_of_nonneg (by omega), h4]; decide
    rw [if_neg (by omega), if_neg (by omega), if_neg (by omega), if_neg (by omega), if_neg (by omega), if_neg (by omega), if_neg e4, if_neg (by omega), if_neg (by omega), w64 (x := b - 8) (by omega) (by omega), if_neg (by omega), if_neg (by omega), if_neg (by omega), if_neg (by omega), if_neg (by omega),
      ref_most, most_some h1 h2 ⟨h5.1, h8⟩ h5.2]
    simp only [Option.bind_some]
    rw [if_neg (by omega), ref_snaps h1 h3 h7 k (by omega)]
    simp only [Option.bind_some]
    rw [w64 (x := l - 4) (by omega) (by omega), if_neg (by omega)]
  · rw [if_neg h]
    by_cases c1 : b < 8
    · rw [if_pos c1]
    rw [if_neg c1]
    by_cases c2 : b > 64
    · rw [if_pos c2]
    rw [if_neg c2]
    by_cases c3 : l < 6
    · rw [if_pos c3]
    rw [if_neg c3]
    by_cases c4 : l > 64
    · rw [if_pos c4]
    rw [if_neg c4]
    by_cases c5 : y < 16
    · rw [if_pos c5]
    rw [if_neg c5]
    by_cases c6 : y > 256
    · rw [if_pos c6]
    rw [if_neg c6, Int.tmod_eq_emod_of_nonneg (show 0 ≤ y by omega)]
    by_cases c7 : y % 8 = 0
    rotate_left
    · rw [if_pos (by simp [c7])]
    rw [if_neg (by simp [c7])]
    by_cases c8 : p < 0
    · rw [if_pos c8]
    rw [if_neg c8]
    by_cases c9 : p > 16
    · rw [if_pos c9]
    rw [if_neg c9, w64 (x := b - 8) (by omega) (by omega)]
    by_cases c10 : p > b - 8
    · rw [if_pos c10]
    rw [if_neg c10]
    by_cases c11 : w < 2
    · rw [if_pos c11]
    rw [if_neg c11]
    by_cases c12 : w > 1000
    · rw [if_pos c12]
    rw [if_neg c12]
    by_cases c13 : s < 1
    · rw [if_pos c13]
    rw [if_neg c13]
    by_cases c14 : s > 4096
    · rw [if_pos c14]
    rw [if_neg c14, ref_most, most_some ⟨by omega, by omega⟩ ⟨by omega, by omega⟩ ⟨by omega, by omega⟩ (by omega)]
    simp only [Option.bind_some]
    by_cases c15 : s > mostOf b l p
    · rw [if_pos c15]
    rw [if_neg c15, ref_snaps ⟨by omega, by omega⟩ ⟨by omega, by omega⟩ ⟨by omega, by omega⟩ k (by omega)]
    simp only [Option.bind_some]
    rw [w64 (x := l - 4) (by omega) (by omega), if_pos (by
      have : ¬ (snapsOf b y s ≤ l - 4) := fun c => h ⟨⟨⟨by omega, by omega⟩, ⟨by omega, by omega⟩, ⟨by omega, by omega⟩, c7, ⟨by omega, by omega⟩, ⟨by omega, by omega⟩, ⟨by omega, by omega⟩⟩, by omega, by omega, c⟩
      omega)]

end Go.Proofs.Ytiblpienmkjmgaa.PM
