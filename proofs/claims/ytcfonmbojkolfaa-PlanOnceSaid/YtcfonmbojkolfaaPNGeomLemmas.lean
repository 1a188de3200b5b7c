/- What the printed functions of package geom come to, over numbers alone. -/
import Derived.Test.YtcfonmbojkolfaaPNx3
import Derived.Test.YtcfonmbojkolfaaPNx2
namespace Go.Proofs.Ytcfonmbojkolfaa.PN
open Go.RowKit Go.Proofs.YtcfonmbojkolfaaW.PrintWords

theorem w64 {x : Int} (h0 : -9223372036854775808 ≤ x) (h1 : x ≤ 9223372036854775807) : wrap64 x = x := by unfold wrap64; omega
theorem i64_bounds {x : Int} (h : (Lit.int .i64 x).wf = true) : -9223372036854775808 ≤ x ∧ x ≤ 9223372036854775807 := by
  simp [Lit.wf, IntKind.min, IntKind.max, IntKind.signed, IntKind.bits] at h
  omega

theorem within_some (a lo hi : Int) : geom_within.f a lo hi = some (decide (lo ≤ a ∧ a ≤ hi)) := by
  unfold geom_within.f
  by_cases h : a ≥ lo
  · rw [if_pos h]; congr 1; by_cases h2 : a ≤ hi <;> simp [h2] <;> omega
  · rw [if_neg h]; congr 1; symm; simp; omega

theorem all_l0 (l : List Bool) (hl : l.length ≤ 1000) : ∀ (d k i : Nat), l.length - i = d → i ≤ l.length → d < k → geom_all.l0 k l (l.length : Int) (i : Int) = some ((l.drop i).all id) := by
  intro d
  induction d with
  | zero =>
    intro k i hd hi hk
    obtain ⟨k, rfl⟩ : ∃ m, k = m + 1 := ⟨k - 1, by omega⟩
    simp only [geom_all.l0]
    rw [if_neg (by omega), List.drop_of_length_le (by omega)]
    rfl
  | succ d ih =>
    intro k i hd hi hk
    obtain ⟨k, rfl⟩ : ∃ m, k = m + 1 := ⟨k - 1, by omega⟩
    simp only [geom_all.l0]
    rw [if_pos (by omega), if_pos (by omega), if_pos (by omega)]
    have hlt : i < l.length := by omega
    have hrd : rdOf false l (i : Int) = l[i] := by simp [rdOf, List.getD_eq_getElem?_getD, hlt]
    rw [hrd, List.drop_eq_getElem_cons hlt, List.all_cons]
    cases hb : l[i] with
    | true =>
      rw [if_pos rfl, w64 (by omega) (by omega), show (i : Int) + 1 = ((i + 1 : Nat) : Int) by omega, ih k (i + 1) (by omega) (by omega) (by omega)]
      rfl
    | false => rw [if_neg (by decide)]; rfl

theorem all_some (k : Nat) (l : List Bool) (hl : l.length ≤ 1000) (hk : l.length < k) : geom_all.f k l = some (l.all id) := by
  unfold geom_all.f
  have := all_l0 l hl l.length k 0 (by omega) (by omega) hk
  simpa using this

def mostOf (b l p : Int) : Int := 3 * l * (b - p - 6) / 2
def snapsOf (b y s : Int) : Int := (6 * s + 10 * b + y - 1) / y
def SizesOk (b l y s p w : Int) : Prop := (8 ≤ b ∧ b ≤ 64) ∧ (6 ≤ l ∧ l ≤ 64) ∧ (16 ≤ y ∧ y ≤ 256) ∧ y % 8 = 0 ∧ (0 ≤ p ∧ p ≤ 16) ∧ (2 ≤ w ∧ w ≤ 1000) ∧ (1 ≤ s ∧ s ≤ 4096)
def GeoOk (b l y s p w : Int) : Prop := SizesOk b l y s p w ∧ p ≤ b - 8 ∧ s ≤ mostOf b l p ∧ snapsOf b y s ≤ l - 4
instance (b l y s p w : Int) : Decidable (SizesOk b l y s p w) := by unfold SizesOk; infer_instance
instance (b l y s p w : Int) : Decidable (GeoOk b l y s p w) := by unfold GeoOk; infer_instance

theorem tmod8 (y : Int) : ((Int.tmod y 8) == 0) = decide (y % 8 = 0) := by
  rw [Bool.eq_iff_iff]; simp only [beq_iff_eq, decide_eq_true_eq]
  exact ⟨fun h => Int.emod_eq_zero_of_dvd (Int.dvd_of_tmod_eq_zero h), fun h => Int.tmod_eq_zero_of_dvd (Int.dvd_of_emod_eq_zero h)⟩

theorem most_mul {b l p : Int} (hb : 8 ≤ b ∧ b ≤ 64) (hl : 6 ≤ l ∧ l ≤ 64) (hp : 0 ≤ p ∧ p ≤ 16) : -4224 ≤ 3 * l * (b - p - 6) ∧ 3 * l * (b - p - 6) ≤ 11136 := by
  have h1 : 0 ≤ l * (b - p - 6 + 22) := Int.mul_nonneg (by omega) (by omega)
  have h2 : 0 ≤ l * (58 - (b - p - 6)) := Int.mul_nonneg (by omega) (by omega)
  rw [Int.mul_add] at h1
  rw [Int.mul_sub] at h2
  rw [Int.mul_assoc]
  generalize l * (b - p - 6) = q at *
  omega

theorem most_some {b l y s p w : Int} (hb : 8 ≤ b ∧ b ≤ 64) (hl : 6 ≤ l ∧ l ≤ 64) (hp : 0 ≤ p ∧ p ≤ b - 8) (hp2 : p ≤ 16) : geom_Most.f b l y s p w = some (mostOf b l p) := by
  have h := most_mul hb hl ⟨hp.1, hp2⟩
  unfold geom_Most.f mostOf
  rw [w64 (x := b - p) (by omega) (by omega), w64 (x := b - p - 6) (by omega) (by omega), w64 (x := 3 * l) (by omega) (by omega), w64 (x := 3 * l * (b - p - 6)) (by omega) (by omega)]
  have hn : 0 ≤ 3 * l * (b - p - 6) := Int.mul_nonneg (by omega) (by omega)
  rw [Int.tdiv_eq_ediv_of_nonneg hn, w64 (by omega) (by omega)]

theorem snaps_pos {b y s : Int} (hb : 8 ≤ b) (hy : 16 ≤ y) (hs : 1 ≤ s) : 1 ≤ snapsOf b y s := by
  unfold snapsOf
  rw [Int.le_ediv_iff_mul_le (by omega)]
  omega

theorem snaps_le {b y s : Int} (hb : b ≤ 64) (hy : 16 ≤ y) (hs : s ≤ 4096) : snapsOf b y s ≤ 26000 := by
  unfold snapsOf
  have : (6 * s + 10 * b + y - 1) / y < 26001 := by
    rw [Int.ediv_lt_iff_lt_mul (by omega)]
    omega
  omega

theorem snaps_some {b l y s p w : Int} (hb : 8 ≤ b ∧ b ≤ 64) (hy : 16 ≤ y ∧ y ≤ 256) (hs : 1 ≤ s ∧ s ≤ 4096) : geom_Snaps.f b l y s p w = some (snapsOf b y s) := by
  have h1 := snaps_pos hb.1 hy.1 hs.1
  have h2 := snaps_le hb.2 hy.1 hs.2
  unfold geom_Snaps.f
  rw [if_neg (by omega), if_neg (by omega), w64 (x := 6 * s) (by omega) (by omega), w64 (x := 10 * b) (by omega) (by omega), w64 (x := 6 * s + 10 * b) (by omega) (by omega), w64 (x := 6 * s + 10 * b + y) (by omega) (by omega), w64 (x := 6 * s + 10 * b + y - 1) (by omega) (by omega), Int.tdiv_eq_ediv_of_nonneg (by omega)]
  show some (wrap64 (snapsOf b y s)) = _
  rw [w64 (by omega) (by omega)]

theorem check_some (b l y s p w : Int) (hb : (Lit.int .i64 b).wf = true) (hl : (Lit.int .i64 l).wf = true) (k : Nat) (hk : 8 ≤ k) : geom_Check.f k b l y s p w = some (if GeoOk b l y s p w then 0 else 60) := by
  have hb := i64_bounds hb
  have hl := i64_bounds hl
  unfold geom_Check.f
  simp only [within_some, Option.bind_some, tmod8]
  rw [all_some _ _ (by simp) (by simp; omega)]
  simp only [Option.bind_some]
  by_cases hsz : SizesOk b l y s p w
  · rw [if_pos (by unfold SizesOk at hsz; simp [hsz])]
    obtain ⟨h1, h2, h3, h4, h5, h6, h7⟩ := id hsz
    rw [snaps_some h1 h3 h7]
    by_cases hp : p ≤ b - 8
    · rw [most_some h1 h2 ⟨h5.1, hp⟩ h5.2]
      simp only [Option.bind_some]
      rw [all_some _ _ (by simp) (by simp; omega), w64 (x := b - 8) (by omega) (by omega), w64 (x := l - 4) (by omega) (by omega)]
      simp only [Option.bind_some]
      by_cases hg : GeoOk b l y s p w
      · rw [if_pos hg, if_pos (by obtain ⟨_, g1, g2, g3⟩ := hg; simp [g1, g2, g3])]
      · rw [if_neg hg, if_neg (by intro h; apply hg; simp at h; exact ⟨hsz, h⟩)]
    · have : ∃ m, geom_Most.f b l y s p w = some m := ⟨_, rfl⟩
      obtain ⟨m, hm⟩ := this
      rw [hm]
      simp only [Option.bind_some]
      rw [all_some _ _ (by simp) (by simp; omega), w64 (x := b - 8) (by omega) (by omega)]
      simp only [Option.bind_some]
      rw [if_neg (by intro h; simp at h; omega), if_neg (fun h => hp h.2.1)]
  · rw [if_neg (by intro h; apply hsz; simp at h; exact h), if_neg (fun h => hsz h.1)]

end Go.Proofs.Ytcfonmbojkolfaa.PN
