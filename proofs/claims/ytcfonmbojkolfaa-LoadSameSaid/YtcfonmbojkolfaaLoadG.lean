/- What a load asks: bounds, over numbers alone. -/
import Derived.Test.YtcfonmbojkolfaaLoadF
namespace Go.Proofs.Ytcfonmbojkolfaa.LoadA
open Go.RowKit Go.Proofs.YtcfonmbojkolfaaW.PrintWords

theorem belowNum_range (x n : Int) (hn : 1 ≤ n) : 0 ≤ (belowNum x n).1 ∧ (belowNum x n).1 < n := by
  unfold belowNum
  rw [if_neg (by omega)]
  exact ⟨Int.emod_nonneg _ (by omega), Int.emod_lt_of_pos _ (by omega)⟩

theorem dataOf_size (L : Ld) (h0 : 0 ≤ L.y) : ((dataOf L).size : Int) = L.y := by
  have : (dataOf L).size = L.y.toNat := by
    simp [dataOf, strOfNums, dataNums, ByteArray.size]
  omega

/-- What stays of a load. -/
def Alike (L M : Ld) : Prop := M.b = L.b ∧ M.l = L.l ∧ M.y = L.y ∧ M.s = L.s ∧ M.p = L.p ∧ M.t = L.t ∧ M.kind = L.kind
structure Fine (L : Ld) (d : DoP) (M : Ld) : Prop where
  alike : Alike L M
  made : M.made = L.made + 1
  lba0 : 0 ≤ d.2.1
  lba1 : d.2.1 < L.s
  kind0 : 1 ≤ d.1
  kind1 : d.1 ≤ 5
  size : d.1 = 2 → (d.2.2.2.size : Int) = L.y
  n0 : 0 ≤ d.2.2.1
  n1 : d.2.2.1 < 50
  alone : 0 ≤ L.kind → L.kind < 3 → d.1 = 2
  at0 : 0 ≤ M.at_
  at1 : M.at_ < L.s
  line : L.kind = 1 → d.2.1 = L.at_ ∧ M.at_ = (L.at_ + 1) % L.s

theorem blend_fine (L : Ld) (hk : L.kind = 3) (hy : 0 ≤ L.y) (hs : 1 ≤ L.s) (ha : 0 ≤ L.at_) (ha2 : L.at_ < L.s) : Fine { L with made := L.made - 1 } (blendOf L).1 (blendOf L).2 := by
  have hd := dataOf_size L hy
  obtain ⟨q, x1, e1⟩ : ∃ q x1, belowNum L.x 16 = (q, x1) := ⟨_, _, rfl⟩
  obtain ⟨u, x2, e2⟩ : ∃ u x2, belowNum x1 L.s = (u, x2) := ⟨_, _, rfl⟩
  obtain ⟨v, x3, e3⟩ : ∃ v x3, belowNum x1 50 = (v, x3) := ⟨_, _, rfl⟩
  have r := belowNum_range x1 L.s hs
  have r50 := belowNum_range x1 50 (by omega)
  rw [e2] at r
  rw [e3] at r50
  unfold blendOf
  rw [e1]
  simp only [e2, e3]
  split
  · exact ⟨⟨rfl, rfl, rfl, rfl, rfl, rfl, rfl⟩, by simp, r.1, r.2, by simp, by simp, fun _ => hd, by simp, by simp, fun _ _ => rfl, ha, ha2, fun h => by simp [hk] at h⟩
  split
  · exact ⟨⟨rfl, rfl, rfl, rfl, rfl, rfl, rfl⟩, by simp, r.1, r.2, by simp, by simp, fun h => by simp at h, by simp, by simp, fun _ h => by simp [hk] at h, ha, ha2, fun h => by simp [hk] at h⟩
  split
  · exact ⟨⟨rfl, rfl, rfl, rfl, rfl, rfl, rfl⟩, by simp, r.1, r.2, by simp, by simp, fun h => by simp at h, by simp, by simp, fun _ h => by simp [hk] at h, ha, ha2, fun h => by simp [hk] at h⟩
  split
  · exact ⟨⟨rfl, rfl, rfl, rfl, rfl, rfl, rfl⟩, by simp, by simp, by show (0 : Int) < L.s; omega, by simp, by simp, fun h => by simp at h, by simp, by simp, fun _ h => by simp [hk] at h, ha, ha2, fun h => by simp [hk] at h⟩
  · exact ⟨⟨rfl, rfl, rfl, rfl, rfl, rfl, rfl⟩, by simp, by simp, by show (0 : Int) < L.s; omega, by simp, by simp, fun h => by simp at h, r50.1, r50.2, fun _ h => by simp [hk] at h, ha, ha2, fun h => by simp [hk] at h⟩

theorem next_fine (L : Ld) (hy : 0 ≤ L.y) (hs : 1 ≤ L.s) (ha : 0 ≤ L.at_) (ha2 : L.at_ < L.s) : Fine L (nextOf L).1 (nextOf L).2 := by
  have hd := dataOf_size { L with made := L.made + 1 } hy
  unfold nextOf
  by_cases c1 : L.kind = 1
  · rw [if_pos c1]
    exact ⟨⟨rfl, rfl, rfl, rfl, rfl, rfl, rfl⟩, rfl, ha, ha2, by simp, by simp, fun _ => hd, by simp, by simp, fun _ _ => rfl, Int.emod_nonneg _ (by omega), Int.emod_lt_of_pos _ (by omega), fun _ => ⟨rfl, rfl⟩⟩
  rw [if_neg c1]
  by_cases c2 : L.kind = 2
  · rw [if_pos c2]
    obtain ⟨q, x1, e1⟩ : ∃ q x1, belowNum L.x 10 = (q, x1) := ⟨_, _, rfl⟩
    rw [e1]
    simp only
    have r := belowNum_range x1 (if q < 8 then max (L.s / 5) 1 else L.s) (by split <;> omega)
    have hle : (if q < 8 then max (L.s / 5) 1 else L.s) ≤ L.s := by split <;> omega
    generalize (if q < 8 then max (L.s / 5) 1 else L.s) = m at *
    obtain ⟨u, x2, e2⟩ : ∃ u x2, belowNum x1 m = (u, x2) := ⟨_, _, rfl⟩
    rw [e2] at r
    rw [e2]
    simp only at r ⊢
    exact ⟨⟨rfl, rfl, rfl, rfl, rfl, rfl, rfl⟩, rfl, r.1, by show u < L.s; omega, by simp, by simp, fun _ => hd, by simp, by simp, fun _ _ => rfl, ha, ha2, fun h => absurd h c1⟩
  rw [if_neg c2]
  by_cases c3 : L.kind = 3
  · rw [if_pos c3]
    have := blend_fine { L with made := L.made + 1 } c3 hy hs ha ha2
    have e : ({ { L with made := L.made + 1 } with made := ({ L with made := L.made + 1 } : Ld).made - 1 } : Ld) = L := by
      cases L; simp
    rw [e] at this
    exact this
  rw [if_neg c3]
  have r := belowNum_range L.x L.s hs
  obtain ⟨u, x2, e2⟩ : ∃ u x2, belowNum L.x L.s = (u, x2) := ⟨_, _, rfl⟩
  rw [e2] at r
  rw [e2]
  simp only at r ⊢
  exact ⟨⟨rfl, rfl, rfl, rfl, rfl, rfl, rfl⟩, rfl, r.1, r.2, by simp, by simp, fun _ => hd, by simp, by simp, fun _ _ => rfl, ha, ha2, fun h => absurd h c1⟩

/-- A load behind i asks. -/
def after (L : Ld) : Nat → Ld
  | 0 => L
  | i + 1 => (nextOf (after L i)).2
theorem after_inv (L : Ld) (hy : 0 ≤ L.y) (hs : 1 ≤ L.s) (ha : 0 ≤ L.at_) (ha2 : L.at_ < L.s) : ∀ i, Alike L (after L i) ∧ (after L i).made = L.made + i ∧ 0 ≤ (after L i).at_ ∧ (after L i).at_ < L.s
  | 0 => ⟨⟨rfl, rfl, rfl, rfl, rfl, rfl, rfl⟩, by simp [after], ha, ha2⟩
  | i + 1 => by
    obtain ⟨⟨a1, a2, a3, a4, a5, a6, a7⟩, hm, h0, h1⟩ := after_inv L hy hs ha ha2 i
    have f := next_fine (after L i) (by omega) (by omega) h0 (by omega)
    obtain ⟨b1, b2, b3, b4, b5, b6, b7⟩ := f.alike
    have := f.made
    exact ⟨⟨b1.trans a1, b2.trans a2, b3.trans a3, b4.trans a4, b5.trans a5, b6.trans a6, b7.trans a7⟩, by show (nextOf (after L i)).2.made = _; omega, f.at0, by show (nextOf (after L i)).2.at_ < L.s; have := f.at1; omega⟩
end Go.Proofs.Ytcfonmbojkolfaa.LoadA
