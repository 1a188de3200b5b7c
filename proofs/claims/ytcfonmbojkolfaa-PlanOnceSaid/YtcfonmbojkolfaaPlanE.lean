/- Law PlanFits: what its loop keeps (plain). -/
import Derived.Test.YtcfonmbojkolfaaProg
import Derived.Below
import Derived.Carry
import Derived.Deep.Draws
import Derived.Deep.AppendLies
import Derived.Maps.AppendAt
import Derived.OwnWalk
import Derived.Laws.BytesArg
import Derived.Laws.MakeOwn
import Derived.Laws.OwnMore
import Derived.Deep.OwnRows
import Derived.Tactics
import Derived.Lib.ConvBytes
import Derived.Laws.Slices
import Derived.WalkKit
import Derived.KernelRfl
import Derived.RowKit3
import Derived.Deep.LoopGhost
import Derived.Deep.QuietTactic
import Derived.BigQuiet
import Derived.WideLaws
import Derived.Deep.DeepCutAuto
import Derived.Deep.CutBlock
import Derived.Deep.RegionHeld3
import Derived.Deep.RegionWith
import Derived.Laws.Rows
import Derived.Lib.AppendStr
import Derived.ArgAppend
import Derived.Laws.IdiomCopy
import Derived.OrdersHeld
import Derived.Laws.BitsLemmas
import Derived.Outline
import Derived.RegionTactic
import Derived.Lib.Hide
import Derived.StillTailTactics
import Derived.Deep.RegionWith
import Derived.OpenShut
import Derived.Test.YtcfonmbojkolfaaWWords
import Derived.Test.YtcfonmbojkolfaaPlanD
import Derived.Test.YtcfonmbojkolfaaPNx5
import Derived.Lib.BufferMore
import Derived.Lib.LazyBuf
set_option linter.unusedVariables false
namespace Go.Proofs.Ytcfonmbojkolfaa.Plan
open Go.RowKit Go.Proofs.YtcfonmbojkolfaaW.PrintWords Go.Proofs.Ytcfonmbojkolfaa.Mem Go.Proofs.Ytcfonmbojkolfaa.Own Go.Proofs.Ytcfonmbojkolfaa.Maps Go.Proofs.Ytcfonmbojkolfaa.PN

/-- Below 8. -/
def b8 (x : Int) : Int := (decklebook_Below.f x 8).getD 0
theorem b8_is (x : Int) : decklebook_Below.f x 8 = some (b8 x) ∧ 0 ≤ b8 x ∧ b8 x < 8 := by
  have h1 : Int.tmod x 8 < 8 := Int.tmod_lt_of_pos x (by decide)
  have h2 : -8 < Int.tmod x 8 := by
    have := Int.tmod_lt_of_pos (-x) (b := 8) (by decide)
    rw [Int.neg_tmod] at this
    omega
  unfold b8 decklebook_Below.f
  rw [if_neg (by decide)]
  by_cases h : Int.tmod x 8 < 0
  · rw [if_pos h]
    have e : wrap64 (Int.tmod x 8 + 8) = Int.tmod x 8 + 8 := by unfold wrap64; omega
    rw [e]
    exact ⟨rfl, by show 0 ≤ Int.tmod x 8 + 8; omega, by show Int.tmod x 8 + 8 < 8; omega⟩
  · rw [if_neg h]
    exact ⟨rfl, by show 0 ≤ Int.tmod x 8; omega, by show Int.tmod x 8 < 8; omega⟩
structure FS where
  row : List Int
  src : List S27
def at8 (s : FS) (x : Int) : Int := s.row.getD (b8 x).toNat 0
def stepF (tg : Int) (s : FS) (x : Int) : FS := if b8 x = tg ∨ 18 ≤ at8 s x then s else ⟨s.row.set (b8 x).toNat (at8 s x + 1), s.src ++ [⟨b8 x, at8 s x / 3, at8 s x % 3⟩]⟩
structure FInv (tg : Int) (s : FS) : Prop where
  len : s.row.length = 8
  row : ∀ r ∈ s.row, 0 ≤ r ∧ r ≤ 18
  ins : ∀ a ∈ s.src, (0 ≤ a.f0 ∧ a.f0 < 8) ∧ a.f0 ≠ tg ∧ 0 ≤ a.f1 ∧ (0 ≤ a.f2 ∧ a.f2 < 3) ∧ 3 * a.f1 + a.f2 < s.row.getD a.f0.toNat 0
  once : (s.src.map tOf).Nodup
  sum : (s.src.length : Int) = s.row.sum
theorem sum_set : ∀ (l : List Int) (i : Nat), i < l.length → (l.set i (l.getD i 0 + 1)).sum = l.sum + 1
  | [], i, h => absurd h (by simp)
  | x :: l, 0, _ => by simp; omega
  | x :: l, i + 1, h => by
    have := sum_set l i (by simpa using h)
    simp only [List.set_cons_succ, List.sum_cons, List.getD_cons_succ]
    omega
theorem sum_le : ∀ (l : List Int), (∀ r ∈ l, 0 ≤ r ∧ r ≤ 18) → l.sum ≤ 18 * l.length
  | [], _ => by simp
  | x :: l, h => by
    have := sum_le l (fun r hr => h r (by simp [hr]))
    have := h x (by simp)
    simp only [List.sum_cons, List.length_cons]
    omega
def fs0 : FS := ⟨List.replicate 8 0, []⟩
theorem fs0_inv (tg : Int) : FInv tg fs0 := ⟨rfl, by decide, by simp [fs0], by simp [fs0], by decide⟩
theorem at8_bound {tg : Int} {s : FS} (h : FInv tg s) (x : Int) : 0 ≤ at8 s x ∧ at8 s x ≤ 18 := by
  obtain ⟨_, h0, h1⟩ := b8_is x
  have hl := h.len
  have hi : (b8 x).toNat < s.row.length := by omega
  have : at8 s x = s.row[(b8 x).toNat] := by
    unfold at8
    rw [List.getD_eq_getElem?_getD, List.getElem?_eq_getElem hi]; rfl
  rw [this]
  exact h.row _ (List.getElem_mem hi)
theorem stepF_inv {tg : Int} {s : FS} (h : FInv tg s) (x : Int) : FInv tg (stepF tg s x) := by
  unfold stepF
  obtain ⟨_, h0, h1⟩ := b8_is x
  obtain ⟨g0, g1⟩ := at8_bound h x
  have hl := h.len
  by_cases hc : b8 x = tg ∨ 18 ≤ at8 s x
  · rw [if_pos hc]; exact h
  · rw [if_neg hc]
    have hi : (b8 x).toNat < s.row.length := by omega
    refine ⟨by simpa using h.len, ?_, ?_, ?_, ?_⟩
    · intro r hr
      rcases List.mem_or_eq_of_mem_set hr with h2 | h2
      · exact h.row r h2
      · omega
    · intro a ha
      have hg : ∀ j : Nat, (s.row.set (b8 x).toNat (at8 s x + 1)).getD j 0 = if (b8 x).toNat = j then at8 s x + 1 else s.row.getD j 0 := by
        intro j
        rw [List.getD_eq_getElem?_getD, List.getElem?_set, List.getD_eq_getElem?_getD]
        by_cases hj : (b8 x).toNat = j
        · rw [if_pos hj, if_pos hj, if_pos (by omega)]; rfl
        · rw [if_neg hj, if_neg hj]
      show _ ∧ _ ∧ _ ∧ _ ∧ _ < (s.row.set (b8 x).toNat (at8 s x + 1)).getD a.f0.toNat 0
      rw [hg]
      rcases List.mem_append.mp ha with h2 | h2
      · obtain ⟨k1, k2, k3, k4, k5⟩ := h.ins a h2
        refine ⟨k1, k2, k3, k4, ?_⟩
        by_cases hj : (b8 x).toNat = a.f0.toNat
        · rw [if_pos hj]
          have : at8 s x = s.row.getD a.f0.toNat 0 := by unfold at8; rw [hj]
          omega
        · rw [if_neg hj]; exact k5
      · obtain rfl := List.mem_singleton.mp h2
        refine ⟨⟨h0, h1⟩, fun e => hc (.inl e), by show 0 ≤ at8 s x / 3; omega, ⟨by show 0 ≤ at8 s x % 3; omega, by show at8 s x % 3 < 3; omega⟩, ?_⟩
        rw [if_pos rfl]
        show 3 * (at8 s x / 3) + at8 s x % 3 < at8 s x + 1
        omega
    · rw [List.map_append, List.nodup_append]
      refine ⟨h.once, by simp, ?_⟩
      intro t ht t2 ht2 e
      obtain ⟨a, ha, rfl⟩ := List.mem_map.mp ht
      simp only [List.map_cons, List.map_nil, List.mem_singleton] at ht2
      obtain ⟨_, _, _, _, k5⟩ := h.ins a ha
      rw [ht2] at e
      have e0 : a.f0 = b8 x := congrArg (·.1) e
      have e1 : a.f1 = at8 s x / 3 := congrArg (·.2.1) e
      have e2 : a.f2 = at8 s x % 3 := congrArg (·.2.2) e
      have : at8 s x = s.row.getD a.f0.toNat 0 := by unfold at8; rw [e0]
      omega
    · show ((s.src ++ [_]).length : Int) = _
      have := sum_set s.row (b8 x).toNat hi
      have e : at8 s x = s.row.getD (b8 x).toNat 0 := rfl
      rw [← e] at this
      rw [this, List.length_append]
      have := h.sum
      simp only [List.length_cons, List.length_nil]
      omega
theorem FInv.short {tg : Int} {s : FS} (h : FInv tg s) : s.src.length ≤ 144 := by
  have h1 := sum_le s.row h.row
  have h2 := h.sum
  have h3 := h.len
  omega
theorem runM_tw (tg : Int) : ∀ (l : List S27) (i : Nat) (s : MS), s.tw = false → (∀ a ∈ l, mget (tOf a) s.m = none) → (l.map tOf).Nodup → (∀ a ∈ l, a.f0 ≠ tg) → (runM tg i l s).tw = false
  | [], _, _, h, _, _, _ => h
  | b :: l, i, s, h, hm, hn, ht => by
    rw [List.map_cons, List.nodup_cons] at hn
    refine runM_tw tg l (i + 1) (stepM tg s i (tOf b)) ?_ ?_ hn.2 (fun a ha => ht a (by simp [ha]))
    · show (s.tw || (mget (tOf b) s.m).isSome || (b.f0 == tg)) = false
      rw [h, hm b (by simp)]
      simpa using ht b (by simp)
    · intro a ha
      show mget (tOf a) (mset (tOf b) (i : Int) s.m) = none
      rw [mget_set, if_neg (fun e => hn.1 (by rw [← e]; exact List.mem_map.mpr ⟨a, ha, rfl⟩))]
      exact hm a (by simp [ha])
theorem fits_make {tg : Int} {s : FS} (h : FInv tg s) (h0 : 0 ≤ tg) (h1 : tg < 8) : makeC G0 tg s.src = if 18 < s.src.length then 2 else 0 := by
  have hp : ∀ a ∈ s.src, PageIn G0 (tOf a) := by
    intro a ha
    obtain ⟨k1, k2, k3, k4, k5⟩ := h.ins a ha
    have hi : a.f0.toNat < s.row.length := by have := h.len; omega
    have : s.row.getD a.f0.toNat 0 ≤ 18 := by
      rw [List.getD_eq_getElem?_getD, List.getElem?_eq_getElem hi]
      exact (h.row _ (List.getElem_mem hi)).2
    exact ⟨k1, ⟨k3, by show a.f1 < 6; omega⟩, k4⟩
  have htw : (runM tg 0 s.src ms0).tw = false := runM_tw tg s.src 0 ms0 rfl (fun a _ => rfl) h.once (fun a ha => (h.ins a ha).2.1)
  unfold makeC
  rw [if_neg (not_not_intro hp), if_neg (by show ¬ (tg < 0 ∨ (8 : Int) ≤ tg); omega), htw]
  by_cases hl : 18 < s.src.length
  · rw [if_pos (by show (3 * 6 : Int) < s.src.length; omega), if_pos hl]
  · rw [if_neg (by show ¬ (3 * 6 : Int) < s.src.length; omega), if_neg hl]
    simp
end Go.Proofs.Ytcfonmbojkolfaa.Plan
