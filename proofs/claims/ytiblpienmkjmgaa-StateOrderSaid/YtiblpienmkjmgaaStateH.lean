/- How much a record raises: in plain numbers. -/
import Derived.Test.YtiblpienmkjmgaaProg
import Derived.Below
import Derived.Deep.Draws
import Derived.Deep.AppendLies
import Derived.Maps.AppendAt
import Derived.OwnWalk
import Derived.Laws.BytesArg
import Derived.Laws.MakeOwn
import Derived.Laws.OwnMore
import Derived.Deep.OwnRows
import Derived.Tactics
import Derived.Lib.ConvBytes
import Derived.Laws.Slices
import Derived.WalkKit
import Derived.KernelRfl
import Derived.RowKit3
import Derived.Deep.LoopGhost
import Derived.Deep.QuietTactic
import Derived.BigQuiet
import Derived.WideLaws
import Derived.Deep.DeepCutAuto
import Derived.Deep.CutBlock
import Derived.Deep.RegionHeld3
import Derived.Deep.RegionWith
import Derived.Laws.Rows
import Derived.Lib.AppendStr
import Derived.ArgAppend
import Derived.Laws.IdiomCopy
import Derived.OrdersHeld
import Derived.Laws.BitsLemmas
import Derived.Outline
import Derived.RegionTactic
import Derived.Lib.Hide
import Derived.StillTailTactics
import Derived.Deep.RegionWith
import Derived.OpenShut
import Derived.Test.YtiblpienmkjmgaaWWords
import Derived.Test.YtiblpienmkjmgaaWKept
import Derived.Test.YtiblpienmkjmgaaStateG
import Derived.Test.YtiblpienmkjmgaaPSx0
import Derived.Test.YtiblpienmkjmgaaPSGeomLemmas
import Derived.WalkSpells
import Derived.Deep.RegionHeld3
import Derived.Lib.BufferMore
set_option linter.unusedVariables false
namespace Go.Proofs.Ytiblpienmkjmgaa.StateA
open Go.RowKit Go.Proofs.YtiblpienmkjmgaaW.PrintWords Go.Proofs.Ytiblpienmkjmgaa.Mem Go.Proofs.Ytiblpienmkjmgaa.PS

theorem getD_set (xs : List Int) (p i : Nat) (v : Int) : (xs.set p v).getD i 0 = if i = p ∧ p < xs.length then v else xs.getD i 0 := by
  rw [List.getD_eq_getElem?_getD, List.getElem?_set]
  by_cases h : p = i
  · subst h
    by_cases h2 : p < xs.length
    · simp [h2]
    · simp [h2]
  · rw [if_neg h, if_neg (by omega), List.getD_eq_getElem?_getD]
def gain (K K' : Kp) : Nat → Int
  | 0 => 0
  | i + 1 => gain K K' i + ((K'.S.getD i 0 - K.S.getD i 0) + (K'.T.getD i 0 - K.T.getD i 0))
structure Rise (K K' : Kp) (more : Int) : Prop where
  f : ∀ i : Nat, K.F.getD i 0 ≤ K'.F.getD i 0
  s : ∀ i : Nat, 0 ≤ K'.S.getD i 0 - K.S.getD i 0 ∧ K'.S.getD i 0 - K.S.getD i 0 ≤ 1
  t : ∀ i : Nat, 0 ≤ K'.T.getD i 0 - K.T.getD i 0 ∧ K'.T.getD i 0 - K.T.getD i 0 ≤ 1
  g : gain K K' 8 = more
theorem gain_same (K K' : Kp) (hs : K'.S = K.S) (ht : K'.T = K.T) : ∀ n, gain K K' n = 0
  | 0 => rfl
  | n + 1 => by unfold gain; rw [gain_same K K' hs ht n, hs, ht]; omega
theorem rise_same (K K' : Kp) (hf : ∀ i : Nat, K.F.getD i 0 ≤ K'.F.getD i 0) (hs : K'.S = K.S) (ht : K'.T = K.T) : Rise K K' 0 :=
  ⟨hf, fun i => by rw [hs]; omega, fun i => by rw [ht]; omega, gain_same K K' hs ht 8⟩
theorem gain_one (K K' : Kp) (p : Nat) (hd : ∀ i : Nat, (K'.S.getD i 0 - K.S.getD i 0) + (K'.T.getD i 0 - K.T.getD i 0) = if i = p then 1 else 0) : ∀ n, gain K K' n = if p < n then 1 else 0
  | 0 => by simp [gain]
  | n + 1 => by
    unfold gain
    rw [gain_one K K' p hd n, hd n]
    split <;> split <;> split <;> omega
theorem rise_apply {K : Kp} {n : Int} (h : Sized K n) (hn : n ≤ 1000) (k a b : Int) :
    Rise K (applyK K k a b).1 (if (applyK K k a b).2 = 0 ∧ k = 4 then 1 else 0) := by
  have l1 := h.fine.sc
  have l2 := h.fine.tc
  unfold applyK
  by_cases c1 : MayRec k a b
  · rw [if_neg (by simpa using c1)]
    by_cases c2 : roomK K k ≤ a
    · rw [if_pos c2, if_neg (by simp)]
      exact rise_same _ _ (fun i => Int.le_refl _) rfl rfl
    · rw [if_neg c2]
      by_cases c3 : k = 3
      · rw [if_pos c3, if_neg (by omega)]
        exact rise_same _ _ (fun i => Int.le_refl _) rfl rfl
      · rw [if_neg c3]
        by_cases c4 : k = 4
        · subst c4
          have ha : 0 ≤ a := by unfold MayRec at c1; omega
          have hr : a < K.C.length := by unfold roomK at c2; rw [if_neg (by omega)] at c2; omega
          rw [if_pos rfl]
          by_cases c5 : b = 2
          · rw [if_pos c5, if_pos ⟨rfl, rfl⟩]
            have hb := h.tn _ (getD_mem (i := a.toNat) (xs := K.T) (by omega))
            have ht : ∀ i : Nat, (K.T.set a.toNat (min (K.T.getD a.toNat 0 + 1) 16777215)).getD i 0 - K.T.getD i 0 = if i = a.toNat then 1 else 0 := fun i => by
              rw [getD_set]
              by_cases e : i = a.toNat
              · rw [if_pos ⟨e, by omega⟩, if_pos e, e]; omega
              · rw [if_neg (by omega), if_neg e]; omega
            refine ⟨fun i => Int.le_refl _, fun i => by simp, fun i => ?_, ?_⟩
            · show 0 ≤ (K.T.set _ _).getD i 0 - K.T.getD i 0 ∧ (K.T.set _ _).getD i 0 - K.T.getD i 0 ≤ 1
              rw [ht]; split <;> omega
            · rw [gain_one K _ a.toNat (fun i => by show K.S.getD i 0 - K.S.getD i 0 + ((K.T.set _ _).getD i 0 - K.T.getD i 0) = _; rw [ht]; split <;> omega), if_pos (by have := h.c; omega)]
          · rw [if_neg c5, if_pos ⟨rfl, rfl⟩]
            have hb := h.sn _ (getD_mem (i := a.toNat) (xs := K.S) (by omega))
            have ht : ∀ i : Nat, (K.S.set a.toNat (min (K.S.getD a.toNat 0 + 1) 16777215)).getD i 0 - K.S.getD i 0 = if i = a.toNat then 1 else 0 := fun i => by
              rw [getD_set]
              by_cases e : i = a.toNat
              · rw [if_pos ⟨e, by omega⟩, if_pos e, e]; omega
              · rw [if_neg (by omega), if_neg e]; omega
            refine ⟨fun i => Int.le_refl _, fun i => ?_, fun i => by simp, ?_⟩
            · show 0 ≤ (K.S.set _ _).getD i 0 - K.S.getD i 0 ∧ (K.S.set _ _).getD i 0 - K.S.getD i 0 ≤ 1
              rw [ht]; split <;> omega
            · rw [gain_one K _ a.toNat (fun i => by show (K.S.set _ _).getD i 0 - K.S.getD i 0 + (K.T.getD i 0 - K.T.getD i 0) = _; rw [ht]; split <;> omega), if_pos (by have := h.c; omega)]
        · rw [if_neg c4, if_neg (by omega)]
          refine rise_same _ _ (fun i => ?_) rfl rfl
          show K.F.getD i 0 ≤ (K.F.set _ _).getD i 0
          rw [getD_set]
          split
          · rename_i e; rw [e.1]; omega
          · omega
  · rw [if_pos (by simpa using c1), if_neg (by simp)]
    exact rise_same _ _ (fun i => Int.le_refl _) rfl rfl
theorem gain_bounds {K K' : Kp} {m : Int} (h : Rise K K' m) : ∀ n : Nat, 0 ≤ gain K K' n ∧ gain K K' n ≤ 2 * n
  | 0 => by simp [gain]
  | n + 1 => by
    have := gain_bounds h n
    have := h.s n
    have := h.t n
    unfold gain
    omega
end Go.Proofs.Ytiblpienmkjmgaa.StateA
