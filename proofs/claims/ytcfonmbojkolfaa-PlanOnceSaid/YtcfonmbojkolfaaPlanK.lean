/- Law PlanOnce: plain. -/
import Derived.Test.YtcfonmbojkolfaaProg
import Derived.Below
import Derived.Carry
import Derived.Deep.Draws
import Derived.Deep.AppendLies
import Derived.Maps.AppendAt
import Derived.OwnWalk
import Derived.Laws.BytesArg
import Derived.Laws.MakeOwn
import Derived.Laws.OwnMore
import Derived.Deep.OwnRows
import Derived.Tactics
import Derived.Lib.ConvBytes
import Derived.Laws.Slices
import Derived.WalkKit
import Derived.KernelRfl
import Derived.RowKit3
import Derived.Deep.LoopGhost
import Derived.Deep.QuietTactic
import Derived.BigQuiet
import Derived.WideLaws
import Derived.Deep.DeepCutAuto
import Derived.Deep.CutBlock
import Derived.Deep.RegionHeld3
import Derived.Deep.RegionWith
import Derived.Laws.Rows
import Derived.Lib.AppendStr
import Derived.ArgAppend
import Derived.Laws.IdiomCopy
import Derived.OrdersHeld
import Derived.Laws.BitsLemmas
import Derived.Outline
import Derived.RegionTactic
import Derived.Lib.Hide
import Derived.StillTailTactics
import Derived.Deep.RegionWith
import Derived.OpenShut
import Derived.Test.YtcfonmbojkolfaaWWords
import Derived.Test.YtcfonmbojkolfaaPlanE
import Derived.Test.YtcfonmbojkolfaaPlanI
import Derived.Lib.BufferMore
import Derived.Lib.LazyBuf
set_option linter.unusedVariables false
set_option linter.unusedSimpArgs false
namespace Go.Proofs.Ytcfonmbojkolfaa.Plan
open Go.RowKit Go.Proofs.YtcfonmbojkolfaaW.PrintWords Go.Proofs.Ytcfonmbojkolfaa.Mem Go.Proofs.Ytcfonmbojkolfaa.Own Go.Proofs.Ytcfonmbojkolfaa.Maps Go.Proofs.Ytcfonmbojkolfaa.PN

theorem runM_all (tg : Int) : ∀ (l : List S27) (i : Nat) (s : MS), (runM tg i l s).tw = false → s.tw = false ∧ (∀ a ∈ l, a.f0 ≠ tg ∧ mget (tOf a) s.m = none) ∧ (l.map tOf).Nodup ∧
    (∀ k, (∀ a ∈ l, tOf a ≠ k) → mget k (runM tg i l s).m = mget k s.m) ∧ ∀ (j : Nat) (h : j < l.length), mget (tOf l[j]) (runM tg i l s).m = some ((i + j : Nat) : Int)
  | [], i, s, h => ⟨h, by simp, by simp, fun _ _ => rfl, fun j h => absurd h (by simp)⟩
  | b :: l, i, s, h => by
    obtain ⟨h1, h2, h3, h4, h5⟩ := runM_all tg l (i + 1) (stepM tg s i (tOf b)) h
    have h1' : (s.tw || (mget (tOf b) s.m).isSome || (b.f0 == tg)) = false := h1
    simp only [Bool.or_eq_false_iff] at h1'
    obtain ⟨⟨k1, k2⟩, k3⟩ := h1'
    have k2' : mget (tOf b) s.m = none := by simpa using k2
    have k3' : b.f0 ≠ tg := by simpa using k3
    have hm : ∀ k, mget k (stepM tg s i (tOf b)).m = if k = tOf b then some (i : Int) else mget k s.m := fun k => mget_set (tOf b) k (i : Int) s.m
    have hne : ∀ a ∈ l, tOf a ≠ tOf b ∧ mget (tOf a) s.m = none := by
      intro a ha
      have := (h2 a ha).2
      rw [hm] at this
      by_cases e : tOf a = tOf b
      · rw [if_pos e] at this; cases this
      · rw [if_neg e] at this; exact ⟨e, this⟩
    refine ⟨k1, ?_, ?_, ?_, ?_⟩
    · intro a ha
      rcases List.mem_cons.mp ha with rfl | ha
      · exact ⟨k3', k2'⟩
      · exact ⟨(h2 a ha).1, (hne a ha).2⟩
    · rw [List.map_cons, List.nodup_cons]
      refine ⟨fun hmem => ?_, h3⟩
      obtain ⟨a, ha, e⟩ := List.mem_map.mp hmem
      exact (hne a ha).1 e
    · intro k hk
      show mget k (runM tg (i + 1) l (stepM tg s i (tOf b))).m = _
      rw [h4 k (fun a ha => hk a (by simp [ha])), hm, if_neg (fun e => hk b (by simp) e.symm)]
    · intro j hj
      show mget _ (runM tg (i + 1) l (stepM tg s i (tOf b))).m = _
      cases j with
      | zero =>
        show mget (tOf b) _ = _
        rw [h4 (tOf b) (fun a ha => (hne a ha).1), hm, if_pos rfl]; rfl
      | succ j =>
        have hj' : j < l.length := by simpa using hj
        show mget (tOf l[j]) _ = _
        rw [h5 j hj']
        congr 2
        omega
theorem rd_get (l : List S27) (i : Nat) (h : i < l.length) : rd_T27 l (i : Int) = l[i] := by
  show l.getD (i : Int).toNat z27 = _
  rw [Int.toNat_natCast, List.getD_eq_getElem?_getD, List.getElem?_eq_getElem h]; rfl
/-- What is known where there is a plan. -/
theorem plan_yes {tg : Int} {l : List S27} (h : makeC G0 tg l = 0) : (0 ≤ tg ∧ tg < 8) ∧ l.length ≤ 18 ∧ (∀ i : Nat, i < l.length → toP (planOf G0 tg l) (tOf (rd_T27 l i)) = (plcAt tg i, true)) ∧ (∀ i : Nat, i < l.length → 0 ≤ (rd_T27 l i).f0) ∧
    ∀ a i, mget a (planOf G0 tg l).m = some i → 0 ≤ i ∧ i ≤ 1000000 := by
  unfold makeC at h
  by_cases c1 : ∀ a ∈ l, PageIn G0 (tOf a)
  · rw [if_neg (not_not_intro c1)] at h
    by_cases c2 : tg < 0 ∨ G0.b ≤ tg
    · rw [if_pos c2] at h; cases h
    · rw [if_neg c2] at h
      by_cases c3 : 3 * G0.l < l.length
      · rw [if_pos c3] at h; cases h
      · rw [if_neg c3] at h
        have htw : (runM tg 0 l ms0).tw = false := by
          cases e : (runM tg 0 l ms0).tw with
          | false => rfl
          | true => rw [e] at h; cases h
        obtain ⟨_, _, _, g4, g5⟩ := runM_all tg l 0 ms0 htw
        have c2' : ¬ (tg < 0 ∨ (8 : Int) ≤ tg) := c2
        have c3' : ¬ (3 * 6 : Int) < l.length := c3
        refine ⟨by omega, by omega, ?_, ?_, ?_⟩
        · intro i hi
          unfold toP
          rw [rd_get l i hi]
          have := g5 i hi
          rw [Nat.zero_add] at this
          show (match mget (tOf l[i]) (runM tg 0 l ms0).m with | none => _ | some i => _) = _
          rw [this]
          rfl
        · intro i hi
          rw [rd_get l i hi]
          exact (c1 _ (List.getElem_mem hi)).1.1
        · intro a i hi
          by_cases hm : ∃ b ∈ l, tOf b = a
          · obtain ⟨b, hb, rfl⟩ := hm
            obtain ⟨j, hj, rfl⟩ := List.getElem_of_mem hb
            have := g5 j hj
            rw [Nat.zero_add] at this
            have hi' : mget (tOf l[j]) (runM tg 0 l ms0).m = some i := hi
            rw [this] at hi'
            obtain rfl := Option.some.inj hi'
            omega
          · have : mget a (runM tg 0 l ms0).m = mget a ms0.m := g4 a (fun b hb e => hm ⟨b, hb, e⟩)
            have hi' : mget a (runM tg 0 l ms0).m = some i := hi
            rw [this] at hi'
            cases hi'
  · rw [if_pos c1] at h; cases h
/-- The places taken so far. -/
def takenM (tg : Int) : Nat → List (Tri × Int)
  | 0 => []
  | k + 1 => mset (plcAt tg k) 1 (takenM tg k)
theorem taken_none (tg : Int) (i : Nat) : ∀ k : Nat, k ≤ i → mget (plcAt tg i) (takenM tg k) = none
  | 0, _ => rfl
  | k + 1, h => by
    show mget (plcAt tg i) (mset (plcAt tg k) 1 (takenM tg k)) = none
    rw [mget_set, if_neg, taken_none tg i k (by omega)]
    intro e
    have e1 := congrArg (·.2.1) e
    have e2 := congrArg (·.2.2) e
    simp only at e1 e2
    omega
/-- How many sources a line has. -/
def onLine (n : Nat) (r : Int) : Int := if 3 * r + 2 < n then 3 else if 3 * r + 1 < n then 2 else if 3 * r < n then 1 else 0
/-- How many sources the first k steps tell, foggy (b false) or fine. -/
def toldN (n : Nat) (b : Bool) : Nat → Int
  | 0 => 0
  | k + 1 => toldN n b k + if (six.getD k (0, false)).2 = b then onLine n (six.getD k (0, false)).1 else 0
theorem told_all (b : Bool) : ∀ n : Fin 19, toldN n.val b 12 = (n.val : Nat) := by cases b <;> decide +kernel
theorem told_bd (n : Nat) (b : Bool) : ∀ k : Nat, 0 ≤ toldN n b k ∧ toldN n b k ≤ 3 * k
  | 0 => by simp [toldN]
  | k + 1 => by
    have := told_bd n b k
    have h2 : 0 ≤ onLine n (six.getD k (0, false)).1 ∧ onLine n (six.getD k (0, false)).1 ≤ 3 := by unfold onLine; split <;> (try split) <;> (try split) <;> omega
    unfold toldN
    split <;> omega
end Go.Proofs.Ytcfonmbojkolfaa.Plan
