/- Package pmap: THERE AND BACK, what is counted. -/
import Derived.Test.YtiblpienmkjmgaaProg
import Derived.Below
import Derived.Carry
import Derived.Deep.Draws
import Derived.Deep.AppendLies
import Derived.Maps.AppendAt
import Derived.OwnWalk
import Derived.Laws.BytesArg
import Derived.Laws.MakeOwn
import Derived.Laws.OwnMore
import Derived.Deep.OwnRows
import Derived.Tactics
import Derived.Lib.ConvBytes
import Derived.Laws.Slices
import Derived.WalkKit
import Derived.KernelRfl
import Derived.RowKit3
import Derived.Deep.LoopGhost
import Derived.Deep.QuietTactic
import Derived.BigQuiet
import Derived.WideLaws
import Derived.Deep.DeepCutAuto
import Derived.Deep.CutBlock
import Derived.Deep.RegionHeld3
import Derived.Deep.RegionWith
import Derived.Laws.Rows
import Derived.Lib.AppendStr
import Derived.ArgAppend
import Derived.Laws.IdiomCopy
import Derived.OrdersHeld
import Derived.Laws.BitsLemmas
import Derived.Outline
import Derived.RegionTactic
import Derived.Lib.Hide
import Derived.StillTailTactics
import Derived.Deep.RegionWith
import Derived.OpenShut
import Derived.Test.YtiblpienmkjmgaaWWords
import Derived.Test.YtiblpienmkjmgaaPmapM
set_option linter.unusedVariables false
namespace Go.Proofs.Ytiblpienmkjmgaa.Pmap
open Go.RowKit Go.Proofs.YtiblpienmkjmgaaW.PrintWords Go.Proofs.Ytiblpienmkjmgaa.Mem Go.Proofs.Ytiblpienmkjmgaa.Own Go.Proofs.Ytiblpienmkjmgaa.Maps Go.Proofs.Ytiblpienmkjmgaa.PM

theorem count_split (f : Int × Tri → Int) (m : Int) (l : List (Int × Tri)) : l.countP (fun x => decide (f x < m + 1)) = l.countP (fun x => decide (f x < m)) + l.countP (fun x => decide (f x = m)) := by
  induction l with
  | nil => rfl
  | cons x l ih =>
    simp only [List.countP_cons, ih, decide_eq_true_eq]
    by_cases h1 : f x < m
    · rw [if_pos (by omega), if_pos h1, if_neg (by omega)]; omega
    · by_cases h2 : f x = m
      · rw [if_pos (by omega), if_neg h1, if_pos h2]; omega
      · rw [if_neg (by omega), if_neg h1, if_neg h2]; omega
theorem count_none (p : Int × Tri → Bool) (l : List (Int × Tri)) (h : ∀ x ∈ l, p x = false) : l.countP p = 0 := by
  rw [List.countP_eq_zero]
  intro x hx
  rw [h x hx]; simp
theorem count_key {G : G6} {S : PS} (hi : Inv G S) (k : Int) : S.l1.countP (fun x => decide (x.1 = k)) = if (mget k S.l1).isSome = true then 1 else 0 := by
  cases hx : mget k S.l1 with
  | none =>
    rw [if_neg (by simp)]
    refine count_none _ _ (fun x hm => decide_eq_false (fun e => ?_))
    have := mem_get S.l1 hi.o1 x hm
    rw [e, hx] at this
    cases this
  | some a =>
    rw [if_pos (by simp), count_del _ k a S.l1 hx, if_pos (by simp), count_none]
    intro x hm
    refine decide_eq_false (fun e => ?_)
    have := mem_get _ (once_del k S.l1 hi.o1).1 x hm
    rw [mget_del _ _ _ hi.o1, if_pos e] at this
    cases this
theorem count_val {G : G6} {S : PS} (hi : Inv G S) (a : Tri) : S.l1.countP (fun x => decide (x.2 = a)) = if (mget a S.l2).isSome = true then 1 else 0 := by
  cases hx : mget a S.l2 with
  | none =>
    rw [if_neg (by simp)]
    refine count_none _ _ (fun x hm => decide_eq_false (fun e => ?_))
    have := (hi.bij _ _).1 (mem_get S.l1 hi.o1 x hm)
    rw [e, hx] at this
    cases this
  | some k =>
    have hk := (hi.bij k a).2 hx
    rw [if_pos (by simp), count_del _ k a S.l1 hk, if_pos (by simp), count_none]
    intro x hm
    refine decide_eq_false (fun e => ?_)
    have := mem_get _ (once_del k S.l1 hi.o1).1 x hm
    rw [mget_del _ _ _ hi.o1] at this
    split at this
    · cases this
    · rename_i hne
      have h2 := (hi.bij _ _).1 this
      rw [e, hx] at h2
      exact hne (Option.some.inj h2).symm
/-- Of the first sectors how many have a page. -/
def cnt1 (S : PS) : Nat → Nat
  | 0 => 0
  | i + 1 => if (mget (i : Int) S.l1).isSome = true then cnt1 S i + 1 else cnt1 S i
theorem cnt1_is {G : G6} {S : PS} (hi : Inv G S) : ∀ i : Nat, cnt1 S i = S.l1.countP (fun x => decide (x.1 < (i : Int)))
  | 0 => by
    rw [count_none]; rfl
    intro x hm
    have := hi.keys x.1 (List.mem_map_of_mem hm)
    unfold SecIn at this
    exact decide_eq_false (by omega)
  | i + 1 => by
    have h1 := count_split (fun x => x.1) (i : Int) S.l1
    have h2 := count_key hi (i : Int)
    have h3 := cnt1_is hi i
    have e : ((i + 1 : Nat) : Int) = (i : Int) + 1 := by omega
    rw [e, h1, h2, ← h3]
    show (if (mget (i : Int) S.l1).isSome = true then cnt1 S i + 1 else cnt1 S i) = _
    split <;> rfl
theorem cnt1_all {S : PS} (hi : Inv G0 S) : cnt1 S 4 = S.l1.length := by
  rw [cnt1_is hi, List.countP_eq_length]
  intro x hm
  have := hi.keys x.1 (List.mem_map_of_mem hm)
  unfold SecIn at this
  exact decide_eq_true this.2
theorem cnt1_le (S : PS) : ∀ i, cnt1 S i ≤ i
  | 0 => Nat.le_refl _
  | i + 1 => by have := cnt1_le S i; show (if (mget (i : Int) S.l1).isSome = true then cnt1 S i + 1 else cnt1 S i) ≤ _; split <;> omega
/-- Of the first blocks how many pages have a sector. -/
def sumB (S : PS) : Nat → Nat
  | 0 => 0
  | b + 1 => sumB S b + S.l1.countP (inB b)
theorem sumB_is {G : G6} {S : PS} (hi : Inv G S) : ∀ b : Nat, sumB S b = S.l1.countP (fun x => decide (x.2.1 < (b : Int)))
  | 0 => by
    rw [count_none]; rfl
    intro x hm
    have := (hi.dom _ _ (mem_get S.l1 hi.o1 x hm)).2
    unfold PageIn at this
    exact decide_eq_false (by omega)
  | b + 1 => by
    have h1 := count_split (fun x => x.2.1) (b : Int) S.l1
    have h3 := sumB_is hi b
    have e : ((b + 1 : Nat) : Int) = (b : Int) + 1 := by omega
    rw [e, h1, ← h3]; rfl
theorem sumB_all {G : G6} {S : PS} (hi : Inv G S) : sumB S G.b.toNat = S.l1.length := by
  rw [sumB_is hi, List.countP_eq_length]
  intro x hm
  have := (hi.dom _ _ (mem_get S.l1 hi.o1 x hm)).2
  unfold PageIn at this
  exact decide_eq_true (by omega)
/-- A page's place in its block. -/
abbrev plcOf (a : Tri) : Int := 3 * a.2.1 + a.2.2
theorem pg_count {G : G6} {S : PS} (hi : Inv G S) (b : Nat) : ∀ m : Nat, (pg S.l2 b m).length = S.l1.countP (fun x => decide (x.2.1 = (b : Int) ∧ plcOf x.2 < (m : Int)))
  | 0 => by
    rw [count_none]; rfl
    intro x hm
    have := (hi.dom _ _ (mem_get S.l1 hi.o1 x hm)).2
    unfold PageIn at this
    exact decide_eq_false (by unfold plcOf; omega)
  | m + 1 => by
    have h3 := pg_count hi b m
    have h2 := count_val hi (plc b m)
    have h4 : S.l1.countP (fun x => decide (x.2.1 = (b : Int) ∧ plcOf x.2 < ((m + 1 : Nat) : Int))) = S.l1.countP (fun x => decide (x.2.1 = (b : Int) ∧ plcOf x.2 < (m : Int))) + S.l1.countP (fun x => decide (x.2 = plc b m)) := by
      have hd : ∀ x ∈ S.l1, PageIn G x.2 := fun x hm => (hi.dom _ _ (mem_get S.l1 hi.o1 x hm)).2
      clear h2 h3
      generalize S.l1 = l at hd
      induction l with
      | nil => rfl
      | cons x l ih =>
        simp only [List.countP_cons, ih (fun y hy => hd y (List.mem_cons_of_mem _ hy)), decide_eq_true_eq]
        have hx := hd x List.mem_cons_self
        unfold PageIn at hx
        have hp : x.2 = plc b m ↔ x.2.1 = (b : Int) ∧ plcOf x.2 = (m : Int) := by
          obtain ⟨k, p, q, r⟩ := x
          simp only [plc, plcOf, Prod.mk.injEq] at hx ⊢
          omega
        by_cases e1 : x.2.1 = (b : Int) ∧ plcOf x.2 < (m : Int)
        · rw [if_pos ⟨e1.1, by omega⟩, if_pos e1, if_neg (fun h => by have := (hp.1 h).2; omega)]; omega
        · by_cases e2 : x.2 = plc b m
          · have := hp.1 e2
            rw [if_pos ⟨this.1, by omega⟩, if_neg e1, if_pos e2]; omega
          · rw [if_neg (fun h => e2 (hp.2 ⟨h.1, by omega⟩)), if_neg e1, if_neg e2]; omega
    rw [h4, ← h3, h2]
    show (if (mget (plc b m) S.l2).isSome = true then pg S.l2 b m ++ [ofTri (plc b m)] else pg S.l2 b m).length = _
    split
    · rw [List.length_append]; rfl
    · rfl
theorem pg_all {G : G6} {S : PS} (hi : Inv G S) (hok : G.Ok) (b : Nat) : (pg S.l2 b (3 * G.l.toNat)).length = S.l1.countP (inB b) := by
  have hs := hok.1
  unfold SizesOk at hs
  rw [pg_count hi]
  apply List.countP_congr
  intro x hm
  have := (hi.dom _ _ (mem_get S.l1 hi.o1 x hm)).2
  unfold PageIn at this
  simp only [inB, decide_eq_true_eq]
  constructor
  · exact fun h => h.1
  · exact fun h => ⟨h, by unfold plcOf; omega⟩
theorem pages_len {G : G6} {S : PS} (hi : Inv G S) (hok : G.Ok) (b : Nat) (hb : (b : Int) < G.b) : ((pagesP G S b).length : Int) = validP S G.b.toNat b ∧ (pagesP G S b).length = S.l1.countP (inB b) := by
  have hv : validP S G.b.toNat b = (S.l1.countP (inB b) : Nat) := by
    unfold validP
    rw [if_pos (by omega), Int.toNat_natCast]
    exact hi.cnt b (by have := hi.len; omega)
  have h2 := pg_all hi hok b
  unfold pagesP
  rw [hv]
  split
  · rename_i h; simp; omega
  · exact ⟨by rw [h2], h2⟩
theorem pg_mem (l2 : List (Tri × Int)) (b : Int) (x : S24) : ∀ m : Nat, x ∈ pg l2 b m → ∃ y z k : Int, x = ⟨b, y, z⟩ ∧ mget (b, y, z) l2 = some k
  | 0, h => by simp [pg] at h
  | m + 1, h => by
    unfold pg at h
    split at h
    · rename_i hs
      rcases List.mem_append.1 h with h | h
      · exact pg_mem l2 b x m h
      · obtain ⟨k, hk⟩ := Option.isSome_iff_exists.1 hs
        exact ⟨_, _, k, List.mem_singleton.1 h, hk⟩
    · exact pg_mem l2 b x m h
theorem pagesP_at {G : G6} {S : PS} (b : Int) (i : Nat) (h : i < (pagesP G S b).length) : ∃ y z k : Int, (pagesP G S b).getD i z24 = ⟨b, y, z⟩ ∧ mget (b, y, z) S.l2 = some k := by
  have hm : (pagesP G S b).getD i z24 ∈ pagesP G S b := by
    rw [List.getD_eq_getElem?_getD, List.getElem?_eq_getElem h]; exact List.getElem_mem h
  have h2 : ∀ x ∈ pagesP G S b, ∃ y z k : Int, x = ⟨b, y, z⟩ ∧ mget (b, y, z) S.l2 = some k := by
    unfold pagesP
    split
    · intro x hx; simp at hx
    · exact fun x hx => pg_mem S.l2 b x _ hx
  exact h2 _ hm
end Go.Proofs.Ytiblpienmkjmgaa.Pmap
