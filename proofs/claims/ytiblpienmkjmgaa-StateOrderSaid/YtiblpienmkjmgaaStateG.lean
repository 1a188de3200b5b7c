/- What a law reads of a state; what records come to, in plain numbers. -/
import Derived.Test.YtiblpienmkjmgaaProg
import Derived.Below
import Derived.Deep.Draws
import Derived.Deep.AppendLies
import Derived.Maps.AppendAt
import Derived.OwnWalk
import Derived.Laws.BytesArg
import Derived.Laws.MakeOwn
import Derived.Laws.OwnMore
import Derived.Deep.OwnRows
import Derived.Tactics
import Derived.Lib.ConvBytes
import Derived.Laws.Slices
import Derived.WalkKit
import Derived.KernelRfl
import Derived.RowKit3
import Derived.Deep.LoopGhost
import Derived.Deep.QuietTactic
import Derived.BigQuiet
import Derived.WideLaws
import Derived.Deep.DeepCutAuto
import Derived.Deep.CutBlock
import Derived.Deep.RegionHeld3
import Derived.Deep.RegionWith
import Derived.Laws.Rows
import Derived.Lib.AppendStr
import Derived.ArgAppend
import Derived.Laws.IdiomCopy
import Derived.OrdersHeld
import Derived.Laws.BitsLemmas
import Derived.Outline
import Derived.RegionTactic
import Derived.Lib.Hide
import Derived.StillTailTactics
import Derived.Deep.RegionWith
import Derived.OpenShut
import Derived.Test.YtiblpienmkjmgaaWWords
import Derived.Test.YtiblpienmkjmgaaWKept
import Derived.Test.YtiblpienmkjmgaaStateF
import Derived.Test.YtiblpienmkjmgaaPSx0
import Derived.Test.YtiblpienmkjmgaaPSGeomLemmas
import Derived.WalkSpells
import Derived.Deep.RegionHeld3
import Derived.Lib.BufferMore
set_option linter.unusedVariables false
namespace Go.Proofs.Ytiblpienmkjmgaa.StateA
open Go.RowKit Go.Proofs.YtiblpienmkjmgaaW.PrintWords Go.Proofs.Ytiblpienmkjmgaa.Mem Go.Proofs.Ytiblpienmkjmgaa.PS

/-- A state in a variable of the call's own. -/
structure StAt (w : World) (l : Loc) (K : Kp) : Prop where
  blk : w.heap[l.g]? = some (.cells #[.slice (some ⟨l.a1, 0, none⟩) K.F.length l.c1, .slice (some ⟨l.a2, 0, none⟩) K.C.length l.c2, .slice (some ⟨l.a3, 0, none⟩) K.S.length l.c3, .slice (some ⟨l.a4, 0, none⟩) K.T.length l.c4] 69 (0, 0))
  r1 : RowAt w l.a1 l.c1 K.F
  r2 : RowAt w l.a2 l.c2 K.C
  r3 : RowAt w l.a3 l.c3 K.S
  r4 : RowAt w l.a4 l.c4 K.T
theorem StAt.move {w w1 : World} {l : Loc} {K : Kp} (h : StAt w l K) (hm : ∀ k, k < w.heap.size → (k = l.g ∨ l.Of k) → w1.heap[k]? = w.heap[k]?) : StAt w1 l K :=
  ⟨(hm _ (blk_lt h.blk) (.inl rfl)).trans h.blk, h.r1.move (hm _ h.r1.lt (.inr (.inl rfl))), h.r2.move (hm _ h.r2.lt (.inr (.inr (.inl rfl)))), h.r3.move (hm _ h.r3.lt (.inr (.inr (.inr (.inl rfl))))), h.r4.move (hm _ h.r4.lt (.inr (.inr (.inr (.inr rfl)))))⟩
theorem StAt.below {w w1 : World} {l : Loc} {K : Kp} (h : StAt w l K) (hb : Below w.heap.size w w1) : StAt w1 l K := h.move (fun k hk _ => hb.block k hk)
theorem StAt.drewN {w : World} {l : Loc} {K : Kp} (h : StAt w l K) (n : Nat) : StAt (w.drewN n) l K := h.move (fun _ _ _ => rfl)
theorem put4 {W : World} {g : Nat} {z1 z2 z3 z4 : Value} {T : TypeId} (h : W.heap[g]? = some (.cells #[z1, z2, z3, z4] T (0, 0))) (a b c d : Value) :
    ((((W.setCell ⟨g, 0, none⟩ a).setCell ⟨g, 1, none⟩ b).setCell ⟨g, 2, none⟩ c).setCell ⟨g, 3, none⟩ d).heap[g]? = some (.cells #[a, b, c, d] T (0, 0)) :=
  blk_put (blk_put (blk_put (blk_put h 0 a rfl) 1 b rfl) 2 c rfl) 3 d rfl
theorem far4 (W : World) (g k : Nat) (hk : k ≠ g) (a b c d : Value) : ((((W.setCell ⟨g, 0, none⟩ a).setCell ⟨g, 1, none⟩ b).setCell ⟨g, 2, none⟩ c).setCell ⟨g, 3, none⟩ d).heap[k]? = W.heap[k]? := by
  rw [Below.heap_setCell _ _ _ k hk, Below.heap_setCell _ _ _ k hk, Below.heap_setCell _ _ _ k hk, Below.heap_setCell _ _ _ k hk]

set_option maxHeartbeats 1000000 in
theorem whole_any (K : Kp) (b1 b2 b3 b4 d1 d2 d3 d4 : Nat) (w : World) (h1 : K.F.length = 4) (h2 : K.C.length = 8) (h3 : K.S.length = 8) (h4 : K.T.length = 8) :
    Calls Try.prog 35 #[stateV K b1 b2 b3 b4 d1 d2 d3 d4] w fun e w' => e = .returned (.bool true) ∧ Below w.heap.size w w' := by
  unfold stateV
  rw [h1, h2, h3, h4]
  go_enter Try.func35, Try.ntmps35
  go_wp2
  go_ret
  exact ⟨rfl, below_alloc (Below.refl _ _) _⟩

/-! ### records, one by one -/
/-- What is durable behind the first n records. -/
def runK (l : List S73) : Nat → Kp
  | 0 => newK 8 4
  | n + 1 => (applyK (runK l n) (rd_T73 l n).f0 (rd_T73 l n).f1 (rd_T73 l n).f2).1
structure Sized (K : Kp) (n : Int) : Prop where
  fine : K.Fine
  f : K.F.length = 4
  c : K.C.length = 8
  sn : ∀ x ∈ K.S, 0 ≤ x ∧ x ≤ n
  tn : ∀ x ∈ K.T, 0 ≤ x ∧ x ≤ n
theorem Sized.apply {K : Kp} {n : Int} (h : Sized K n) (hn : n ≤ 1000) (k a b : Int) : Sized (applyK K k a b).1 (n + 1) := by
  obtain ⟨f, l1, l2⟩ := apply_fine K k a b h.fine
  refine ⟨f, l1.trans h.f, l2.trans h.c, ?_, ?_⟩
  · have hs : ∀ x ∈ K.S, 0 ≤ x ∧ x ≤ n + 1 := fun x hx => by have := h.sn x hx; omega
    unfold applyK
    split
    · exact hs
    · split
      · exact hs
      · split
        · exact hs
        · split
          · split
            · exact hs
            · refine mem_set hs ?_
              by_cases hi : a.toNat < K.S.length
              · have := h.sn _ (getD_mem hi); omega
              · have e : K.S.getD a.toNat 0 = 0 := by rw [List.getD_eq_getElem?_getD, List.getElem?_eq_none (by omega)]; rfl
                have : 0 ≤ n := by
                  have h0 : 0 < K.S.length := h.fine.s0
                  have := h.sn _ (getD_mem h0); omega
                omega
          · exact hs
  · have hs : ∀ x ∈ K.T, 0 ≤ x ∧ x ≤ n + 1 := fun x hx => by have := h.tn x hx; omega
    unfold applyK
    split
    · exact hs
    · split
      · exact hs
      · split
        · exact hs
        · split
          · split
            · refine mem_set hs ?_
              by_cases hi : a.toNat < K.T.length
              · have := h.tn _ (getD_mem hi); omega
              · have e : K.T.getD a.toNat 0 = 0 := by rw [List.getD_eq_getElem?_getD, List.getElem?_eq_none (by omega)]; rfl
                have : 0 ≤ n := by
                  have h0 : 0 < K.T.length := h.fine.t0
                  have := h.tn _ (getD_mem h0); omega
                omega
            · exact hs
          · exact hs
theorem runK_sized (l : List S73) : ∀ n : Nat, n ≤ 1000 → Sized (runK l n) n
  | 0, _ => ⟨newK_fine 8 4 (by omega) (by omega) (by omega) (by omega), zeros_len 4, zeros_len 8, fun x hx => by obtain rfl := (List.mem_replicate.1 hx).2; omega, fun x hx => by obtain rfl := (List.mem_replicate.1 hx).2; omega⟩
  | n + 1, h => by
    have := (runK_sized l n (by omega)).apply (by omega) (rd_T73 l n).f0 (rd_T73 l n).f1 (rd_T73 l n).f2
    push_cast
    exact this
end Go.Proofs.Ytiblpienmkjmgaa.StateA
