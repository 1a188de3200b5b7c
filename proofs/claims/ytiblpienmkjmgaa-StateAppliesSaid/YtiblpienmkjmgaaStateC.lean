/- Contracts of package state's methods, by hand: State, Apply, New. -/
import Derived.Test.YtiblpienmkjmgaaProg
import Derived.Below
import Derived.Deep.Draws
import Derived.Deep.AppendLies
import Derived.Maps.AppendAt
import Derived.OwnWalk
import Derived.Laws.BytesArg
import Derived.Laws.MakeOwn
import Derived.Laws.OwnMore
import Derived.Deep.OwnRows
import Derived.Tactics
import Derived.Lib.ConvBytes
import Derived.Laws.Slices
import Derived.WalkKit
import Derived.KernelRfl
import Derived.RowKit3
import Derived.Deep.LoopGhost
import Derived.Deep.QuietTactic
import Derived.BigQuiet
import Derived.WideLaws
import Derived.Deep.DeepCutAuto
import Derived.Deep.CutBlock
import Derived.Deep.RegionHeld3
import Derived.Deep.RegionWith
import Derived.Laws.Rows
import Derived.Lib.AppendStr
import Derived.ArgAppend
import Derived.Laws.IdiomCopy
import Derived.OrdersHeld
import Derived.Laws.BitsLemmas
import Derived.Outline
import Derived.RegionTactic
import Derived.Lib.Hide
import Derived.StillTailTactics
import Derived.Deep.RegionWith
import Derived.OpenShut
import Derived.Test.YtiblpienmkjmgaaWWords
import Derived.Test.YtiblpienmkjmgaaWKept
import Derived.Test.YtiblpienmkjmgaaStateB
import Derived.Test.YtiblpienmkjmgaaPSy1
import Derived.Test.YtiblpienmkjmgaaPSGeomLemmas
import Derived.WalkSpells
import Derived.Deep.RegionHeld3
import Derived.Lib.BufferMore
set_option linter.unusedVariables false
namespace Go.Proofs.Ytiblpienmkjmgaa.StateA
open Go.RowKit Go.Proofs.YtiblpienmkjmgaaW.PrintWords Go.Proofs.Ytiblpienmkjmgaa.Mem Go.Proofs.Ytiblpienmkjmgaa.PS

theorem cell_of_blk {w : World} {g : Nat} {cs : Array Value} {T : TypeId} (h : w.heap[g]? = some (.cells cs T (0, 0))) : g < w.heap.size := blk_lt h

set_option maxHeartbeats 1000000 in
theorem state_any (l : Loc) (K : Kp) (w : World) (h : KeepAt w l K) (ok : K.Ok) :
    Calls Try.prog 34 #[.pointer (some ⟨l.g, 0, none⟩)] w (NewState w K) := by
  obtain ⟨u0, u1, u2, u3, _, _, _, _⟩ := cells4 h.blk
  have z := blk_lt h.blk
  have H := Aside0.mk h
  have OK := Aside0.mk ok
  clear h ok
  go_enter Try.func34, Try.ntmps34
  go_wp2_with (go_at_call 60; refine (clone_any K l.a1 l.a2 l.a3 l.a4 l.c1 l.c2 l.c3 l.c4 _ (by exact (H.out.alloc _).r1) (by exact (H.out.alloc _).r2) (by exact (H.out.alloc _).r3) (by exact (H.out.alloc _).r4) OK.out).mono ?_; rintro e v1 ⟨a1, a2, a3, a4, c1, c2, c3, c4, rfl, hr⟩; have k := blk_below (blk_new w (.cells #[.slice none 0 0, .slice none 0 0, .slice none 0 0, .slice none 0 0] 69)) hr.below; clear u0 u1 u2 u3; obtain ⟨u0, u1, u2, u3, f0, f1, f2, f3⟩ := cells4 k; have z1 := blk_lt k; have HR := Aside0.mk hr; clear hr k)
  have far : ∀ k, k ≠ w.heap.size → ∀ x1 x2 x3 x4, ((((v1.setCell ⟨w.heap.size, 0, none⟩ x1).setCell ⟨w.heap.size, 1, none⟩ x2).setCell ⟨w.heap.size, 2, none⟩ x3).setCell ⟨w.heap.size, 3, none⟩ x4).heap[k]? = v1.heap[k]? := fun k hk x1 x2 x3 x4 => by
    rw [Below.heap_setCell _ _ _ k hk, Below.heap_setCell _ _ _ k hk, Below.heap_setCell _ _ _ k hk, Below.heap_setCell _ _ _ k hk]
  obtain ⟨s1, s2, s3, s4, n1, n2, n3, n4, ne, hb⟩ := HR.out
  rw [World.size_alloc] at n1 n2 n3 n4
  refine bodyPost_ret (v := stateV K a1 a2 a3 a4 c1 c2 c3 c4) (by simp [results, Try.results34, go_sem, u0, u1, u2, u3]) rfl ⟨a1, a2, a3, a4, c1, c2, c3, c4, rfl, ?_⟩
  exact ⟨s1.move (far _ (by omega) _ _ _ _), s2.move (far _ (by omega) _ _ _ _), s3.move (far _ (by omega) _ _ _ _), s4.move (far _ (by omega) _ _ _ _), by omega, by omega, by omega, by omega, ne,
    ((((((below_alloc (Below.refl w.heap.size w) _).trans (hb.mono (B' := w.heap.size) (by simp)))).setCell (p := ⟨w.heap.size, 0, none⟩) (Nat.le_refl _) _).setCell (p := ⟨w.heap.size, 1, none⟩) (Nat.le_refl _) _).setCell (p := ⟨w.heap.size, 2, none⟩) (Nat.le_refl _) _).setCell (p := ⟨w.heap.size, 3, none⟩) (Nat.le_refl _) _⟩

/-- May a record be? -/
def MayRec (k a b : Int) : Prop := (k = 1 ∨ k = 2) ∧ (0 ≤ a ∧ a ≤ 4096) ∧ (0 ≤ b ∧ b ≤ 281474976710655) ∨ k = 4 ∧ (0 ≤ a ∧ a ≤ 63) ∧ (1 ≤ b ∧ b ≤ 2) ∨ k = 3 ∧ (0 ≤ a ∧ a ≤ 63) ∧ (1 ≤ b ∧ b ≤ 4294967295)
instance (k a b : Int) : Decidable (MayRec k a b) := by unfold MayRec; infer_instance

theorem rwithin_some (a lo hi : Int) : rec_within.f a lo hi = some (decide (lo ≤ a ∧ a ≤ hi)) := by
  unfold rec_within.f
  by_cases h : a ≥ lo
  · rw [if_pos h]; congr 1; by_cases h2 : a ≤ hi <;> simp [h2] <;> omega
  · rw [if_neg h]; congr 1; symm; simp; omega

theorem both (p q : Prop) [Decidable p] [Decidable q] : (if decide p = true then some (decide q) else some false) = some (decide (p ∧ q)) := by
  by_cases hp : p
  · simp [hp]
  · simp [hp]

theorem may_some (k a b : Int) : rec_May.f 2 k a b = some (decide (MayRec k a b)) := by
  unfold rec_May.f
  simp only [rec_May.j0, rec_May.j1, rwithin_some, Option.bind_some, both]
  by_cases c1 : k = 1
  · subst c1; simp [MayRec]
  by_cases c2 : k = 2
  · subst c2; simp [MayRec]
  by_cases c4 : k = 4
  · subst c4; simp [MayRec]
  by_cases c3 : k = 3
  · subst c3; simp [MayRec]
  simp [MayRec, c1, c2, c3, c4]

/-- How many numbers a record's list has. -/
def roomK (K : Kp) (k : Int) : Int := if k = 1 ∨ k = 2 then K.F.length else K.C.length
/-- A record applied: what is durable behind it, and the code. -/
def applyK (K : Kp) (k a b : Int) : Kp × Int :=
  if ¬ MayRec k a b then (K, 110)
  else if roomK K k ≤ a then (K, 110)
  else if k = 3 then ({ K with C := K.C.set a.toNat b }, 0)
  else if k = 4 then (if b = 2 then ({ K with C := K.C.set a.toNat 0, T := K.T.set a.toNat (min (K.T.getD a.toNat 0 + 1) 16777215) }, 0)
    else ({ K with C := K.C.set a.toNat 0, S := K.S.set a.toNat (min (K.S.getD a.toNat 0 + 1) 16777215) }, 0))
  else ({ K with F := K.F.set a.toNat (max (K.F.getD a.toNat 0) b) }, 0)

/-- Counts of erasures in their bounds, as many as blocks. -/
structure Kp.Fine (K : Kp) : Prop extends K.Ok where
  sc : K.S.length = K.C.length
  tc : K.T.length = K.C.length
  sb : ∀ x ∈ K.S, 0 ≤ x ∧ x ≤ 16777215
  tb : ∀ x ∈ K.T, 0 ≤ x ∧ x ≤ 16777215
theorem getD_mem {xs : List Int} {i : Nat} (h : i < xs.length) : xs.getD i 0 ∈ xs := by
  rw [List.getD_eq_getElem?_getD, List.getElem?_eq_getElem h]; exact List.getElem_mem h

-- CASES
theorem cells3 {w : World} {g : Nat} {a b c : Value} {T : TypeId} (k : w.heap[g]? = some (.cells #[a, b, c] T (0, 0))) : w.cell? ⟨g, 0, none⟩ = some a ∧ w.cell? ⟨g, 1, none⟩ = some b ∧ w.cell? ⟨g, 2, none⟩ = some c := ⟨blk_cell k 0, blk_cell k 1, blk_cell k 2⟩

set_option maxHeartbeats 2000000 in
theorem apply_1no (l : Loc) (B : Nat) (K : Kp) (i : Nat) (b : Int) (w : World) (h : KeepAt w l K) (hl : l.Apart) (hB : l.From B) (hm : rec_May.f 2 1 i b = some true) (hi : K.F.length ≤ i) :
    Calls Try.prog 36 #[.pointer (some ⟨l.g, 0, none⟩), recV 1 i b] w fun e w' => e = .returned (.int .i64 110) ∧ KeepAt w' l K ∧ Mod B l.Of w w' := by
  have hw : B ≤ w.heap.size := by have := hB.1; have := blk_lt h.blk; omega
  have HM := Lib.hid hm
  have H := Aside0.mk h
  have HL := Aside0.mk hl
  have HBB := Aside0.mk hB
  clear hm h hB hl
  go_enter Try.func36, Try.ntmps36
  go_wp2_with (first | (go_at_call 61; refine (rec_May.calls 2 1 i b true _ HM.out).mono ?_; rintro e w1 ⟨rfl, hb⟩; obtain ⟨u0, u1, u2⟩ := cells3 (blk_below (blk_new w (.cells #[.int .i64 1, .int .i64 i, .int .i64 b] 73)) hb); have c0 : w1.cell? ⟨l.g, 0, none⟩ = some (.slice (some ⟨l.a1, 0, none⟩) K.F.length l.c1) := blk_cell ((H.out.alloc _).below hb).blk 0; have c1 : w1.cell? ⟨l.g, 1, none⟩ = some (.slice (some ⟨l.a2, 0, none⟩) K.C.length l.c2) := blk_cell ((H.out.alloc _).below hb).blk 1; have HB := Aside0.mk hb; clear hb))
  go_ret
  exact ⟨rfl, (H.out.alloc _).below HB.out, ((Mod.refl B l.Of w).alloc hw _).below' HB.out hw⟩

set_option maxHeartbeats 2000000 in
theorem apply_1 (l : Loc) (B : Nat) (K : Kp) (i : Nat) (b : Int) (w : World) (h : KeepAt w l K) (hl : l.Apart) (hB : l.From B) (hm : rec_May.f 2 1 i b = some true) (hi : i < K.F.length) :
    Calls Try.prog 36 #[.pointer (some ⟨l.g, 0, none⟩), recV 1 i b] w fun e w' => e = .returned (.int .i64 0) ∧ KeepAt w' l { K with F := K.F.set i (max (K.F.getD i 0) b) } ∧ Mod B l.Of w w' := by
  have hw : B ≤ w.heap.size := by have := hB.1; have := blk_lt h.blk; omega
  have HM := Lib.hid hm
  have H := Aside0.mk h
  have HL := Aside0.mk hl
  have HBB := Aside0.mk hB
  clear hm h hB hl
  have HI := Lib.hid hi
  go_enter Try.func36, Try.ntmps36
  go_wp2_with (first | (go_at_call 61; refine (rec_May.calls 2 1 i b true _ HM.out).mono ?_; rintro e w1 ⟨rfl, hb⟩; obtain ⟨u0, u1, u2⟩ := cells3 (blk_below (blk_new w (.cells #[.int .i64 1, .int .i64 i, .int .i64 b] 73)) hb); have c0 : w1.cell? ⟨l.g, 0, none⟩ = some (.slice (some ⟨l.a1, 0, none⟩) K.F.length l.c1) := blk_cell ((H.out.alloc _).below hb).blk 0; have c1 : w1.cell? ⟨l.g, 1, none⟩ = some (.slice (some ⟨l.a2, 0, none⟩) K.C.length l.c2) := blk_cell ((H.out.alloc _).below hb).blk 1; have HB := Aside0.mk hb; clear hb) | (go_at_call 64; refine (raise_any l B K _ i b _ (by exact (H.out.alloc _).below HB.out) HL.out HBB.out HI.out).mono ?_; rintro e w2 ⟨rfl, hk2, hm2⟩))
  go_ret
  exact ⟨rfl, hk2, (((Mod.refl B l.Of w).alloc hw _).below' HB.out hw).then_ hm2⟩

set_option maxHeartbeats 2000000 in
theorem apply_2no (l : Loc) (B : Nat) (K : Kp) (i : Nat) (b : Int) (w : World) (h : KeepAt w l K) (hl : l.Apart) (hB : l.From B) (hm : rec_May.f 2 2 i b = some true) (hi : K.F.length ≤ i) :
    Calls Try.prog 36 #[.pointer (some ⟨l.g, 0, none⟩), recV 2 i b] w fun e w' => e = .returned (.int .i64 110) ∧ KeepAt w' l K ∧ Mod B l.Of w w' := by
  have hw : B ≤ w.heap.size := by have := hB.1; have := blk_lt h.blk; omega
  have HM := Lib.hid hm
  have H := Aside0.mk h
  have HL := Aside0.mk hl
  have HBB := Aside0.mk hB
  clear hm h hB hl
  go_enter Try.func36, Try.ntmps36
  go_wp2_with (first | (go_at_call 61; refine (rec_May.calls 2 2 i b true _ HM.out).mono ?_; rintro e w1 ⟨rfl, hb⟩; obtain ⟨u0, u1, u2⟩ := cells3 (blk_below (blk_new w (.cells #[.int .i64 2, .int .i64 i, .int .i64 b] 73)) hb); have c0 : w1.cell? ⟨l.g, 0, none⟩ = some (.slice (some ⟨l.a1, 0, none⟩) K.F.length l.c1) := blk_cell ((H.out.alloc _).below hb).blk 0; have c1 : w1.cell? ⟨l.g, 1, none⟩ = some (.slice (some ⟨l.a2, 0, none⟩) K.C.length l.c2) := blk_cell ((H.out.alloc _).below hb).blk 1; have HB := Aside0.mk hb; clear hb))
  go_ret
  exact ⟨rfl, (H.out.alloc _).below HB.out, ((Mod.refl B l.Of w).alloc hw _).below' HB.out hw⟩

set_option maxHeartbeats 2000000 in
theorem apply_2 (l : Loc) (B : Nat) (K : Kp) (i : Nat) (b : Int) (w : World) (h : KeepAt w l K) (hl : l.Apart) (hB : l.From B) (hm : rec_May.f 2 2 i b = some true) (hi : i < K.F.length) :
    Calls Try.prog 36 #[.pointer (some ⟨l.g, 0, none⟩), recV 2 i b] w fun e w' => e = .returned (.int .i64 0) ∧ KeepAt w' l { K with F := K.F.set i (max (K.F.getD i 0) b) } ∧ Mod B l.Of w w' := by
  have hw : B ≤ w.heap.size := by have := hB.1; have := blk_lt h.blk; omega
  have HM := Lib.hid hm
  have H := Aside0.mk h
  have HL := Aside0.mk hl
  have HBB := Aside0.mk hB
  clear hm h hB hl
  have HI := Lib.hid hi
  go_enter Try.func36, Try.ntmps36
  go_wp2_with (first | (go_at_call 61; refine (rec_May.calls 2 2 i b true _ HM.out).mono ?_; rintro e w1 ⟨rfl, hb⟩; obtain ⟨u0, u1, u2⟩ := cells3 (blk_below (blk_new w (.cells #[.int .i64 2, .int .i64 i, .int .i64 b] 73)) hb); have c0 : w1.cell? ⟨l.g, 0, none⟩ = some (.slice (some ⟨l.a1, 0, none⟩) K.F.length l.c1) := blk_cell ((H.out.alloc _).below hb).blk 0; have c1 : w1.cell? ⟨l.g, 1, none⟩ = some (.slice (some ⟨l.a2, 0, none⟩) K.C.length l.c2) := blk_cell ((H.out.alloc _).below hb).blk 1; have HB := Aside0.mk hb; clear hb) | (go_at_call 64; refine (raise_any l B K _ i b _ (by exact (H.out.alloc _).below HB.out) HL.out HBB.out HI.out).mono ?_; rintro e w2 ⟨rfl, hk2, hm2⟩))
  go_ret
  exact ⟨rfl, hk2, (((Mod.refl B l.Of w).alloc hw _).below' HB.out hw).then_ hm2⟩

set_option maxHeartbeats 2000000 in
theorem apply_3no (l : Loc) (B : Nat) (K : Kp) (i : Nat) (b : Int) (w : World) (h : KeepAt w l K) (hl : l.Apart) (hB : l.From B) (hm : rec_May.f 2 3 i b = some true) (hi : K.C.length ≤ i) :
    Calls Try.prog 36 #[.pointer (some ⟨l.g, 0, none⟩), recV 3 i b] w fun e w' => e = .returned (.int .i64 110) ∧ KeepAt w' l K ∧ Mod B l.Of w w' := by
  have hw : B ≤ w.heap.size := by have := hB.1; have := blk_lt h.blk; omega
  have HM := Lib.hid hm
  have H := Aside0.mk h
  have HL := Aside0.mk hl
  have HBB := Aside0.mk hB
  clear hm h hB hl
  go_enter Try.func36, Try.ntmps36
  go_wp2_with (first | (go_at_call 61; refine (rec_May.calls 2 3 i b true _ HM.out).mono ?_; rintro e w1 ⟨rfl, hb⟩; obtain ⟨u0, u1, u2⟩ := cells3 (blk_below (blk_new w (.cells #[.int .i64 3, .int .i64 i, .int .i64 b] 73)) hb); have c0 : w1.cell? ⟨l.g, 0, none⟩ = some (.slice (some ⟨l.a1, 0, none⟩) K.F.length l.c1) := blk_cell ((H.out.alloc _).below hb).blk 0; have c1 : w1.cell? ⟨l.g, 1, none⟩ = some (.slice (some ⟨l.a2, 0, none⟩) K.C.length l.c2) := blk_cell ((H.out.alloc _).below hb).blk 1; have HB := Aside0.mk hb; clear hb))
  go_ret
  exact ⟨rfl, (H.out.alloc _).below HB.out, ((Mod.refl B l.Of w).alloc hw _).below' HB.out hw⟩

set_option maxHeartbeats 2000000 in
theorem apply_4no (l : Loc) (B : Nat) (K : Kp) (i : Nat) (b : Int) (w : World) (h : KeepAt w l K) (hl : l.Apart) (hB : l.From B) (hm : rec_May.f 2 4 i b = some true) (hi : K.C.length ≤ i) :
    Calls Try.prog 36 #[.pointer (some ⟨l.g, 0, none⟩), recV 4 i b] w fun e w' => e = .returned (.int .i64 110) ∧ KeepAt w' l K ∧ Mod B l.Of w w' := by
  have hw : B ≤ w.heap.size := by have := hB.1; have := blk_lt h.blk; omega
  have HM := Lib.hid hm
  have H := Aside0.mk h
  have HL := Aside0.mk hl
  have HBB := Aside0.mk hB
  clear hm h hB hl
  go_enter Try.func36, Try.ntmps36
  go_wp2_with (first | (go_at_call 61; refine (rec_May.calls 2 4 i b true _ HM.out).mono ?_; rintro e w1 ⟨rfl, hb⟩; obtain ⟨u0, u1, u2⟩ := cells3 (blk_below (blk_new w (.cells #[.int .i64 4, .int .i64 i, .int .i64 b] 73)) hb); have c0 : w1.cell? ⟨l.g, 0, none⟩ = some (.slice (some ⟨l.a1, 0, none⟩) K.F.length l.c1) := blk_cell ((H.out.alloc _).below hb).blk 0; have c1 : w1.cell? ⟨l.g, 1, none⟩ = some (.slice (some ⟨l.a2, 0, none⟩) K.C.length l.c2) := blk_cell ((H.out.alloc _).below hb).blk 1; have HB := Aside0.mk hb; clear hb))
  go_ret
  exact ⟨rfl, (H.out.alloc _).below HB.out, ((Mod.refl B l.Of w).alloc hw _).below' HB.out hw⟩

set_option maxHeartbeats 2000000 in
theorem apply_3 (l : Loc) (B : Nat) (K : Kp) (i : Nat) (b : Int) (w : World) (h : KeepAt w l K) (hl : l.Apart) (hB : l.From B) (hm : rec_May.f 2 3 i b = some true) (hi : i < K.C.length) :
    Calls Try.prog 36 #[.pointer (some ⟨l.g, 0, none⟩), recV 3 i b] w fun e w' => e = .returned (.int .i64 0) ∧ KeepAt w' l { K with C := K.C.set i b } ∧ Mod B l.Of w w' := by
  have hw : B ≤ w.heap.size := by have := hB.1; have := blk_lt h.blk; omega
  have HM := Lib.hid hm
  have H := Aside0.mk h
  have HL := Aside0.mk hl
  have HBB := Aside0.mk hB
  clear hm h hB hl
  have HI := Lib.hid hi
  go_enter Try.func36, Try.ntmps36
  go_wp2_with (first | (go_at_call 61; refine (rec_May.calls 2 3 i b true _ HM.out).mono ?_; rintro e w1 ⟨rfl, hb⟩; obtain ⟨u0, u1, u2⟩ := cells3 (blk_below (blk_new w (.cells #[.int .i64 3, .int .i64 i, .int .i64 b] 73)) hb); have c0 : w1.cell? ⟨l.g, 0, none⟩ = some (.slice (some ⟨l.a1, 0, none⟩) K.F.length l.c1) := blk_cell ((H.out.alloc _).below hb).blk 0; have c1 : w1.cell? ⟨l.g, 1, none⟩ = some (.slice (some ⟨l.a2, 0, none⟩) K.C.length l.c2) := blk_cell ((H.out.alloc _).below hb).blk 1; have HB := Aside0.mk hb; clear hb) | (go_at_call 62; refine (commit_any l B K _ i b _ (by exact (H.out.alloc _).below HB.out) HL.out HBB.out HI.out).mono ?_; rintro e w2 ⟨rfl, hk2, hm2⟩))
  go_ret
  exact ⟨rfl, hk2, (((Mod.refl B l.Of w).alloc hw _).below' HB.out hw).then_ hm2⟩

set_option maxHeartbeats 2000000 in
theorem apply_4s (l : Loc) (B : Nat) (K : Kp) (i : Nat) (b : Int) (w : World) (h : KeepAt w l K) (hl : l.Apart) (hB : l.From B) (hm : rec_May.f 2 4 i b = some true) (hi : i < K.C.length) (hj : i < K.S.length) (hv : (b == 2) = false) (hb1 : 0 ≤ K.S.getD i 0) (hb2 : K.S.getD i 0 ≤ 16777215) :
    Calls Try.prog 36 #[.pointer (some ⟨l.g, 0, none⟩), recV 4 i b] w fun e w' => e = .returned (.int .i64 0) ∧ KeepAt w' l { K with C := K.C.set i 0, S := K.S.set i (min (K.S.getD i 0 + 1) 16777215) } ∧ Mod B l.Of w w' := by
  have hw : B ≤ w.heap.size := by have := hB.1; have := blk_lt h.blk; omega
  have HM := Lib.hid hm
  have H := Aside0.mk h
  have HL := Aside0.mk hl
  have HBB := Aside0.mk hB
  clear hm h hB hl
  have HI := Lib.hid hi
  have HJ := Lib.hid hj
  have HV := Lib.hid hv
  have H1 := Lib.hid hb1
  have H2 := Lib.hid hb2
  clear hj hv hb1 hb2
  go_enter Try.func36, Try.ntmps36
  go_wp2_with (first | (go_at_call 61; refine (rec_May.calls 2 4 i b true _ HM.out).mono ?_; rintro e w1 ⟨rfl, hb⟩; obtain ⟨u0, u1, u2⟩ := cells3 (blk_below (blk_new w (.cells #[.int .i64 4, .int .i64 i, .int .i64 b] 73)) hb); have c0 : w1.cell? ⟨l.g, 0, none⟩ = some (.slice (some ⟨l.a1, 0, none⟩) K.F.length l.c1) := blk_cell ((H.out.alloc _).below hb).blk 0; have c1 : w1.cell? ⟨l.g, 1, none⟩ = some (.slice (some ⟨l.a2, 0, none⟩) K.C.length l.c2) := blk_cell ((H.out.alloc _).below hb).blk 1; have HB := Aside0.mk hb; clear hb) | (go_at_call 63; refine (erase_slc l B K _ i b _ (by exact (H.out.alloc _).below HB.out) HL.out HBB.out HI.out HJ.out HV.out H1.out H2.out).mono ?_; rintro e w2 ⟨rfl, hk2, hm2⟩))
  go_ret
  exact ⟨rfl, hk2, (((Mod.refl B l.Of w).alloc hw _).below' HB.out hw).then_ hm2⟩

set_option maxHeartbeats 2000000 in
theorem apply_4t (l : Loc) (B : Nat) (K : Kp) (i : Nat) (b : Int) (w : World) (h : KeepAt w l K) (hl : l.Apart) (hB : l.From B) (hm : rec_May.f 2 4 i b = some true) (hi : i < K.C.length) (hj : i < K.T.length) (hv : (b == 2) = true) (hb1 : 0 ≤ K.T.getD i 0) (hb2 : K.T.getD i 0 ≤ 16777215) :
    Calls Try.prog 36 #[.pointer (some ⟨l.g, 0, none⟩), recV 4 i b] w fun e w' => e = .returned (.int .i64 0) ∧ KeepAt w' l { K with C := K.C.set i 0, T := K.T.set i (min (K.T.getD i 0 + 1) 16777215) } ∧ Mod B l.Of w w' := by
  have hw : B ≤ w.heap.size := by have := hB.1; have := blk_lt h.blk; omega
  have HM := Lib.hid hm
  have H := Aside0.mk h
  have HL := Aside0.mk hl
  have HBB := Aside0.mk hB
  clear hm h hB hl
  have HI := Lib.hid hi
  have HJ := Lib.hid hj
  have HV := Lib.hid hv
  have H1 := Lib.hid hb1
  have H2 := Lib.hid hb2
  clear hj hv hb1 hb2
  go_enter Try.func36, Try.ntmps36
  go_wp2_with (first | (go_at_call 61; refine (rec_May.calls 2 4 i b true _ HM.out).mono ?_; rintro e w1 ⟨rfl, hb⟩; obtain ⟨u0, u1, u2⟩ := cells3 (blk_below (blk_new w (.cells #[.int .i64 4, .int .i64 i, .int .i64 b] 73)) hb); have c0 : w1.cell? ⟨l.g, 0, none⟩ = some (.slice (some ⟨l.a1, 0, none⟩) K.F.length l.c1) := blk_cell ((H.out.alloc _).below hb).blk 0; have c1 : w1.cell? ⟨l.g, 1, none⟩ = some (.slice (some ⟨l.a2, 0, none⟩) K.C.length l.c2) := blk_cell ((H.out.alloc _).below hb).blk 1; have HB := Aside0.mk hb; clear hb) | (go_at_call 63; refine (erase_tlc l B K _ i b _ (by exact (H.out.alloc _).below HB.out) HL.out HBB.out HI.out HJ.out HV.out H1.out H2.out).mono ?_; rintro e w2 ⟨rfl, hk2, hm2⟩))
  go_ret
  exact ⟨rfl, hk2, (((Mod.refl B l.Of w).alloc hw _).below' HB.out hw).then_ hm2⟩

-- END OF CASES
set_option maxHeartbeats 2000000 in
theorem apply_any (l : Loc) (B : Nat) (K : Kp) (k a b : Int) (w : World) (h : KeepAt w l K) (hl : l.Apart) (hB : l.From B) (fine : K.Fine) :
    Calls Try.prog 36 #[.pointer (some ⟨l.g, 0, none⟩), recV k a b] w fun e w' => e = .returned (.int .i64 (applyK K k a b).2) ∧ KeepAt w' l (applyK K k a b).1 ∧ Mod B l.Of w w' := by
  have hm := may_some k a b
  unfold applyK
  have hw : B ≤ w.heap.size := by have := hB.1; have := blk_lt h.blk; omega
  by_cases c : MayRec k a b
  · rw [if_neg (by simpa using c)]
    rw [decide_eq_true c] at hm
    obtain ⟨i, rfl⟩ : ∃ i : Nat, a = i := ⟨a.toNat, by unfold MayRec at c; omega⟩
    rw [Int.toNat_natCast]
    by_cases k1 : k = 1
    · subst k1
      rw [show roomK K 1 = K.F.length by simp [roomK]]
      by_cases hi : K.F.length ≤ i
      · rw [if_pos (by omega)]; exact apply_1no l B K i b w h hl hB hm hi
      · rw [if_neg (by omega), if_neg (by decide), if_neg (by decide)]; exact apply_1 l B K i b w h hl hB hm (by omega)
    by_cases k2 : k = 2
    · subst k2
      rw [show roomK K 2 = K.F.length by simp [roomK]]
      by_cases hi : K.F.length ≤ i
      · rw [if_pos (by omega)]; exact apply_2no l B K i b w h hl hB hm hi
      · rw [if_neg (by omega), if_neg (by decide), if_neg (by decide)]; exact apply_2 l B K i b w h hl hB hm (by omega)
    have k12 : ¬ (k = 1 ∨ k = 2) := by omega
    rw [show roomK K k = K.C.length by simp [roomK, k12]]
    by_cases k3 : k = 3
    · subst k3
      by_cases hi : K.C.length ≤ i
      · rw [if_pos (by omega)]; exact apply_3no l B K i b w h hl hB hm hi
      · rw [if_neg (by omega), if_pos rfl]; exact apply_3 l B K i b w h hl hB hm (by omega)
    have k4 : k = 4 := by unfold MayRec at c; omega
    subst k4
    by_cases hi : K.C.length ≤ i
    · rw [if_pos (by omega)]; exact apply_4no l B K i b w h hl hB hm hi
    · have hs := fine.sc
      have ht := fine.tc
      rw [if_neg (by omega), if_neg (by decide), if_pos rfl]
      by_cases b2 : b = 2
      · have m := fine.tb _ (getD_mem (xs := K.T) (i := i) (by omega))
        rw [if_pos b2]; exact apply_4t l B K i b w h hl hB hm (by omega) (by omega) (by simp [b2]) m.1 m.2
      · have m := fine.sb _ (getD_mem (xs := K.S) (i := i) (by omega))
        rw [if_neg b2]; exact apply_4s l B K i b w h hl hB hm (by omega) (by omega) (by simp [b2]) m.1 m.2
  · rw [if_pos c]
    rw [decide_eq_false c] at hm
    have HM := Lib.hid hm
    have H := Aside0.mk h
    clear hm h c fine hB
    go_enter Try.func36, Try.ntmps36
    go_wp2_with (go_at_call 61; refine (rec_May.calls 2 k a b false _ HM.out).mono ?_; rintro e w1 ⟨rfl, hb⟩; have HB := Aside0.mk hb; clear hb)
    go_ret
    exact ⟨rfl, (H.out.alloc _).below HB.out, ((Mod.refl B l.Of w).alloc hw _).below' HB.out hw⟩

theorem mem_set {xs : List Int} {i : Nat} {v : Int} {P : Int → Prop} (h : ∀ x ∈ xs, P x) (hv : P v) : ∀ x ∈ xs.set i v, P x := by
  intro x hx
  rcases List.mem_or_eq_of_mem_set hx with h1 | h1
  · exact h x h1
  · rw [h1]; exact hv

theorem apply_fine (K : Kp) (k a b : Int) (fine : K.Fine) : (applyK K k a b).1.Fine ∧ (applyK K k a b).1.F.length = K.F.length ∧ (applyK K k a b).1.C.length = K.C.length := by
  unfold applyK
  by_cases c : MayRec k a b
  · rw [if_neg (by simpa using c)]
    split
    · exact ⟨fine, rfl, rfl⟩
    rename_i hlen
    have ha : 0 ≤ a := by unfold MayRec at c; omega
    obtain ⟨⟨f0, c0, s0, t0, f1, c1, s1, t1⟩, sc, tc, sb, tb⟩ := fine
    split
    · exact ⟨⟨⟨f0, by simpa using c0, s0, t0, f1, by simpa using c1, s1, t1⟩, by simpa using sc, by simpa using tc, sb, tb⟩, rfl, by simp⟩
    split
    · rename_i h4
      have hc : a < K.C.length := by rw [show roomK K k = K.C.length by simp [roomK, h4]] at hlen; omega
      split
      · have m := tb _ (getD_mem (xs := K.T) (i := a.toNat) (by omega))
        exact ⟨⟨⟨f0, by simpa using c0, s0, by simpa using t0, f1, by simpa using c1, s1, by simpa using t1⟩, by simpa using sc, by simpa using tc, sb, mem_set tb (by omega)⟩, rfl, by simp⟩
      · have m := sb _ (getD_mem (xs := K.S) (i := a.toNat) (by omega))
        exact ⟨⟨⟨f0, by simpa using c0, by simpa using s0, t0, f1, by simpa using c1, by simpa using s1, t1⟩, by simpa using sc, by simpa using tc, mem_set sb (by omega), tb⟩, rfl, by simp⟩
    · exact ⟨⟨⟨by simpa using f0, c0, s0, t0, by simpa using f1, c1, s1, t1⟩, sc, tc, sb, tb⟩, by simp, rfl⟩
  · rw [if_pos c]; exact ⟨fine, rfl, rfl⟩
end Go.Proofs.Ytiblpienmkjmgaa.StateA
