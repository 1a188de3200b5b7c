/- Contracts of package state's methods, by hand: a Keeper is a block of four slices. -/
import Derived.Test.YtiblpienmkjmgaaProg
import Derived.Below
import Derived.Deep.Draws
import Derived.Deep.AppendLies
import Derived.Maps.AppendAt
import Derived.OwnWalk
import Derived.Laws.BytesArg
import Derived.Laws.MakeOwn
import Derived.Laws.OwnMore
import Derived.Deep.OwnRows
import Derived.Tactics
import Derived.Lib.ConvBytes
import Derived.Laws.Slices
import Derived.WalkKit
import Derived.KernelRfl
import Derived.RowKit3
import Derived.Deep.LoopGhost
import Derived.Deep.QuietTactic
import Derived.BigQuiet
import Derived.WideLaws
import Derived.Deep.DeepCutAuto
import Derived.Deep.CutBlock
import Derived.Deep.RegionHeld3
import Derived.Deep.RegionWith
import Derived.Laws.Rows
import Derived.Lib.AppendStr
import Derived.ArgAppend
import Derived.Laws.IdiomCopy
import Derived.OrdersHeld
import Derived.Laws.BitsLemmas
import Derived.Outline
import Derived.RegionTactic
import Derived.Lib.Hide
import Derived.StillTailTactics
import Derived.Deep.RegionWith
import Derived.OpenShut
import Derived.Test.YtiblpienmkjmgaaWWords
import Derived.Test.YtiblpienmkjmgaaWKept
import Derived.Test.YtiblpienmkjmgaaMem
set_option linter.unusedVariables false
namespace Go.Proofs.Ytiblpienmkjmgaa.StateA
open Go.RowKit Go.Proofs.YtiblpienmkjmgaaW.PrintWords Go.Proofs.Ytiblpienmkjmgaa.Mem

/-- A slice of ints of the call's own: its block, its room, what it holds. -/
def RowAt (w : World) (a cap : Nat) (xs : List Int) : Prop := w.ownsRow 0 3 1 (.slice (some ⟨a, 0, none⟩) xs.length cap) xs.length (nums .i64 xs)
theorem RowAt.lt {w : World} {a cap : Nat} {xs : List Int} (h : RowAt w a cap xs) : a < w.heap.size := own_lt h a rfl
theorem RowAt.move {w w1 : World} {a cap : Nat} {xs : List Int} (h : RowAt w a cap xs) (hm : w1.heap[a]? = w.heap[a]?) : RowAt w1 a cap xs :=
  own_move h (fun k hk => by injection hk with hk; subst hk; exact hm)
theorem RowAt.get {w : World} {a cap : Nat} {xs : List Int} (h : RowAt w a cap xs) (i : Nat) (hi : i < xs.length) : w.cell? ⟨a, i, none⟩ = some (.int .i64 (xs.getD i 0)) ∧ w.frozen? ⟨a, i, none⟩ = false := by
  have := own_at h (i : Int) (by omega) (by omega)
  rwa [Int.toNat_natCast] at this
theorem RowAt.set {w : World} {a cap : Nat} {xs : List Int} (h : RowAt w a cap xs) (i : Nat) (x : Int) : RowAt (w.setCell ⟨a, i, none⟩ (.int .i64 x)) a cap (xs.set i x) := by
  have := (own_store h (i : Int) x).1
  rw [Int.toNat_natCast] at this
  unfold RowAt
  rw [List.length_set]
  exact this
theorem RowAt.room {w : World} {a cap : Nat} {xs : List Int} (h : RowAt w a cap xs) : xs.length ≤ cap ∧ cap ≤ 9223372036854775807 := by
  rcases h.2 with ⟨h', _⟩ | ⟨g', cap', cur, h', _, _, h1, h2, _⟩
  · cases h'
  · injection h' with _ _ hc
    subst hc
    exact ⟨h1, h2⟩

structure Kp where
  F : List Int
  C : List Int
  S : List Int
  T : List Int
structure Loc where
  g : Nat
  a1 : Nat
  a2 : Nat
  a3 : Nat
  a4 : Nat
  c1 : Nat
  c2 : Nat
  c3 : Nat
  c4 : Nat
def Loc.Apart (l : Loc) : Prop := (l.g ≠ l.a1 ∧ l.g ≠ l.a2 ∧ l.g ≠ l.a3 ∧ l.g ≠ l.a4) ∧ (l.a1 ≠ l.a2 ∧ l.a1 ≠ l.a3 ∧ l.a1 ≠ l.a4) ∧ (l.a2 ≠ l.a3 ∧ l.a2 ≠ l.a4) ∧ l.a3 ≠ l.a4
def Loc.Of (l : Loc) (k : Nat) : Prop := k = l.a1 ∨ k = l.a2 ∨ k = l.a3 ∨ k = l.a4
def Loc.From (l : Loc) (B : Nat) : Prop := B ≤ l.g ∧ B ≤ l.a1 ∧ B ≤ l.a2 ∧ B ≤ l.a3 ∧ B ≤ l.a4
structure KeepAt (w : World) (l : Loc) (K : Kp) : Prop where
  blk : w.heap[l.g]? = some (.cells #[.slice (some ⟨l.a1, 0, none⟩) K.F.length l.c1, .slice (some ⟨l.a2, 0, none⟩) K.C.length l.c2, .slice (some ⟨l.a3, 0, none⟩) K.S.length l.c3, .slice (some ⟨l.a4, 0, none⟩) K.T.length l.c4] 111 (0, 0))
  r1 : RowAt w l.a1 l.c1 K.F
  r2 : RowAt w l.a2 l.c2 K.C
  r3 : RowAt w l.a3 l.c3 K.S
  r4 : RowAt w l.a4 l.c4 K.T
theorem KeepAt.move {w w1 : World} {l : Loc} {K : Kp} (h : KeepAt w l K) (hm : ∀ k, k < w.heap.size → (k = l.g ∨ l.Of k) → w1.heap[k]? = w.heap[k]?) : KeepAt w1 l K :=
  ⟨(hm _ (blk_lt h.blk) (.inl rfl)).trans h.blk, h.r1.move (hm _ h.r1.lt (.inr (.inl rfl))), h.r2.move (hm _ h.r2.lt (.inr (.inr (.inl rfl)))), h.r3.move (hm _ h.r3.lt (.inr (.inr (.inr (.inl rfl))))), h.r4.move (hm _ h.r4.lt (.inr (.inr (.inr (.inr rfl)))))⟩
theorem KeepAt.below {w w1 : World} {l : Loc} {K : Kp} (h : KeepAt w l K) (hb : Below w.heap.size w w1) : KeepAt w1 l K := h.move (fun k hk _ => hb.block k hk)
theorem KeepAt.alloc {w : World} {l : Loc} {K : Kp} (h : KeepAt w l K) (o : Obj) : KeepAt (w.alloc o) l K := h.below (below_alloc (Below.refl _ _) o)
theorem KeepAt.drew {w : World} {l : Loc} {K : Kp} (h : KeepAt w l K) : KeepAt w.drew l K := h.move (fun _ _ _ => rfl)
theorem KeepAt.drewN {w : World} {l : Loc} {K : Kp} (h : KeepAt w l K) (n : Nat) : KeepAt (w.drewN n) l K := h.move (fun _ _ _ => rfl)

abbrev recV (k a b : Int) : Value := .agg #[.int .i64 k, .int .i64 a, .int .i64 b]

theorem set1 {w : World} {l : Loc} {K : Kp} (h : KeepAt w l K) (hl : l.Apart) (i : Nat) (x : Int) : KeepAt (w.setCell ⟨l.a1, i, none⟩ (.int .i64 x)) l { K with F := K.F.set i x } := by
  obtain ⟨⟨n1, n2, n3, n4⟩, ⟨n5, n6, n7⟩, ⟨n8, n9⟩, n10⟩ := hl
  have far : ∀ k, k ≠ l.a1 → (w.setCell ⟨l.a1, i, none⟩ (.int .i64 x)).heap[k]? = w.heap[k]? := fun k hk => Below.heap_setCell w _ _ k hk
  exact ⟨by dsimp only; rw [List.length_set]; exact (far _ n1).trans h.blk, h.r1.set i x, h.r2.move (far _ (Ne.symm n5)), h.r3.move (far _ (Ne.symm n6)), h.r4.move (far _ (Ne.symm n7))⟩
theorem set2 {w : World} {l : Loc} {K : Kp} (h : KeepAt w l K) (hl : l.Apart) (i : Nat) (x : Int) : KeepAt (w.setCell ⟨l.a2, i, none⟩ (.int .i64 x)) l { K with C := K.C.set i x } := by
  obtain ⟨⟨n1, n2, n3, n4⟩, ⟨n5, n6, n7⟩, ⟨n8, n9⟩, n10⟩ := hl
  have far : ∀ k, k ≠ l.a2 → (w.setCell ⟨l.a2, i, none⟩ (.int .i64 x)).heap[k]? = w.heap[k]? := fun k hk => Below.heap_setCell w _ _ k hk
  exact ⟨by dsimp only; rw [List.length_set]; exact (far _ n2).trans h.blk, h.r1.move (far _ n5), h.r2.set i x, h.r3.move (far _ (Ne.symm n8)), h.r4.move (far _ (Ne.symm n9))⟩
theorem set3 {w : World} {l : Loc} {K : Kp} (h : KeepAt w l K) (hl : l.Apart) (i : Nat) (x : Int) : KeepAt (w.setCell ⟨l.a3, i, none⟩ (.int .i64 x)) l { K with S := K.S.set i x } := by
  obtain ⟨⟨n1, n2, n3, n4⟩, ⟨n5, n6, n7⟩, ⟨n8, n9⟩, n10⟩ := hl
  have far : ∀ k, k ≠ l.a3 → (w.setCell ⟨l.a3, i, none⟩ (.int .i64 x)).heap[k]? = w.heap[k]? := fun k hk => Below.heap_setCell w _ _ k hk
  exact ⟨by dsimp only; rw [List.length_set]; exact (far _ n3).trans h.blk, h.r1.move (far _ n6), h.r2.move (far _ n8), h.r3.set i x, h.r4.move (far _ (Ne.symm n10))⟩
theorem set4 {w : World} {l : Loc} {K : Kp} (h : KeepAt w l K) (hl : l.Apart) (i : Nat) (x : Int) : KeepAt (w.setCell ⟨l.a4, i, none⟩ (.int .i64 x)) l { K with T := K.T.set i x } := by
  obtain ⟨⟨n1, n2, n3, n4⟩, ⟨n5, n6, n7⟩, ⟨n8, n9⟩, n10⟩ := hl
  have far : ∀ k, k ≠ l.a4 → (w.setCell ⟨l.a4, i, none⟩ (.int .i64 x)).heap[k]? = w.heap[k]? := fun k hk => Below.heap_setCell w _ _ k hk
  exact ⟨by dsimp only; rw [List.length_set]; exact (far _ n4).trans h.blk, h.r1.move (far _ n7), h.r2.move (far _ n9), h.r3.move (far _ n10), h.r4.set i x⟩

set_option maxHeartbeats 1000000 in
theorem commit_any (l : Loc) (B : Nat) (K : Kp) (kd : Int) (i : Nat) (v : Int) (w : World) (h : KeepAt w l K) (hl : l.Apart) (hB : l.From B) (hi2 : i < K.C.length) :
    Calls Try.prog 62 #[.pointer (some ⟨l.g, 0, none⟩), recV kd i v] w fun e w' => e = .returned (.tuple #[]) ∧ KeepAt w' l { K with C := K.C.set i v } ∧ Mod B l.Of w w' := by
  obtain ⟨ha2, hf2⟩ := h.r2.get i hi2
  have z3 := h.r2.lt
  have c2 : w.cell? ⟨l.g, 1, none⟩ = some (.slice (some ⟨l.a2, 0, none⟩) K.C.length l.c2) := blk_cell h.blk 1
  have n2 : ¬ w.heap.size = l.a2 := by have := h.r2.lt; omega
  have z1 := blk_lt h.blk
  have hw : B ≤ w.heap.size := by have := hB.1; omega
  have HK := Aside0.mk h
  have HL := Aside0.mk hl
  have HB := Aside0.mk hB
  clear h hl hB
  go_enter Try.func62, Try.ntmps62
  go_wp2
  go_region
  all_goals go_wp2
  all_goals (go_end0; exact ⟨rfl, ((set2 HK.out HL.out i v).alloc _).drew, (((Mod.refl B l.Of w).setCell (p := ⟨l.a2, i, none⟩) HB.out.2.2.1 (.inl (.inr (.inl rfl))) _).alloc hw _).drew⟩)
set_option maxHeartbeats 1000000 in
theorem raise_any (l : Loc) (B : Nat) (K : Kp) (kd : Int) (i : Nat) (v : Int) (w : World) (h : KeepAt w l K) (hl : l.Apart) (hB : l.From B) (hi1 : i < K.F.length) :
    Calls Try.prog 64 #[.pointer (some ⟨l.g, 0, none⟩), recV kd i v] w fun e w' => e = .returned (.tuple #[]) ∧ KeepAt w' l { K with F := K.F.set i (max (K.F.getD i 0) v) } ∧ Mod B l.Of w w' := by
  obtain ⟨ha1, hf1⟩ := h.r1.get i hi1
  have z2 := h.r1.lt
  have c1 : w.cell? ⟨l.g, 0, none⟩ = some (.slice (some ⟨l.a1, 0, none⟩) K.F.length l.c1) := blk_cell h.blk 0
  have n1 : ¬ w.heap.size = l.a1 := by have := h.r1.lt; omega
  have z1 := blk_lt h.blk
  have hw : B ≤ w.heap.size := by have := hB.1; omega
  have HK := Aside0.mk h
  have HL := Aside0.mk hl
  have HB := Aside0.mk hB
  clear h hl hB
  obtain ⟨f, hfd⟩ : ∃ f, f = K.F.getD i 0 := ⟨_, rfl⟩
  rw [← hfd] at ha1
  have HF := Lib.hid hfd
  clear hfd
  by_cases c : f < v
  all_goals
    go_enter Try.func64, Try.ntmps64
    go_wp2
    go_region
  all_goals go_wp2
  · have e : max (K.F.getD i 0) v = v := by rw [← HF.out]; omega
    go_end0
    rw [e]
    exact ⟨rfl, ((set1 HK.out HL.out i v).alloc _).drew, (((Mod.refl B l.Of w).setCell (p := ⟨l.a1, i, none⟩) HB.out.2.1 (.inl (.inl rfl)) _).alloc hw _).drew⟩
  · have e : max (K.F.getD i 0) v = f := by rw [← HF.out]; omega
    go_end0
    rw [e]
    exact ⟨rfl, ((set1 HK.out HL.out i f).alloc _).drew, (((Mod.refl B l.Of w).setCell (p := ⟨l.a1, i, none⟩) HB.out.2.1 (.inl (.inl rfl)) _).alloc hw _).drew⟩
set_option maxHeartbeats 1000000 in
theorem erase_slc (l : Loc) (B : Nat) (K : Kp) (kd : Int) (i : Nat) (v : Int) (w : World) (h : KeepAt w l K) (hl : l.Apart) (hB : l.From B) (hi2 : i < K.C.length) (hi3 : i < K.S.length) (hv : (v == 2) = false) (hb1 : 0 ≤ K.S.getD i 0) (hb2 : K.S.getD i 0 ≤ 16777215) :
    Calls Try.prog 63 #[.pointer (some ⟨l.g, 0, none⟩), recV kd i v] w fun e w' => e = .returned (.tuple #[]) ∧ KeepAt w' l { K with C := K.C.set i 0, S := K.S.set i (min (K.S.getD i 0 + 1) 16777215) } ∧ Mod B l.Of w w' := by
  obtain ⟨ha2, hf2⟩ := h.r2.get i hi2
  have z3 := h.r2.lt
  have c2 : w.cell? ⟨l.g, 1, none⟩ = some (.slice (some ⟨l.a2, 0, none⟩) K.C.length l.c2) := blk_cell h.blk 1
  have n2 : ¬ w.heap.size = l.a2 := by have := h.r2.lt; omega
  obtain ⟨ha3, hf3⟩ := h.r3.get i hi3
  have z4 := h.r3.lt
  have c3 : w.cell? ⟨l.g, 2, none⟩ = some (.slice (some ⟨l.a3, 0, none⟩) K.S.length l.c3) := blk_cell h.blk 2
  have n3 : ¬ w.heap.size = l.a3 := by have := h.r3.lt; omega
  have z1 := blk_lt h.blk
  have hw : B ≤ w.heap.size := by have := hB.1; omega
  have HK := Aside0.mk h
  have HL := Aside0.mk hl
  have HB := Aside0.mk hB
  clear h hl hB
  obtain ⟨f, hfd⟩ : ∃ f, f = K.S.getD i 0 := ⟨_, rfl⟩
  rw [← hfd] at ha3
  have HF := Lib.hid hfd
  clear hfd
  have hne : ¬ l.a2 = l.a3 := by have := HL.out.2.2.1; omega
  have hng : ¬ l.g = l.a3 := by have := HL.out.1; omega
  have b1 : 0 ≤ f := by rw [HF.out]; exact hb1
  have b2 : f ≤ 16777215 := by rw [HF.out]; exact hb2
  clear hb1 hb2
  by_cases c : f + 1 ≤ 16777215
  all_goals
    go_enter Try.func63, Try.ntmps63
    go_wp2
    go_region
    all_goals go_wp2
    all_goals go_region
    all_goals go_wp2
  · have e : min (K.S.getD i 0 + 1) 16777215 = f + 1 := by rw [← HF.out]; omega
    go_end0
    rw [e]
    exact ⟨rfl, ((set2 (set3 HK.out HL.out i (f + 1)) HL.out i 0).alloc _).drew.drew, (((((Mod.refl B l.Of w).setCell (p := ⟨l.a3, i, none⟩) HB.out.2.2.2.1 (.inl (.inr (.inr (.inl rfl)))) _).setCell (p := ⟨l.a2, i, none⟩) HB.out.2.2.1 (.inl (.inr (.inl rfl))) _).alloc hw _).drew).drew⟩
  · have e : min (K.S.getD i 0 + 1) 16777215 = 16777215 := by rw [← HF.out]; omega
    go_end0
    rw [e]
    exact ⟨rfl, ((set2 (set3 HK.out HL.out i 16777215) HL.out i 0).alloc _).drew.drew, (((((Mod.refl B l.Of w).setCell (p := ⟨l.a3, i, none⟩) HB.out.2.2.2.1 (.inl (.inr (.inr (.inl rfl)))) _).setCell (p := ⟨l.a2, i, none⟩) HB.out.2.2.1 (.inl (.inr (.inl rfl))) _).alloc hw _).drew).drew⟩
set_option maxHeartbeats 1000000 in
theorem erase_tlc (l : Loc) (B : Nat) (K : Kp) (kd : Int) (i : Nat) (v : Int) (w : World) (h : KeepAt w l K) (hl : l.Apart) (hB : l.From B) (hi2 : i < K.C.length) (hi4 : i < K.T.length) (hv : (v == 2) = true) (hb1 : 0 ≤ K.T.getD i 0) (hb2 : K.T.getD i 0 ≤ 16777215) :
    Calls Try.prog 63 #[.pointer (some ⟨l.g, 0, none⟩), recV kd i v] w fun e w' => e = .returned (.tuple #[]) ∧ KeepAt w' l { K with C := K.C.set i 0, T := K.T.set i (min (K.T.getD i 0 + 1) 16777215) } ∧ Mod B l.Of w w' := by
  obtain ⟨ha2, hf2⟩ := h.r2.get i hi2
  have z3 := h.r2.lt
  have c2 : w.cell? ⟨l.g, 1, none⟩ = some (.slice (some ⟨l.a2, 0, none⟩) K.C.length l.c2) := blk_cell h.blk 1
  have n2 : ¬ w.heap.size = l.a2 := by have := h.r2.lt; omega
  obtain ⟨ha4, hf4⟩ := h.r4.get i hi4
  have z5 := h.r4.lt
  have c4 : w.cell? ⟨l.g, 3, none⟩ = some (.slice (some ⟨l.a4, 0, none⟩) K.T.length l.c4) := blk_cell h.blk 3
  have n4 : ¬ w.heap.size = l.a4 := by have := h.r4.lt; omega
  have cs : w.cell? ⟨l.g, 2, none⟩ = some (.slice (some ⟨l.a3, 0, none⟩) K.S.length l.c3) := blk_cell h.blk 2
  have z1 := blk_lt h.blk
  have hw : B ≤ w.heap.size := by have := hB.1; omega
  have HK := Aside0.mk h
  have HL := Aside0.mk hl
  have HB := Aside0.mk hB
  clear h hl hB
  obtain ⟨f, hfd⟩ : ∃ f, f = K.T.getD i 0 := ⟨_, rfl⟩
  rw [← hfd] at ha4
  have HF := Lib.hid hfd
  clear hfd
  have hne : ¬ l.a2 = l.a4 := by have := HL.out.2.2.1; omega
  have hng : ¬ l.g = l.a4 := by have := HL.out.1; omega
  have b1 : 0 ≤ f := by rw [HF.out]; exact hb1
  have b2 : f ≤ 16777215 := by rw [HF.out]; exact hb2
  clear hb1 hb2
  obtain rfl : v = 2 := by simpa using hv
  clear hv
  by_cases c : f + 1 ≤ 16777215
  all_goals
    go_enter Try.func63, Try.ntmps63
    go_wp2
    go_region
    all_goals go_wp2
    all_goals go_region
    all_goals go_wp2
  · have e : min (K.T.getD i 0 + 1) 16777215 = f + 1 := by rw [← HF.out]; omega
    go_end0
    rw [e]
    exact ⟨rfl, ((set2 (set4 HK.out HL.out i (f + 1)) HL.out i 0).alloc _).drew.drew, (((((Mod.refl B l.Of w).setCell (p := ⟨l.a4, i, none⟩) HB.out.2.2.2.2 (.inl (.inr (.inr (.inr rfl)))) _).setCell (p := ⟨l.a2, i, none⟩) HB.out.2.2.1 (.inl (.inr (.inl rfl))) _).alloc hw _).drew).drew⟩
  · have e : min (K.T.getD i 0 + 1) 16777215 = 16777215 := by rw [← HF.out]; omega
    go_end0
    rw [e]
    exact ⟨rfl, ((set2 (set4 HK.out HL.out i 16777215) HL.out i 0).alloc _).drew.drew, (((((Mod.refl B l.Of w).setCell (p := ⟨l.a4, i, none⟩) HB.out.2.2.2.2 (.inl (.inr (.inr (.inr rfl)))) _).setCell (p := ⟨l.a2, i, none⟩) HB.out.2.2.1 (.inl (.inr (.inl rfl))) _).alloc hw _).drew).drew⟩
end Go.Proofs.Ytiblpienmkjmgaa.StateA
