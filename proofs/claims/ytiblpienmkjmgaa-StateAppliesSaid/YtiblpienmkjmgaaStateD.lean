/- Contracts of package state, by hand: New. -/
import Derived.Test.YtiblpienmkjmgaaProg
import Derived.Below
import Derived.Deep.Draws
import Derived.Deep.AppendLies
import Derived.Maps.AppendAt
import Derived.OwnWalk
import Derived.Laws.BytesArg
import Derived.Laws.MakeOwn
import Derived.Laws.OwnMore
import Derived.Deep.OwnRows
import Derived.Tactics
import Derived.Lib.ConvBytes
import Derived.Laws.Slices
import Derived.WalkKit
import Derived.KernelRfl
import Derived.RowKit3
import Derived.Deep.LoopGhost
import Derived.Deep.QuietTactic
import Derived.BigQuiet
import Derived.WideLaws
import Derived.Deep.DeepCutAuto
import Derived.Deep.CutBlock
import Derived.Deep.RegionHeld3
import Derived.Deep.RegionWith
import Derived.Laws.Rows
import Derived.Lib.AppendStr
import Derived.ArgAppend
import Derived.Laws.IdiomCopy
import Derived.OrdersHeld
import Derived.Laws.BitsLemmas
import Derived.Outline
import Derived.RegionTactic
import Derived.Lib.Hide
import Derived.StillTailTactics
import Derived.Deep.RegionWith
import Derived.OpenShut
import Derived.Test.YtiblpienmkjmgaaWWords
import Derived.Test.YtiblpienmkjmgaaWKept
import Derived.Test.YtiblpienmkjmgaaStateC
import Derived.Test.YtiblpienmkjmgaaPSGeomLemmas
import Derived.WalkSpells
import Derived.Deep.RegionHeld3
import Derived.Lib.BufferMore
set_option linter.unusedVariables false
namespace Go.Proofs.Ytiblpienmkjmgaa.StateA
open Go.RowKit Go.Proofs.YtiblpienmkjmgaaW.PrintWords Go.Proofs.Ytiblpienmkjmgaa.Mem Go.Proofs.Ytiblpienmkjmgaa.PS
def zeros (n : Nat) : List Int := List.replicate n 0
theorem zeros_len (n : Nat) : (zeros n).length = n := List.length_replicate
def newK (b s : Nat) : Kp := ⟨zeros s, zeros b, zeros b, zeros b⟩
theorem row_made (w : World) (n : Nat) (hn : n ≤ 1000000) : RowAt (w.alloc (.cells (madeCells #[.int .i64 0] n) 3)) w.heap.size n (zeros n) := by
  have h := own_made' w 0 3 .i64 n (Nat.zero_le _) (by omega)
  unfold RowAt
  rw [zeros_len]
  rw [List.length_replicate] at h
  exact h

theorem row_at (w : World) (a n : Nat) (hn : n ≤ 1000000) (ha : a = w.heap.size) : RowAt (w.alloc (.cells (madeCells #[.int .i64 0] n) 3)) a n (zeros n) := by
  subst ha; exact row_made w n hn
theorem RowAt.alloc' {w : World} {a c : Nat} {xs : List Int} (h : RowAt w a c xs) (o : Obj) : RowAt (w.alloc o) a c xs := h.move (Below.heap_alloc w o a h.lt)
theorem RowAt.drew' {w : World} {a c : Nat} {xs : List Int} (h : RowAt w a c xs) : RowAt w.drew a c xs := h.move rfl
theorem heap_new' (w : World) (o : Obj) (a : Nat) (ha : a = w.heap.size) : (w.alloc o).heap[a]? = some o := by subst ha; exact heap_alloc_new w o
/-- A keeper, new. -/
def NewKeep (w : World) (K : Kp) (c : Int) (e : Ending) (w' : World) : Prop :=
  ∃ l : Loc, e = .returned (.tuple #[.pointer (some ⟨l.g, 0, none⟩), .int .i64 c]) ∧ KeepAt w' l K ∧ l.Apart ∧ l.From w.heap.size ∧ Below w.heap.size w w'

/-- A keeper of four rows that lie. -/
theorem keep_of (w W : World) (b s a1 a2 a3 a4 g : Nat) (hg : W.heap[g]? = some (.cells #[.slice (some ⟨a1, 0, none⟩) s s, .slice (some ⟨a2, 0, none⟩) b b, .slice (some ⟨a3, 0, none⟩) b b, .slice (some ⟨a4, 0, none⟩) b b] 111 (0, 0)))
    (r1 : RowAt W a1 s (zeros s)) (r2 : RowAt W a2 b (zeros b)) (r3 : RowAt W a3 b (zeros b)) (r4 : RowAt W a4 b (zeros b))
    (ap : Loc.Apart ⟨g, a1, a2, a3, a4, s, b, b, b⟩) (fr : Loc.From ⟨g, a1, a2, a3, a4, s, b, b, b⟩ w.heap.size) (hb : Below w.heap.size w W) :
    NewKeep w (newK b s) 0 (.returned (.tuple #[.pointer (some ⟨g, 0, none⟩), .int .i64 0])) W := by
  refine ⟨⟨g, a1, a2, a3, a4, s, b, b, b⟩, rfl, ⟨?_, r1, r2, r3, r4⟩, ap, fr, hb⟩
  simp only [newK, zeros_len]
  exact hg
theorem keep6 {w : World} {g : Nat} {a b c d e f : Value} {T : TypeId} (k : w.heap[g]? = some (.cells #[a, b, c, d, e, f] T (0, 0))) : w.cell? ⟨g, 0, none⟩ = some a ∧ w.cell? ⟨g, 3, none⟩ = some d := ⟨blk_cell k 0, blk_cell k 3⟩
set_option maxHeartbeats 4000000 in
set_option maxRecDepth 100000 in
theorem new_ok (b s : Nat) (ln y p we : Int) (w : World) (hc : geom_Check.f 8 b ln y s p we = some 0) (hb : b ≤ 1000) (hs : s ≤ 100000) :
    Calls Try.prog 32 #[.agg #[.int .i64 b, .int .i64 ln, .int .i64 y, .int .i64 s, .int .i64 p, .int .i64 we]] w (NewKeep w (newK b s) 0) := by
  have hmb := print_make (P := Try.prog) 40 3 .i64 8 Try.underlying40 info3 (by decide) b (by omega)
  have hms := print_make (P := Try.prog) 40 3 .i64 8 Try.underlying40 info3 (by decide) s (by omega)
  have HC := Lib.hid hc
  clear hc
  go_enter Try.func32, Try.ntmps32
  go_wp2_with (go_at_call 50; refine (geom_Check.calls 8 b ln y s p we 0 _ HC.out).mono ?_; rintro e w1 ⟨rfl, hb⟩; have HBB := Aside0.mk hb; have kk := Aside0.mk (blk_below (blk_new w (.cells #[.int .i64 b, .int .i64 ln, .int .i64 y, .int .i64 s, .int .i64 p, .int .i64 we] 37)) hb); obtain ⟨u0, u1, u2, u3, u4, u5⟩ := cells6 (kk.out); have z1 := blk_lt kk.out; clear hb)
  go_region_held3 (fun w' => w'.cell? ⟨w.heap.size, 0, none⟩ = some (.int .i64 b) ∧ w'.cell? ⟨w.heap.size, 3, none⟩ = some (.int .i64 s))
    (first | exact keep6 (b := .int .i64 ln) (c := .int .i64 y) (e := .int .i64 p) (f := .int .i64 we) (T := 37) (by with_reducible (repeat (first | refine blk_drew ?_ | refine blk_alloc ?_ _)); exact kk.out) | go_keep)
    (fail)
  all_goals (rename_i K hK hH; clear hH u0 u1 u2 u3 u4 u5 kk)
  all_goals go_wp2
  all_goals go_ret2
  all_goals have zz := HBB.out.size
  all_goals rw [World.size_alloc] at zz
  all_goals refine keep_of w _ b s _ _ _ _ _ (blk_drew (heap_new' _ _ _ (by simp only [World.size_alloc]))) ?_ ?_ ?_ ?_ ⟨⟨by dsimp only; omega, by dsimp only; omega, by dsimp only; omega, by dsimp only; omega⟩, ⟨by dsimp only; omega, by dsimp only; omega, by dsimp only; omega⟩, ⟨by dsimp only; omega, by dsimp only; omega⟩, by dsimp only; omega⟩ ⟨by dsimp only; omega, by dsimp only; omega, by dsimp only; omega, by dsimp only; omega, by dsimp only; omega⟩ ?_
  all_goals first | (refine Below.drew ?_; refine below_alloc ?_ _; refine below_alloc ?_ _; refine below_alloc ?_ _; refine below_alloc ?_ _; refine below_alloc ?_ _; exact (below_alloc (Below.refl w.heap.size w) _).trans (HBB.out.mono (by simp only [World.size_alloc]; omega))) | (refine RowAt.drew' (RowAt.alloc' ?_ _); with_reducible (repeat (first | (refine row_at _ _ _ (by omega) ?_; simp only [World.size_alloc]; done) | refine RowAt.alloc' ?_ _)))
end Go.Proofs.Ytiblpienmkjmgaa.StateA
