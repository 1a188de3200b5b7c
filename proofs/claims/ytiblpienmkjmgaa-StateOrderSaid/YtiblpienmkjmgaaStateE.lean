/- Contracts of package state, by hand: what is read. -/
import Derived.Test.YtiblpienmkjmgaaProg
import Derived.Below
import Derived.Deep.Draws
import Derived.Deep.AppendLies
import Derived.Maps.AppendAt
import Derived.OwnWalk
import Derived.Laws.BytesArg
import Derived.Laws.MakeOwn
import Derived.Laws.OwnMore
import Derived.Deep.OwnRows
import Derived.Tactics
import Derived.Lib.ConvBytes
import Derived.Laws.Slices
import Derived.WalkKit
import Derived.KernelRfl
import Derived.RowKit3
import Derived.Deep.LoopGhost
import Derived.Deep.QuietTactic
import Derived.BigQuiet
import Derived.WideLaws
import Derived.Deep.DeepCutAuto
import Derived.Deep.CutBlock
import Derived.Deep.RegionHeld3
import Derived.Deep.RegionWith
import Derived.Laws.Rows
import Derived.Lib.AppendStr
import Derived.ArgAppend
import Derived.Laws.IdiomCopy
import Derived.OrdersHeld
import Derived.Laws.BitsLemmas
import Derived.Outline
import Derived.RegionTactic
import Derived.Lib.Hide
import Derived.StillTailTactics
import Derived.Deep.RegionWith
import Derived.OpenShut
import Derived.Test.YtiblpienmkjmgaaWWords
import Derived.Test.YtiblpienmkjmgaaWKept
import Derived.Test.YtiblpienmkjmgaaStateD
import Derived.Test.YtiblpienmkjmgaaPSGeomLemmas
import Derived.WalkSpells
import Derived.Deep.RegionHeld3
import Derived.Lib.BufferMore
set_option linter.unusedVariables false
namespace Go.Proofs.Ytiblpienmkjmgaa.StateA
open Go.RowKit Go.Proofs.YtiblpienmkjmgaaW.PrintWords Go.Proofs.Ytiblpienmkjmgaa.Mem Go.Proofs.Ytiblpienmkjmgaa.PS

/-- A list's number, 0 of none. -/
def atI (xs : List Int) (i : Int) : Int := if 0 ≤ i ∧ i < xs.length then xs.getD i.toNat 0 else 0

set_option maxHeartbeats 1000000 in
theorem at_any (a c : Nat) (xs : List Int) (i : Int) (w : World) (h : RowAt w a c xs) :
    Calls Try.prog 67 #[.slice (some ⟨a, 0, none⟩) xs.length c, .int .i64 i] w fun e w' => e = .returned (.int .i64 (atI xs i)) ∧ w' = w := by
  unfold atI
  by_cases h0 : i < 0
  · have d0 : decide (i < 0) = true := decide_eq_true h0
    rw [if_neg (by omega)]
    go_enter Try.func67, Try.ntmps67
    go_wp2
    go_ret
    exact ⟨rfl, rfl⟩
  · obtain ⟨n, rfl⟩ : ∃ n : Nat, i = n := ⟨i.toNat, by omega⟩
    have d0 : decide ((n : Int) < 0) = false := decide_eq_false h0
    by_cases h1 : n < xs.length
    · have d1 : decide (((xs.length : Nat) : Int) ≤ (n : Int)) = false := decide_eq_false (by omega)
      rw [if_pos (by omega), Int.toNat_natCast]
      have u := (h.get n h1).1
      have hr := h.room
      go_enter Try.func67, Try.ntmps67
      go_wp2
      go_ret
      exact ⟨rfl, rfl⟩
    · have d1 : decide (((xs.length : Nat) : Int) ≤ (n : Int)) = true := decide_eq_true (by omega)
      rw [if_neg (by omega)]
      go_enter Try.func67, Try.ntmps67
      go_wp2
      go_ret
      exact ⟨rfl, rfl⟩

set_option maxHeartbeats 1000000 in
theorem floor_any (l : Loc) (K : Kp) (i : Int) (w : World) (h : KeepAt w l K) :
    Calls Try.prog 45 #[.pointer (some ⟨l.g, 0, none⟩), .int .i64 i] w fun e w' => e = .returned (.int .i64 (atI K.F i)) ∧ w' = w := by
  obtain ⟨u0, u1, u2, u3, _, _, _, _⟩ := cells4 h.blk
  have H := Aside0.mk h
  clear h
  go_enter Try.func45, Try.ntmps45
  go_wp2_with (go_at_call 67; refine (at_any l.a1 l.c1 K.F i _ H.out.r1).mono ?_; rintro e v1 ⟨rfl, rfl⟩)
  go_ret
  exact ⟨rfl, rfl⟩
set_option maxHeartbeats 1000000 in
theorem commitOf_any (l : Loc) (K : Kp) (i : Int) (w : World) (h : KeepAt w l K) :
    Calls Try.prog 46 #[.pointer (some ⟨l.g, 0, none⟩), .int .i64 i] w fun e w' => e = .returned (.int .i64 (atI K.C i)) ∧ w' = w := by
  obtain ⟨u0, u1, u2, u3, _, _, _, _⟩ := cells4 h.blk
  have H := Aside0.mk h
  clear h
  go_enter Try.func46, Try.ntmps46
  go_wp2_with (go_at_call 67; refine (at_any l.a2 l.c2 K.C i _ H.out.r2).mono ?_; rintro e v1 ⟨rfl, rfl⟩)
  go_ret
  exact ⟨rfl, rfl⟩
set_option maxHeartbeats 2000000 in
theorem wear_any (l : Loc) (K : Kp) (i : Int) (w : World) (h : KeepAt w l K) :
    Calls Try.prog 41 #[.pointer (some ⟨l.g, 0, none⟩), .int .i64 i] w fun e w' => e = .returned (.tuple #[.int .i64 (atI K.S i), .int .i64 (atI K.T i)]) ∧ ∃ n, w' = w.drewN n := by
  obtain ⟨u0, u1, u2, u3, _, _, _, _⟩ := cells4 h.blk
  have H := Aside0.mk h
  clear h
  go_enter Try.func41, Try.ntmps41
  go_wp2
  go_quiet (first | (go_at_call_of 67 (K.S.length); exact Calls.quiet_of_same (at_any l.a3 l.c3 K.S i _ (by exact H.out.r3))) | (go_at_call_of 67 (K.T.length); exact Calls.quiet_of_same (at_any l.a4 l.c4 K.T i _ (by exact H.out.r4))))
  go_wp2
  go_ret2
  exact ⟨rfl, _, rfl⟩
end Go.Proofs.Ytiblpienmkjmgaa.StateA
