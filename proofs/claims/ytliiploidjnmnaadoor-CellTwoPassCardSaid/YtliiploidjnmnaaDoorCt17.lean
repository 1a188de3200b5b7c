/- The law's proof: words, contracts of the functions that it reaches, plain lemmas. -/
import Derived.Test.YtliiploidjnmnaaDoorCt9
import Derived.Test.YtliiploidjnmnaaDoorCt7
import Derived.Test.YtliiploidjnmnaaDoorCt13
import Derived.Test.YtliiploidjnmnaaDoorCt14
import Derived.ArgAppend
import Derived.Below
import Derived.BigQuiet
import Derived.Carry
import Derived.Deep.AppendLies
import Derived.Deep.CutBlock
import Derived.Deep.DeepCutAuto
import Derived.Deep.Draws
import Derived.Deep.LoopGhost
import Derived.Deep.OwnRows
import Derived.Deep.QuietTactic
import Derived.Deep.RegionHeld3
import Derived.Deep.RegionWith
import Derived.KernelRfl
import Derived.Laws.BitsLemmas
import Derived.Laws.BytesArg
import Derived.Laws.IdiomCopy
import Derived.Laws.MakeOwn
import Derived.Laws.OwnMore
import Derived.Laws.Rows
import Derived.Laws.Slices
import Derived.Lib.AppendStr
import Derived.Lib.BufferMore
import Derived.Lib.ConvBytes
import Derived.Lib.Hide
import Derived.Lib.LazyBuf
import Derived.Maps.AppendAt
import Derived.OpenShut
import Derived.OrdersHeld
import Derived.Outline
import Derived.OwnWalk
import Derived.OwnWalkIn
import Derived.RegionTactic
import Derived.RowKit3
import Derived.StillTailTactics
import Derived.Tactics
import Derived.WalkKit
import Derived.WideLaws
import Derived.Test.YtliiploidjnmnaaDoorProg
import Derived.IntWalk
import Derived.Test.YtliiploidjnmnaaDoorCt5
import Derived.Test.YtliiploidjnmnaaDoorCt15
section
-- Written by a program (the kit's print.py, called by wip/bin/prseat.sh, mended by wip/bin/mend.py).
namespace Go.Proofs.YtliiploidjnmnaaDoor.PF
open Go.RowKit Go.Proofs.YtliiploidjnmnaaDoorW.PrintWords Go.Proofs.YtliiploidjnmnaaDoorW.PrintLast Go.Proofs.YtliiploidjnmnaaDoorW.PrintMore
attribute [local go_sem] max2_int min2_int max_two min_two max_three min_three max_four min_four   -- for this text's walks alone
set_option linter.unusedVariables false
set_option linter.unusedSimpArgs false

/-! ### ham_Decode: function 55 -/
def ham_Decode.j0 : Nat → ByteArray → Int → Bool → Bool → Option (ByteArray × Int × Int)
  | 0, _, _, _, _ => none
  | k + 1, x2, x5, x8, x31 => if x31 = true then (some (x2, 2, 0)) else (if x8 = true then (if x5 > 71 then (some ((⟨#[]⟩ : ByteArray), 4, 0)) else ((ham_turned.f x2 x5).bind fun t403 => (some (t403, 3, 0)))) else (some ((⟨#[]⟩ : ByteArray), 4, 0)))
def ham_Decode.f (k : Nat) (a0 : ByteArray) : Option (ByteArray × Int × Int) := if (a0.size : Int) = 9 then (if 0 ≤ 8 then (if 8 ≤ (a0.size : Int) then ((ham_left.f (a0.extract 0 8)).bind fun bt400 => (if 8 < (a0.size : Int) then ((bits_OnesCount8.f (bt a0 8)).bind fun t402 => (if ((Int.tmod (wrap64 (bt400.2 + t402)) 2) = 1) then (ham_Decode.j0 k (a0.extract 0 8) (Go.bits .xor .u8 bt400.1 (Go.bits .and .u8 (bt a0 8) 127)) ((Int.tmod (wrap64 (bt400.2 + t402)) 2) == 1) false) else (ham_Decode.j0 k (a0.extract 0 8) (Go.bits .xor .u8 bt400.1 (Go.bits .and .u8 (bt a0 8) 127)) ((Int.tmod (wrap64 (bt400.2 + t402)) 2) == 1) ((Go.bits .xor .u8 bt400.1 (Go.bits .and .u8 (bt a0 8) 127)) == 0)))) else (none))) else (none)) else (none)) else (some ((⟨#[]⟩ : ByteArray), 0, 4))
theorem ham_Decode.mono_l : ∀ k, (∀ y0 y1 y2 y3, LeO (ham_Decode.j0 k y0 y1 y2 y3) (ham_Decode.j0 (k + 1) y0 y1 y2 y3))
  | 0 => fun _ _ _ _ r h => by simp [ham_Decode.j0] at h
  | k + 1 => by
    have ih0 := ham_Decode.mono_l k
    · intro y0 y1 y2 y3
      unfold ham_Decode.j0
      repeat' first
      | (with_reducible exact ih0 _ _ _ _)
      | (with_reducible exact LeO.refl _)
      | (with_reducible exact LeO.none _)
      | (with_reducible refine LeO.ite ?_ ?_)
      | (with_reducible refine LeO.bind ?_ (fun _ => ?_))
      | exact ih0 _ _ _ _
      | exact LeO.none _
      | refine LeO.ite ?_ ?_
      | refine LeO.bind ?_ (fun _ => ?_)
theorem ham_Decode.mono : ∀ a0 k, LeO (ham_Decode.f k a0) (ham_Decode.f (k + 1) a0) := by
  intro a0 k
  have ih0 := ham_Decode.mono_l k
  unfold ham_Decode.f
  repeat' first
      | (with_reducible exact ih0 _ _ _ _)
      | (with_reducible exact LeO.refl _)
      | (with_reducible exact LeO.none _)
      | (with_reducible refine LeO.ite ?_ ?_)
      | (with_reducible refine LeO.bind ?_ (fun _ => ?_))
      | exact ih0 _ _ _ _
      | exact LeO.none _
      | refine LeO.ite ?_ ?_
      | refine LeO.bind ?_ (fun _ => ?_)
set_option maxHeartbeats 8000000 in
set_option maxRecDepth 100000 in
theorem ham_Decode.calls (k : Nat) (a0 : ByteArray) (r1 : ByteArray) (r2 : Int) (r3 : Int) (w : World) (h : ham_Decode.f k a0 = some (r1, r2, r3)) (HL : Aside0 (Hw.Laid w) := by first | exact HL | exact Hw.laid_at HL (by repeat (first | (with_reducible first | exact HB.out | apply below_alloc | apply pw_below_drewN | apply below_drew1) | exact HB.out | exact Below.refl _ _ | refine below_set ?_ (by apply Aside0.out; assumption)))) :
    Calls Tryd.prog 55 #[.string a0] w fun e w' => e = .returned (.tuple #[.string r1, .int .i64 r2, .int .i64 r3]) ∧ Below w.heap.size w w' := by
  have HB := Aside0.mk (Below.refl w.heap.size w)
  have H : (if (a0.size : Int) = 9 then (if 0 ≤ 8 then (if 8 ≤ (a0.size : Int) then ((ham_left.f (a0.extract 0 8)).bind fun bt400 => (if 8 < (a0.size : Int) then ((bits_OnesCount8.f (bt a0 8)).bind fun t402 => (if ((Int.tmod (wrap64 (bt400.2 + t402)) 2) = 1) then (ham_Decode.j0 k (a0.extract 0 8) (Go.bits .xor .u8 bt400.1 (Go.bits .and .u8 (bt a0 8) 127)) ((Int.tmod (wrap64 (bt400.2 + t402)) 2) == 1) false) else (ham_Decode.j0 k (a0.extract 0 8) (Go.bits .xor .u8 bt400.1 (Go.bits .and .u8 (bt a0 8) 127)) ((Int.tmod (wrap64 (bt400.2 + t402)) 2) == 1) ((Go.bits .xor .u8 bt400.1 (Go.bits .and .u8 (bt a0 8) 127)) == 0)))) else (none))) else (none)) else (none)) else (some ((⟨#[]⟩ : ByteArray), 0, 4))) = some (r1, r2, r3) := h
  clear h
  by_cases c2 : (a0.size : Int) = 9
  · rw [if_pos c2] at H
    have c2b0 : ((a0.size : Int) == 9) = true := beq_iff_eq.mpr c2
    have c2b1 : ((a0.size : Int) != 9) = false := bne_eq_false_iff_eq.mpr c2
    clear c2
    by_cases c3 : 0 ≤ 8
    · rw [if_pos c3] at H
      have c3b0 := eq_true c3
      have c3b1 : decide (0 ≤ 8) = true := decide_eq_true c3
      clear c3
      by_cases c4 : 8 ≤ (a0.size : Int)
      · rw [if_pos c4] at H
        have c4b0 := eq_true c4
        have c4b1 : decide (8 ≤ (a0.size : Int)) = true := decide_eq_true c4
        clear c4
        replace H := Option.bind_eq_some_iff.mp H
        obtain ⟨⟨t400, t401⟩, A50, H⟩ := H
        replace H : (if 8 < (a0.size : Int) then ((bits_OnesCount8.f (bt a0 8)).bind fun t402 => (if ((Int.tmod (wrap64 (t401 + t402)) 2) = 1) then (ham_Decode.j0 k (a0.extract 0 8) (Go.bits .xor .u8 t400 (Go.bits .and .u8 (bt a0 8) 127)) ((Int.tmod (wrap64 (t401 + t402)) 2) == 1) false) else (ham_Decode.j0 k (a0.extract 0 8) (Go.bits .xor .u8 t400 (Go.bits .and .u8 (bt a0 8) 127)) ((Int.tmod (wrap64 (t401 + t402)) 2) == 1) ((Go.bits .xor .u8 t400 (Go.bits .and .u8 (bt a0 8) 127)) == 0)))) else (none)) = some (r1, r2, r3) := H
        have A5 := Aside0.mk A50
        clear A50
        by_cases c6 : 8 < (a0.size : Int)
        · rw [if_pos c6] at H
          have c6b0 : decide (8 < (a0.size : Int)) = true := decide_eq_true c6
          have c6b1 : decide (8 < a0.size) = true := decide_eq_true (by omega)
          clear c6
          replace H := Option.bind_eq_some_iff.mp H
          obtain ⟨t402, A80, H⟩ := H
          replace H : (if ((Int.tmod (wrap64 (t401 + t402)) 2) = 1) then (ham_Decode.j0 k (a0.extract 0 8) (Go.bits .xor .u8 t400 (Go.bits .and .u8 (bt a0 8) 127)) ((Int.tmod (wrap64 (t401 + t402)) 2) == 1) false) else (ham_Decode.j0 k (a0.extract 0 8) (Go.bits .xor .u8 t400 (Go.bits .and .u8 (bt a0 8) 127)) ((Int.tmod (wrap64 (t401 + t402)) 2) == 1) ((Go.bits .xor .u8 t400 (Go.bits .and .u8 (bt a0 8) 127)) == 0))) = some (r1, r2, r3) := H
          have A8 := Aside0.mk A80
          clear A80
          have HC9 := Aside0.mk H
          clear H
          go_enter Tryd.func55, Tryd.ntmps55
          go_upto_region 8 with (first | ((with_reducible refine gate_callee (f := 72) rfl ?_); refine goesL_ (some 16) rfl rfl Tryd.func72 (by kernel_rfl) rfl #[.string (a0.extract 0 8)] rfl (by (try simp only [List.map_toArray, List.map_cons, List.map_nil]); first | done | rfl | (simp only [List.length_drop, List.length_take]; rfl)) ?_; (with_reducible refine (ham_left.calls (a0.extract 0 8) t400 t401 _ A5.out).mono ?_); rintro e w10 ⟨rfl, hb⟩; refine ⟨_, rfl, ?_⟩; have n0_ := Aside0.mk (below_step (by repeat (first | (with_reducible first | exact HB.out | apply below_alloc | apply pw_below_drewN | apply below_drew1) | exact HB.out)) hb); clear HB; have HB := n0_; clear n0_; (try clear hb); (try clear hb2); (try clear hk); (try clear hi); have p7 : 0 ≤ (8 : Int) := (by omega); have q7 : 8 < a0.size := (by have : (8 : Int) < (a0.size : Int) := of_decide_eq_true (by first | (with_reducible assumption) | assumption); omega); have hx7 : ∀ h : 8 < a0.size, ((a0[8]'h).toNat : Int) = bt a0 8 := bt_at a0 8; clear p7; have qi7 : (8 < (a0.size : Int)) = True := eq_true (of_decide_eq_true (by first | (with_reducible assumption) | assumption)); replace q7 := eq_true q7) | ((with_reducible refine gate_callee (f := 73) rfl ?_); refine goesL_ (some 27) rfl rfl Tryd.func73 (by kernel_rfl) rfl #[.int .u8 (bt a0 8)] rfl (by (try simp only [List.map_toArray, List.map_cons, List.map_nil]); first | done | rfl | (simp only [List.length_drop, List.length_take]; rfl)) ?_; (with_reducible refine (bits_OnesCount8.calls (bt a0 8) t402 _ A8.out).mono ?_); rintro e w11 ⟨rfl, hb⟩; refine ⟨_, rfl, ?_⟩; have n0_ := Aside0.mk (below_step (by repeat (first | (with_reducible first | exact HB.out | apply below_alloc | apply pw_below_drewN | apply below_drew1) | exact HB.out)) hb); clear HB; have HB := n0_; clear n0_; (try clear hb); (try clear hb2); (try clear hk); (try clear hi)))
          (try simp only [Act.put, List.setIfInBounds_toArray, List.set_cons_zero, List.set_cons_succ])
          go_cut [8, 31] (fun v8 v31 wc => ∃ (kq : Nat) (x31_8 : Bool), v8 = .bool ((Int.tmod (wrap64 (t401 + t402)) 2) == 1) ∧ v31 = .bool x31_8 ∧ Aside0 (ham_Decode.j0 kq (a0.extract 0 8) (Go.bits .xor .u8 t400 (Go.bits .and .u8 (bt a0 8) 127)) ((Int.tmod (wrap64 (t401 + t402)) 2) == 1) x31_8 = some (r1, r2, r3)) ∧ Aside0 (kq ≤ k) ∧ Aside0 (Below w.heap.size w wc))
          case first =>
            have H := HC9.out
            clear HC9
            by_cases c12 : ((Int.tmod (wrap64 (t401 + t402)) 2) = 1)
            · rw [if_pos c12] at H
              have c12b0 : ((Int.tmod (wrap64 (t401 + t402)) 2) == 1) = true := beq_iff_eq.mpr c12
              have c12b1 : ((Int.tmod (wrap64 (t401 + t402)) 2) != 1) = false := bne_eq_false_iff_eq.mpr c12
              clear c12
              (first | rw [c12b0] | (simp only [i64_w, i32_w]; rw [c12b0]) | skip)
              have H' := Aside0.mk H
              clear H
              go_wp2
              go_meet
              case rel => exact ⟨_, (false), (by first | rfl | exact congrArg Value.bool c12b0.symm), (by first | rfl | (simp; done) | (simp [*]; done)), H', ⟨by first | omega | exact Nat.le_refl _⟩, ⟨by repeat (first | (with_reducible first | exact HB.out | apply below_alloc | apply pw_below_drewN | apply below_drew1) | exact HB.out)⟩⟩
            · rw [if_neg c12] at H
              have c12b0 : ((Int.tmod (wrap64 (t401 + t402)) 2) == 1) = false := beq_eq_false_iff_ne.mpr c12
              have c12b1 : ((Int.tmod (wrap64 (t401 + t402)) 2) != 1) = true := bne_iff_ne.mpr c12
              (first | rw [c12b0] | (simp only [i64_w, i32_w]; rw [c12b0]) | skip)
              have H' := Aside0.mk H
              clear H
              go_wp2
              go_meet
              case rel => exact ⟨_, (((Go.bits .xor .u8 t400 (Go.bits .and .u8 (bt a0 8) 127)) == 0)), (by first | rfl | exact congrArg Value.bool c12b0.symm), (by first | rfl | (simp; done) | (simp [*]; done)), H', ⟨by first | omega | exact Nat.le_refl _⟩, ⟨by repeat (first | (with_reducible first | exact HB.out | apply below_alloc | apply pw_below_drewN | apply below_drew1) | exact HB.out)⟩⟩
          case rest =>
            clear HC9
            try clear c1
            try clear c2
            try clear c2b0
            try clear c2b1
            try clear p2
            try clear c3
            try clear c3b0
            try clear c3b1
            try clear c4
            try clear c4b0
            try clear c4b1
            try clear c5
            try clear c6
            try clear c6b0
            try clear c6b1
            try clear p6
            try clear c7
            try clear p7
            try clear q7
            try clear hx7
            try clear qi7
            try clear c12
            try clear c12b0
            try clear c12b1
            try clear p7
            try clear q7
            obtain ⟨kq, x31_8, rfl, rfl, HA, HJ8, HB⟩ := hcut
            cases kq with
            | zero => exact absurd HA.out (by simp [ham_Decode.j0])
            | succ kj8 =>
              have H := HA.out
              clear HA
              simp only [ham_Decode.j0] at H
              by_cases c13 : x31_8 = true
              · subst c13
                have H1 : (some ((a0.extract 0 8), 2, 0)) = some (r1, r2, r3) := by rw [if_pos rfl] at H; exact H
                clear H
                have H := H1
                clear H1
                simp only [Option.some.injEq, Prod.mk.injEq] at H
                obtain ⟨rfl, rfl, rfl⟩ := H
                go_wp2
                go_ret3
                exact ⟨by first | rfl | (simp [errW_none, errW_some] <;> rfl) | (simp [*, errW_none, errW_some] <;> rfl), by repeat (first | (with_reducible first | exact HB.out | apply below_alloc | apply pw_below_drewN | apply below_drew1) | exact HB.out)⟩
              · replace c13 := Bool.eq_false_iff.mpr c13
                subst c13
                have H1 : (if ((Int.tmod (wrap64 (t401 + t402)) 2) == 1) = true then (if (Go.bits .xor .u8 t400 (Go.bits .and .u8 (bt a0 8) 127)) > 71 then (some ((⟨#[]⟩ : ByteArray), 4, 0)) else ((ham_turned.f (a0.extract 0 8) (Go.bits .xor .u8 t400 (Go.bits .and .u8 (bt a0 8) 127))).bind fun t403 => (some (t403, 3, 0)))) else (some ((⟨#[]⟩ : ByteArray), 4, 0))) = some (r1, r2, r3) := by rw [if_neg (show ¬ (false = true) by decide)] at H; exact H
                clear H
                have H := H1
                clear H1
                by_cases c14 : ((Int.tmod (wrap64 (t401 + t402)) 2) == 1) = true
                · rw [if_pos c14] at H
                  have c14b0 : ((Int.tmod (wrap64 (t401 + t402)) 2) == 1) = true := c14
                  (try (have c14b1 : decide ((Int.tmod (wrap64 (t401 + t402)) 2) = 1) = true := by simpa using c14))
                  (try (have c14b2 : ((Int.tmod (wrap64 (t401 + t402)) 2) == 1) = true := by simpa using c14))
                  clear c14
                  by_cases c15 : (Go.bits .xor .u8 t400 (Go.bits .and .u8 (bt a0 8) 127)) > 71
                  · rw [if_pos c15] at H
                    have c15b0 : decide (71 < (Go.bits .xor .u8 t400 (Go.bits .and .u8 (bt a0 8) 127))) = true := decide_eq_true c15
                    clear c15
                    simp only [Option.some.injEq, Prod.mk.injEq] at H
                    obtain ⟨rfl, rfl, rfl⟩ := H
                    go_wp2
                    go_ret3
                    exact ⟨by first | rfl | (simp [errW_none, errW_some] <;> rfl) | (simp [*, errW_none, errW_some] <;> rfl), by repeat (first | (with_reducible first | exact HB.out | apply below_alloc | apply pw_below_drewN | apply below_drew1) | exact HB.out)⟩
                  · rw [if_neg c15] at H
                    have c15b0 : decide (71 < (Go.bits .xor .u8 t400 (Go.bits .and .u8 (bt a0 8) 127))) = false := decide_eq_false c15
                    clear c15
                    replace H := Option.bind_eq_some_iff.mp H
                    obtain ⟨t403, A160, H⟩ := H
                    replace H : (some (t403, 3, 0)) = some (r1, r2, r3) := H
                    have A16 := Aside0.mk A160
                    clear A160
                    simp only [Option.some.injEq, Prod.mk.injEq] at H
                    obtain ⟨rfl, rfl, rfl⟩ := H
                    go_wp2_with (first | ((with_reducible refine gate_callee (f := 74) rfl ?_); refine goesL_ (some 48) rfl rfl Tryd.func74 (by kernel_rfl) rfl #[.string (a0.extract 0 8), .int .u8 (Go.bits .xor .u8 t400 (Go.bits .and .u8 (bt a0 8) 127))] rfl (by (try simp only [List.map_toArray, List.map_cons, List.map_nil]); first | done | rfl | (simp only [List.length_drop, List.length_take]; rfl)) ?_; (with_reducible refine (ham_turned.calls (a0.extract 0 8) (Go.bits .xor .u8 t400 (Go.bits .and .u8 (bt a0 8) 127)) t403 _ A16.out).mono ?_); rintro e w17 ⟨rfl, hb⟩; refine ⟨_, rfl, ?_⟩; have n0_ := Aside0.mk (below_step (by repeat (first | (with_reducible first | exact HB.out | apply below_alloc | apply pw_below_drewN | apply below_drew1) | exact HB.out)) hb); clear HB; have HB := n0_; clear n0_; (try clear hb); (try clear hb2); (try clear hk); (try clear hi)))
                    go_ret3
                    exact ⟨by first | rfl | (simp [errW_none, errW_some] <;> rfl) | (simp [*, errW_none, errW_some] <;> rfl), by repeat (first | (with_reducible first | exact HB.out | apply below_alloc | apply pw_below_drewN | apply below_drew1) | exact HB.out)⟩
                · rw [if_neg c14] at H
                  have c14b0 : ((Int.tmod (wrap64 (t401 + t402)) 2) == 1) = false := by simpa using c14
                  (try (have c14b1 : decide ((Int.tmod (wrap64 (t401 + t402)) 2) = 1) = false := by simpa using c14))
                  (try (have c14b2 : ((Int.tmod (wrap64 (t401 + t402)) 2) == 1) = false := by simpa using c14))
                  (try (have c14b3 : ¬ ((Int.tmod (wrap64 (t401 + t402)) 2) = 1) := by simpa using c14))
                  clear c14
                  simp only [Option.some.injEq, Prod.mk.injEq] at H
                  obtain ⟨rfl, rfl, rfl⟩ := H
                  go_wp2
                  go_ret3
                  exact ⟨by first | rfl | (simp [errW_none, errW_some] <;> rfl) | (simp [*, errW_none, errW_some] <;> rfl), by repeat (first | (with_reducible first | exact HB.out | apply below_alloc | apply pw_below_drewN | apply below_drew1) | exact HB.out)⟩
        · rw [if_neg c6] at H
          exact absurd H (by simp)
      · rw [if_neg c4] at H
        exact absurd H (by simp)
    · rw [if_neg c3] at H
      exact absurd H (by simp)
  · rw [if_neg c2] at H
    have c2b0 : ((a0.size : Int) == 9) = false := beq_eq_false_iff_ne.mpr c2
    have c2b1 : ((a0.size : Int) != 9) = true := bne_iff_ne.mpr c2
    simp only [Option.some.injEq, Prod.mk.injEq] at H
    obtain ⟨rfl, rfl, rfl⟩ := H
    go_enter Tryd.func55, Tryd.ntmps55
    go_wp2
    go_ret3
    exact ⟨by first | rfl | (simp [errW_none, errW_some] <;> rfl) | (simp [*, errW_none, errW_some] <;> rfl), by repeat (first | (with_reducible first | exact HB.out | apply below_alloc | apply pw_below_drewN | apply below_drew1) | exact HB.out)⟩

end Go.Proofs.YtliiploidjnmnaaDoor.PF
end

section
/- The document's Flip, by hand. -/
set_option linter.unusedVariables false
set_option linter.unusedSimpArgs false
namespace Go.Proofs.YtliiploidjnmnaaDoor.PF
open Go.RowKit Go.Shelf Go.Proofs.YtliiploidjnmnaaDoorW.PrintWords Go.Proofs.YtliiploidjnmnaaDoor.Hw

theorem power8 : ∀ m : Fin 8, deckleref01_Power.f 16 ((m.val : Nat) : Int) = some (((2 ^ m.val : Nat) : Int)) := by decide +kernel
theorem bit8 : ∀ (m : Fin 8) (b : Fin 256), deckleref01_Bit.f 16 ((b.val : Nat) : Int) ((m.val : Nat) : Int) = some (((b.val / 2 ^ m.val % 2 : Nat) : Int)) := by decide +kernel
theorem xor8 : ∀ (m : Fin 8) (b : Fin 256), b.val ^^^ 2 ^ m.val = if b.val / 2 ^ m.val % 2 = 1 then b.val - 2 ^ m.val else b.val + 2 ^ m.val := by decide +kernel
theorem le8 : ∀ (m : Fin 8) (b : Fin 256), (b.val / 2 ^ m.val % 2 = 1 → 2 ^ m.val ≤ b.val) ∧ (b.val / 2 ^ m.val % 2 ≠ 1 → b.val + 2 ^ m.val ≤ 255) := by decide +kernel
theorem pow8 : ∀ m : Fin 8, 1 ≤ 2 ^ m.val ∧ 2 ^ m.val ≤ 128 := by decide
theorem cell_bn (s : ByteArray) (j : Nat) (hj : j < s.size) : ((s.data.toList.getD j 0).toNat : Int) = ((bn s j : Nat) : Int) := by
  rw [← bn_bt, ← rd_bytesOf]
  unfold rd bytesOf
  rw [Int.toNat_natCast, List.getD_eq_getElem?_getD, List.getD_eq_getElem?_getD, List.getElem?_map, List.getElem?_eq_getElem (by rw [data_length]; exact hj)]
  rfl
theorem flipAt_is (s : ByteArray) (k : Nat) : flipAt s k = strOfNums ((bytesOf s).set (k / 8) (((bn s (k / 8) ^^^ 2 ^ (k % 8) : Nat) : Int))) := by
  unfold flipAt
  have e1 : (k : Int) / 8 = ((k / 8 : Nat) : Int) := by omega
  have hp := pow8 ⟨k % 8, by omega⟩
  simp only at hp
  have e2 : ((2 : Int) ^ (k % 8)) % 256 = ((2 ^ (k % 8) : Nat) : Int) := by
    have : ((2 : Int) ^ (k % 8)) = ((2 ^ (k % 8) : Nat) : Int) := by simp
    rw [this]; omega
  rw [e1, e2, bn_bt, u8_xor _ _ (bn_lt _ _) (by omega)]
set_option maxHeartbeats 4000000 in
set_option maxRecDepth 100000 in
theorem refFlip_yes (s : ByteArray) (k : Nat) (w : World) (hs : s.size ≤ 140737488355328) (hk : k / 8 < s.size) :
    Calls Tryd.prog 88 #[.string s, .int .i64 k] w fun e w' => e = .returned (.tuple #[.string (flipAt s k), .int .i64 0]) ∧ Below w.heap.size w w' := by
  have hF := flipAt_is s k
  have hcv := Lib.run_convert_string_bytes (P := Tryd.prog) w 9 91 5 s Tryd.underlying9 Tryd.underlying91 Tryd.underlying5
  have hm : k % 8 < 8 := by omega
  have hb := bn_lt s (k / 8)
  have hP := power8 ⟨k % 8, hm⟩
  have hB := bit8 ⟨k % 8, hm⟩ ⟨bn s (k / 8), hb⟩
  have hX := xor8 ⟨k % 8, hm⟩ ⟨bn s (k / 8), hb⟩
  have hL := le8 ⟨k % 8, hm⟩ ⟨bn s (k / 8), hb⟩
  have hp := pow8 ⟨k % 8, hm⟩
  have hcell := Lib.bytesWorld_cell w 5 s (k / 8) hk
  rw [cell_bn s (k / 8) hk] at hcell
  have hfr := bw_frozen w 5 s (k / 8) hk
  have hrd := bytes_reads w 5 s (by omega)
  simp only at hP hB hX hL hp
  obtain ⟨m, hme⟩ : ∃ m, m = k % 8 := ⟨_, rfl⟩
  obtain ⟨b, hbe⟩ : ∃ b, b = bn s (k / 8) := ⟨_, rfl⟩
  obtain ⟨q, hqe⟩ : ∃ q, q = k / 8 := ⟨_, rfl⟩
  have km : (k : Int) % 8 = (m : Nat) := by omega
  have kq : (k : Int) / 8 = (q : Nat) := by omega
  rw [← hme] at hP hB hX hL hp hF
  rw [← hqe] at hk hcell hfr hF hbe
  rw [← hqe] at hB hX hL
  rw [← hbe] at hB hX hL hcell hF
  obtain ⟨p, hpe⟩ : ∃ p, p = 2 ^ m := ⟨_, rfl⟩
  rw [← hpe] at hP hB hX hL hp hF
  obtain ⟨p0, p1⟩ := hp
  have HBW := Aside0.mk (bw_below w 5 s)
  have HF := Lib.hid hF
  have HP := Aside0.mk hP
  have HBB := Aside0.mk hB
  obtain ⟨C, hC⟩ : ∃ C, C = grownCap w s.size 0 5 := ⟨_, rfl⟩
  rw [← hC] at hcv
  have d1 : decide ((k : Int) < 0) = false := decide_eq_false (by omega)
  have d2 : decide ((s.size : Int) ≤ (q : Int)) = false := decide_eq_false (by omega)
  have j1 : (q : Int) < (s.size : Int) := by omega
  have hb255 : b < 256 := by rw [hbe, hqe]; exact bn_lt _ _
  clear hP hB hme hbe hqe hpe hF hC
  obtain ⟨w1, hW⟩ : ∃ w1, w1 = Lib.bytesWorld w 5 s := ⟨_, rfl⟩
  rw [← hW] at hcell hfr hrd hcv HBW
  have hbl : w.heap.size < w1.heap.size := World.block_lt_of_cell? w1 _ hcell
  clear hW
  have hp256 : (p : Int) % 256 = p := by omega
  have key : ∀ (x : Nat), (w1.cell? ⟨w.heap.size, q, none⟩ = some (.int .u8 b)) → ∀ w3, Below w1.heap.size w1 w3 → (w3.cell? ⟨w.heap.size, q, none⟩ = some (.int .u8 b)) ∧ w3.frozen? ⟨w.heap.size, q, none⟩ = false ∧
      (convert 91 9 (.slice (some ⟨w.heap.size, 0, none⟩) s.size C)).run Tryd.prog (w3.setCell ⟨w.heap.size, q, none⟩ (.int .u8 x)) = .ok (.string (strOfNums ((bytesOf s).set q x))) (w3.setCell ⟨w.heap.size, q, none⟩ (.int .u8 x)) := fun x _ w3 hb3 =>
    ⟨(hb3.cell (p := ⟨w.heap.size, q, none⟩) hbl).trans hcell, (hb3.frozen (p := ⟨w.heap.size, q, none⟩) hbl).trans hfr,
      string_of_reads (P := Tryd.prog) (dst := 9) (c := C) Tryd.underlying91 Tryd.underlying5 Tryd.underlying9 (reads_set (hrd.below hb3) q hk x)⟩
  have KEY := Aside0.mk key
  clear key hrd
  go_enter Tryd.func88, Tryd.ntmps88
  go_wp2_with fail
  try rw [km]
  refine (deckleref01_Power.calls 16 (m : Int) (p : Int) _ HP.out).mono ?_
  rintro e w2 ⟨rfl, hb2'⟩
  have hb2 : Below w1.heap.size w1 w2 := hb2'.below
  clear hb2'
  obtain ⟨k1, k2, _⟩ := KEY.out 0 hcell w2 hb2
  go_wp2_with fail
  try rw [km]
  refine (deckleref01_Bit.calls 16 (b : Int) (m : Int) _ _ HBB.out).mono ?_
  rintro e w3 ⟨rfl, hb3'⟩
  have hb3 : Below w2.heap.size w2 w3 := hb3'.below
  clear hb3'
  have hb4 := below_then hb2 hb2.size hb3
  have HB4 := Aside0.mk (below_then HBW.out HBW.out.size hb4)
  have HB4' := Aside0.mk hb4
  clear hb2 hb3 hb4 k1 k2 hfr
  by_cases hbit : b / p % 2 = 1
  · have hx : b ^^^ p = b - p := by rw [hX, if_pos hbit]
    have hle := hL.1 hbit
    obtain ⟨k1, k2, k3⟩ := KEY.out (b - p) hcell w3 HB4'.out
    rw [hx] at HF
    have hc : ((b - p : Nat) : Int) = (b : Int) - (p : Int) := by omega
    rw [hc] at k3 HF
    have d3 : (((b / p % 2 : Nat) : Int) == 1) = true := by rw [hbit]; rfl
    clear hX hx hL hbit hc hcell
    go_wp2_with fail
    go_ret2
    exact ⟨by rw [HF.out]; rfl, (below_then HB4.out (by have := HB4.out.size; omega) (Below.refl _ _)).setCell (p := ⟨w.heap.size, q, none⟩) (Nat.le_refl _) _⟩
  · have hx : b ^^^ p = b + p := by rw [hX, if_neg hbit]
    have hle := hL.2 hbit
    obtain ⟨k1, k2, k3⟩ := KEY.out (b + p) hcell w3 HB4'.out
    rw [hx] at HF
    have hc : ((b + p : Nat) : Int) = (b : Int) + (p : Int) := by omega
    rw [hc] at k3 HF
    have d3 : (((b / p % 2 : Nat) : Int) == 1) = false := by simp only [beq_eq_false_iff_ne]; omega
    clear hX hx hL hbit hc hcell
    go_wp2_with fail
    go_ret2
    exact ⟨by rw [HF.out]; rfl, (below_then HB4.out (by have := HB4.out.size; omega) (Below.refl _ _)).setCell (p := ⟨w.heap.size, q, none⟩) (Nat.le_refl _) _⟩
def deckleref01_Flip.f (s : ByteArray) (k : Int) : Option (ByteArray × Int) := if s.size ≤ 140737488355328 ∧ k ≤ 9223372036854775807 then some (if k < 0 ∨ (s.size : Int) ≤ k / 8 then (⟨#[]⟩, 1) else (flipAt s k.toNat, 0)) else none
set_option maxHeartbeats 2000000 in
set_option maxRecDepth 100000 in
theorem deckleref01_Flip.calls (s : ByteArray) (k : Int) (r1 : ByteArray) (r2 : Int) (w : World) (h : deckleref01_Flip.f s k = some (r1, r2)) :
    Calls Tryd.prog 88 #[.string s, .int .i64 k] w fun e w' => e = .returned (.tuple #[.string r1, .int .i64 r2]) ∧ Below w.heap.size w w' := by
  unfold deckleref01_Flip.f at h
  by_cases hs : s.size ≤ 140737488355328 ∧ k ≤ 9223372036854775807
  · rw [if_pos hs] at h
    obtain ⟨hs, hk63⟩ := hs
    by_cases hk : k < 0 ∨ (s.size : Int) ≤ k / 8
    · rw [if_pos hk] at h
      simp only [Option.some.injEq, Prod.mk.injEq] at h
      obtain ⟨rfl, rfl⟩ := h
      by_cases h0 : k < 0
      · have d1 : decide (k < 0) = true := decide_eq_true h0
        clear hk
        go_enter Tryd.func88, Tryd.ntmps88
        go_wp2_with fail
        go_ret2
        exact ⟨rfl, Below.refl _ _⟩
      · have d1 : decide (k < 0) = false := decide_eq_false h0
        have h1 : (s.size : Int) ≤ k / 8 := hk.resolve_left h0
        have h2 : 0 ≤ k := by omega
        have d2 : decide ((s.size : Int) ≤ k / 8) = true := decide_eq_true h1
        clear hk
        go_enter Tryd.func88, Tryd.ntmps88
        go_wp2_with fail
        go_ret2
        exact ⟨rfl, Below.refl _ _⟩
    · rw [if_neg hk] at h
      simp only [Option.some.injEq, Prod.mk.injEq] at h
      obtain ⟨rfl, rfl⟩ := h
      obtain ⟨n, rfl⟩ : ∃ n : Nat, k = n := ⟨k.toNat, by omega⟩
      rw [Int.toNat_natCast]
      exact refFlip_yes s n w hs (by omega)
  · rw [if_neg hs] at h; cases h
end Go.Proofs.YtliiploidjnmnaaDoor.PF
end

section
/- Package bits, by hand: Flip: one bit turned. -/
set_option linter.unusedVariables false
set_option linter.unusedSimpArgs false
namespace Go.Proofs.YtliiploidjnmnaaDoor.PF
open Go.RowKit Go.Shelf Go.Proofs.YtliiploidjnmnaaDoorW.PrintWords Go.Proofs.YtliiploidjnmnaaDoor.Mem Go.Proofs.YtliiploidjnmnaaDoor.Hw

theorem reads_one (W : World) (x : Int) : ReadsInt (W.alloc (.cells #[.int .u8 x] 5)) .u8 (some ⟨W.heap.size, 0, none⟩) 1 [x] := by
  refine ⟨rfl, by omega, fun _ => ⟨_, rfl, fun j hj => ?_⟩⟩
  obtain rfl : j = 0 := by omega
  rw [add0]
  exact blk_cell (blk_new W _) 0
theorem flip_str (s : ByteArray) (q : Nat) (hq : q < s.size) (x : Int) : (s.extract 0 q ++ strOfNums [x]) ++ s.extract (q + 1) s.size = strOfNums ((bytesOf s).set q x) := by
  apply ByteArray.ext
  apply Array.ext'
  have h1 : ((s.extract 0 q ++ strOfNums [x]) ++ s.extract (q + 1) s.size).data.toList = s.data.toList.take q ++ [UInt8.ofNat x.toNat] ++ s.data.toList.drop (q + 1) := by
    simp only [ByteArray.data_append, Array.toList_append, ByteArray.data_extract, Array.toList_extract]
    simp [strOfNums, List.extract, List.take_of_length_le, data_length]
  have h2 : (strOfNums ((bytesOf s).set q x)).data.toList = s.data.toList.set q (UInt8.ofNat x.toNat) := by
    simp [strOfNums, bytesOf, List.map_set]
    rw [List.map_congr_left (g := id) (fun a _ => by simp)]
    simp
  rw [h1, h2, List.set_eq_take_append_cons_drop, if_pos (by rw [data_length]; exact hq)]
  simp
set_option maxHeartbeats 4000000 in
set_option maxRecDepth 100000 in
theorem bitsFlip_yes (s : ByteArray) (k : Nat) (w : World) (hs : s.size ≤ 140737488355328) (hlt : k / 8 < s.size) :
    Calls Tryd.prog 86 #[.string s, .int .i64 k] w fun e w' => e = .returned (.tuple #[.string (flipAt s k), .int .i64 0]) ∧ Below w.heap.size w w' := by
  have hF := flipAt_is s k
  obtain ⟨p0, p1⟩ := pow8 ⟨k % 8, by omega⟩
  have hxr := u8_xor (bn s (k / 8)) (2 ^ (k % 8)) (bn_lt _ _) (by simp only at p1; omega)
  simp only at p0 p1
  obtain ⟨p, hp⟩ : ∃ p, p = 2 ^ (k % 8) := ⟨_, rfl⟩
  have hpw0 : ((2 : Int) ^ (k % 8)) % 256 = ((p : Nat) : Int) := by
    have : ((2 : Int) ^ (k % 8)) = ((2 ^ (k % 8) : Nat) : Int) := by simp
    rw [this, ← hp]; omega
  rw [← hp] at p0 p1 hxr hF
  have hb : ∀ (i : Nat) (h : i < s.size), ((s[i]'h).toNat : Int) = (bn s i : Nat) := fun i h => by
    have h1 := bt_at s (i : Int) (by rw [Int.toNat_natCast]; exact h)
    rw [← bn_bt, ← h1]; rfl
  obtain ⟨q, hq⟩ : ∃ q, q = k / 8 := ⟨_, rfl⟩
  have hfs := flip_str s (k / 8) hlt ((bn s (k / 8) ^^^ p : Nat) : Int)
  have kx : (k : Int) / 8 = (q : Nat) := by omega
  obtain ⟨c, hc⟩ : ∃ c, c = bn s (k / 8) := ⟨_, rfl⟩
  rw [← hc] at hxr hF hfs
  rw [← hq] at hc
  have hlq : q < s.size := hq ▸ hlt
  have hb2 := hb q hlq
  rw [← hc] at hb2
  simp only [← hq] at hF hfs
  clear hlt
  obtain ⟨x, hx⟩ : ∃ x, ((c ^^^ p : Nat) : Int) = x := ⟨_, rfl⟩
  rw [hx] at hxr hF hfs
  rw [← hF] at hfs
  have HFS := Lib.hid hfs
  have hc1 := fun (W : World) => string_of_reads (P := Tryd.prog) (dst := 9) (c := 1) Tryd.underlying91 Tryd.underlying5 Tryd.underlying9 (reads_one W x)
  have hc2 := fun (W : World) => string_of_reads (P := Tryd.prog) (dst := 9) (c := 1) (w := (W.alloc (.cells #[.int .u8 x] 5)).drew) Tryd.underlying91 Tryd.underlying5 Tryd.underlying9 (ReadsInt.below (reads_one W x) ⟨rfl, rfl, rfl, Nat.le_refl _, fun _ _ => rfl⟩)
  have y1 : (strOfNums [x]).size = 1 := rfl
  have y2 : (s.extract 0 q).size = q := by rw [ByteArray.size_extract]; omega
  have y3 : (s.extract (q + 1) s.size).size = s.size - (q + 1) := by rw [ByteArray.size_extract]; omega
  have z1 : (s.extract 0 q).size + (strOfNums [x]).size ≤ 9223372036854775807 := by rw [y1, y2]; omega
  have z2 : (s.extract 0 q ++ strOfNums [x]).size + (s.extract (q + 1) s.size).size ≤ 9223372036854775807 := by rw [ByteArray.size_append, y1, y2, y3]; omega
  clear y1 y2 y3
  have d1 : decide ((k : Int) < 0) = false := decide_eq_false (by omega)
  have d2 : decide ((s.size : Int) ≤ (q : Int)) = false := decide_eq_false (by omega)
  have j0 : (0 : Int) ≤ (q : Int) := by omega
  have j1 : (q : Int) < (s.size : Int) := by omega
  have j2 : (q : Int) ≤ (s.size : Int) := by omega
  have j3 : (q : Int) + 1 ≤ (s.size : Int) := by omega
  have hk0 : (k : Int) ≤ 9223372036854775807 := by omega
  have hpw := hpw0
  clear hpw0
  clear hF hfs hx hb
  clear hc hp hq
  go_enter Tryd.func86, Tryd.ntmps86
  go_wp2_with fail
  go_region
  all_goals go_wp2_with fail
  all_goals go_ret2
  all_goals exact ⟨by rw [← HFS.out]; rfl, below_drew1 ((Below.refl _ _).alloc (Nat.le_refl _) _)⟩
def bits_Flip.f (s : ByteArray) (k : Int) : Option (ByteArray × Int) := if s.size ≤ 140737488355328 ∧ k ≤ 9223372036854775807 then some (if k < 0 ∨ (s.size : Int) ≤ k / 8 then (⟨#[]⟩, 1) else (flipAt s k.toNat, 0)) else none
set_option maxHeartbeats 2000000 in
set_option maxRecDepth 100000 in
theorem bits_Flip.calls (s : ByteArray) (k : Int) (r1 : ByteArray) (r2 : Int) (w : World) (h : bits_Flip.f s k = some (r1, r2)) :
    Calls Tryd.prog 86 #[.string s, .int .i64 k] w fun e w' => e = .returned (.tuple #[.string r1, .int .i64 r2]) ∧ Below w.heap.size w w' := by
  unfold bits_Flip.f at h
  by_cases hs : s.size ≤ 140737488355328 ∧ k ≤ 9223372036854775807
  · rw [if_pos hs] at h
    obtain ⟨hs, hk63⟩ := hs
    by_cases hk : k < 0 ∨ (s.size : Int) ≤ k / 8
    · rw [if_pos hk] at h
      simp only [Option.some.injEq, Prod.mk.injEq] at h
      obtain ⟨rfl, rfl⟩ := h
      by_cases h0 : k < 0
      · have d1 : decide (k < 0) = true := decide_eq_true h0
        clear hk
        go_enter Tryd.func86, Tryd.ntmps86
        go_wp2_with fail
        go_ret2
        exact ⟨rfl, Below.refl _ _⟩
      · have d1 : decide (k < 0) = false := decide_eq_false h0
        have h1 : (s.size : Int) ≤ k / 8 := hk.resolve_left h0
        have h2 : 0 ≤ k := by omega
        have d2 : decide ((s.size : Int) ≤ k / 8) = true := decide_eq_true h1
        clear hk
        go_enter Tryd.func86, Tryd.ntmps86
        go_wp2_with fail
        go_ret2
        exact ⟨rfl, Below.refl _ _⟩
    · rw [if_neg hk] at h
      simp only [Option.some.injEq, Prod.mk.injEq] at h
      obtain ⟨rfl, rfl⟩ := h
      obtain ⟨n, rfl⟩ : ∃ n : Nat, k = n := ⟨k.toNat, by omega⟩
      rw [Int.toNat_natCast]
      exact bitsFlip_yes s n w hs (by omega)
  · rw [if_neg hs] at h; cases h
end Go.Proofs.YtliiploidjnmnaaDoor.PF
end

section
/- Strings byte by byte: when two are the same; parts, sums and turned bits of them. -/
set_option linter.unusedVariables false
set_option linter.unusedSimpArgs false
namespace Go.Proofs.YtliiploidjnmnaaDoor.PF
open Go.RowKit Go.Proofs.YtliiploidjnmnaaDoor.Hw Go.Proofs.YtliiploidjnmnaaDoorW.PrintWords Go.Proofs.YtliiploidjnmnaaDoorW.PrintLast

theorem bn_at (s : ByteArray) (i : Nat) (h : i < s.size) : bn s i = (s[i]'h).toNat := by
  unfold bn bt
  rw [dif_pos (by simpa using h)]
  simp
theorem bn_out (s : ByteArray) (i : Nat) (h : s.size ≤ i) : bn s i = 0 := by
  unfold bn bt
  rw [dif_neg (by simp; omega)]
  rfl
theorem bext {s t : ByteArray} (h : s.size = t.size) (hb : ∀ i, i < s.size → bn s i = bn t i) : s = t := by
  apply ByteArray.ext
  apply Array.ext h
  intro i h1 h2
  have e := hb i h1
  rw [bn_at s i h1, bn_at t i h2] at e
  exact UInt8.toNat_inj.1 e
theorem bn_extract (s : ByteArray) (a b i : Nat) (h : i < b - a) (hb : b ≤ s.size) : bn (s.extract a b) i = bn s (a + i) := by
  rw [bn_at _ i (by rw [ByteArray.size_extract]; omega), bn_at s (a + i) (by omega)]
  rw [ByteArray.getElem_extract]
theorem size_extract' (s : ByteArray) (a b : Nat) (hb : b ≤ s.size) : (s.extract a b).size = b - a := by rw [ByteArray.size_extract]; omega
theorem bn_append (s t : ByteArray) (i : Nat) : bn (s ++ t) i = if i < s.size then bn s i else bn t (i - s.size) := by
  by_cases h : i < s.size
  · rw [if_pos h, bn_at _ i (by rw [ByteArray.size_append]; omega), bn_at s i h, ByteArray.getElem_append_left h]
  · rw [if_neg h]
    by_cases h2 : i < s.size + t.size
    · rw [bn_at _ i (by rw [ByteArray.size_append]; omega), bn_at t _ (by omega), ByteArray.getElem_append_right (by omega)]
    · rw [bn_out _ i (by rw [ByteArray.size_append]; omega), bn_out t _ (by omega)]
theorem son_size (xs : List Int) : (strOfNums xs).size = xs.length := by simp [strOfNums, ByteArray.size]
theorem bn_son (xs : List Int) (i : Nat) : bn (strOfNums xs) i = (xs.getD i 0).toNat % 256 := by
  by_cases h : i < xs.length
  · rw [bn_at _ i (by rw [son_size]; exact h)]
    simp [strOfNums, ByteArray.getElem_eq_getElem_data, List.getD_eq_getElem?_getD, h]
  · rw [bn_out _ i (by rw [son_size]; omega)]
    rw [List.getD_eq_getElem?_getD, List.getElem?_eq_none (by omega)]
    rfl
theorem bytesOf_getD (s : ByteArray) (i : Nat) : (bytesOf s).getD i 0 = ((bn s i : Nat) : Int) := by
  by_cases h : i < s.size
  · rw [bn_at s i h]
    have h' : i < s.data.size := h
    simp [bytesOf, List.getD_eq_getElem?_getD, h', ByteArray.getElem_eq_getElem_data]
    rw [Array.getElem?_eq_getElem h']
    rfl
  · rw [bn_out s i (by omega)]
    have h' : ¬ i < s.data.size := h
    rw [List.getD_eq_getElem?_getD, List.getElem?_eq_none (by simp [bytesOf]; omega)]
    rfl
theorem flipAt_size (s : ByteArray) (k : Nat) : (flipAt s k).size = s.size := by
  unfold flipAt
  rw [son_size, List.length_set, bytesOf_length]
theorem xor_lt8 : ∀ (m : Fin 8) (b : Fin 256), b.val ^^^ 2 ^ m.val < 256 := by decide +kernel
theorem bn_flipAt (s : ByteArray) (k i : Nat) (h : k / 8 < s.size) : bn (flipAt s k) i = if i = k / 8 then bn s i ^^^ 2 ^ (k % 8) else bn s i := by
  rw [flipAt_is, bn_son, List.getD_eq_getElem?_getD, List.getElem?_set]
  have hx := xor_lt8 ⟨k % 8, by omega⟩ ⟨bn s (k / 8), bn_lt s _⟩
  simp only at hx
  by_cases hi : i = k / 8
  · subst hi
    rw [if_pos rfl, if_pos rfl, bytesOf_length, if_pos h]
    simp only [Option.getD_some, Int.toNat_natCast]
    omega
  · rw [if_neg (fun x => hi x.symm), if_neg hi, ← List.getD_eq_getElem?_getD, bytesOf_getD]
    have := bn_lt s i
    simp only [Int.toNat_natCast]
    omega
end Go.Proofs.YtliiploidjnmnaaDoor.PF
end

section
/- ham, there and back: eight bytes that are encoded are decoded, as good. -/
set_option linter.unusedVariables false
set_option linter.unusedSimpArgs false
namespace Go.Proofs.YtliiploidjnmnaaDoor.PF
open Go.RowKit Go.Proofs.YtliiploidjnmnaaDoor.Hw Go.Proofs.YtliiploidjnmnaaDoorW.PrintWords Go.Proofs.YtliiploidjnmnaaDoorW.PrintLast

/-- The check of eight bytes. -/
def chkB (s : ByteArray) : Nat := if (hamN s 8 + Lib.onesCount (hamP s 8)) % 2 = 1 then hamP s 8 + 128 else hamP s 8
theorem p_facts : ∀ p : Fin 128, Go.bits .or .u8 (p.val : Int) 128 = ((p.val + 128 : Nat) : Int) ∧ Go.bits .and .u8 ((p.val + 128 : Nat) : Int) 127 = (p.val : Int) ∧ Go.bits .and .u8 (p.val : Int) 127 = (p.val : Int) ∧ Go.bits .xor .u8 (p.val : Int) (p.val : Int) = 0 ∧ Lib.onesCount (p.val + 128) = Lib.onesCount p.val + 1 ∧ Lib.onesCount p.val ≤ 7 := by decide +kernel
theorem wrap_sum (M Q : Nat) (h : M + Q < 1000) : Int.tmod (wrap64 ((M : Int) + ((Q : Nat) : Int))) 2 = (((M + Q) % 2 : Nat) : Int) := by
  have w : wrap64 ((M : Int) + ((Q : Nat) : Int)) = ((M + Q : Nat) : Int) := by unfold wrap64; omega
  rw [w, Int.tmod_eq_emod_of_nonneg (by omega)]
  omega
theorem one_size (x : Int) : (strOfNums [x]).size = 1 := by simp [strOfNums, ByteArray.size]
theorem left_is (s : ByteArray) (hs : s.size = 8) : ham_left.f s = some (((hamP s 8 : Nat) : Int), ((hamN s 8 : Nat) : Int)) := by
  unfold ham_left.f
  rw [if_pos (by omega), if_pos (by omega)]
theorem ones_is (P : Nat) (h : P < 256) : bits_OnesCount8.f ((P : Nat) : Int) = some ((Lib.onesCount P : Nat) : Int) := by
  unfold bits_OnesCount8.f
  rw [if_pos (by omega), Int.toNat_natCast]
theorem ham_enc' (s : ByteArray) (hs : s.size = 8) (x : Int × Int) (P M Q : Nat) (h1 : x.1 = (P : Int)) (h2 : x.2 = (M : Int)) (hP : P < 128) (hM : M ≤ 64) (hQ : Q ≤ 7) (hl : ham_left.f s = some x) (ho : bits_OnesCount8.f (P : Int) = some (Q : Int)) (f1 : Go.bits .or .u8 (P : Int) 128 = ((P + 128 : Nat) : Int)) :
    ham_Encode.f s = some (s ++ strOfNums [(((if (M + Q) % 2 = 1 then P + 128 else P : Nat)) : Int)], 0) := by
  have hfin : s.size + 1 ≤ 9223372036854775807 := by omega
  unfold ham_Encode.f
  rw [if_pos (by omega), hl, Option.bind_some, h1, h2, ho, Option.bind_some, wrap_sum M Q (by omega)]
  by_cases ho : (M + Q) % 2 = 1
  · rw [if_pos ho, ho, if_pos (by rfl), f1, Option.bind_some, one_size, if_pos hfin]
  · rw [if_neg ho, if_neg (by omega), Option.bind_some, one_size, if_pos hfin]
theorem ham_enc (s : ByteArray) (hs : s.size = 8) : ham_Encode.f s = some (s ++ strOfNums [((chkB s : Nat) : Int)], 0) := by
  have hp := hamP_lt s 8 (Nat.le_refl _)
  obtain ⟨f1, f2, f3, f4, f5, f6⟩ := p_facts ⟨hamP s 8, hp⟩
  have hN := hamN_le s 8
  exact ham_enc' s hs _ (hamP s 8) (hamN s 8) (Lib.onesCount (hamP s 8)) rfl rfl hp hN f6 (left_is s hs) (ones_is _ (by omega)) f1
end Go.Proofs.YtliiploidjnmnaaDoor.PF
end

section
/- ham: what nine bytes are: by what is left of their places and how many bits are 1; a bit turned. -/
set_option linter.unusedVariables false
set_option linter.unusedSimpArgs false
namespace Go.Proofs.YtliiploidjnmnaaDoor.PF
open Go.RowKit Go.Proofs.YtliiploidjnmnaaDoor.Hw Go.Proofs.YtliiploidjnmnaaDoorW.PrintWords Go.Proofs.YtliiploidjnmnaaDoorW.PrintLast

/-- What is left of the places of nine bytes; whether so many bits are odd. -/
def syn (c : ByteArray) : Nat := hamP c 8 ^^^ (bn c 8 % 128)
def par (c : ByteArray) : Nat := (hamN c 8 + popB (bn c 8)) % 2
def pl9 (j : Nat) : Nat := if j < 64 then plc j else if j < 71 then 2 ^ (j - 64) else 0
def unturn (d : ByteArray) (p : Nat) : ByteArray := match plcIdx ((p : Nat) : Int) with | none => d | some k => flipAt d k
theorem ones_pop : ∀ c : Fin 256, Lib.onesCount c.val = popB c.val := by decide +kernel
theorem xorB_turn : ∀ (i : Fin 8) (m : Fin 8) (c : Fin 256), xorB i.val (c.val ^^^ 2 ^ m.val) = xorB i.val c.val ^^^ plc (8 * i.val + m.val) := by decide +kernel
theorem popB_turn : ∀ (m : Fin 8) (c : Fin 256), popB (c.val ^^^ 2 ^ m.val) % 2 = (popB c.val + 1) % 2 := by decide +kernel
theorem low_turn : ∀ (m : Fin 8) (c : Fin 256), (c.val ^^^ 2 ^ m.val) % 128 = (c.val % 128) ^^^ (if m.val < 7 then 2 ^ m.val else 0) := by decide +kernel
theorem and_127 : ∀ c : Fin 256, Go.bits .and .u8 (c.val : Int) 127 = ((c.val % 128 : Nat) : Int) := by decide +kernel
theorem hamP_congr {s t : ByteArray} : ∀ n, (∀ i, i < n → bn s i = bn t i) → hamP s n = hamP t n
  | 0, _ => rfl
  | n + 1, h => by
    show hamP s n ^^^ xorB n (bn s n) = hamP t n ^^^ xorB n (bn t n)
    rw [hamP_congr n (fun i hi => h i (by omega)), h n (by omega)]
theorem hamN_congr {s t : ByteArray} : ∀ n, (∀ i, i < n → bn s i = bn t i) → hamN s n = hamN t n
  | 0, _ => rfl
  | n + 1, h => by
    show hamN s n + popB (bn s n) = hamN t n + popB (bn t n)
    rw [hamN_congr n (fun i hi => h i (by omega)), h n (by omega)]
theorem hamP_turn {s t : ByteArray} (q m : Nat) (hm : m < 8) (hq : bn t q = bn s q ^^^ 2 ^ m) (ho : ∀ i, i ≠ q → bn t i = bn s i) :
    ∀ n, n ≤ 8 → q < n → hamP t n = hamP s n ^^^ plc (8 * q + m)
  | 0, _, h => by omega
  | n + 1, h8, h => by
    show hamP t n ^^^ xorB n (bn t n) = (hamP s n ^^^ xorB n (bn s n)) ^^^ plc (8 * q + m)
    by_cases e : q = n
    · subst e
      have x := xorB_turn ⟨q, by omega⟩ ⟨m, hm⟩ ⟨bn s q, bn_lt s q⟩
      simp only at x
      rw [hq, x, hamP_congr (t := s) q (fun i hi => ho i (by omega)), Nat.xor_assoc]
    · rw [hamP_turn q m hm hq ho n (by omega) (by omega), ho n (by omega), Nat.xor_assoc, Nat.xor_assoc, Nat.xor_comm (plc (8 * q + m))]
theorem hamN_turn {s t : ByteArray} (q m : Nat) (hm : m < 8) (hq : bn t q = bn s q ^^^ 2 ^ m) (ho : ∀ i, i ≠ q → bn t i = bn s i) :
    ∀ n, q < n → hamN t n % 2 = (hamN s n + 1) % 2
  | 0, h => by omega
  | n + 1, h => by
    show (hamN t n + popB (bn t n)) % 2 = (hamN s n + popB (bn s n) + 1) % 2
    by_cases e : q = n
    · subst e
      have x := popB_turn ⟨m, hm⟩ ⟨bn s q, bn_lt s q⟩
      simp only at x
      rw [hamN_congr (t := s) q (fun i hi => ho i (by omega)), hq]
      omega
    · have := hamN_turn q m hm hq ho n (by omega)
      rw [ho n (by omega)]
      omega
/-- A bit turned of nine bytes. -/
theorem syn_turn (c : ByteArray) (hc : c.size = 9) (j : Nat) (hj : j < 72) : syn (flipAt c j) = syn c ^^^ pl9 j := by
  have hb : ∀ i, bn (flipAt c j) i = if i = j / 8 then bn c i ^^^ 2 ^ (j % 8) else bn c i := fun i => bn_flipAt c j i (by omega)
  have hq : bn (flipAt c j) (j / 8) = bn c (j / 8) ^^^ 2 ^ (j % 8) := by rw [hb, if_pos rfl]
  have ho : ∀ i, i ≠ j / 8 → bn (flipAt c j) i = bn c i := fun i hi => by rw [hb, if_neg hi]
  unfold syn pl9
  by_cases h64 : j < 64
  · rw [if_pos h64, ho 8 (by omega), hamP_turn (j / 8) (j % 8) (by omega) hq ho 8 (by omega) (by omega), show 8 * (j / 8) + j % 8 = j by omega, Nat.xor_assoc, Nat.xor_assoc, Nat.xor_comm (plc j)]
  · rw [if_neg h64, hamP_congr (t := c) 8 (fun i hi => ho i (by omega)), show j / 8 = 8 by omega] at *
    have x := low_turn ⟨j % 8, by omega⟩ ⟨bn c 8, bn_lt c 8⟩
    simp only at x
    rw [hq, x, Nat.xor_assoc, show j - 64 = j % 8 by omega]
    by_cases h7 : j % 8 < 7
    · rw [if_pos h7, if_pos (by omega)]
    · rw [if_neg h7, if_neg (by omega)]
theorem par_turn (c : ByteArray) (hc : c.size = 9) (j : Nat) (hj : j < 72) : par (flipAt c j) = 1 - par c := by
  have hb : ∀ i, bn (flipAt c j) i = if i = j / 8 then bn c i ^^^ 2 ^ (j % 8) else bn c i := fun i => bn_flipAt c j i (by omega)
  have hq : bn (flipAt c j) (j / 8) = bn c (j / 8) ^^^ 2 ^ (j % 8) := by rw [hb, if_pos rfl]
  have ho : ∀ i, i ≠ j / 8 → bn (flipAt c j) i = bn c i := fun i hi => by rw [hb, if_neg hi]
  unfold par
  have x := hamN_turn (j / 8) (j % 8) (by omega) hq ho 9 (by omega)
  have e1 : hamN (flipAt c j) 9 = hamN (flipAt c j) 8 + popB (bn (flipAt c j) 8) := rfl
  have e2 : hamN c 9 = hamN c 8 + popB (bn c 8) := rfl
  rw [e1, e2] at x
  omega
theorem syn_lt (c : ByteArray) : syn c < 128 := Nat.xor_lt_two_pow (n := 7) (hamP_lt c 8 (Nat.le_refl _)) (Nat.mod_lt _ (by decide))
theorem xor_u8 (a b : Nat) (ha : a < 128) (hb : b < 128) : Go.bits .xor .u8 ((a : Nat) : Int) ((b : Nat) : Int) = ((a ^^^ b : Nat) : Int) := u8_xor a b (by omega) (by omega)
theorem j0_is (k : Nat) (d : ByteArray) (y : Int) (b g : Bool) : ham_Decode.j0 (k + 1) d y b g = if g = true then (some (d, 2, 0)) else (if b = true then (if y > 71 then (some ((⟨#[]⟩ : ByteArray), 4, 0)) else ((ham_turned.f d y).bind fun t125 => (some (t125, 3, 0)))) else (some ((⟨#[]⟩ : ByteArray), 4, 0))) := rfl
theorem ham_dec' (c : ByteArray) (hc : c.size = 9) (k : Nat) (x : Int × Int) (P M Q L Y : Nat) (h1 : x.1 = (P : Int)) (h2 : x.2 = (M : Int)) (hM : M ≤ 64) (hQ : Q ≤ 8) (hY : Y < 128)
    (hl : ham_left.f (c.extract 0 8) = some x) (ho : bits_OnesCount8.f (bt c 8) = some (Q : Int)) (ha : Go.bits .and .u8 (bt c 8) 127 = (L : Int)) (hx : Go.bits .xor .u8 (P : Int) (L : Int) = (Y : Int)) (ht : ham_turned.f (c.extract 0 8) (Y : Int) = some (unturn (c.extract 0 8) Y)) :
    ham_Decode.f (k + 1) c = some (if (M + Q) % 2 = 0 then (if Y = 0 then (c.extract 0 8, 2, 0) else (⟨#[]⟩, 4, 0)) else if 71 < Y then (⟨#[]⟩, 4, 0) else (unturn (c.extract 0 8) Y, 3, 0)) := by
  unfold ham_Decode.f
  rw [if_pos (by omega), if_pos (by omega), if_pos (by omega), hl, Option.bind_some, if_pos (by omega), ho, Option.bind_some, h1, h2, wrap_sum M Q (by omega), ha, hx]
  by_cases e : (M + Q) % 2 = 1
  · rw [e, if_pos (by rfl), j0_is, if_neg (by decide : ¬ (false = true)), if_pos (by rfl), if_neg (by decide : ¬ (1 : Nat) = 0)]
    by_cases h71 : 71 < Y
    · rw [if_pos (by omega), if_pos h71]
    · rw [if_neg (by omega), if_neg h71, ht, Option.bind_some]
  · have e0 : (M + Q) % 2 = 0 := by omega
    rw [e0, if_neg (by decide), j0_is, if_pos rfl]
    by_cases hy : Y = 0
    · rw [if_pos hy, hy, if_pos (by rfl)]
    · rw [if_neg hy, if_neg (by simp; omega), if_neg (by decide)]
/-- What nine bytes are. -/
theorem ham_dec (c : ByteArray) (hc : c.size = 9) (k : Nat) : ham_Decode.f (k + 1) c = some (if par c = 0 then (if syn c = 0 then (c.extract 0 8, 2, 0) else (⟨#[]⟩, 4, 0)) else if 71 < syn c then (⟨#[]⟩, 4, 0) else (unturn (c.extract 0 8) (syn c), 3, 0)) := by
  have hd : (c.extract 0 8).size = 8 := size_extract' c 0 8 (by omega)
  have h8 : bt c 8 = ((bn c 8 : Nat) : Int) := bn_bt c 8
  have eP : hamP (c.extract 0 8) 8 = hamP c 8 := hamP_congr 8 (fun i hi => by rw [bn_extract c 0 8 i (by omega) (by omega), Nat.zero_add])
  have eN : hamN (c.extract 0 8) 8 = hamN c 8 := hamN_congr 8 (fun i hi => by rw [bn_extract c 0 8 i (by omega) (by omega), Nat.zero_add])
  have ha := and_127 ⟨bn c 8, bn_lt c 8⟩
  have ho := ones_pop ⟨bn c 8, bn_lt c 8⟩
  have hl := hamP_lt c 8 (Nat.le_refl _)
  have hN := hamN_le c 8
  have hp8 := popB_le ⟨bn c 8, bn_lt c 8⟩
  have hcl := bn_lt c 8
  simp only at ha ho hp8
  have hx : Go.bits .xor .u8 ((hamP c 8 : Nat) : Int) ((bn c 8 % 128 : Nat) : Int) = ((syn c : Nat) : Int) := xor_u8 _ _ hl (Nat.mod_lt _ (by decide))
  have hs := syn_lt c
  have ht : ham_turned.f (c.extract 0 8) (syn c : Nat) = some (unturn (c.extract 0 8) (syn c)) := by
    unfold ham_turned.f unturn
    rw [if_pos ⟨hd, by omega⟩]
    rfl
  have hL := left_is (c.extract 0 8) hd
  rw [eP, eN] at hL
  have hO := ones_is (bn c 8) hcl
  rw [ho, ← h8] at hO
  rw [← h8] at ha
  exact ham_dec' c hc k _ (hamP c 8) (hamN c 8) (popB (bn c 8)) (bn c 8 % 128) (syn c) rfl rfl hN hp8 hs hL hO ha hx ht
/-- The words of the code: nothing is left, an even number of bits. -/
structure IsCode (c : ByteArray) : Prop where
  size : c.size = 9
  syn0 : syn c = 0
  par0 : par c = 0
theorem IsCode.good {c : ByteArray} (h : IsCode c) (k : Nat) : ham_Decode.f (k + 1) c = some (c.extract 0 8, 2, 0) := by
  rw [ham_dec c h.size, h.syn0, h.par0]; rfl
theorem pl9_facts : ∀ j : Fin 72, pl9 j.val ≤ 71 ∧ (j.val < 64 → plcIdx ((pl9 j.val : Nat) : Int) = some j.val) ∧ (64 ≤ j.val → plcIdx ((pl9 j.val : Nat) : Int) = none) := by decide +kernel
theorem pl9_ne : ∀ (i j : Fin 72), i ≠ j → pl9 i.val ≠ pl9 j.val := by decide +kernel
theorem IsCode.one {c : ByteArray} (h : IsCode c) (j : Nat) (hj : j < 72) (k : Nat) : ham_Decode.f (k + 1) (flipAt c j) = some (c.extract 0 8, 3, 0) := by
  obtain ⟨h1, h2, h3⟩ := pl9_facts ⟨j, hj⟩
  simp only at h1 h2 h3
  have hz : (flipAt c j).size = 9 := by rw [flipAt_size, h.size]
  rw [ham_dec _ hz, par_turn c h.size j hj, syn_turn c h.size j hj, h.syn0, h.par0, Nat.zero_xor, if_neg (by decide), if_neg (by omega)]
  congr 2
  unfold unturn
  have hcs := h.size
  have hd : ((flipAt c j).extract 0 8).size = 8 := size_extract' _ 0 8 (by omega)
  by_cases h64 : j < 64
  · rw [h2 h64]
    show flipAt ((flipAt c j).extract 0 8) j = _
    apply bext
    · rw [flipAt_size, hd, size_extract' _ 0 8 (by omega)]
    · intro i hi
      rw [flipAt_size, hd] at hi
      rw [bn_flipAt _ _ _ (by rw [hd]; omega), bn_extract _ 0 8 i (by omega) (by omega), bn_extract c 0 8 i (by omega) (by omega), Nat.zero_add, bn_flipAt _ _ _ (by omega)]
      by_cases hi2 : i = j / 8
      · rw [if_pos hi2, if_pos hi2, Nat.xor_assoc, Nat.xor_self, Nat.xor_zero]
      · rw [if_neg hi2, if_neg hi2]
  · rw [h3 (by omega)]
    show (flipAt c j).extract 0 8 = _
    apply bext
    · rw [hd, size_extract' _ 0 8 (by omega)]
    · intro i hi
      rw [hd] at hi
      rw [bn_extract _ 0 8 i (by omega) (by omega), bn_extract c 0 8 i (by omega) (by omega), Nat.zero_add, bn_flipAt _ _ _ (by omega), if_neg (by omega)]
theorem xor_0 {a b : Nat} (h : a ^^^ b = 0) : a = b := by
  have := congrArg (· ^^^ b) h
  simpa [Nat.xor_assoc] using this
theorem IsCode.two {c : ByteArray} (h : IsCode c) (i j : Nat) (hi : i < 72) (hj : j < 72) (hij : i ≠ j) (k : Nat) : ham_Decode.f (k + 1) (flipAt (flipAt c i) j) = some (⟨#[]⟩, 4, 0) := by
  have hz : (flipAt c i).size = 9 := by rw [flipAt_size, h.size]
  have hz2 : (flipAt (flipAt c i) j).size = 9 := by rw [flipAt_size, hz]
  have hne := pl9_ne ⟨i, hi⟩ ⟨j, hj⟩ (by simpa using hij)
  simp only at hne
  rw [ham_dec _ hz2, par_turn _ hz j hj, par_turn c h.size i hi, h.par0, if_pos (by decide), syn_turn _ hz j hj, syn_turn c h.size i hi, h.syn0, Nat.zero_xor, if_neg (fun e => hne (xor_0 e))]
theorem pop_low : ∀ p : Fin 128, popB (p.val + 128) = popB p.val + 1 := by decide +kernel
theorem enc_code (s : ByteArray) (hs : s.size = 8) : IsCode (s ++ strOfNums [((chkB s : Nat) : Int)]) := by
  have hz : (s ++ strOfNums [((chkB s : Nat) : Int)]).size = 9 := by rw [ByteArray.size_append, son_size, hs]; rfl
  have hl := hamP_lt s 8 (Nat.le_refl _)
  have hc : chkB s < 256 := by unfold chkB; split <;> omega
  have h8 : bn (s ++ strOfNums [((chkB s : Nat) : Int)]) 8 = chkB s := by
    rw [bn_append, if_neg (by omega), bn_son, hs]
    simp
    omega
  have hlow : ∀ i, i < 8 → bn (s ++ strOfNums [((chkB s : Nat) : Int)]) i = bn s i := fun i hi => by rw [bn_append, if_pos (by omega)]
  have hop := ones_pop ⟨hamP s 8, by omega⟩
  have hpl := pop_low ⟨hamP s 8, hl⟩
  simp only at hop hpl
  refine ⟨hz, ?_, ?_⟩
  · unfold syn
    rw [h8, hamP_congr 8 hlow]
    have : chkB s % 128 = hamP s 8 := by unfold chkB; split <;> omega
    rw [this, Nat.xor_self]
  · unfold par
    rw [h8, hamN_congr 8 hlow]
    unfold chkB
    rw [hop]
    split
    · rw [hpl]; omega
    · omega
theorem enc_extract (s : ByteArray) (hs : s.size = 8) (x : ByteArray) : (s ++ x).extract 0 8 = s := by
  apply bext
  · rw [size_extract' _ 0 8 (by rw [ByteArray.size_append]; omega), hs]
  · intro i hi
    rw [size_extract' _ 0 8 (by rw [ByteArray.size_append]; omega)] at hi
    rw [bn_extract _ 0 8 i (by omega) (by rw [ByteArray.size_append]; omega), Nat.zero_add, bn_append, if_pos (by omega)]
end Go.Proofs.YtliiploidjnmnaaDoor.PF
end

section
-- Written by a program (the kit's print.py, called by wip/bin/prseat.sh, mended by wip/bin/mend.py).
namespace Go.Proofs.YtliiploidjnmnaaDoor.PF
open Go.RowKit Go.Proofs.YtliiploidjnmnaaDoorW.PrintWords Go.Proofs.YtliiploidjnmnaaDoorW.PrintLast Go.Proofs.YtliiploidjnmnaaDoorW.PrintMore
attribute [local go_sem] max2_int min2_int max_two min_two max_three min_three max_four min_four   -- for this text's walks alone
set_option linter.unusedVariables false
set_option linter.unusedSimpArgs false

/-! ### frame_Hurt: function 62 -/
def frame_Hurt.f (a0 : ByteArray) (a1 : Int) (a2 : Int) : Option (ByteArray) := if (a0.size : Int) < 9 then (some a0) else ((frame_rest.f a1 72).bind fun t144 => ((frame_rest.f a2 71).bind fun t145 => ((bits_Flip.f a0 t144).bind fun bt146 => ((bits_Flip.f bt146.1 (Int.tmod (wrap64 ((wrap64 (t144 + 1)) + t145)) 72)).bind fun bt148 => (some bt148.1)))))
set_option maxHeartbeats 8000000 in
set_option maxRecDepth 100000 in
theorem frame_Hurt.calls (a0 : ByteArray) (a1 : Int) (a2 : Int) (r : ByteArray) (w : World) (h : frame_Hurt.f a0 a1 a2 = some r) :
    Calls Tryd.prog 62 #[.string a0, .int .i64 a1, .int .i64 a2] w fun e w' => e = .returned (.string r) ∧ Below w.heap.size w w' := by
  have HB := Aside0.mk (Below.refl w.heap.size w)
  have H : (if (a0.size : Int) < 9 then (some a0) else ((frame_rest.f a1 72).bind fun t144 => ((frame_rest.f a2 71).bind fun t145 => ((bits_Flip.f a0 t144).bind fun bt146 => ((bits_Flip.f bt146.1 (Int.tmod (wrap64 ((wrap64 (t144 + 1)) + t145)) 72)).bind fun bt148 => (some bt148.1)))))) = some r := h
  clear h
  by_cases c4 : (a0.size : Int) < 9
  · rw [if_pos c4] at H
    have c4b0 : decide ((a0.size : Int) < 9) = true := decide_eq_true c4
    have c4b1 : decide (a0.size < 9) = true := decide_eq_true (by omega)
    clear c4
    obtain rfl := Option.some.inj H
    go_enter Tryd.func62, Tryd.ntmps62
    go_wp2
    go_ret
    exact ⟨by first | rfl | (simp [errW_none, errW_some] <;> rfl) | (simp [*, errW_none, errW_some] <;> rfl), by repeat (first | (with_reducible first | exact HB.out | apply below_alloc | apply pw_below_drewN | apply below_drew1) | exact HB.out)⟩
  · rw [if_neg c4] at H
    have c4b0 : decide ((a0.size : Int) < 9) = false := decide_eq_false c4
    have c4b1 : decide (a0.size < 9) = false := decide_eq_false (by omega)
    clear c4
    replace H := Option.bind_eq_some_iff.mp H
    obtain ⟨t144, A50, H⟩ := H
    replace H : ((frame_rest.f a2 71).bind fun t145 => ((bits_Flip.f a0 t144).bind fun bt146 => ((bits_Flip.f bt146.1 (Int.tmod (wrap64 ((wrap64 (t144 + 1)) + t145)) 72)).bind fun bt148 => (some bt148.1)))) = some r := H
    have A5 := Aside0.mk A50
    clear A50
    replace H := Option.bind_eq_some_iff.mp H
    obtain ⟨t145, A60, H⟩ := H
    replace H : ((bits_Flip.f a0 t144).bind fun bt146 => ((bits_Flip.f bt146.1 (Int.tmod (wrap64 ((wrap64 (t144 + 1)) + t145)) 72)).bind fun bt148 => (some bt148.1))) = some r := H
    have A6 := Aside0.mk A60
    clear A60
    replace H := Option.bind_eq_some_iff.mp H
    obtain ⟨⟨t146, t147⟩, A70, H⟩ := H
    replace H : ((bits_Flip.f t146 (Int.tmod (wrap64 ((wrap64 (t144 + 1)) + t145)) 72)).bind fun bt148 => (some bt148.1)) = some r := H
    have A7 := Aside0.mk A70
    clear A70
    replace H := Option.bind_eq_some_iff.mp H
    obtain ⟨⟨t148, t149⟩, A80, H⟩ := H
    replace H : (some t148) = some r := H
    have A8 := Aside0.mk A80
    clear A80
    obtain rfl := Option.some.inj H
    go_enter Tryd.func62, Tryd.ntmps62
    go_wp2_with (first | ((with_reducible refine gate_callee (f := 85) rfl ?_); refine goesL_ (some 14) rfl rfl Tryd.func85 (by kernel_rfl) rfl #[.int .i64 a1, .int .i64 72] rfl (by (try simp only [List.map_toArray, List.map_cons, List.map_nil]); first | done | rfl | (simp only [List.length_drop, List.length_take]; rfl)) ?_; (with_reducible refine (frame_rest.calls a1 72 t144 _ A5.out).mono ?_); rintro e w' ⟨rfl, ⟨nd, rfl⟩⟩; refine ⟨_, rfl, ?_⟩) | ((with_reducible refine gate_callee (f := 85) rfl ?_); refine goesL_ (some 18) rfl rfl Tryd.func85 (by kernel_rfl) rfl #[.int .i64 a2, .int .i64 71] rfl (by (try simp only [List.map_toArray, List.map_cons, List.map_nil]); first | done | rfl | (simp only [List.length_drop, List.length_take]; rfl)) ?_; (with_reducible refine (frame_rest.calls a2 71 t145 _ A6.out).mono ?_); rintro e w' ⟨rfl, ⟨nd, rfl⟩⟩; refine ⟨_, rfl, ?_⟩) | ((with_reducible refine gate_callee (f := 86) rfl ?_); refine goesL_ (some 24) rfl rfl Tryd.func86 (by kernel_rfl) rfl #[.string a0, .int .i64 t144] rfl (by (try simp only [List.map_toArray, List.map_cons, List.map_nil]); first | done | rfl | (simp only [List.length_drop, List.length_take]; rfl)) ?_; (with_reducible refine (bits_Flip.calls a0 t144 t146 t147 _ A7.out).mono ?_); rintro e w9 ⟨rfl, hb⟩; refine ⟨_, rfl, ?_⟩; have n0_ := Aside0.mk (below_step (by repeat (first | (with_reducible first | exact HB.out | apply below_alloc | apply pw_below_drewN | apply below_drew1) | exact HB.out)) hb); clear HB; have HB := n0_; clear n0_; (try clear hb); (try clear hb2); (try clear hk); (try clear hi)) | ((with_reducible refine gate_callee (f := 86) rfl ?_); refine goesL_ (some 30) rfl rfl Tryd.func86 (by kernel_rfl) rfl #[.string t146, .int .i64 (Int.tmod (wrap64 ((wrap64 (t144 + 1)) + t145)) 72)] rfl (by (try simp only [List.map_toArray, List.map_cons, List.map_nil]); first | done | rfl | (simp only [List.length_drop, List.length_take]; rfl)) ?_; (with_reducible refine (bits_Flip.calls t146 (Int.tmod (wrap64 ((wrap64 (t144 + 1)) + t145)) 72) t148 t149 _ A8.out).mono ?_); rintro e w10 ⟨rfl, hb⟩; refine ⟨_, rfl, ?_⟩; have n0_ := Aside0.mk (below_step (by repeat (first | (with_reducible first | exact HB.out | apply below_alloc | apply pw_below_drewN | apply below_drew1) | exact HB.out)) hb); clear HB; have HB := n0_; clear n0_; (try clear hb); (try clear hb2); (try clear hk); (try clear hi)))
    go_ret
    exact ⟨by first | rfl | (simp [errW_none, errW_some] <;> rfl) | (simp [*, errW_none, errW_some] <;> rfl), by repeat (first | (with_reducible first | exact HB.out | apply below_alloc | apply pw_below_drewN | apply below_drew1) | exact HB.out)⟩

end Go.Proofs.YtliiploidjnmnaaDoor.PF
end

section
/- frame.Hurt in plain words, for strings of any size that may be. -/
set_option linter.unusedVariables false
set_option linter.unusedSimpArgs false
namespace Go.Proofs.YtliiploidjnmnaaDoor.PF
open Go.RowKit Go.Proofs.YtliiploidjnmnaaDoor.Hw Go.Proofs.YtliiploidjnmnaaDoorW.PrintWords Go.Proofs.YtliiploidjnmnaaDoorW.PrintLast

theorem hw64 (x : Int) (h : -9223372036854775808 ≤ x ∧ x ≤ 9223372036854775807) : wrap64 x = x := by unfold wrap64; omega
theorem htmod_pos (a b : Int) (h : 0 < b) : Int.tmod a b = if Int.tmod a b < 0 then a % b - b else a % b := by
  have h0 := Int.emod_nonneg a (by omega : b ≠ 0)
  have hl := Int.emod_lt_of_pos a h
  have hn : (b.natAbs : Int) = b := by omega
  have h1 := Int.tmod_eq_emod (a := a) (b := b)
  by_cases hc : 0 ≤ a ∨ b ∣ a
  · rw [if_pos hc] at h1
    rw [if_neg (by omega)]
    omega
  · rw [if_neg hc] at h1
    rw [if_pos (by omega)]
    omega
theorem hrest_is (a b : Int) (hb : 0 < b) (hb2 : b ≤ 1000) : frame_rest.f a b = some (a % b) := by
  unfold frame_rest.f
  rw [if_neg (by omega)]
  have h0 := Int.emod_nonneg a (by omega : b ≠ 0)
  have h1 := Int.emod_lt_of_pos a hb
  have ht := htmod_pos a b hb
  congr 1
  split at ht
  · rw [ht, hw64 _ (by omega), show a % b - b + b = a % b by omega, Int.tmod_eq_emod_of_nonneg h0, Int.emod_eq_of_lt h0 h1]
  · rw [ht, hw64 _ (by omega), Int.tmod_eq_emod_of_nonneg (by omega), Int.add_emod_right, Int.emod_eq_of_lt h0 h1]
/-- Bytes with two bits of the first chunk turned. -/
def hurtB (x : ByteArray) (a b : Int) : ByteArray := if x.size < 9 then x else flipAt (flipAt x (a % 72).toNat) ((a % 72 + 1 + b % 71) % 72).toNat
theorem hurtB_is (x : ByteArray) (a b : Int) (hx : x.size ≤ 100000000000000) : frame_Hurt.f x a b = some (hurtB x a b) := by
  have a0 := Int.emod_nonneg a (by decide : (72 : Int) ≠ 0)
  have a1 := Int.emod_lt_of_pos a (by decide : (0 : Int) < 72)
  have b0 := Int.emod_nonneg b (by decide : (71 : Int) ≠ 0)
  have b1 := Int.emod_lt_of_pos b (by decide : (0 : Int) < 71)
  have c0 := Int.emod_nonneg (a % 72 + 1 + b % 71) (by decide : (72 : Int) ≠ 0)
  have c1 := Int.emod_lt_of_pos (a % 72 + 1 + b % 71) (by decide : (0 : Int) < 72)
  unfold frame_Hurt.f hurtB
  by_cases h9 : x.size < 9
  · rw [if_pos (by omega), if_pos h9]
  · have fl : ∀ (y : ByteArray) (q : Int), y.size = x.size → 0 ≤ q → q < 72 → bits_Flip.f y q = some (flipAt y q.toNat, 0) := by
      intro y q hy h0 h1
      unfold bits_Flip.f
      rw [if_pos ⟨by omega, by omega⟩, if_neg (by omega)]
    rw [if_neg (by omega), if_neg h9, hrest_is a 72 (by decide) (by decide), Option.bind_some, hrest_is b 71 (by decide) (by decide), Option.bind_some, fl x _ rfl a0 a1, Option.bind_some, hw64 (a % 72 + 1) (by omega), hw64 _ (by omega), Int.tmod_eq_emod_of_nonneg (by omega)]
    rw [fl _ _ (by rw [flipAt_size]) c0 c1, Option.bind_some]
end Go.Proofs.YtliiploidjnmnaaDoor.PF
end

section
/- Package order in plain words. -/
set_option linter.unusedVariables false
set_option linter.unusedSimpArgs false
namespace Go.Proofs.YtliiploidjnmnaaDoor.PF
open Go.RowKit Go.Proofs.YtliiploidjnmnaaDoor.Hw Go.Proofs.YtliiploidjnmnaaDoorW.PrintWords Go.Proofs.YtliiploidjnmnaaDoorW.PrintLast

theorem omay_is (n : Int) : order_may.f n = some (decide (1 ≤ n ∧ n ≤ 64)) := by
  unfold order_may.f
  by_cases h : n ≥ 1
  · rw [if_pos h]; congr 1; exact decide_eq_decide.2 ⟨fun g => ⟨h, g⟩, fun g => g.2⟩
  · rw [if_neg h, decide_eq_false (by omega)]
/-- Where the two passes of a line stand. -/
def plFoggy (a : Nat) : Int := if a = 0 then 0 else 2 * (a : Int) - 1
def plFine (n a : Nat) : Int := if a + 1 = n then 2 * (n : Int) - 1 else 2 * (a : Int) + 2
/-- What a line is behind so many steps. -/
def aft (n : Nat) (d : Int) (a : Nat) : Int := if d > plFine n a then 2 else if d > plFoggy a then 1 else 0
theorem place_is (n a : Nat) (fine : Bool) (h1 : 1 ≤ n) (h64 : n ≤ 64) (ha : a < n) (k : Nat) (hk : 4 ≤ k) : order_Place.f k (n : Int) (a : Int) fine = some (if fine = true then plFine n a else plFoggy a, 0) := by
  obtain ⟨k, rfl⟩ : ∃ q, k = q + 1 := ⟨k - 1, by omega⟩
  unfold order_Place.f
  rw [omay_is, Option.bind_some, decide_eq_true (by omega), if_pos rfl, if_neg (by omega), show decide ((a : Int) ≥ (n : Int)) = false from decide_eq_false (by omega), order_Place.j0, if_neg (by decide)]
  cases fine with
  | true =>
    rw [if_pos rfl, if_pos rfl, hw64 ((n : Int) - 1) (by omega), hw64 (2 * (n : Int)) (by omega), hw64 (2 * (n : Int) - 1) (by omega), hw64 (2 * (a : Int)) (by omega), hw64 (2 * (a : Int) + 2) (by omega)]
    unfold plFine
    by_cases e : a + 1 = n
    · rw [if_pos e, if_pos (by omega)]
    · rw [if_neg e, if_neg (by omega)]
  | false =>
    rw [if_neg (by decide), if_neg (by decide), hw64 (2 * (a : Int)) (by omega), hw64 (2 * (a : Int) - 1) (by omega)]
    have r : mx (2 * (a : Int) - 1) 0 = plFoggy a := by
      unfold mx plFoggy
      by_cases e : a = 0
      · rw [if_pos e]; split <;> omega
      · rw [if_neg e]; split <;> omega
    rw [r]
theorem after_is (n a : Nat) (d : Int) (h1 : 1 ≤ n) (h64 : n ≤ 64) (ha : a < n) (hd : 0 ≤ d ∧ d ≤ 2 * n) (k : Nat) (hk : 10 ≤ k) : order_After.f k (n : Int) d (a : Int) = some (aft n d a, 0) := by
  obtain ⟨k, rfl⟩ : ∃ q, k = q + 1 := ⟨k - 1, by omega⟩
  unfold order_After.f
  rw [omay_is, Option.bind_some, decide_eq_true (by omega), if_pos rfl, if_neg (by omega), hw64 (2 * (n : Int)) (by omega), if_neg (by omega), if_neg (by omega), show decide ((a : Int) ≥ (n : Int)) = false from decide_eq_false (by omega), order_After.j0, if_neg (by decide), place_is n a false h1 h64 ha k (by omega), Option.bind_some, place_is n a true h1 h64 ha k (by omega), Option.bind_some, if_pos rfl, if_neg (by decide : ¬ (false = true))]
  unfold aft
  by_cases e : d > plFine n a
  · rw [if_pos e, if_pos e]
  · rw [if_neg e, if_neg e]
    by_cases e2 : d > plFoggy a
    · rw [if_pos e2, if_pos e2]
    · rw [if_neg e2, if_neg e2]
/-- The step of a number: its line; is it a fine one? -/
def stLine (n d : Nat) : Nat := if d + 1 = 2 * n then n - 1 else if d = 0 ∨ d % 2 = 1 then (d + 1) / 2 else d / 2 - 1
def stFine (n d : Nat) : Bool := decide (d + 1 = 2 * n ∨ (d ≠ 0 ∧ d % 2 = 0))
theorem ostep_is (n d : Nat) (h1 : 1 ≤ n) (h64 : n ≤ 64) (hd : d < 2 * n) (k : Nat) (hk : 4 ≤ k) : order_At.f k (n : Int) (d : Int) = some (((stLine n d : Nat) : Int), stFine n d, (0 : Int)) := by
  obtain ⟨k, rfl⟩ : ∃ q, k = q + 1 := ⟨k - 1, by omega⟩
  unfold order_At.f
  rw [omay_is, Option.bind_some, decide_eq_true (by omega), if_pos rfl, if_neg (by omega), hw64 (2 * (n : Int)) (by omega), show decide ((d : Int) ≥ 2 * (n : Int)) = false from decide_eq_false (by omega), order_At.j0, if_neg (by decide), hw64 (2 * (n : Int)) (by omega), hw64 (2 * (n : Int) - 1) (by omega), hw64 ((n : Int) - 1) (by omega), hw64 ((d : Int) + 1) (by omega), Int.tdiv_eq_ediv_of_nonneg (a := (d : Int) + 1) (b := 2) (by omega), Int.tdiv_eq_ediv_of_nonneg (a := (d : Int)) (b := 2) (by omega), Int.tmod_eq_emod_of_nonneg (a := (d : Int)) (b := 2) (by omega), hw64 (((d : Int) + 1) / 2) (by omega), hw64 ((d : Int) / 2) (by omega), hw64 ((d : Int) / 2 - 1) (by omega)]
  unfold stLine stFine
  have r1 : (n : Int) - 1 = ((n - 1 : Nat) : Int) := by omega
  have r2 : ((d : Int) + 1) / 2 = (((d + 1) / 2 : Nat) : Int) := by omega
  by_cases e1 : d + 1 = 2 * n
  · rw [if_pos (by omega), if_pos e1, decide_eq_true (Or.inl e1), r1]
  · rw [if_neg (by omega), if_neg e1]
    by_cases e2 : d = 0
    · rw [if_pos (by omega), if_pos (Or.inl e2), decide_eq_false (by omega), r2]
    · rw [if_neg (by omega)]
      by_cases e3 : d % 2 = 1
      · rw [if_pos (by omega), if_pos (Or.inr e3), decide_eq_false (by omega), r2]
      · have r3 : (d : Int) / 2 - 1 = ((d / 2 - 1 : Nat) : Int) := by omega
        rw [if_neg (by omega), if_neg (by omega), decide_eq_true (by omega), r3]
theorem ostep_no (n d : Nat) (h1 : 1 ≤ n) (h64 : n ≤ 64) (hd : 2 * n ≤ d) (hd2 : d ≤ 100000) (k : Nat) (hk : 4 ≤ k) : order_At.f k (n : Int) (d : Int) = some (0, false, 1) := by
  obtain ⟨k, rfl⟩ : ∃ q, k = q + 1 := ⟨k - 1, by omega⟩
  unfold order_At.f
  rw [omay_is, Option.bind_some, decide_eq_true (by omega), if_pos rfl, if_neg (by omega), hw64 (2 * (n : Int)) (by omega), show decide ((d : Int) ≥ 2 * (n : Int)) = true from decide_eq_true (by omega), order_At.j0, if_pos rfl]
end Go.Proofs.YtliiploidjnmnaaDoor.PF
end
