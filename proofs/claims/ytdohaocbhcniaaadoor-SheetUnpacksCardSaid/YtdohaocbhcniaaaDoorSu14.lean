/- The law's proof: words, contracts of the functions that it reaches, plain lemmas. -/
import Derived.Test.YtdohaocbhcniaaaDoorSu9
import Derived.Test.YtdohaocbhcniaaaDoorSu13
import Derived.Test.YtdohaocbhcniaaaDoorSu10
import Derived.ArgAppend
import Derived.Below
import Derived.BigQuiet
import Derived.Carry
import Derived.Deep.AppendLies
import Derived.Deep.CutBlock
import Derived.Deep.DeepCutAuto
import Derived.Deep.Draws
import Derived.Deep.LoopGhost
import Derived.Deep.OwnRows
import Derived.Deep.QuietTactic
import Derived.Deep.RegionHeld3
import Derived.Deep.RegionWith
import Derived.KernelRfl
import Derived.Laws.BitsLemmas
import Derived.Laws.BytesArg
import Derived.Laws.IdiomCopy
import Derived.Laws.MakeOwn
import Derived.Laws.OwnMore
import Derived.Laws.Rows
import Derived.Laws.Slices
import Derived.Lib.AppendStr
import Derived.Lib.BufferMore
import Derived.Lib.ConvBytes
import Derived.Lib.Hide
import Derived.Lib.LazyBuf
import Derived.Maps.AppendAt
import Derived.OpenShut
import Derived.OrdersHeld
import Derived.Outline
import Derived.OwnWalk
import Derived.OwnWalkIn
import Derived.RegionTactic
import Derived.RowKit3
import Derived.StillTailTactics
import Derived.Tactics
import Derived.WalkKit
import Derived.WideLaws
import Derived.Test.YtdohaocbhcniaaaDoorSu7
import Derived.Test.YtdohaocbhcniaaaDoorSu1
import Derived.Test.YtdohaocbhcniaaaDoorSu0
section
-- Written by a program (the kit's print.py, called by wip/bin/prseat.sh, mended by wip/bin/mend.py).
namespace Go.Proofs.YtdohaocbhcniaaaDoor.PG
open Go.RowKit Go.Proofs.YtdohaocbhcniaaaDoorW.PrintWords Go.Proofs.YtdohaocbhcniaaaDoorW.PrintLast Go.Proofs.YtdohaocbhcniaaaDoorW.PrintMore
attribute [local go_sem] max2_int min2_int max_two min_two max_three min_three max_four min_four   -- for this text's walks alone
set_option linter.unusedVariables false
set_option linter.unusedSimpArgs false

/-! ### rec_number: function 84 -/
def rec_number.f (a0 : Int) (a1 : Int) : Option (ByteArray) := (bits_Put.f (IntKind.u64.wrap (a0)) a1).bind fun bt108 => (some bt108.1)
set_option maxHeartbeats 8000000 in
set_option maxRecDepth 100000 in
theorem rec_number.calls (a0 : Int) (a1 : Int) (r : ByteArray) (w : World) (h : rec_number.f a0 a1 = some r) :
    Calls Tryd.prog 84 #[.int .i64 a0, .int .i64 a1] w fun e w' => e = .returned (.string r) ∧ Below w.heap.size w w' := by
  have HB := Aside0.mk (Below.refl w.heap.size w)
  have H : ((bits_Put.f (IntKind.u64.wrap (a0)) a1).bind fun bt108 => (some bt108.1)) = some r := h
  clear h
  replace H := Option.bind_eq_some_iff.mp H
  obtain ⟨⟨t108, t109⟩, A30, H⟩ := H
  replace H : (some t108) = some r := H
  have A3 := Aside0.mk A30
  clear A30
  obtain rfl := Option.some.inj H
  go_enter Tryd.func84, Tryd.ntmps84
  go_wp2_with (first | ((with_reducible refine gate_callee (f := 71) rfl ?_); refine goesL_ (some 11) rfl rfl Tryd.func71 (by kernel_rfl) rfl #[.int .u64 (IntKind.u64.wrap (a0)), .int .i64 a1] rfl (by (try simp only [List.map_toArray, List.map_cons, List.map_nil]); first | done | rfl | (simp only [List.length_drop, List.length_take]; rfl)) ?_; (with_reducible refine (bits_Put.calls (IntKind.u64.wrap (a0)) a1 t108 t109 _ A3.out).mono ?_); rintro e w4 ⟨rfl, hb⟩; refine ⟨_, rfl, ?_⟩; have n0_ := Aside0.mk (below_step (by repeat (first | (with_reducible first | exact HB.out | apply below_alloc | apply pw_below_drewN | apply below_drew1) | exact HB.out)) hb); clear HB; have HB := n0_; clear n0_; (try clear hb); (try clear hb2); (try clear hk); (try clear hi)))
  go_ret
  exact ⟨by first | rfl | (simp [errW_none, errW_some] <;> rfl) | (simp [*, errW_none, errW_some] <;> rfl), by repeat (first | (with_reducible first | exact HB.out | apply below_alloc | apply pw_below_drewN | apply below_drew1) | exact HB.out)⟩

end Go.Proofs.YtdohaocbhcniaaaDoor.PG
end

section
-- Written by a program (the kit's print.py, called by wip/bin/prseat.sh, mended by wip/bin/mend.py).
namespace Go.Proofs.YtdohaocbhcniaaaDoor.PG
open Go.RowKit Go.Proofs.YtdohaocbhcniaaaDoorW.PrintWords Go.Proofs.YtdohaocbhcniaaaDoorW.PrintLast Go.Proofs.YtdohaocbhcniaaaDoorW.PrintMore
attribute [local go_sem] max2_int min2_int max_two min_two max_three min_three max_four min_four   -- for this text's walks alone
set_option linter.unusedVariables false
set_option linter.unusedSimpArgs false

/-! ### rec_Put: function 58 -/
def rec_Put.f (k : Nat) (a0_0 : Int) (a0_1 : Int) (a0_2 : Int) : Option (ByteArray × Int) := (rec_May.f k a0_0 a0_1 a0_2).bind fun t111 => (if t111 = true then ((rec_number.f a0_0 1).bind fun t112 => ((rec_number.f a0_1 2).bind fun t113 => (if t112.size + t113.size ≤ 9223372036854775807 then ((rec_number.f a0_2 6).bind fun t114 => (if (t112 ++ t113).size + t114.size ≤ 9223372036854775807 then (some ((t112 ++ t113) ++ t114, 0)) else (none))) else (none)))) else (some ((⟨#[]⟩ : ByteArray), 110)))
theorem rec_Put.mono : ∀ a0 a1 a2 k, LeO (rec_Put.f k a0 a1 a2) (rec_Put.f (k + 1) a0 a1 a2) := by
  intro a0 a1 a2 k
  unfold rec_Put.f
  repeat' first
      | (with_reducible exact rec_May.mono _ _ _ _)
      | (with_reducible exact LeO.refl _)
      | (with_reducible exact LeO.none _)
      | (with_reducible refine LeO.ite ?_ ?_)
      | (with_reducible refine LeO.bind ?_ (fun _ => ?_))
      | exact rec_May.mono _ _ _ _
      | exact LeO.none _
      | refine LeO.ite ?_ ?_
      | refine LeO.bind ?_ (fun _ => ?_)
def rec_Put.T3 : Bool × List (List Nat × List Nat) := (true, [([], []), ([0], [0]), ([1], [1]), ([], []), ([3], [3]), ([4, 2], [4]), ([2, 5], [2, 5]), ([], []), ([7], [7]), ([8, 5], [8]), ([6, 9], [6, 9]), ([10, 9, 0, 1, 2, 3, 4, 5, 6, 7, 8, 9, 10], [10]), ([11, 0, 1, 2, 3, 4, 5, 6, 7, 8, 9, 10, 11], [])])
def rec_Put.B3 : List Nat := [0, 1, 3, 0, 8, 31, 63, 0, 128, 447, 1023, 2047, 4095]
theorem rec_Put.tab3 : rtab .any (opsOf Tryd.f58 3) = rec_Put.T3 := by kernel_rfl
theorem rec_Put.bits3 : waitsOk rec_Put.T3.2 rec_Put.B3 = true := by kernel_rfl
set_option maxHeartbeats 8000000 in
set_option maxRecDepth 100000 in
theorem rec_Put.calls (k : Nat) (a0_0 : Int) (a0_1 : Int) (a0_2 : Int) (r1 : ByteArray) (r2 : Int) (w : World) (h : rec_Put.f k a0_0 a0_1 a0_2 = some (r1, r2)) :
    Calls Tryd.prog 58 #[.agg #[.int .i64 a0_0, .int .i64 a0_1, .int .i64 a0_2]] w fun e w' => e = .returned (.tuple #[.string r1, .int .i64 r2]) ∧ Below w.heap.size w w' := by
  have hu30 := Tryd.underlying30
  have HB := Aside0.mk (Below.refl w.heap.size w)
  have H : ((rec_May.f k a0_0 a0_1 a0_2).bind fun t111 => (if t111 = true then ((rec_number.f a0_0 1).bind fun t112 => ((rec_number.f a0_1 2).bind fun t113 => (if t112.size + t113.size ≤ 9223372036854775807 then ((rec_number.f a0_2 6).bind fun t114 => (if (t112 ++ t113).size + t114.size ≤ 9223372036854775807 then (some ((t112 ++ t113) ++ t114, 0)) else (none))) else (none)))) else (some ((⟨#[]⟩ : ByteArray), 110)))) = some (r1, r2) := h
  clear h
  replace H := Option.bind_eq_some_iff.mp H
  obtain ⟨t111, A20, H⟩ := H
  replace H : (if t111 = true then ((rec_number.f a0_0 1).bind fun t112 => ((rec_number.f a0_1 2).bind fun t113 => (if t112.size + t113.size ≤ 9223372036854775807 then ((rec_number.f a0_2 6).bind fun t114 => (if (t112 ++ t113).size + t114.size ≤ 9223372036854775807 then (some ((t112 ++ t113) ++ t114, 0)) else (none))) else (none)))) else (some ((⟨#[]⟩ : ByteArray), 110))) = some (r1, r2) := H
  have A2 := Aside0.mk A20
  clear A20
  by_cases c3 : t111 = true
  · subst c3
    have H1 : ((rec_number.f a0_0 1).bind fun t112 => ((rec_number.f a0_1 2).bind fun t113 => (if t112.size + t113.size ≤ 9223372036854775807 then ((rec_number.f a0_2 6).bind fun t114 => (if (t112 ++ t113).size + t114.size ≤ 9223372036854775807 then (some ((t112 ++ t113) ++ t114, 0)) else (none))) else (none)))) = some (r1, r2) := by rw [if_pos rfl] at H; exact H
    clear H
    have H := H1
    clear H1
    replace H := Option.bind_eq_some_iff.mp H
    obtain ⟨t112, A40, H⟩ := H
    replace H : ((rec_number.f a0_1 2).bind fun t113 => (if t112.size + t113.size ≤ 9223372036854775807 then ((rec_number.f a0_2 6).bind fun t114 => (if (t112 ++ t113).size + t114.size ≤ 9223372036854775807 then (some ((t112 ++ t113) ++ t114, 0)) else (none))) else (none))) = some (r1, r2) := H
    have A4 := Aside0.mk A40
    clear A40
    replace H := Option.bind_eq_some_iff.mp H
    obtain ⟨t113, A50, H⟩ := H
    replace H : (if t112.size + t113.size ≤ 9223372036854775807 then ((rec_number.f a0_2 6).bind fun t114 => (if (t112 ++ t113).size + t114.size ≤ 9223372036854775807 then (some ((t112 ++ t113) ++ t114, 0)) else (none))) else (none)) = some (r1, r2) := H
    have A5 := Aside0.mk A50
    clear A50
    by_cases c6 : t112.size + t113.size ≤ 9223372036854775807
    · rw [if_pos c6] at H
      have c6b0 := eq_true c6
      have c6b1 : decide (t112.size + t113.size ≤ 9223372036854775807) = true := decide_eq_true c6
      try have c6b2 : (9223372036854775807 < t112.size + t113.size) = False := eq_false (Nat.not_lt.2 c6)
      replace H := Option.bind_eq_some_iff.mp H
      obtain ⟨t114, A70, H⟩ := H
      replace H : (if (t112 ++ t113).size + t114.size ≤ 9223372036854775807 then (some ((t112 ++ t113) ++ t114, 0)) else (none)) = some (r1, r2) := H
      have A7 := Aside0.mk A70
      clear A70
      by_cases c8 : (t112 ++ t113).size + t114.size ≤ 9223372036854775807
      · rw [if_pos c8] at H
        have c8b0 := eq_true c8
        have c8b1 : decide ((t112 ++ t113).size + t114.size ≤ 9223372036854775807) = true := decide_eq_true c8
        try have c8b2 : (9223372036854775807 < (t112 ++ t113).size + t114.size) = False := eq_false (Nat.not_lt.2 c8)
        try (have c8b3 := c8b2; simp only [ByteArray.size_append] at c8b3)
        simp only [Option.some.injEq, Prod.mk.injEq] at H
        obtain ⟨rfl, rfl⟩ := H
        go_enter Tryd.func58, Tryd.ntmps58
        try go_wp2_with (first | ((with_reducible refine gate_dst (N := 1) rfl ?_); refine box_event ?hg (N := 1) ?hd (cs := #[.int .i64 a0_0, .int .i64 a0_1, .int .i64 a0_2]) (t := 30) ?hr ?_; (case hd => rfl); (case hg => rfl); (case hr => first | (go_simp; done) | (go_simp; rfl)); intro gb110 hg w9 hbox hb; have n0_ := Aside0.mk (below_step (by repeat (first | (with_reducible first | exact HB.out | apply below_alloc | apply pw_below_drewN | apply below_drew1) | exact HB.out)) hb); have n1_ := Aside0.mk (hbox); have n2_ := Aside0.mk ((by rw [hg]; exact (below_size (by repeat (first | (with_reducible first | exact HB.out | apply below_alloc | apply pw_below_drewN | apply below_drew1) | exact HB.out))) : w.heap.size ≤ gb110)); have n3_ := Aside0.mk ((by rw [hg]; exact (below_size (by repeat (first | (with_reducible first | exact HB.out | apply below_alloc | apply pw_below_drewN | apply below_drew1) | exact HB.out))) : w.heap.size ≤ gb110)); clear HB; have HB := n0_; have BK110 := n1_; have GW110 := n2_; have GE110 := n3_; clear n0_ n1_ n2_ n3_; clear hb hbox hg; have hcz10_0 : w9.cell? ⟨gb110, 0, none⟩ = some (.int .i64 a0_0) := (blk_cell BK110.out 0).trans rfl; have hcz10_1 : w9.cell? ⟨gb110, 1, none⟩ = some (.int .i64 a0_1) := (blk_cell BK110.out 1).trans rfl; have hcz10_2 : w9.cell? ⟨gb110, 2, none⟩ = some (.int .i64 a0_2) := (blk_cell BK110.out 2).trans rfl; have hfz10_0 := blk_frozen BK110.out 0; have hfz10_1 := blk_frozen BK110.out 1; have hfz10_2 := blk_frozen BK110.out 2) | ((with_reducible refine gate_callee (f := 11) rfl ?_); refine goesL_ (some 5) rfl rfl Tryd.func11 (by kernel_rfl) rfl #[.agg #[.int .i64 a0_0, .int .i64 a0_1, .int .i64 a0_2]] rfl (by (try simp only [List.map_toArray, List.map_cons, List.map_nil]); first | done | rfl | (simp only [List.length_drop, List.length_take]; rfl)) ?_; (with_reducible refine (rec_May.calls k a0_0 a0_1 a0_2 true _ A2.out).mono ?_); rintro e w11 ⟨rfl, hb⟩; refine ⟨_, rfl, ?_⟩; have n0_ := Aside0.mk (blk_below (g := gb110) (o := .cells #[.int .i64 a0_0, .int .i64 a0_1, .int .i64 a0_2] 30 (0, 0)) (by (with_reducible repeat (first | refine blk_drewN ?_ _ | refine blk_drew ?_ | refine blk_alloc ?_ _)); exact BK110.out) hb); have n1_ := Aside0.mk (below_step (by repeat (first | (with_reducible first | exact HB.out | apply below_alloc | apply pw_below_drewN | apply below_drew1 | refine below_set ?_ GE110.out) | exact HB.out)) hb); clear BK110; clear HB; have BK110 := n0_; have HB := n1_; clear n0_ n1_; (try clear hb); (try clear hb2); (try clear hk); (try clear hi)))
        have n0_ := Aside0.mk (blk_drew BK110.out)
        have n1_ := Aside0.mk (below_drew1 HB.out)
        clear BK110
        clear HB
        have BK110 := n0_
        have HB := n1_
        clear n0_ n1_
        refine start_ (n := 13) (S := fun w' => w'.cell? ⟨gb110, 0, none⟩ = some (.int .i64 a0_0) ∧ w'.cell? ⟨gb110, 1, none⟩ = some (.int .i64 a0_1) ∧ w'.cell? ⟨gb110, 2, none⟩ = some (.int .i64 a0_2)) (ds := []) #[false, false, false, false, false, false, false, false, false, false, false, false, false] (by kernel_rfl) rfl rfl ⟨(blk_cell BK110.out 0).trans rfl, (blk_cell BK110.out 1).trans rfl, (blk_cell BK110.out 2).trans rfl⟩ (fun hHeld => ?_); refine with_tabW rec_Put.tab3 rec_Put.bits3 (fun HT_ HW_ => ?_)
        generalize w11.drew = w12 at BK110 HB hHeld ⊢
        refine pure_ (i := 0) (N := some 7) (v := ?_) (a' := ?_) #[true, false, false, false, false, false, false, false, false, false, false, false, false] rfl rfl (any_of HT_.out (by kernel_rfl)) (fun _ _ _ h => h) (Or.inl ⟨by rfl, ?_⟩) ?_ ?_
        rotate_left
        · intro w'
          go_simp
          with_reducible rfl
        rotate_left
        · simp only [Act.put, List.setIfInBounds_toArray, List.set_cons_zero, List.set_cons_succ, i64_w, i32_w]
          rfl
        refine pure_ (i := 3) (N := some 10) (v := ?_) (a' := ?_) #[true, false, false, true, false, false, false, false, false, false, false, false, false] rfl rfl (any_of HT_.out (by kernel_rfl)) (fun _ _ _ h => h) (Or.inl ⟨by rfl, ?_⟩) ?_ ?_
        rotate_left
        · intro w'
          go_simp
          with_reducible rfl
        rotate_left
        · simp only [Act.put, List.setIfInBounds_toArray, List.set_cons_zero, List.set_cons_succ, i64_w, i32_w]
          rfl
        refine pure_ (i := 7) (N := some 14) (v := ?_) (a' := ?_) #[true, false, false, true, false, false, false, true, false, false, false, false, false] rfl rfl (any_of HT_.out (by kernel_rfl)) (fun _ _ _ h => h) (Or.inl ⟨by rfl, ?_⟩) ?_ ?_
        rotate_left
        · intro w'
          go_simp
          with_reducible rfl
        rotate_left
        · simp only [Act.put, List.setIfInBounds_toArray, List.set_cons_zero, List.set_cons_succ, i64_w, i32_w]
          rfl
        refine take_ (i := 1) (N := some 8) (v := ?_) (a' := ?_) #[true, true, false, true, false, false, false, true, false, false, false, false, false] rfl rfl (take_ofW HT_.out HW_.out (by kernel_rfl)) (fun _ _ _ h => h) (Or.inl ⟨by rfl, ?_⟩) hHeld ?_ ?_
        rotate_left
        · rintro w' ⟨s0, s1, s2⟩
          go_simp
          with_reducible rfl
        rotate_left
        · simp only [Act.put, List.setIfInBounds_toArray, List.set_cons_zero, List.set_cons_succ, i64_w, i32_w]
          rfl
        refine take_ (i := 4) (N := some 11) (v := ?_) (a' := ?_) #[true, true, false, true, true, false, false, true, false, false, false, false, false] rfl rfl (take_ofW HT_.out HW_.out (by kernel_rfl)) (fun _ _ _ h => h) (Or.inl ⟨by rfl, ?_⟩) hHeld ?_ ?_
        rotate_left
        · rintro w' ⟨s0, s1, s2⟩
          go_simp
          with_reducible rfl
        rotate_left
        · simp only [Act.put, List.setIfInBounds_toArray, List.set_cons_zero, List.set_cons_succ, i64_w, i32_w]
          rfl
        refine take_ (i := 8) (N := some 15) (v := ?_) (a' := ?_) #[true, true, false, true, true, false, false, true, true, false, false, false, false] rfl rfl (take_ofW HT_.out HW_.out (by kernel_rfl)) (fun _ _ _ h => h) (Or.inl ⟨by rfl, ?_⟩) hHeld ?_ ?_
        rotate_left
        · rintro w' ⟨s0, s1, s2⟩
          go_simp
          with_reducible rfl
        rotate_left
        · simp only [Act.put, List.setIfInBounds_toArray, List.set_cons_zero, List.set_cons_succ, i64_w, i32_w]
          rfl
        refine one_ (i := 2) (N := some 9) #[true, true, true, true, true, false, false, true, true, false, false, false, false] rfl rfl (one_of HT_.out (by kernel_rfl)) (by decide) (fun K hK => ?_)
        refine goes_ Tryd.func84 (by kernel_rfl) rfl #[.int .i64 a0_0, .int .i64 1] (by rfl) rfl rfl (by (try simp only [List.map_toArray, List.map_cons, List.map_nil]); first | done | rfl | (simp only [List.length_drop, List.length_take]; rfl)) ?_
        with_reducible refine (rec_number.calls a0_0 1 t112 _ A4.out).mono ?_
        rintro e w13 ⟨rfl, hb⟩
        refine ⟨_, rfl, ?_⟩
        have n0_ := Aside0.mk (blk_below (g := gb110) (o := .cells #[.int .i64 a0_0, .int .i64 a0_1, .int .i64 a0_2] 30 (0, 0)) (by (with_reducible repeat (first | refine blk_drewN ?_ _ | refine blk_drew ?_ | refine blk_alloc ?_ _)); exact BK110.out) hb)
        have n1_ := Aside0.mk (below_step (by repeat (first | (with_reducible first | exact HB.out | apply below_alloc | apply pw_below_drewN | apply below_drew1 | refine below_set ?_ GE110.out) | exact HB.out)) hb)
        clear BK110
        clear HB
        have BK110 := n0_
        have HB := n1_
        clear n0_ n1_
        (try clear hb)
        (try clear hb2)
        (try clear hk)
        (try clear hi)
        refine hK.out _ _ ⟨(blk_cell BK110.out 0).trans rfl, (blk_cell BK110.out 1).trans rfl, (blk_cell BK110.out 2).trans rfl⟩ (fun hHeld => ?_)
        clear hK K
        refine norm_ (a' := ?_) ?_ ?_
        rotate_left
        · show Act.put _ (some 9) _ = _
          simp only [Act.put, List.setIfInBounds_toArray, List.set_cons_zero, List.set_cons_succ, i64_w, i32_w]
          rfl
        refine one_ (i := 5) (N := some 12) #[true, true, true, true, true, true, false, true, true, false, false, false, false] rfl rfl (one_of HT_.out (by kernel_rfl)) (by decide) (fun K hK => ?_)
        refine goes_ Tryd.func84 (by kernel_rfl) rfl #[.int .i64 a0_1, .int .i64 2] (by rfl) rfl rfl (by (try simp only [List.map_toArray, List.map_cons, List.map_nil]); first | done | rfl | (simp only [List.length_drop, List.length_take]; rfl)) ?_
        with_reducible refine (rec_number.calls a0_1 2 t113 _ A5.out).mono ?_
        rintro e w14 ⟨rfl, hb⟩
        refine ⟨_, rfl, ?_⟩
        have n0_ := Aside0.mk (blk_below (g := gb110) (o := .cells #[.int .i64 a0_0, .int .i64 a0_1, .int .i64 a0_2] 30 (0, 0)) (by (with_reducible repeat (first | refine blk_drewN ?_ _ | refine blk_drew ?_ | refine blk_alloc ?_ _)); exact BK110.out) hb)
        have n1_ := Aside0.mk (below_step (by repeat (first | (with_reducible first | exact HB.out | apply below_alloc | apply pw_below_drewN | apply below_drew1 | refine below_set ?_ GE110.out) | exact HB.out)) hb)
        clear BK110
        clear HB
        have BK110 := n0_
        have HB := n1_
        clear n0_ n1_
        (try clear hb)
        (try clear hb2)
        (try clear hk)
        (try clear hi)
        refine hK.out _ _ ⟨(blk_cell BK110.out 0).trans rfl, (blk_cell BK110.out 1).trans rfl, (blk_cell BK110.out 2).trans rfl⟩ (fun hHeld => ?_)
        clear hK K
        refine norm_ (a' := ?_) ?_ ?_
        rotate_left
        · show Act.put _ (some 12) _ = _
          simp only [Act.put, List.setIfInBounds_toArray, List.set_cons_zero, List.set_cons_succ, i64_w, i32_w]
          rfl
        refine pure_ (i := 6) (N := some 13) (v := ?_) (a' := ?_) #[true, true, true, true, true, true, true, true, true, false, false, false, false] rfl rfl (any_of HT_.out (by kernel_rfl)) (fun _ _ _ h => h) (Or.inl ⟨by rfl, ?_⟩) ?_ ?_
        rotate_left
        · intro w'
          go_simp
          with_reducible rfl
        rotate_left
        · simp only [Act.put, List.setIfInBounds_toArray, List.set_cons_zero, List.set_cons_succ, i64_w, i32_w]
          rfl
        refine one_ (i := 9) (N := some 16) #[true, true, true, true, true, true, true, true, true, true, false, false, false] rfl rfl (one_of HT_.out (by kernel_rfl)) (by decide) (fun K hK => ?_)
        refine goes_ Tryd.func84 (by kernel_rfl) rfl #[.int .i64 a0_2, .int .i64 6] (by rfl) rfl rfl (by (try simp only [List.map_toArray, List.map_cons, List.map_nil]); first | done | rfl | (simp only [List.length_drop, List.length_take]; rfl)) ?_
        with_reducible refine (rec_number.calls a0_2 6 t114 _ A7.out).mono ?_
        rintro e w15 ⟨rfl, hb⟩
        refine ⟨_, rfl, ?_⟩
        have n0_ := Aside0.mk (blk_below (g := gb110) (o := .cells #[.int .i64 a0_0, .int .i64 a0_1, .int .i64 a0_2] 30 (0, 0)) (by (with_reducible repeat (first | refine blk_drewN ?_ _ | refine blk_drew ?_ | refine blk_alloc ?_ _)); exact BK110.out) hb)
        have n1_ := Aside0.mk (below_step (by repeat (first | (with_reducible first | exact HB.out | apply below_alloc | apply pw_below_drewN | apply below_drew1 | refine below_set ?_ GE110.out) | exact HB.out)) hb)
        clear BK110
        clear HB
        have BK110 := n0_
        have HB := n1_
        clear n0_ n1_
        (try clear hb)
        (try clear hb2)
        (try clear hk)
        (try clear hi)
        refine hK.out _ _ ⟨(blk_cell BK110.out 0).trans rfl, (blk_cell BK110.out 1).trans rfl, (blk_cell BK110.out 2).trans rfl⟩ (fun hHeld => ?_)
        clear hK K
        refine norm_ (a' := ?_) ?_ ?_
        rotate_left
        · show Act.put _ (some 16) _ = _
          simp only [Act.put, List.setIfInBounds_toArray, List.set_cons_zero, List.set_cons_succ, i64_w, i32_w]
          rfl
        refine pure_ (i := 10) (N := some 17) (v := ?_) (a' := ?_) #[true, true, true, true, true, true, true, true, true, true, true, false, false] rfl rfl (any_of HT_.out (by kernel_rfl)) (fun _ _ _ h => h) (Or.inl ⟨by rfl, ?_⟩) ?_ ?_
        rotate_left
        · intro w'
          go_simp
          with_reducible rfl
        rotate_left
        · simp only [Act.put, List.setIfInBounds_toArray, List.set_cons_zero, List.set_cons_succ, i64_w, i32_w]
          rfl
        refine pure_ (i := 11) (N := some 2) (v := ?_) (a' := ?_) #[true, true, true, true, true, true, true, true, true, true, true, true, false] rfl rfl (any_of HT_.out (by kernel_rfl)) (fun _ _ _ h => h) (Or.inl ⟨by rfl, ?_⟩) ?_ ?_
        rotate_left
        · intro w'
          go_simp
          with_reducible rfl
        rotate_left
        · simp only [Act.put, List.setIfInBounds_toArray, List.set_cons_zero, List.set_cons_succ, i64_w, i32_w]
          rfl
        refine pure_ (i := 12) (N := some 3) (v := ?_) (a' := ?_) #[true, true, true, true, true, true, true, true, true, true, true, true, true] rfl rfl (any_of HT_.out (by kernel_rfl)) (fun _ _ _ h => h) (Or.inl ⟨by rfl, ?_⟩) ?_ ?_
        rotate_left
        · intro w'
          go_simp
          with_reducible rfl
        rotate_left
        · simp only [Act.put, List.setIfInBounds_toArray, List.set_cons_zero, List.set_cons_succ, i64_w, i32_w]
          rfl
        refine done_ (done_of HT_.out (by kernel_rfl)) ?_
        try go_wp2
        go_ret2
        exact ⟨by first | rfl | (simp [errW_none, errW_some] <;> rfl) | (simp [*, errW_none, errW_some] <;> rfl), by repeat (first | (with_reducible first | exact HB.out | apply below_alloc | apply pw_below_drewN | apply below_drew1 | refine below_set ?_ GE110.out) | exact HB.out)⟩
      · rw [if_neg c8] at H
        exact absurd H (by simp)
    · rw [if_neg c6] at H
      exact absurd H (by simp)
  · replace c3 := Bool.eq_false_iff.mpr c3
    subst c3
    have H1 : (some ((⟨#[]⟩ : ByteArray), 110)) = some (r1, r2) := by rw [if_neg (show ¬ (false = true) by decide)] at H; exact H
    clear H
    have H := H1
    clear H1
    simp only [Option.some.injEq, Prod.mk.injEq] at H
    obtain ⟨rfl, rfl⟩ := H
    go_enter Tryd.func58, Tryd.ntmps58
    go_wp2_with (first | ((with_reducible refine gate_dst (N := 1) rfl ?_); refine box_event ?hg (N := 1) ?hd (cs := #[.int .i64 a0_0, .int .i64 a0_1, .int .i64 a0_2]) (t := 30) ?hr ?_; (case hd => rfl); (case hg => rfl); (case hr => first | (go_simp; done) | (go_simp; rfl)); intro gb110 hg w16 hbox hb; have n0_ := Aside0.mk (below_step (by repeat (first | (with_reducible first | exact HB.out | apply below_alloc | apply pw_below_drewN | apply below_drew1) | exact HB.out)) hb); have n1_ := Aside0.mk (hbox); have n2_ := Aside0.mk ((by rw [hg]; exact (below_size (by repeat (first | (with_reducible first | exact HB.out | apply below_alloc | apply pw_below_drewN | apply below_drew1) | exact HB.out))) : w.heap.size ≤ gb110)); have n3_ := Aside0.mk ((by rw [hg]; exact (below_size (by repeat (first | (with_reducible first | exact HB.out | apply below_alloc | apply pw_below_drewN | apply below_drew1) | exact HB.out))) : w.heap.size ≤ gb110)); clear HB; have HB := n0_; have BK110 := n1_; have GW110 := n2_; have GE110 := n3_; clear n0_ n1_ n2_ n3_; clear hb hbox hg; have hcz17_0 : w16.cell? ⟨gb110, 0, none⟩ = some (.int .i64 a0_0) := (blk_cell BK110.out 0).trans rfl; have hcz17_1 : w16.cell? ⟨gb110, 1, none⟩ = some (.int .i64 a0_1) := (blk_cell BK110.out 1).trans rfl; have hcz17_2 : w16.cell? ⟨gb110, 2, none⟩ = some (.int .i64 a0_2) := (blk_cell BK110.out 2).trans rfl; have hfz17_0 := blk_frozen BK110.out 0; have hfz17_1 := blk_frozen BK110.out 1; have hfz17_2 := blk_frozen BK110.out 2) | ((with_reducible refine gate_callee (f := 11) rfl ?_); refine goesL_ (some 5) rfl rfl Tryd.func11 (by kernel_rfl) rfl #[.agg #[.int .i64 a0_0, .int .i64 a0_1, .int .i64 a0_2]] rfl (by (try simp only [List.map_toArray, List.map_cons, List.map_nil]); first | done | rfl | (simp only [List.length_drop, List.length_take]; rfl)) ?_; (with_reducible refine (rec_May.calls k a0_0 a0_1 a0_2 false _ A2.out).mono ?_); rintro e w18 ⟨rfl, hb⟩; refine ⟨_, rfl, ?_⟩; have n0_ := Aside0.mk (blk_below (g := gb110) (o := .cells #[.int .i64 a0_0, .int .i64 a0_1, .int .i64 a0_2] 30 (0, 0)) (by (with_reducible repeat (first | refine blk_drewN ?_ _ | refine blk_drew ?_ | refine blk_alloc ?_ _)); exact BK110.out) hb); have n1_ := Aside0.mk (below_step (by repeat (first | (with_reducible first | exact HB.out | apply below_alloc | apply pw_below_drewN | apply below_drew1 | refine below_set ?_ GE110.out) | exact HB.out)) hb); clear BK110; clear HB; have BK110 := n0_; have HB := n1_; clear n0_ n1_; (try clear hb); (try clear hb2); (try clear hk); (try clear hi)))
    go_ret2
    exact ⟨by first | rfl | (simp [errW_none, errW_some] <;> rfl) | (simp [*, errW_none, errW_some] <;> rfl), by repeat (first | (with_reducible first | exact HB.out | apply below_alloc | apply pw_below_drewN | apply below_drew1 | refine below_set ?_ GE110.out) | exact HB.out)⟩

end Go.Proofs.YtdohaocbhcniaaaDoor.PG
end

section
/- Records and pages of them, in plain words: what is put. -/
set_option linter.unusedVariables false
set_option linter.unusedSimpArgs false
namespace Go.Proofs.YtdohaocbhcniaaaDoor.PG
open Go.RowKit Go.Proofs.YtdohaocbhcniaaaDoor.Hw Go.Proofs.YtdohaocbhcniaaaDoorW.PrintWords Go.Proofs.YtdohaocbhcniaaaDoorW.PrintLast

theorem sw64 (x : Int) (h : -9223372036854775808 ≤ x ∧ x ≤ 9223372036854775807) : wrap64 x = x := by unfold wrap64; omega
theorem su64 (b : Nat) (hb : b < 18446744073709551616) : IntKind.u64.wrap (b : Int) = (b : Int) := by
  have q : (2 : Int) ^ 64 = 18446744073709551616 := by decide
  simp [IntKind.wrap, IntKind.bits, IntKind.signed]
  omega
theorem rnumber_is (a : Int) (n : Nat) (h0 : 0 ≤ a) (hn : 1 ≤ n) (hn8 : n ≤ 7) (h1 : a < 2 ^ (n * 8)) : rec_number.f a n = some (leStr a n) := by
  obtain ⟨v, rfl⟩ := Int.eq_ofNat_of_zero_le h0
  have hp : (2 : Nat) ^ (n * 8) ≤ 2 ^ (7 * 8) := Nat.pow_le_pow_right (by decide) (by omega)
  have q : (2 : Nat) ^ (7 * 8) = 72057594037927936 := by decide
  have hv : v < 2 ^ (n * 8) := by exact_mod_cast h1
  unfold rec_number.f bits_Put.f
  rw [su64 v (by omega), if_pos (by omega), if_neg, Option.bind_some, Int.toNat_natCast]
  rintro (h | h | ⟨_, h⟩)
  · omega
  · omega
  · refine h ?_
    rw [show ((n : Int) * 8).toNat = n * 8 by omega]
    exact Int.ediv_eq_zero_of_lt (by omega) h1
/-- May a record be? -/
def mayR (x : S30) : Prop := (x.f0 = 1 ∨ x.f0 = 2) ∧ 0 ≤ x.f1 ∧ x.f1 ≤ 4096 ∧ 0 ≤ x.f2 ∧ x.f2 ≤ 281474976710655 ∨ x.f0 = 3 ∧ 0 ≤ x.f1 ∧ x.f1 ≤ 63 ∧ 1 ≤ x.f2 ∧ x.f2 ≤ 4294967295 ∨ x.f0 = 4 ∧ 0 ≤ x.f1 ∧ x.f1 ≤ 63 ∧ 1 ≤ x.f2 ∧ x.f2 ≤ 2
instance (x : S30) : Decidable (mayR x) := inferInstanceAs (Decidable (_ ∨ _))
theorem within_is (a b c : Int) : rec_within.f a b c = some (decide (b ≤ a ∧ a ≤ c)) := by
  unfold rec_within.f
  by_cases h : a ≥ b
  · rw [if_pos h]; congr 1; exact decide_eq_decide.2 ⟨fun g => ⟨h, g⟩, fun g => g.2⟩
  · rw [if_neg h, decide_eq_false (by omega)]
theorem may_j1 (k : Nat) (m : Int) (x : S30) (h : (x.f0 = 3 ∧ m = 281474976710655) ∨ (x.f0 = 4 ∧ m = 2)) : rec_May.j1 (k + 1) m x.f0 x.f1 x.f2 = some (decide (mayR x)) := by
  rw [rec_May.j1]
  rcases h with ⟨h, rfl⟩ | ⟨h, rfl⟩
  · rw [if_pos h, within_is, Option.bind_some]
    by_cases a : 0 ≤ x.f1 ∧ x.f1 ≤ 63
    · rw [decide_eq_true a, if_pos rfl, within_is, Option.bind_some]
      congr 1
      refine decide_eq_decide.2 ⟨fun g => .inr (.inl ⟨h, a.1, a.2, g.1, g.2⟩), ?_⟩
      unfold mayR
      omega
    · rw [decide_eq_false a, if_neg (by decide), decide_eq_false]
      unfold mayR
      omega
  · rw [if_neg (by omega), within_is, Option.bind_some]
    by_cases a : 0 ≤ x.f1 ∧ x.f1 ≤ 63
    · rw [decide_eq_true a, if_pos rfl, within_is, Option.bind_some]
      congr 1
      refine decide_eq_decide.2 ⟨fun g => .inr (.inr ⟨h, a.1, a.2, g.1, g.2⟩), ?_⟩
      unfold mayR
      omega
    · rw [decide_eq_false a, if_neg (by decide), decide_eq_false]
      unfold mayR
      omega
theorem rmay_is (x : S30) (k : Nat) : rec_May.f (k + 2) x.f0 x.f1 x.f2 = some (decide (mayR x)) := by
  have main : ∀ b : Bool, b = decide (x.f0 = 1 ∨ x.f0 = 2) → rec_May.j0 (k + 2) 0 281474976710655 x.f0 b x.f0 x.f1 x.f2 = some (decide (mayR x)) := by
    intro b hb
    rw [rec_May.j0, hb]
    by_cases h : x.f0 = 1 ∨ x.f0 = 2
    · rw [decide_eq_true h, if_pos rfl, within_is, Option.bind_some]
      by_cases a : 0 ≤ x.f1 ∧ x.f1 ≤ 4096
      · rw [decide_eq_true a, if_pos rfl, within_is, Option.bind_some]
        congr 1
        refine decide_eq_decide.2 ⟨fun g => .inl ⟨h, a.1, a.2, g.1, g.2⟩, ?_⟩
        unfold mayR
        omega
      · rw [decide_eq_false a, if_neg (by decide), decide_eq_false]
        unfold mayR
        omega
    · rw [decide_eq_false h, if_neg (by decide)]
      by_cases h4 : x.f0 = 4
      · rw [if_pos h4, may_j1 k 2 x (.inr ⟨h4, rfl⟩)]
      · rw [if_neg h4]
        by_cases h3 : x.f0 = 3
        · rw [if_pos h3, may_j1 k _ x (.inl ⟨h3, rfl⟩)]
        · rw [if_neg h3, decide_eq_false]
          unfold mayR
          omega
  unfold rec_May.f
  by_cases h : x.f0 = 1
  · rw [if_pos h]
    exact main _ (by rw [beq_iff_eq.2 h]; exact (decide_eq_true (.inl h)).symm)
  · rw [if_neg h]
    refine main _ ?_
    by_cases h2 : x.f0 = 2
    · rw [beq_iff_eq.2 h2]; exact (decide_eq_true (.inr h2)).symm
    · rw [beq_eq_false_iff_ne.2 h2]; exact (decide_eq_false (by omega)).symm
/-- A record's bytes. -/
def recS (x : S30) : ByteArray := (leStr x.f0 1 ++ leStr x.f1 2) ++ leStr x.f2 6
theorem recS_size (x : S30) : (recS x).size = 9 := by unfold recS; rw [ByteArray.size_append, ByteArray.size_append, leStr_size, leStr_size, leStr_size]
def recB (x : S30) : ByteArray × Int := if mayR x then (recS x, 0) else (⟨#[]⟩, 110)
theorem mayR_sizes {x : S30} (h : mayR x) : 0 ≤ x.f0 ∧ x.f0 < 256 ∧ 0 ≤ x.f1 ∧ x.f1 < 65536 ∧ 0 ≤ x.f2 ∧ x.f2 < 281474976710656 := by
  unfold mayR at h
  omega
theorem rput_is (x : S30) (k : Nat) : rec_Put.f (k + 2) x.f0 x.f1 x.f2 = some (recB x) := by
  unfold rec_Put.f recB
  rw [rmay_is, Option.bind_some]
  by_cases h : mayR x
  · have hs := mayR_sizes h
    have q1 : (2 : Int) ^ (1 * 8) = 256 := by decide
    have q2 : (2 : Int) ^ (2 * 8) = 65536 := by decide
    have q6 : (2 : Int) ^ (6 * 8) = 281474976710656 := by decide
    have e1 := rnumber_is x.f0 1 (by omega) (by omega) (by omega) (by rw [q1]; omega)
    have e2 := rnumber_is x.f1 2 (by omega) (by omega) (by omega) (by rw [q2]; omega)
    have e6 := rnumber_is x.f2 6 (by omega) (by omega) (by omega) (by rw [q6]; omega)
    rw [show ((1 : Nat) : Int) = 1 from rfl] at e1
    rw [show ((2 : Nat) : Int) = 2 from rfl] at e2
    rw [show ((6 : Nat) : Int) = 6 from rfl] at e6
    rw [decide_eq_true h, if_pos rfl, if_pos h, e1, Option.bind_some, e2, Option.bind_some, leStr_size, leStr_size, if_pos (by omega), e6, Option.bind_some, ByteArray.size_append, leStr_size, leStr_size, leStr_size, if_pos (by omega)]
    rfl
  · rw [decide_eq_false h, if_neg (by decide), if_neg h]
end Go.Proofs.YtdohaocbhcniaaaDoor.PG
end

section
/- A record's bytes there and back, in plain words. -/
set_option linter.unusedVariables false
set_option linter.unusedSimpArgs false
namespace Go.Proofs.YtdohaocbhcniaaaDoor.PG
open Go.RowKit Go.Proofs.YtdohaocbhcniaaaDoor.Hw Go.Proofs.YtdohaocbhcniaaaDoorW.PrintWords Go.Proofs.YtdohaocbhcniaaaDoorW.PrintLast

def bn (s : ByteArray) (i : Nat) : Nat := (bt s i).toNat
theorem bn_lt (s : ByteArray) (i : Nat) : bn s i < 256 := by have := bt_range s i; unfold bn; omega
theorem bn_bt (s : ByteArray) (i : Nat) : bt s i = ((bn s i : Nat) : Int) := by have := bt_range s i; unfold bn; omega
theorem bn_at (s : ByteArray) (i : Nat) (h : i < s.size) : bn s i = (s[i]'h).toNat := by
  unfold bn bt
  rw [dif_pos (by simpa using h)]
  simp
theorem bn_out (s : ByteArray) (i : Nat) (h : s.size ≤ i) : bn s i = 0 := by
  unfold bn bt
  rw [dif_neg (by simp; omega)]
  rfl
theorem bext {s t : ByteArray} (h : s.size = t.size) (hb : ∀ i, i < s.size → bn s i = bn t i) : s = t := by
  apply ByteArray.ext
  apply Array.ext h
  intro i h1 h2
  have e := hb i h1
  rw [bn_at s i h1, bn_at t i h2] at e
  exact UInt8.toNat_inj.1 e
theorem bn_extract (s : ByteArray) (a b i : Nat) (h : i < b - a) (hb : b ≤ s.size) : bn (s.extract a b) i = bn s (a + i) := by
  rw [bn_at _ i (by rw [ByteArray.size_extract]; omega), bn_at s (a + i) (by omega)]
  rw [ByteArray.getElem_extract]
theorem size_extract' (s : ByteArray) (a b : Nat) (hb : b ≤ s.size) : (s.extract a b).size = b - a := by rw [ByteArray.size_extract]; omega
theorem bn_append (s t : ByteArray) (i : Nat) : bn (s ++ t) i = if i < s.size then bn s i else bn t (i - s.size) := by
  by_cases h : i < s.size
  · rw [if_pos h, bn_at _ i (by rw [ByteArray.size_append]; omega), bn_at s i h, ByteArray.getElem_append_left h]
  · rw [if_neg h]
    by_cases h2 : i < s.size + t.size
    · rw [bn_at _ i (by rw [ByteArray.size_append]; omega), bn_at t _ (by omega), ByteArray.getElem_append_right (by omega)]
    · rw [bn_out _ i (by rw [ByteArray.size_append]; omega), bn_out t _ (by omega)]
theorem w64' (x : Int) (h : -9223372036854775808 ≤ x ∧ x ≤ 9223372036854775807) : wrap64 x = x := by unfold wrap64; omega
/-- The number of some bytes, the lowest first. -/
def leV (s : ByteArray) : Nat → Nat
  | 0 => 0
  | i + 1 => leV s i + bn s i * 256 ^ i
theorem leV_lt (s : ByteArray) : ∀ n, leV s n < 256 ^ n
  | 0 => by show 0 < 1; omega
  | n + 1 => by
    have h1 := leV_lt s n
    have h2 := bn_lt s n
    have h3 : bn s n * 256 ^ n ≤ 255 * 256 ^ n := Nat.mul_le_mul_right _ (by omega)
    show leV s n + bn s n * 256 ^ n < 256 ^ (n + 1)
    rw [Nat.pow_succ]
    omega
theorem leV_congr {s t : ByteArray} : ∀ n, (∀ i, i < n → bn s i = bn t i) → leV s n = leV t n
  | 0, _ => rfl
  | n + 1, h => by
    show leV s n + bn s n * 256 ^ n = leV t n + bn t n * 256 ^ n
    rw [leV_congr n (fun i hi => h i (by omega)), h n (by omega)]
/-- The same number, from the highest byte on. -/
def gV (s : ByteArray) (n : Nat) : Nat → Nat
  | 0 => 0
  | t + 1 => gV s n t * 256 + bn s (n - 1 - t)
theorem gV_le (s : ByteArray) (n : Nat) : ∀ t, t ≤ n → gV s n t * 256 ^ (n - t) + leV s (n - t) = leV s n
  | 0, _ => by simp [gV]
  | t + 1, h => by
    have ih := gV_le s n t (by omega)
    have e : n - t = (n - (t + 1)) + 1 := by omega
    rw [e] at ih
    show (gV s n t * 256 + bn s (n - 1 - t)) * 256 ^ (n - (t + 1)) + _ = _
    rw [← ih]
    show _ = gV s n t * 256 ^ (n - (t + 1) + 1) + (leV s (n - (t + 1)) + bn s (n - (t + 1)) * 256 ^ (n - (t + 1)))
    rw [show n - 1 - t = n - (t + 1) by omega, Nat.pow_succ, Nat.add_mul, Nat.mul_assoc, Nat.mul_comm 256]
    omega
theorem wraps_u64 (n : Int) (h₀ : 0 ≤ n) (h₁ : n < 2 ^ 64) : IntKind.u64.wrap n = n := by
  have h2 : n < 18446744073709551616 := by simpa using h₁
  simp [IntKind.wrap, IntKind.bits, IntKind.signed]
  omega
theorem or_u64 (x b : Nat) (hb : b < 256) (hx : x * 256 < 18446744073709551616) : Go.bits .or .u64 (IntKind.u64.wrap ((x : Int) * 256)) (IntKind.u64.wrap (b : Int)) = ((x * 256 + b : Nat) : Int) := by
  have q : (2 : Int) ^ 64 = 18446744073709551616 := by decide
  have q' : (2 : Nat) ^ 64 = 18446744073709551616 := by decide
  have w1 : IntKind.u64.wrap ((x : Int) * 256) = ((x * 256 : Nat) : Int) := by
    rw [show (x : Int) * 256 = ((x * 256 : Nat) : Int) by omega]
    exact wraps_u64 _ (by omega) (by omega)
  have w2 : IntKind.u64.wrap (b : Int) = (b : Int) := wraps_u64 _ (by omega) (by omega)
  rw [w1, w2, (bits_nat .u64 64 (by decide) wraps_u64 _ _ (by omega) (by omega)).2]
  have e : x * 256 ||| b = x * 256 + b := by
    have := Nat.shiftLeft_add_eq_or_of_lt (i := 8) (b := b) (by omega) x
    rw [Nat.shiftLeft_eq] at this
    exact this.symm
  rw [e]
theorem get_loop (s : ByteArray) (n : Nat) (hs : s.size = n) (h8 : n ≤ 8) : ∀ t k, t ≤ n → bits_Get.l0 (t + 1 + k) s ((gV s n (n - t) : Nat) : Int) ((t : Int) - 1) = some (((leV s n : Nat) : Int), 0)
  | 0, k, _ => by
    have e := gV_le s n n (Nat.le_refl _)
    rw [Nat.sub_self] at e
    have e2 : gV s n n = leV s n := by rw [← e]; simp [leV]
    rw [show 0 + 1 + k = k + 1 by omega, bits_Get.l0, if_neg (by omega), Nat.sub_zero, e2]
  | t + 1, k, h => by
    have hb : bt s (((t + 1 : Nat) : Int) - 1) = ((bn s t : Nat) : Int) := by rw [show ((t + 1 : Nat) : Int) - 1 = (t : Int) by omega]; exact bn_bt s t
    have hg := gV_le s n (n - (t + 1)) (by omega)
    have hlt := leV_lt s n
    have hlim : gV s n (n - (t + 1)) * 256 < 18446744073709551616 := by
      have p1 : 256 ^ n ≤ 256 ^ 8 := Nat.pow_le_pow_right (by decide) h8
      have p2 : 256 ^ 1 ≤ 256 ^ (n - (n - (t + 1))) := Nat.pow_le_pow_right (by decide) (by omega)
      have p3 : gV s n (n - (t + 1)) * 256 ≤ gV s n (n - (t + 1)) * 256 ^ (n - (n - (t + 1))) := Nat.mul_le_mul_left _ (by simpa using p2)
      have p4 : (256 : Nat) ^ 8 = 18446744073709551616 := by decide
      omega
    rw [show t + 1 + 1 + k = (t + 1 + k) + 1 by omega, bits_Get.l0, if_pos (by omega), if_pos (by omega), if_pos (by omega), hb, or_u64 _ _ (bn_lt s t) hlim]
    have e : gV s n (n - (t + 1)) * 256 + bn s t = gV s n (n - t) := by
      rw [show n - t = (n - (t + 1)) + 1 by omega]
      show _ = gV s n (n - (t + 1)) * 256 + bn s (n - 1 - (n - (t + 1)))
      rw [show n - 1 - (n - (t + 1)) = t by omega]
    rw [e, w64' _ (by omega), show ((t + 1 : Nat) : Int) - 1 - 1 = (t : Int) - 1 by omega]
    exact get_loop s n hs h8 t k (by omega)
theorem get_is (s : ByteArray) (h1 : 1 ≤ s.size) (h8 : s.size ≤ 8) (k : Nat) (hk : 12 ≤ k) : bits_Get.f k s = some (((leV s s.size : Nat) : Int), 0) := by
  obtain ⟨k, rfl⟩ : ∃ q, k = q + 12 := ⟨k - 12, by omega⟩
  unfold bits_Get.f
  rw [if_neg (by omega), show decide ((s.size : Int) > 8) = false from decide_eq_false (by omega), bits_Get.j0, if_neg (by decide), w64' _ (by omega)]
  have := get_loop s s.size rfl h8 s.size (k + 11 - s.size - 1) (Nat.le_refl _)
  rw [Nat.sub_self, show s.size + 1 + (k + 11 - s.size - 1) = k + 11 by omega] at this
  exact this
/-- The number of the bytes a to b. -/
def parts (s : ByteArray) (a b : Nat) : Nat := leV (s.extract a b) (b - a)
theorem bn_le (v : Int) (h0 : 0 ≤ v) : ∀ n i, i < n → bn (leStr v n) i = v.toNat / 256 ^ i % 256
  | 0, _, h => by omega
  | n + 1, i, h => by
    have hz : (leStr v (n + 1)).size = n + 1 := leStr_size v (n + 1)
    rw [bn_at _ i (by omega), ByteArray.getElem_eq_getElem_data]
    have e : (leBytes v (n + 1)) = leBytes v n ++ [UInt8.ofNat (v / 256 ^ n % 256).toNat] := rfl
    simp only [leStr, List.getElem_toArray, e]
    by_cases hi : i < n
    · rw [List.getElem_append_left (by rw [leBytes_length]; exact hi)]
      have := bn_le v h0 n i hi
      rw [bn_at _ i (by rw [leStr_size]; exact hi), ByteArray.getElem_eq_getElem_data] at this
      simpa [leStr] using this
    · obtain rfl : i = n := by omega
      rw [List.getElem_append_right (by rw [leBytes_length]; omega)]
      simp only [leBytes_length, Nat.sub_self, List.getElem_cons_zero]
      obtain ⟨u, rfl⟩ := Int.eq_ofNat_of_zero_le h0
      have e2 : ((u : Int) / 256 ^ i % 256).toNat = u / 256 ^ i % 256 := by
        have : ((u : Int) / 256 ^ i % 256) = ((u / 256 ^ i % 256 : Nat) : Int) := by rw [Int.natCast_emod, Int.natCast_ediv, Int.natCast_pow]; rfl
        rw [this, Int.toNat_natCast]
      rw [e2, UInt8.toNat_ofNat', Int.toNat_natCast, Nat.mod_eq_of_lt (by show _ < 256; omega)]
theorem leV_le (v : Nat) (n : Nat) : ∀ m, m ≤ n → leV (leStr (v : Int) n) m = v % 256 ^ m
  | 0, _ => by show 0 = v % 1; omega
  | m + 1, h => by
    show leV (leStr (v : Int) n) m + bn (leStr (v : Int) n) m * 256 ^ m = _
    rw [leV_le v n m (by omega), bn_le (v : Int) (by omega) n m (by omega), Int.toNat_natCast, Nat.pow_succ, Nat.mod_mul, Nat.mul_comm (256 ^ m)]
/-- The record of nine bytes. -/
def takeR (s : ByteArray) : S30 := ⟨(bn s 0 : Nat), (parts s 1 3 : Nat), (parts s 3 9 : Nat)⟩
theorem rpart_is (s : ByteArray) (h1 : 1 ≤ s.size) (h7 : s.size ≤ 7) (k : Nat) (hk : 12 ≤ k) : rec_part.f k s = some (((leV s s.size : Nat) : Int)) := by
  have hlt := leV_lt s s.size
  have p1 : (256 : Nat) ^ s.size ≤ 256 ^ 7 := Nat.pow_le_pow_right (by decide) h7
  have p4 : (256 : Nat) ^ 7 = 72057594037927936 := by decide
  unfold rec_part.f
  rw [get_is s h1 (by omega) k hk, Option.bind_some, w64' _ (by constructor <;> simp only <;> omega)]
theorem take_is (s : ByteArray) (hs : s.size = 9) (k : Nat) (hk : 20 ≤ k) : rec_Take.f k s = if mayR (takeR s) then some ((takeR s).f0, (takeR s).f1, (takeR s).f2, (0 : Int)) else some ((0 : Int), (0 : Int), (0 : Int), (3 : Int)) := by
  have z1 := size_extract' s 0 1 (by omega)
  have z2 := size_extract' s 1 3 (by omega)
  have z3 := size_extract' s 3 9 (by omega)
  have e1 : leV (s.extract 0 1) 1 = bn s 0 := by
    show leV (s.extract 0 1) 0 + bn (s.extract 0 1) 0 * 256 ^ 0 = bn s 0
    rw [bn_extract s 0 1 0 (by omega) (by omega)]
    show 0 + bn s (0 + 0) * 1 = bn s 0
    rw [Nat.zero_add, Nat.mul_one]
  unfold rec_Take.f
  obtain ⟨q, rfl⟩ : ∃ q, k = q + 2 := ⟨k - 2, by omega⟩
  rw [if_pos (by omega), if_pos (by decide), if_pos (by omega), rpart_is _ (by omega) (by omega) _ (by omega), Option.bind_some, if_pos (by decide), if_pos (by omega), rpart_is _ (by omega) (by omega) _ (by omega), Option.bind_some, hs, rpart_is _ (by omega) (by omega) _ (by omega), Option.bind_some, z1, z2, z3, e1]
  have hm := rmay_is (takeR s) q
  have hm' : rec_May.f (q + 2) ((bn s 0 : Nat) : Int) ((leV (s.extract 1 3) (3 - 1) : Nat) : Int) ((leV (s.extract 3 9) (9 - 3) : Nat) : Int) = some (decide (mayR (takeR s))) := hm
  rw [show (1 - 0 : Nat) = 1 from rfl] at *
  rw [hm', Option.bind_some]
  by_cases h : mayR (takeR s)
  · rw [decide_eq_true h, if_pos rfl, if_pos h]
    rfl
  · rw [decide_eq_false h, if_neg (by decide), if_neg h]
theorem rec_bn (x : S30) (i : Nat) : bn (recS x) i = if i < 1 then bn (leStr x.f0 1) i else if i < 3 then bn (leStr x.f1 2) (i - 1) else bn (leStr x.f2 6) (i - 3) := by
  unfold recS
  simp only [bn_append, ByteArray.size_append, leStr_size]
  repeat' split
  all_goals first | omega | rfl | (congr 1)
theorem le_back (v : Int) (n : Nat) (h0 : 0 ≤ v) (h : v < 256 ^ n) (s : ByteArray) (a : Nat) (hb : a + n ≤ s.size) (hi : ∀ i, i < n → bn s (a + i) = bn (leStr v n) i) : ((parts s a (a + n) : Nat) : Int) = v := by
  obtain ⟨u, rfl⟩ := Int.eq_ofNat_of_zero_le h0
  have hu : u < 256 ^ n := Int.ofNat_lt.1 (by rw [Int.natCast_pow]; exact h)
  unfold parts
  rw [show a + n - a = n by omega, leV_congr (t := leStr (u : Int) n) n (fun i h => by rw [bn_extract _ a (a + n) i (by omega) hb]; exact hi i h), leV_le u n n (Nat.le_refl _), Nat.mod_eq_of_lt hu]
theorem take_rec (x : S30) (h : mayR x) : takeR (recS x) = x := by
  have hs := mayR_sizes h
  have hz := recS_size x
  have q1 : (256 : Int) ^ 1 = 256 := by decide
  have q2 : (256 : Int) ^ 2 = 65536 := by decide
  have q6 : (256 : Int) ^ 6 = 281474976710656 := by decide
  have e1 : ((parts (recS x) 0 1 : Nat) : Int) = x.f0 := le_back x.f0 1 (by omega) (by rw [q1]; omega) (recS x) 0 (by omega) (fun i hi => by rw [rec_bn, if_pos (by omega), Nat.zero_add])
  have e2 : ((parts (recS x) 1 3 : Nat) : Int) = x.f1 := le_back x.f1 2 (by omega) (by rw [q2]; omega) (recS x) 1 (by omega) (fun i hi => by rw [rec_bn, if_neg (by omega), if_pos (by omega), show 1 + i - 1 = i by omega])
  have e3 : ((parts (recS x) 3 9 : Nat) : Int) = x.f2 := le_back x.f2 6 (by omega) (by rw [q6]; omega) (recS x) 3 (by omega) (fun i hi => by rw [rec_bn, if_neg (by omega), if_neg (by omega), show 3 + i - 3 = i by omega])
  have e0 : ((parts (recS x) 0 1 : Nat) : Int) = ((bn (recS x) 0 : Nat) : Int) := by
    unfold parts
    show ((0 + bn ((recS x).extract 0 1) 0 * 1 : Nat) : Int) = _
    rw [bn_extract _ 0 1 0 (by omega) (by omega), Nat.zero_add, Nat.mul_one]
  unfold takeR
  rw [← e0, e1, e2, e3]
end Go.Proofs.YtdohaocbhcniaaaDoor.PG
end

section
/- strings.Trim by one byte, and a record taken, as sheets meet them. -/
set_option linter.unusedVariables false
set_option linter.unusedSimpArgs false
namespace Go.Proofs.YtdohaocbhcniaaaDoor.PG
open Go.RowKit Go.Shelf Go.Proofs.YtdohaocbhcniaaaDoor.Tf Go.Proofs.YtdohaocbhcniaaaDoorW.PrintWords Go.Proofs.YtdohaocbhcniaaaDoorW.PrintLast Go.Proofs.YtdohaocbhcniaaaDoor.Mem Go.Proofs.YtdohaocbhcniaaaDoor.Own Go.Proofs.YtdohaocbhcniaaaDoor.Hw

/-- All bytes are noughts. -/
def allZ (s : ByteArray) : Prop := ∀ i : Nat, i < s.size → bt s i = 0
theorem bt_ext (s : ByteArray) (a b i : Nat) (hb : b ≤ s.size) (hi : a + i < b) : bt (s.extract a b) i = bt s ((a + i : Nat) : Int) := by
  have hz : (s.extract a b).size = b - a := by rw [ByteArray.size_extract]; omega
  unfold bt
  rw [dif_pos (by rw [Int.toNat_natCast, hz]; omega), dif_pos (by rw [Int.toNat_natCast]; omega)]
  congr 1
  simp only [Int.toNat_natCast]
  rw [ByteArray.getElem_extract]
theorem allZ_nil {s : ByteArray} (h : s.size = 0) : allZ s := fun i hi => by omega
/-- The noughts at the end struck: what is left is nothing just where all were noughts. -/
theorem right_is : ∀ (n : Nat) (s : ByteArray) (k : Nat), s.size = n → n ≤ 1000000 → ∃ t, strings_trimRightByte.l0 (n + 1 + k) s 0 = some t ∧ t.size ≤ n ∧ (allZ t ↔ allZ s) ∧ (t.size = 0 ∨ bt t ((t.size - 1 : Nat) : Int) ≠ 0)
  | 0, s, k, h, _ => ⟨s, by rw [show 0 + 1 + k = k + 1 by omega, strings_trimRightByte.l0, if_neg (by omega)], by omega, Iff.rfl, .inl h⟩
  | n + 1, s, k, h, hn => by
    have e1 : wrap64 ((s.size : Int) - 1) = (n : Int) := by unfold wrap64; omega
    rw [show n + 1 + 1 + k = (n + 1 + k) + 1 by omega, strings_trimRightByte.l0, if_pos (by omega), e1, if_pos (by omega), if_pos (by omega)]
    by_cases hb : bt s (n : Int) = 0
    · have hz : (s.extract 0 n).size = n := by rw [ByteArray.size_extract]; omega
      obtain ⟨t, h1, h2, h3, h4⟩ := right_is n (s.extract 0 n) k hz (by omega)
      refine ⟨t, by rw [if_pos hb, if_pos (by omega), Int.toNat_natCast]; exact h1, by omega, h3.trans ⟨fun q i hi => ?_, fun q i hi => ?_⟩, h4⟩
      · by_cases e : i = n
        · rw [e]; exact hb
        · have := q i (by omega)
          rw [bt_ext s 0 n i (by omega) (by omega), Nat.zero_add] at this
          exact this
      · rw [bt_ext s 0 n i (by omega) (by omega), Nat.zero_add]
        exact q i (by omega)
    · exact ⟨s, by rw [if_neg hb], by omega, Iff.rfl, .inr (by rw [h]; exact hb)⟩
theorem left_is : ∀ (n : Nat) (s : ByteArray) (k : Nat), s.size = n → n ≤ 1000000 → (s.size = 0 ∨ bt s ((s.size - 1 : Nat) : Int) ≠ 0) → ∃ t, strings_trimLeftByte.l0 (n + 1 + k) s 0 = some t ∧ (t.size = 0 ↔ s.size = 0)
  | 0, s, k, h, _, _ => ⟨s, by rw [show 0 + 1 + k = k + 1 by omega, strings_trimLeftByte.l0, if_neg (by omega)], Iff.rfl⟩
  | n + 1, s, k, h, hn, hl => by
    rw [show n + 1 + 1 + k = (n + 1 + k) + 1 by omega, strings_trimLeftByte.l0, if_pos (by omega), if_pos (by omega)]
    by_cases hb : bt s 0 = 0
    · have hz : (s.extract 1 s.size).size = n := by rw [ByteArray.size_extract]; omega
      have hl' : bt s ((s.size - 1 : Nat) : Int) ≠ 0 := by rcases hl with q | q; omega; exact q
      have hn0 : n ≠ 0 := fun e => hl' (by rw [show s.size - 1 = 0 by omega]; exact hb)
      obtain ⟨t, h1, h2⟩ := left_is n (s.extract 1 s.size) k hz (by omega) (.inr (by
        rw [hz, bt_ext s 1 s.size (n - 1) (Nat.le_refl _) (by omega), show 1 + (n - 1) = s.size - 1 by omega]
        exact hl'))
      exact ⟨t, by rw [if_pos hb, if_pos (by omega)]; exact h1, h2.trans (by omega)⟩
    · exact ⟨s, by rw [if_neg hb], Iff.rfl⟩
def zb : ByteArray := ⟨#[0]⟩
set_option maxHeartbeats 4000000 in
set_option maxRecDepth 100000 in
theorem trim_calls (s : ByteArray) (w : World) (hs : s.size ≤ 1000000) :
    Calls Tryd.prog 32 #[.string s, .string zb] w fun e w' => (∃ t : ByteArray, e = .returned (.string t) ∧ (t.size = 0 ↔ allZ s)) ∧ Below w.heap.size w w' := by
  by_cases h0 : s.size = 0
  · have he : s.toList.isEmpty = true := by
      rw [ByteArray.toList_eq, List.isEmpty_iff, ← List.length_eq_zero_iff]
      exact h0
    have hq : ∃ t : ByteArray, t = s := ⟨_, rfl⟩
    go_enter Tryd.func32, Tryd.ntmps32
    go_wp2_with fail
    go_ret
    exact ⟨⟨s, rfl, ⟨fun _ => allZ_nil h0, fun _ => h0⟩⟩, Below.refl _ _⟩
  · have he : s.toList.isEmpty = false := by
      rw [ByteArray.toList_eq]
      cases hx : s.data.toList with
      | nil => exact absurd (by show s.data.size = 0; rw [← Array.length_toList, hx]; rfl) h0
      | cons a l => rfl
    obtain ⟨t, r1, r2, r3, r4⟩ := right_is s.size s 0 rfl hs
    obtain ⟨u, l1, l2⟩ := left_is t.size t 0 rfl (by omega) r4
    have HR := Aside0.mk r1
    have HL := Aside0.mk l1
    have hu : u.size = 0 ↔ allZ s := l2.trans ⟨fun q => r3.1 (allZ_nil q), fun q => by
      rcases r4 with z | z
      · exact z
      · by_cases hz : t.size = 0
        · exact hz
        · exact absurd (r3.2 q _ (by omega)) z⟩
    have HU := Aside0.mk hu
    clear r1 l1 r2 r3 r4 l2 hu
    have z1 : zb.toList.isEmpty = false := by rw [ByteArray.toList_eq]; rfl
    have z2 : zb.size = 1 := rfl
    have z3 : decide (((zb[0]'(by decide)).toNat : Int) < 128) = true := rfl
    go_enter Tryd.func32, Tryd.ntmps32
    go_upto_region 4 with (fail)
    refine start_ (n := 8) (S := fun w' => True) (ds := []) (tfA 0 8) (by kernel_rfl) rfl rfl trivial (fun hHeld => ?_)
    refine pure_ (i := 0) (N := some 22) (v := ?_) (a' := ?_) (tfA 1 8) rfl rfl (by kernel_rfl) (fun _ _ _ h => h) (Or.inl ⟨by rfl, ?_⟩) ?_ ?_
    rotate_left
    · intro w'
      go_simp
      with_reducible rfl
    rotate_left
    · simp only [Act.put, List.setIfInBounds_toArray, List.set_cons_zero, List.set_cons_succ, i64_w, i32_w]
      rfl
    refine pure_ (i := 1) (N := some 23) (v := ?_) (a' := ?_) (tfA 2 8) rfl rfl (by kernel_rfl) (fun _ _ _ h => h) (Or.inl ⟨by rfl, ?_⟩) ?_ ?_
    rotate_left
    · intro w'
      go_simp
      with_reducible rfl
    rotate_left
    · simp only [Act.put, List.setIfInBounds_toArray, List.set_cons_zero, List.set_cons_succ, i64_w, i32_w]
      rfl
    refine pure_ (i := 4) (N := some 26) (v := ?_) (a' := ?_) #[true, true, false, false, true, false, false, false] rfl rfl (by kernel_rfl) (fun _ _ _ h => h) (Or.inl ⟨by rfl, ?_⟩) ?_ ?_
    rotate_left
    · intro w'
      go_simp
      with_reducible rfl
    rotate_left
    · simp only [Act.put, List.setIfInBounds_toArray, List.set_cons_zero, List.set_cons_succ, i64_w, i32_w]
      rfl
    refine take_ (i := 2) (N := some 24) (v := ?_) (a' := ?_) #[true, true, true, false, true, false, false, false] rfl rfl (by kernel_rfl) (fun _ _ _ h => h) (Or.inl ⟨by rfl, ?_⟩) hHeld ?_ ?_
    rotate_left
    · intro w' _
      go_simp
      with_reducible rfl
    rotate_left
    · simp only [Act.put, List.setIfInBounds_toArray, List.set_cons_zero, List.set_cons_succ, i64_w, i32_w]
      rfl
    refine take_ (i := 5) (N := some 27) (v := ?_) (a' := ?_) #[true, true, true, false, true, true, false, false] rfl rfl (by kernel_rfl) (fun _ _ _ h => h) (Or.inl ⟨by rfl, ?_⟩) hHeld ?_ ?_
    rotate_left
    · intro w' _
      go_simp
      with_reducible rfl
    rotate_left
    · simp only [Act.put, List.setIfInBounds_toArray, List.set_cons_zero, List.set_cons_succ, i64_w, i32_w]
      rfl
    refine one_ (i := 3) (N := some 25) (tfA 6 8) rfl rfl (by kernel_rfl) (by decide) (fun K hK => ?_)
    refine goes_ Tryd.func62 (by kernel_rfl) rfl #[.string s, .int .u8 0] (by rfl) rfl rfl (by simp only [List.map_toArray, List.map_cons, List.map_nil]; rfl) ?_
    refine (strings_trimRightByte.calls _ s 0 t _ HR.out).mono ?_
    rintro e w1 ⟨rfl, hb1⟩
    refine ⟨_, rfl, ?_⟩
    refine hK.out _ _ trivial (fun hHeld => ?_)
    clear hK K
    refine norm_ (a' := ?_) ?_ ?_
    rotate_left
    · show Act.put _ (some 25) _ = _
      simp only [Act.put, List.setIfInBounds_toArray, List.set_cons_zero, List.set_cons_succ, i64_w, i32_w]
      rfl
    refine one_ (i := 6) (N := some 28) (tfA 7 8) rfl rfl (by kernel_rfl) (by decide) (fun K hK => ?_)
    refine goes_ Tryd.func61 (by kernel_rfl) rfl #[.string t, .int .u8 0] (by rfl) rfl rfl (by simp only [List.map_toArray, List.map_cons, List.map_nil]; rfl) ?_
    refine (strings_trimLeftByte.calls _ t 0 u _ HL.out).mono ?_
    rintro e w2 ⟨rfl, hb2⟩
    refine ⟨_, rfl, ?_⟩
    refine hK.out _ _ trivial (fun hHeld => ?_)
    clear hK K
    refine norm_ (a' := ?_) ?_ ?_
    rotate_left
    · show Act.put _ (some 28) _ = _
      simp only [Act.put, List.setIfInBounds_toArray, List.set_cons_zero, List.set_cons_succ, i64_w, i32_w]
      rfl
    refine pure_ (i := 7) (N := some 4) (v := ?_) (a' := ?_) (tfA 8 8) rfl rfl (by kernel_rfl) (fun _ _ _ h => h) (Or.inl ⟨by rfl, ?_⟩) ?_ ?_
    rotate_left
    · intro w'
      go_simp
      with_reducible rfl
    rotate_left
    · simp only [Act.put, List.setIfInBounds_toArray, List.set_cons_zero, List.set_cons_succ, i64_w, i32_w]
      rfl
    refine done_ (by kernel_rfl) ?_
    go_wp2_with fail
    go_ret
    exact ⟨⟨u, rfl, HU.out⟩, (((Own.new w).drew.move hb1.below).move hb2.below).below⟩
end Go.Proofs.YtdohaocbhcniaaaDoor.PG
end

section
/- Records in plain words: which may be, the document says likewise. -/
set_option linter.unusedVariables false
set_option linter.unusedSimpArgs false
namespace Go.Proofs.YtdohaocbhcniaaaDoor.PG
open Go.RowKit Go.Proofs.YtdohaocbhcniaaaDoor.Hw Go.Proofs.YtdohaocbhcniaaaDoorW.PrintWords Go.Proofs.YtdohaocbhcniaaaDoorW.PrintLast

theorem refmay_is (x : S30) (k : Nat) : deckleref11_May.f (k + 1) x.f0 x.f1 x.f2 = some (decide (mayR x)) := by
  have main : ∀ b : Bool, b = decide (x.f0 = 1 ∨ x.f0 = 2) → deckleref11_May.j0 (k + 1) b x.f0 x.f1 x.f2 = some (decide (mayR x)) := by
    intro b hb
    rw [deckleref11_May.j0, hb]
    by_cases h : x.f0 = 1 ∨ x.f0 = 2
    · rw [decide_eq_true h, if_pos rfl]
      repeat' split
      all_goals first
        | (rw [decide_eq_false]; unfold mayR; omega)
        | (congr 1; refine decide_eq_decide.2 ⟨fun g => ?_, ?_⟩ <;> unfold mayR <;> omega)
    · rw [decide_eq_false h, if_neg (by decide)]
      repeat' split
      all_goals first
        | (exfalso; omega)
        | (rw [decide_eq_false]; unfold mayR; omega)
        | (rw [decide_eq_true]; unfold mayR; omega)
        | (congr 1; refine decide_eq_decide.2 ⟨fun g => ?_, ?_⟩ <;> unfold mayR <;> omega)
  unfold deckleref11_May.f
  by_cases h : x.f0 = 1
  · rw [if_pos h]
    exact main _ (decide_eq_true (.inl h)).symm
  · rw [if_neg h]
    refine main _ ?_
    by_cases h2 : x.f0 = 2
    · rw [beq_iff_eq.2 h2]; exact (decide_eq_true (.inr h2)).symm
    · rw [beq_eq_false_iff_ne.2 h2]; exact (decide_eq_false (by omega)).symm
end Go.Proofs.YtdohaocbhcniaaaDoor.PG
end
