/- The law's proof: words, contracts of the functions that it reaches, plain lemmas. -/
import Derived.Test.YtdohaocbhcniaaaSp6
import Derived.Test.YtdohaocbhcniaaaSp8
section
-- Written by a program (the kit's print.py, called by wip/bin/prseat.sh, mended by wip/bin/mend.py).
namespace Go.Proofs.Ytdohaocbhcniaaa.PG
open Go.RowKit Go.Proofs.YtdohaocbhcniaaaW.PrintWords Go.Proofs.YtdohaocbhcniaaaW.PrintLast Go.Proofs.YtdohaocbhcniaaaW.PrintMore
attribute [local go_sem] max2_int min2_int max_two min_two max_three min_three max_four min_four   -- for this text's walks alone
set_option linter.unusedVariables false
set_option linter.unusedSimpArgs false

/-! ### rec_number: function 23 -/
def rec_number.f (a0 : Int) (a1 : Int) : Option (ByteArray) := (bits_Put.f (IntKind.u64.wrap (a0)) a1).bind fun bt108 => (some bt108.1)
set_option maxHeartbeats 8000000 in
set_option maxRecDepth 100000 in
theorem rec_number.calls (a0 : Int) (a1 : Int) (r : ByteArray) (w : World) (h : rec_number.f a0 a1 = some r) :
    Calls Try.prog 23 #[.int .i64 a0, .int .i64 a1] w fun e w' => e = .returned (.string r) ∧ Below w.heap.size w w' := by
  have HB := Aside0.mk (Below.refl w.heap.size w)
  have H : ((bits_Put.f (IntKind.u64.wrap (a0)) a1).bind fun bt108 => (some bt108.1)) = some r := h
  clear h
  replace H := Option.bind_eq_some_iff.mp H
  obtain ⟨⟨t108, t109⟩, A30, H⟩ := H
  replace H : (some t108) = some r := H
  have A3 := Aside0.mk A30
  clear A30
  obtain rfl := Option.some.inj H
  go_enter Try.func23, Try.ntmps23
  go_wp2_with (first | ((with_reducible refine gate_callee (f := 30) rfl ?_); refine goesL_ (some 11) rfl rfl Try.func30 (by kernel_rfl) rfl #[.int .u64 (IntKind.u64.wrap (a0)), .int .i64 a1] rfl (by (try simp only [List.map_toArray, List.map_cons, List.map_nil]); first | done | rfl | (simp only [List.length_drop, List.length_take]; rfl)) ?_; (with_reducible refine (bits_Put.calls (IntKind.u64.wrap (a0)) a1 t108 t109 _ A3.out).mono ?_); rintro e w4 ⟨rfl, hb⟩; refine ⟨_, rfl, ?_⟩; have n0_ := Aside0.mk (below_step (by repeat (first | (with_reducible first | exact HB.out | apply below_alloc | apply pw_below_drewN | apply below_drew1) | exact HB.out)) hb); clear HB; have HB := n0_; clear n0_; (try clear hb); (try clear hb2); (try clear hk); (try clear hi)))
  go_ret
  exact ⟨by first | rfl | (simp [errW_none, errW_some] <;> rfl) | (simp [*, errW_none, errW_some] <;> rfl), by repeat (first | (with_reducible first | exact HB.out | apply below_alloc | apply pw_below_drewN | apply below_drew1) | exact HB.out)⟩

end Go.Proofs.Ytdohaocbhcniaaa.PG
end

section
-- Written by a program (the kit's print.py, called by wip/bin/prseat.sh, mended by wip/bin/mend.py).
namespace Go.Proofs.Ytdohaocbhcniaaa.PG
open Go.RowKit Go.Proofs.YtdohaocbhcniaaaW.PrintWords Go.Proofs.YtdohaocbhcniaaaW.PrintLast Go.Proofs.YtdohaocbhcniaaaW.PrintMore
attribute [local go_sem] max2_int min2_int max_two min_two max_three min_three max_four min_four   -- for this text's walks alone
set_option linter.unusedVariables false
set_option linter.unusedSimpArgs false

/-! ### rec_Put: function 14 -/
def rec_Put.f (k : Nat) (a0_0 : Int) (a0_1 : Int) (a0_2 : Int) : Option (ByteArray × Int) := (rec_May.f k a0_0 a0_1 a0_2).bind fun t111 => (if t111 = true then ((rec_number.f a0_0 1).bind fun t112 => ((rec_number.f a0_1 2).bind fun t113 => (if t112.size + t113.size ≤ 9223372036854775807 then ((rec_number.f a0_2 6).bind fun t114 => (if (t112 ++ t113).size + t114.size ≤ 9223372036854775807 then (some ((t112 ++ t113) ++ t114, 0)) else (none))) else (none)))) else (some ((⟨#[]⟩ : ByteArray), 110)))
theorem rec_Put.mono : ∀ a0 a1 a2 k, LeO (rec_Put.f k a0 a1 a2) (rec_Put.f (k + 1) a0 a1 a2) := by
  intro a0 a1 a2 k
  unfold rec_Put.f
  repeat' first
      | (with_reducible exact rec_May.mono _ _ _ _)
      | (with_reducible exact LeO.refl _)
      | (with_reducible exact LeO.none _)
      | (with_reducible refine LeO.ite ?_ ?_)
      | (with_reducible refine LeO.bind ?_ (fun _ => ?_))
      | exact rec_May.mono _ _ _ _
      | exact LeO.none _
      | refine LeO.ite ?_ ?_
      | refine LeO.bind ?_ (fun _ => ?_)
def rec_Put.T3 : Bool × List (List Nat × List Nat) := (true, [([], []), ([0], [0]), ([1], [1]), ([], []), ([3], [3]), ([4, 2], [4]), ([2, 5], [2, 5]), ([], []), ([7], [7]), ([8, 5], [8]), ([6, 9], [6, 9]), ([10, 9, 0, 1, 2, 3, 4, 5, 6, 7, 8, 9, 10], [10]), ([11, 0, 1, 2, 3, 4, 5, 6, 7, 8, 9, 10, 11], [])])
def rec_Put.B3 : List Nat := [0, 1, 3, 0, 8, 31, 63, 0, 128, 447, 1023, 2047, 4095]
theorem rec_Put.tab3 : rtab .any (opsOf Try.f14 3) = rec_Put.T3 := by kernel_rfl
theorem rec_Put.bits3 : waitsOk rec_Put.T3.2 rec_Put.B3 = true := by kernel_rfl
set_option maxHeartbeats 8000000 in
set_option maxRecDepth 100000 in
theorem rec_Put.calls (k : Nat) (a0_0 : Int) (a0_1 : Int) (a0_2 : Int) (r1 : ByteArray) (r2 : Int) (w : World) (h : rec_Put.f k a0_0 a0_1 a0_2 = some (r1, r2)) :
    Calls Try.prog 14 #[.agg #[.int .i64 a0_0, .int .i64 a0_1, .int .i64 a0_2]] w fun e w' => e = .returned (.tuple #[.string r1, .int .i64 r2]) ∧ Below w.heap.size w w' := by
  have hu33 := Try.underlying33
  have HB := Aside0.mk (Below.refl w.heap.size w)
  have H : ((rec_May.f k a0_0 a0_1 a0_2).bind fun t111 => (if t111 = true then ((rec_number.f a0_0 1).bind fun t112 => ((rec_number.f a0_1 2).bind fun t113 => (if t112.size + t113.size ≤ 9223372036854775807 then ((rec_number.f a0_2 6).bind fun t114 => (if (t112 ++ t113).size + t114.size ≤ 9223372036854775807 then (some ((t112 ++ t113) ++ t114, 0)) else (none))) else (none)))) else (some ((⟨#[]⟩ : ByteArray), 110)))) = some (r1, r2) := h
  clear h
  replace H := Option.bind_eq_some_iff.mp H
  obtain ⟨t111, A20, H⟩ := H
  replace H : (if t111 = true then ((rec_number.f a0_0 1).bind fun t112 => ((rec_number.f a0_1 2).bind fun t113 => (if t112.size + t113.size ≤ 9223372036854775807 then ((rec_number.f a0_2 6).bind fun t114 => (if (t112 ++ t113).size + t114.size ≤ 9223372036854775807 then (some ((t112 ++ t113) ++ t114, 0)) else (none))) else (none)))) else (some ((⟨#[]⟩ : ByteArray), 110))) = some (r1, r2) := H
  have A2 := Aside0.mk A20
  clear A20
  by_cases c3 : t111 = true
  · subst c3
    have H1 : ((rec_number.f a0_0 1).bind fun t112 => ((rec_number.f a0_1 2).bind fun t113 => (if t112.size + t113.size ≤ 9223372036854775807 then ((rec_number.f a0_2 6).bind fun t114 => (if (t112 ++ t113).size + t114.size ≤ 9223372036854775807 then (some ((t112 ++ t113) ++ t114, 0)) else (none))) else (none)))) = some (r1, r2) := by rw [if_pos rfl] at H; exact H
    clear H
    have H := H1
    clear H1
    replace H := Option.bind_eq_some_iff.mp H
    obtain ⟨t112, A40, H⟩ := H
    replace H : ((rec_number.f a0_1 2).bind fun t113 => (if t112.size + t113.size ≤ 9223372036854775807 then ((rec_number.f a0_2 6).bind fun t114 => (if (t112 ++ t113).size + t114.size ≤ 9223372036854775807 then (some ((t112 ++ t113) ++ t114, 0)) else (none))) else (none))) = some (r1, r2) := H
    have A4 := Aside0.mk A40
    clear A40
    replace H := Option.bind_eq_some_iff.mp H
    obtain ⟨t113, A50, H⟩ := H
    replace H : (if t112.size + t113.size ≤ 9223372036854775807 then ((rec_number.f a0_2 6).bind fun t114 => (if (t112 ++ t113).size + t114.size ≤ 9223372036854775807 then (some ((t112 ++ t113) ++ t114, 0)) else (none))) else (none)) = some (r1, r2) := H
    have A5 := Aside0.mk A50
    clear A50
    by_cases c6 : t112.size + t113.size ≤ 9223372036854775807
    · rw [if_pos c6] at H
      have c6b0 := eq_true c6
      have c6b1 : decide (t112.size + t113.size ≤ 9223372036854775807) = true := decide_eq_true c6
      try have c6b2 : (9223372036854775807 < t112.size + t113.size) = False := eq_false (Nat.not_lt.2 c6)
      replace H := Option.bind_eq_some_iff.mp H
      obtain ⟨t114, A70, H⟩ := H
      replace H : (if (t112 ++ t113).size + t114.size ≤ 9223372036854775807 then (some ((t112 ++ t113) ++ t114, 0)) else (none)) = some (r1, r2) := H
      have A7 := Aside0.mk A70
      clear A70
      by_cases c8 : (t112 ++ t113).size + t114.size ≤ 9223372036854775807
      · rw [if_pos c8] at H
        have c8b0 := eq_true c8
        have c8b1 : decide ((t112 ++ t113).size + t114.size ≤ 9223372036854775807) = true := decide_eq_true c8
        try have c8b2 : (9223372036854775807 < (t112 ++ t113).size + t114.size) = False := eq_false (Nat.not_lt.2 c8)
        try (have c8b3 := c8b2; simp only [ByteArray.size_append] at c8b3)
        simp only [Option.some.injEq, Prod.mk.injEq] at H
        obtain ⟨rfl, rfl⟩ := H
        go_enter Try.func14, Try.ntmps14
        try go_wp2_with (first | ((with_reducible refine gate_dst (N := 1) rfl ?_); refine box_event ?hg (N := 1) ?hd (cs := #[.int .i64 a0_0, .int .i64 a0_1, .int .i64 a0_2]) (t := 33) ?hr ?_; (case hd => rfl); (case hg => rfl); (case hr => first | (go_simp; done) | (go_simp; rfl)); intro gb110 hg w9 hbox hb; have n0_ := Aside0.mk (below_step (by repeat (first | (with_reducible first | exact HB.out | apply below_alloc | apply pw_below_drewN | apply below_drew1) | exact HB.out)) hb); have n1_ := Aside0.mk (hbox); have n2_ := Aside0.mk ((by rw [hg]; exact (below_size (by repeat (first | (with_reducible first | exact HB.out | apply below_alloc | apply pw_below_drewN | apply below_drew1) | exact HB.out))) : w.heap.size ≤ gb110)); have n3_ := Aside0.mk ((by rw [hg]; exact (below_size (by repeat (first | (with_reducible first | exact HB.out | apply below_alloc | apply pw_below_drewN | apply below_drew1) | exact HB.out))) : w.heap.size ≤ gb110)); clear HB; have HB := n0_; have BK110 := n1_; have GW110 := n2_; have GE110 := n3_; clear n0_ n1_ n2_ n3_; clear hb hbox hg; have hcz10_0 : w9.cell? ⟨gb110, 0, none⟩ = some (.int .i64 a0_0) := (blk_cell BK110.out 0).trans rfl; have hcz10_1 : w9.cell? ⟨gb110, 1, none⟩ = some (.int .i64 a0_1) := (blk_cell BK110.out 1).trans rfl; have hcz10_2 : w9.cell? ⟨gb110, 2, none⟩ = some (.int .i64 a0_2) := (blk_cell BK110.out 2).trans rfl; have hfz10_0 := blk_frozen BK110.out 0; have hfz10_1 := blk_frozen BK110.out 1; have hfz10_2 := blk_frozen BK110.out 2) | ((with_reducible refine gate_callee (f := 22) rfl ?_); refine goesL_ (some 5) rfl rfl Try.func22 (by kernel_rfl) rfl #[.agg #[.int .i64 a0_0, .int .i64 a0_1, .int .i64 a0_2]] rfl (by (try simp only [List.map_toArray, List.map_cons, List.map_nil]); first | done | rfl | (simp only [List.length_drop, List.length_take]; rfl)) ?_; (with_reducible refine (rec_May.calls k a0_0 a0_1 a0_2 true _ A2.out).mono ?_); rintro e w11 ⟨rfl, hb⟩; refine ⟨_, rfl, ?_⟩; have n0_ := Aside0.mk (blk_below (g := gb110) (o := .cells #[.int .i64 a0_0, .int .i64 a0_1, .int .i64 a0_2] 33 (0, 0)) (by (with_reducible repeat (first | refine blk_drewN ?_ _ | refine blk_drew ?_ | refine blk_alloc ?_ _)); exact BK110.out) hb); have n1_ := Aside0.mk (below_step (by repeat (first | (with_reducible first | exact HB.out | apply below_alloc | apply pw_below_drewN | apply below_drew1 | refine below_set ?_ GE110.out) | exact HB.out)) hb); clear BK110; clear HB; have BK110 := n0_; have HB := n1_; clear n0_ n1_; (try clear hb); (try clear hb2); (try clear hk); (try clear hi)))
        have n0_ := Aside0.mk (blk_drew BK110.out)
        have n1_ := Aside0.mk (below_drew1 HB.out)
        clear BK110
        clear HB
        have BK110 := n0_
        have HB := n1_
        clear n0_ n1_
        refine start_ (n := 13) (S := fun w' => w'.cell? ⟨gb110, 0, none⟩ = some (.int .i64 a0_0) ∧ w'.cell? ⟨gb110, 1, none⟩ = some (.int .i64 a0_1) ∧ w'.cell? ⟨gb110, 2, none⟩ = some (.int .i64 a0_2)) (ds := []) #[false, false, false, false, false, false, false, false, false, false, false, false, false] (by kernel_rfl) rfl rfl ⟨(blk_cell BK110.out 0).trans rfl, (blk_cell BK110.out 1).trans rfl, (blk_cell BK110.out 2).trans rfl⟩ (fun hHeld => ?_); refine with_tabW rec_Put.tab3 rec_Put.bits3 (fun HT_ HW_ => ?_)
        generalize w11.drew = w12 at BK110 HB hHeld ⊢
        refine pure_ (i := 0) (N := some 7) (v := ?_) (a' := ?_) #[true, false, false, false, false, false, false, false, false, false, false, false, false] rfl rfl (any_of HT_.out (by kernel_rfl)) (fun _ _ _ h => h) (Or.inl ⟨by rfl, ?_⟩) ?_ ?_
        rotate_left
        · intro w'
          go_simp
          with_reducible rfl
        rotate_left
        · simp only [Act.put, List.setIfInBounds_toArray, List.set_cons_zero, List.set_cons_succ, i64_w, i32_w]
          rfl
        refine pure_ (i := 3) (N := some 10) (v := ?_) (a' := ?_) #[true, false, false, true, false, false, false, false, false, false, false, false, false] rfl rfl (any_of HT_.out (by kernel_rfl)) (fun _ _ _ h => h) (Or.inl ⟨by rfl, ?_⟩) ?_ ?_
        rotate_left
        · intro w'
          go_simp
          with_reducible rfl
        rotate_left
        · simp only [Act.put, List.setIfInBounds_toArray, List.set_cons_zero, List.set_cons_succ, i64_w, i32_w]
          rfl
        refine pure_ (i := 7) (N := some 14) (v := ?_) (a' := ?_) #[true, false, false, true, false, false, false, true, false, false, false, false, false] rfl rfl (any_of HT_.out (by kernel_rfl)) (fun _ _ _ h => h) (Or.inl ⟨by rfl, ?_⟩) ?_ ?_
        rotate_left
        · intro w'
          go_simp
          with_reducible rfl
        rotate_left
        · simp only [Act.put, List.setIfInBounds_toArray, List.set_cons_zero, List.set_cons_succ, i64_w, i32_w]
          rfl
        refine take_ (i := 1) (N := some 8) (v := ?_) (a' := ?_) #[true, true, false, true, false, false, false, true, false, false, false, false, false] rfl rfl (take_ofW HT_.out HW_.out (by kernel_rfl)) (fun _ _ _ h => h) (Or.inl ⟨by rfl, ?_⟩) hHeld ?_ ?_
        rotate_left
        · rintro w' ⟨s0, s1, s2⟩
          go_simp
          with_reducible rfl
        rotate_left
        · simp only [Act.put, List.setIfInBounds_toArray, List.set_cons_zero, List.set_cons_succ, i64_w, i32_w]
          rfl
        refine take_ (i := 4) (N := some 11) (v := ?_) (a' := ?_) #[true, true, false, true, true, false, false, true, false, false, false, false, false] rfl rfl (take_ofW HT_.out HW_.out (by kernel_rfl)) (fun _ _ _ h => h) (Or.inl ⟨by rfl, ?_⟩) hHeld ?_ ?_
        rotate_left
        · rintro w' ⟨s0, s1, s2⟩
          go_simp
          with_reducible rfl
        rotate_left
        · simp only [Act.put, List.setIfInBounds_toArray, List.set_cons_zero, List.set_cons_succ, i64_w, i32_w]
          rfl
        refine take_ (i := 8) (N := some 15) (v := ?_) (a' := ?_) #[true, true, false, true, true, false, false, true, true, false, false, false, false] rfl rfl (take_ofW HT_.out HW_.out (by kernel_rfl)) (fun _ _ _ h => h) (Or.inl ⟨by rfl, ?_⟩) hHeld ?_ ?_
        rotate_left
        · rintro w' ⟨s0, s1, s2⟩
          go_simp
          with_reducible rfl
        rotate_left
        · simp only [Act.put, List.setIfInBounds_toArray, List.set_cons_zero, List.set_cons_succ, i64_w, i32_w]
          rfl
        refine one_ (i := 2) (N := some 9) #[true, true, true, true, true, false, false, true, true, false, false, false, false] rfl rfl (one_of HT_.out (by kernel_rfl)) (by decide) (fun K hK => ?_)
        refine goes_ Try.func23 (by kernel_rfl) rfl #[.int .i64 a0_0, .int .i64 1] (by rfl) rfl rfl (by (try simp only [List.map_toArray, List.map_cons, List.map_nil]); first | done | rfl | (simp only [List.length_drop, List.length_take]; rfl)) ?_
        with_reducible refine (rec_number.calls a0_0 1 t112 _ A4.out).mono ?_
        rintro e w13 ⟨rfl, hb⟩
        refine ⟨_, rfl, ?_⟩
        have n0_ := Aside0.mk (blk_below (g := gb110) (o := .cells #[.int .i64 a0_0, .int .i64 a0_1, .int .i64 a0_2] 33 (0, 0)) (by (with_reducible repeat (first | refine blk_drewN ?_ _ | refine blk_drew ?_ | refine blk_alloc ?_ _)); exact BK110.out) hb)
        have n1_ := Aside0.mk (below_step (by repeat (first | (with_reducible first | exact HB.out | apply below_alloc | apply pw_below_drewN | apply below_drew1 | refine below_set ?_ GE110.out) | exact HB.out)) hb)
        clear BK110
        clear HB
        have BK110 := n0_
        have HB := n1_
        clear n0_ n1_
        (try clear hb)
        (try clear hb2)
        (try clear hk)
        (try clear hi)
        refine hK.out _ _ ⟨(blk_cell BK110.out 0).trans rfl, (blk_cell BK110.out 1).trans rfl, (blk_cell BK110.out 2).trans rfl⟩ (fun hHeld => ?_)
        clear hK K
        refine norm_ (a' := ?_) ?_ ?_
        rotate_left
        · show Act.put _ (some 9) _ = _
          simp only [Act.put, List.setIfInBounds_toArray, List.set_cons_zero, List.set_cons_succ, i64_w, i32_w]
          rfl
        refine one_ (i := 5) (N := some 12) #[true, true, true, true, true, true, false, true, true, false, false, false, false] rfl rfl (one_of HT_.out (by kernel_rfl)) (by decide) (fun K hK => ?_)
        refine goes_ Try.func23 (by kernel_rfl) rfl #[.int .i64 a0_1, .int .i64 2] (by rfl) rfl rfl (by (try simp only [List.map_toArray, List.map_cons, List.map_nil]); first | done | rfl | (simp only [List.length_drop, List.length_take]; rfl)) ?_
        with_reducible refine (rec_number.calls a0_1 2 t113 _ A5.out).mono ?_
        rintro e w14 ⟨rfl, hb⟩
        refine ⟨_, rfl, ?_⟩
        have n0_ := Aside0.mk (blk_below (g := gb110) (o := .cells #[.int .i64 a0_0, .int .i64 a0_1, .int .i64 a0_2] 33 (0, 0)) (by (with_reducible repeat (first | refine blk_drewN ?_ _ | refine blk_drew ?_ | refine blk_alloc ?_ _)); exact BK110.out) hb)
        have n1_ := Aside0.mk (below_step (by repeat (first | (with_reducible first | exact HB.out | apply below_alloc | apply pw_below_drewN | apply below_drew1 | refine below_set ?_ GE110.out) | exact HB.out)) hb)
        clear BK110
        clear HB
        have BK110 := n0_
        have HB := n1_
        clear n0_ n1_
        (try clear hb)
        (try clear hb2)
        (try clear hk)
        (try clear hi)
        refine hK.out _ _ ⟨(blk_cell BK110.out 0).trans rfl, (blk_cell BK110.out 1).trans rfl, (blk_cell BK110.out 2).trans rfl⟩ (fun hHeld => ?_)
        clear hK K
        refine norm_ (a' := ?_) ?_ ?_
        rotate_left
        · show Act.put _ (some 12) _ = _
          simp only [Act.put, List.setIfInBounds_toArray, List.set_cons_zero, List.set_cons_succ, i64_w, i32_w]
          rfl
        refine pure_ (i := 6) (N := some 13) (v := ?_) (a' := ?_) #[true, true, true, true, true, true, true, true, true, false, false, false, false] rfl rfl (any_of HT_.out (by kernel_rfl)) (fun _ _ _ h => h) (Or.inl ⟨by rfl, ?_⟩) ?_ ?_
        rotate_left
        · intro w'
          go_simp
          with_reducible rfl
        rotate_left
        · simp only [Act.put, List.setIfInBounds_toArray, List.set_cons_zero, List.set_cons_succ, i64_w, i32_w]
          rfl
        refine one_ (i := 9) (N := some 16) #[true, true, true, true, true, true, true, true, true, true, false, false, false] rfl rfl (one_of HT_.out (by kernel_rfl)) (by decide) (fun K hK => ?_)
        refine goes_ Try.func23 (by kernel_rfl) rfl #[.int .i64 a0_2, .int .i64 6] (by rfl) rfl rfl (by (try simp only [List.map_toArray, List.map_cons, List.map_nil]); first | done | rfl | (simp only [List.length_drop, List.length_take]; rfl)) ?_
        with_reducible refine (rec_number.calls a0_2 6 t114 _ A7.out).mono ?_
        rintro e w15 ⟨rfl, hb⟩
        refine ⟨_, rfl, ?_⟩
        have n0_ := Aside0.mk (blk_below (g := gb110) (o := .cells #[.int .i64 a0_0, .int .i64 a0_1, .int .i64 a0_2] 33 (0, 0)) (by (with_reducible repeat (first | refine blk_drewN ?_ _ | refine blk_drew ?_ | refine blk_alloc ?_ _)); exact BK110.out) hb)
        have n1_ := Aside0.mk (below_step (by repeat (first | (with_reducible first | exact HB.out | apply below_alloc | apply pw_below_drewN | apply below_drew1 | refine below_set ?_ GE110.out) | exact HB.out)) hb)
        clear BK110
        clear HB
        have BK110 := n0_
        have HB := n1_
        clear n0_ n1_
        (try clear hb)
        (try clear hb2)
        (try clear hk)
        (try clear hi)
        refine hK.out _ _ ⟨(blk_cell BK110.out 0).trans rfl, (blk_cell BK110.out 1).trans rfl, (blk_cell BK110.out 2).trans rfl⟩ (fun hHeld => ?_)
        clear hK K
        refine norm_ (a' := ?_) ?_ ?_
        rotate_left
        · show Act.put _ (some 16) _ = _
          simp only [Act.put, List.setIfInBounds_toArray, List.set_cons_zero, List.set_cons_succ, i64_w, i32_w]
          rfl
        refine pure_ (i := 10) (N := some 17) (v := ?_) (a' := ?_) #[true, true, true, true, true, true, true, true, true, true, true, false, false] rfl rfl (any_of HT_.out (by kernel_rfl)) (fun _ _ _ h => h) (Or.inl ⟨by rfl, ?_⟩) ?_ ?_
        rotate_left
        · intro w'
          go_simp
          with_reducible rfl
        rotate_left
        · simp only [Act.put, List.setIfInBounds_toArray, List.set_cons_zero, List.set_cons_succ, i64_w, i32_w]
          rfl
        refine pure_ (i := 11) (N := some 2) (v := ?_) (a' := ?_) #[true, true, true, true, true, true, true, true, true, true, true, true, false] rfl rfl (any_of HT_.out (by kernel_rfl)) (fun _ _ _ h => h) (Or.inl ⟨by rfl, ?_⟩) ?_ ?_
        rotate_left
        · intro w'
          go_simp
          with_reducible rfl
        rotate_left
        · simp only [Act.put, List.setIfInBounds_toArray, List.set_cons_zero, List.set_cons_succ, i64_w, i32_w]
          rfl
        refine pure_ (i := 12) (N := some 3) (v := ?_) (a' := ?_) #[true, true, true, true, true, true, true, true, true, true, true, true, true] rfl rfl (any_of HT_.out (by kernel_rfl)) (fun _ _ _ h => h) (Or.inl ⟨by rfl, ?_⟩) ?_ ?_
        rotate_left
        · intro w'
          go_simp
          with_reducible rfl
        rotate_left
        · simp only [Act.put, List.setIfInBounds_toArray, List.set_cons_zero, List.set_cons_succ, i64_w, i32_w]
          rfl
        refine done_ (done_of HT_.out (by kernel_rfl)) ?_
        try go_wp2
        go_ret2
        exact ⟨by first | rfl | (simp [errW_none, errW_some] <;> rfl) | (simp [*, errW_none, errW_some] <;> rfl), by repeat (first | (with_reducible first | exact HB.out | apply below_alloc | apply pw_below_drewN | apply below_drew1 | refine below_set ?_ GE110.out) | exact HB.out)⟩
      · rw [if_neg c8] at H
        exact absurd H (by simp)
    · rw [if_neg c6] at H
      exact absurd H (by simp)
  · replace c3 := Bool.eq_false_iff.mpr c3
    subst c3
    have H1 : (some ((⟨#[]⟩ : ByteArray), 110)) = some (r1, r2) := by rw [if_neg (show ¬ (false = true) by decide)] at H; exact H
    clear H
    have H := H1
    clear H1
    simp only [Option.some.injEq, Prod.mk.injEq] at H
    obtain ⟨rfl, rfl⟩ := H
    go_enter Try.func14, Try.ntmps14
    go_wp2_with (first | ((with_reducible refine gate_dst (N := 1) rfl ?_); refine box_event ?hg (N := 1) ?hd (cs := #[.int .i64 a0_0, .int .i64 a0_1, .int .i64 a0_2]) (t := 33) ?hr ?_; (case hd => rfl); (case hg => rfl); (case hr => first | (go_simp; done) | (go_simp; rfl)); intro gb110 hg w16 hbox hb; have n0_ := Aside0.mk (below_step (by repeat (first | (with_reducible first | exact HB.out | apply below_alloc | apply pw_below_drewN | apply below_drew1) | exact HB.out)) hb); have n1_ := Aside0.mk (hbox); have n2_ := Aside0.mk ((by rw [hg]; exact (below_size (by repeat (first | (with_reducible first | exact HB.out | apply below_alloc | apply pw_below_drewN | apply below_drew1) | exact HB.out))) : w.heap.size ≤ gb110)); have n3_ := Aside0.mk ((by rw [hg]; exact (below_size (by repeat (first | (with_reducible first | exact HB.out | apply below_alloc | apply pw_below_drewN | apply below_drew1) | exact HB.out))) : w.heap.size ≤ gb110)); clear HB; have HB := n0_; have BK110 := n1_; have GW110 := n2_; have GE110 := n3_; clear n0_ n1_ n2_ n3_; clear hb hbox hg; have hcz17_0 : w16.cell? ⟨gb110, 0, none⟩ = some (.int .i64 a0_0) := (blk_cell BK110.out 0).trans rfl; have hcz17_1 : w16.cell? ⟨gb110, 1, none⟩ = some (.int .i64 a0_1) := (blk_cell BK110.out 1).trans rfl; have hcz17_2 : w16.cell? ⟨gb110, 2, none⟩ = some (.int .i64 a0_2) := (blk_cell BK110.out 2).trans rfl; have hfz17_0 := blk_frozen BK110.out 0; have hfz17_1 := blk_frozen BK110.out 1; have hfz17_2 := blk_frozen BK110.out 2) | ((with_reducible refine gate_callee (f := 22) rfl ?_); refine goesL_ (some 5) rfl rfl Try.func22 (by kernel_rfl) rfl #[.agg #[.int .i64 a0_0, .int .i64 a0_1, .int .i64 a0_2]] rfl (by (try simp only [List.map_toArray, List.map_cons, List.map_nil]); first | done | rfl | (simp only [List.length_drop, List.length_take]; rfl)) ?_; (with_reducible refine (rec_May.calls k a0_0 a0_1 a0_2 false _ A2.out).mono ?_); rintro e w18 ⟨rfl, hb⟩; refine ⟨_, rfl, ?_⟩; have n0_ := Aside0.mk (blk_below (g := gb110) (o := .cells #[.int .i64 a0_0, .int .i64 a0_1, .int .i64 a0_2] 33 (0, 0)) (by (with_reducible repeat (first | refine blk_drewN ?_ _ | refine blk_drew ?_ | refine blk_alloc ?_ _)); exact BK110.out) hb); have n1_ := Aside0.mk (below_step (by repeat (first | (with_reducible first | exact HB.out | apply below_alloc | apply pw_below_drewN | apply below_drew1 | refine below_set ?_ GE110.out) | exact HB.out)) hb); clear BK110; clear HB; have BK110 := n0_; have HB := n1_; clear n0_ n1_; (try clear hb); (try clear hb2); (try clear hk); (try clear hi)))
    go_ret2
    exact ⟨by first | rfl | (simp [errW_none, errW_some] <;> rfl) | (simp [*, errW_none, errW_some] <;> rfl), by repeat (first | (with_reducible first | exact HB.out | apply below_alloc | apply pw_below_drewN | apply below_drew1 | refine below_set ?_ GE110.out) | exact HB.out)⟩

end Go.Proofs.Ytdohaocbhcniaaa.PG
end

section
/- Records and pages of them, in plain words: what is put. -/
set_option linter.unusedVariables false
set_option linter.unusedSimpArgs false
namespace Go.Proofs.Ytdohaocbhcniaaa.PG
open Go.RowKit Go.Proofs.Ytdohaocbhcniaaa.Hw Go.Proofs.YtdohaocbhcniaaaW.PrintWords Go.Proofs.YtdohaocbhcniaaaW.PrintLast

theorem sw64 (x : Int) (h : -9223372036854775808 ≤ x ∧ x ≤ 9223372036854775807) : wrap64 x = x := by unfold wrap64; omega
theorem su64 (b : Nat) (hb : b < 18446744073709551616) : IntKind.u64.wrap (b : Int) = (b : Int) := by
  have q : (2 : Int) ^ 64 = 18446744073709551616 := by decide
  simp [IntKind.wrap, IntKind.bits, IntKind.signed]
  omega
theorem son_push (xs : List Int) (x : Int) : strOfNums (xs ++ [x]) = (strOfNums xs).push (UInt8.ofNat x.toNat) := by
  simp [strOfNums, ByteArray.push]
theorem put_ref (v : Nat) (hv : v < 18446744073709551616) (n : Nat) (h8 : n ≤ 8) (hlt : v < 256 ^ n) : ∀ (d i k : Nat) (xs : List Int), i + d = n → xs.length = i → strOfNums xs = leStr (v : Int) i → deckleref01_Put.l0 (d + 1 + k) ((v / 256 ^ i : Nat) : Int) (n : Int) xs (i : Int) = some (leStr (v : Int) n, 0)
  | 0, i, k, xs, h, _, hx => by
    obtain rfl : i = n := by omega
    rw [show 0 + 1 + k = k + 1 by omega, deckleref01_Put.l0, if_neg (by omega), Nat.div_eq_of_lt hlt, if_neg (by decide), hx]
  | d + 1, i, k, xs, h, hl, hx => by
    have hXY : v / 256 ^ (i + 1) = v / 256 ^ i / 256 := by rw [Nat.pow_succ, ← Nat.div_div_eq_div_mul]
    have hd : v / 256 ^ i ≤ v := Nat.div_le_self _ _
    have e1 : IntKind.u64.wrap (Int.tdiv ((v / 256 ^ i : Nat) : Int) 256) = ((v / 256 ^ i / 256 : Nat) : Int) := by
      generalize v / 256 ^ i = X at *
      rw [Int.tdiv_eq_ediv_of_nonneg (by omega), show (X : Int) / 256 = ((X / 256 : Nat) : Int) by omega, su64 _ (by omega)]
    have e2 : (Int.tmod ((v / 256 ^ i : Nat) : Int) 256) % 256 = ((v / 256 ^ i % 256 : Nat) : Int) := by
      generalize v / 256 ^ i = X at *
      rw [Int.tmod_eq_emod_of_nonneg (by omega)]; omega
    have ih := put_ref v hv n h8 hlt d (i + 1) k (xs ++ [((v / 256 ^ i % 256 : Nat) : Int)]) (by omega) (by simp [hl]) (by
      rw [son_push, hx, ← leStr_push (v : Int) i]
      congr 2)
    rw [hXY] at ih
    rw [show d + 1 + 1 + k = (d + 1 + k) + 1 by omega, deckleref01_Put.l0, if_pos (by omega), if_pos (by rw [hl]; omega), sw64 _ (by omega), e1, e2]
    rw [show ((i + 1 : Nat) : Int) = (i : Int) + 1 by omega] at ih
    exact ih
theorem number4_is (a : Int) (n : Nat) (h0 : 0 ≤ a) (hn : 1 ≤ n) (hn8 : n ≤ 7) (h1 : a < 2 ^ (n * 8)) (k : Nat) (hk : 20 ≤ k) : deckleref04_Number.f k a n = some (leStr a n) := by
  obtain ⟨v, rfl⟩ := Int.eq_ofNat_of_zero_le h0
  have hp : (2 : Nat) ^ (n * 8) ≤ 2 ^ (7 * 8) := Nat.pow_le_pow_right (by decide) (by omega)
  have q : (2 : Nat) ^ (7 * 8) = 72057594037927936 := by decide
  have hv : v < 2 ^ (n * 8) := by exact_mod_cast h1
  have h256 : v < 256 ^ n := by rw [show (256 : Nat) = 2 ^ 8 from rfl, ← Nat.pow_mul, Nat.mul_comm]; exact hv
  obtain ⟨k, rfl⟩ : ∃ q, k = n + 1 + 1 + q := ⟨k - (n + 2), by omega⟩
  have := put_ref v (by omega) n (by omega) h256 n 0 k [] (by omega) rfl rfl
  rw [Nat.pow_zero, Nat.div_one] at this
  unfold deckleref04_Number.f deckleref01_Put.f
  rw [if_neg (by omega), show decide ((n : Int) > 8) = false from decide_eq_false (by omega), su64 v (by omega), show n + 1 + 1 + k = (n + 1 + k) + 1 by omega, deckleref01_Put.j0, if_neg (by decide)]
  rw [show ((0 : Nat) : Int) = 0 from rfl] at this
  rw [this, Option.bind_some]
theorem rnumber_is (a : Int) (n : Nat) (h0 : 0 ≤ a) (hn : 1 ≤ n) (hn8 : n ≤ 7) (h1 : a < 2 ^ (n * 8)) : rec_number.f a n = some (leStr a n) := by
  obtain ⟨v, rfl⟩ := Int.eq_ofNat_of_zero_le h0
  have hp : (2 : Nat) ^ (n * 8) ≤ 2 ^ (7 * 8) := Nat.pow_le_pow_right (by decide) (by omega)
  have q : (2 : Nat) ^ (7 * 8) = 72057594037927936 := by decide
  have hv : v < 2 ^ (n * 8) := by exact_mod_cast h1
  unfold rec_number.f bits_Put.f
  rw [su64 v (by omega), if_pos (by omega), if_neg, Option.bind_some, Int.toNat_natCast]
  rintro (h | h | ⟨_, h⟩)
  · omega
  · omega
  · refine h ?_
    rw [show ((n : Int) * 8).toNat = n * 8 by omega]
    exact Int.ediv_eq_zero_of_lt (by omega) h1
/-- May a record be? -/
def mayR (x : S33) : Prop := (x.f0 = 1 ∨ x.f0 = 2) ∧ 0 ≤ x.f1 ∧ x.f1 ≤ 4096 ∧ 0 ≤ x.f2 ∧ x.f2 ≤ 281474976710655 ∨ x.f0 = 3 ∧ 0 ≤ x.f1 ∧ x.f1 ≤ 63 ∧ 1 ≤ x.f2 ∧ x.f2 ≤ 4294967295 ∨ x.f0 = 4 ∧ 0 ≤ x.f1 ∧ x.f1 ≤ 63 ∧ 1 ≤ x.f2 ∧ x.f2 ≤ 2
instance (x : S33) : Decidable (mayR x) := inferInstanceAs (Decidable (_ ∨ _))
theorem within_is (a b c : Int) : rec_within.f a b c = some (decide (b ≤ a ∧ a ≤ c)) := by
  unfold rec_within.f
  by_cases h : a ≥ b
  · rw [if_pos h]; congr 1; exact decide_eq_decide.2 ⟨fun g => ⟨h, g⟩, fun g => g.2⟩
  · rw [if_neg h, decide_eq_false (by omega)]
theorem may_j1 (k : Nat) (m : Int) (x : S33) (h : (x.f0 = 3 ∧ m = 281474976710655) ∨ (x.f0 = 4 ∧ m = 2)) : rec_May.j1 (k + 1) m x.f0 x.f1 x.f2 = some (decide (mayR x)) := by
  rw [rec_May.j1]
  rcases h with ⟨h, rfl⟩ | ⟨h, rfl⟩
  · rw [if_pos h, within_is, Option.bind_some]
    by_cases a : 0 ≤ x.f1 ∧ x.f1 ≤ 63
    · rw [decide_eq_true a, if_pos rfl, within_is, Option.bind_some]
      congr 1
      refine decide_eq_decide.2 ⟨fun g => .inr (.inl ⟨h, a.1, a.2, g.1, g.2⟩), ?_⟩
      unfold mayR
      omega
    · rw [decide_eq_false a, if_neg (by decide), decide_eq_false]
      unfold mayR
      omega
  · rw [if_neg (by omega), within_is, Option.bind_some]
    by_cases a : 0 ≤ x.f1 ∧ x.f1 ≤ 63
    · rw [decide_eq_true a, if_pos rfl, within_is, Option.bind_some]
      congr 1
      refine decide_eq_decide.2 ⟨fun g => .inr (.inr ⟨h, a.1, a.2, g.1, g.2⟩), ?_⟩
      unfold mayR
      omega
    · rw [decide_eq_false a, if_neg (by decide), decide_eq_false]
      unfold mayR
      omega
theorem rmay_is (x : S33) (k : Nat) : rec_May.f (k + 2) x.f0 x.f1 x.f2 = some (decide (mayR x)) := by
  have main : ∀ b : Bool, b = decide (x.f0 = 1 ∨ x.f0 = 2) → rec_May.j0 (k + 2) 0 281474976710655 x.f0 b x.f0 x.f1 x.f2 = some (decide (mayR x)) := by
    intro b hb
    rw [rec_May.j0, hb]
    by_cases h : x.f0 = 1 ∨ x.f0 = 2
    · rw [decide_eq_true h, if_pos rfl, within_is, Option.bind_some]
      by_cases a : 0 ≤ x.f1 ∧ x.f1 ≤ 4096
      · rw [decide_eq_true a, if_pos rfl, within_is, Option.bind_some]
        congr 1
        refine decide_eq_decide.2 ⟨fun g => .inl ⟨h, a.1, a.2, g.1, g.2⟩, ?_⟩
        unfold mayR
        omega
      · rw [decide_eq_false a, if_neg (by decide), decide_eq_false]
        unfold mayR
        omega
    · rw [decide_eq_false h, if_neg (by decide)]
      by_cases h4 : x.f0 = 4
      · rw [if_pos h4, may_j1 k 2 x (.inr ⟨h4, rfl⟩)]
      · rw [if_neg h4]
        by_cases h3 : x.f0 = 3
        · rw [if_pos h3, may_j1 k _ x (.inl ⟨h3, rfl⟩)]
        · rw [if_neg h3, decide_eq_false]
          unfold mayR
          omega
  unfold rec_May.f
  by_cases h : x.f0 = 1
  · rw [if_pos h]
    exact main _ (by rw [beq_iff_eq.2 h]; exact (decide_eq_true (.inl h)).symm)
  · rw [if_neg h]
    refine main _ ?_
    by_cases h2 : x.f0 = 2
    · rw [beq_iff_eq.2 h2]; exact (decide_eq_true (.inr h2)).symm
    · rw [beq_eq_false_iff_ne.2 h2]; exact (decide_eq_false (by omega)).symm
theorem refmay_is (x : S33) (k : Nat) : deckleref11_May.f (k + 1) x.f0 x.f1 x.f2 = some (decide (mayR x)) := by
  have main : ∀ b : Bool, b = decide (x.f0 = 1 ∨ x.f0 = 2) → deckleref11_May.j0 (k + 1) b x.f0 x.f1 x.f2 = some (decide (mayR x)) := by
    intro b hb
    rw [deckleref11_May.j0, hb]
    by_cases h : x.f0 = 1 ∨ x.f0 = 2
    · rw [decide_eq_true h, if_pos rfl]
      repeat' split
      all_goals first
        | (rw [decide_eq_false]; unfold mayR; omega)
        | (congr 1; refine decide_eq_decide.2 ⟨fun g => ?_, ?_⟩ <;> unfold mayR <;> omega)
    · rw [decide_eq_false h, if_neg (by decide)]
      repeat' split
      all_goals first
        | (exfalso; omega)
        | (rw [decide_eq_false]; unfold mayR; omega)
        | (rw [decide_eq_true]; unfold mayR; omega)
        | (congr 1; refine decide_eq_decide.2 ⟨fun g => ?_, ?_⟩ <;> unfold mayR <;> omega)
  unfold deckleref11_May.f
  by_cases h : x.f0 = 1
  · rw [if_pos h]
    exact main _ (decide_eq_true (.inl h)).symm
  · rw [if_neg h]
    refine main _ ?_
    by_cases h2 : x.f0 = 2
    · rw [beq_iff_eq.2 h2]; exact (decide_eq_true (.inr h2)).symm
    · rw [beq_eq_false_iff_ne.2 h2]; exact (decide_eq_false (by omega)).symm
/-- A record's bytes. -/
def recS (x : S33) : ByteArray := (leStr x.f0 1 ++ leStr x.f1 2) ++ leStr x.f2 6
theorem recS_size (x : S33) : (recS x).size = 9 := by unfold recS; rw [ByteArray.size_append, ByteArray.size_append, leStr_size, leStr_size, leStr_size]
def recB (x : S33) : ByteArray × Int := if mayR x then (recS x, 0) else (⟨#[]⟩, 110)
theorem mayR_sizes {x : S33} (h : mayR x) : 0 ≤ x.f0 ∧ x.f0 < 256 ∧ 0 ≤ x.f1 ∧ x.f1 < 65536 ∧ 0 ≤ x.f2 ∧ x.f2 < 281474976710656 := by
  unfold mayR at h
  omega
theorem rput_is (x : S33) (k : Nat) : rec_Put.f (k + 2) x.f0 x.f1 x.f2 = some (recB x) := by
  unfold rec_Put.f recB
  rw [rmay_is, Option.bind_some]
  by_cases h : mayR x
  · have hs := mayR_sizes h
    have q1 : (2 : Int) ^ (1 * 8) = 256 := by decide
    have q2 : (2 : Int) ^ (2 * 8) = 65536 := by decide
    have q6 : (2 : Int) ^ (6 * 8) = 281474976710656 := by decide
    have e1 := rnumber_is x.f0 1 (by omega) (by omega) (by omega) (by rw [q1]; omega)
    have e2 := rnumber_is x.f1 2 (by omega) (by omega) (by omega) (by rw [q2]; omega)
    have e6 := rnumber_is x.f2 6 (by omega) (by omega) (by omega) (by rw [q6]; omega)
    rw [show ((1 : Nat) : Int) = 1 from rfl] at e1
    rw [show ((2 : Nat) : Int) = 2 from rfl] at e2
    rw [show ((6 : Nat) : Int) = 6 from rfl] at e6
    rw [decide_eq_true h, if_pos rfl, if_pos h, e1, Option.bind_some, e2, Option.bind_some, leStr_size, leStr_size, if_pos (by omega), e6, Option.bind_some, ByteArray.size_append, leStr_size, leStr_size, leStr_size, if_pos (by omega)]
    rfl
  · rw [decide_eq_false h, if_neg (by decide), if_neg h]
theorem refput_is (x : S33) (k : Nat) (hk : 20 ≤ k) : deckleref11_Put.f k x.f0 x.f1 x.f2 = some (recB x) := by
  obtain ⟨q, rfl⟩ : ∃ q, k = q + 1 := ⟨k - 1, by omega⟩
  unfold deckleref11_Put.f recB
  rw [refmay_is, Option.bind_some]
  by_cases h : mayR x
  · have hs := mayR_sizes h
    have q1 : (2 : Int) ^ (1 * 8) = 256 := by decide
    have q2 : (2 : Int) ^ (2 * 8) = 65536 := by decide
    have q6 : (2 : Int) ^ (6 * 8) = 281474976710656 := by decide
    have e1 := number4_is x.f0 1 (by omega) (by omega) (by omega) (by rw [q1]; omega) _ hk
    have e2 := number4_is x.f1 2 (by omega) (by omega) (by omega) (by rw [q2]; omega) _ hk
    have e6 := number4_is x.f2 6 (by omega) (by omega) (by omega) (by rw [q6]; omega) _ hk
    rw [show ((1 : Nat) : Int) = 1 from rfl] at e1
    rw [show ((2 : Nat) : Int) = 2 from rfl] at e2
    rw [show ((6 : Nat) : Int) = 6 from rfl] at e6
    rw [decide_eq_true h, if_pos rfl, if_pos h, e1, Option.bind_some, e2, Option.bind_some, leStr_size, leStr_size, if_pos (by omega), e6, Option.bind_some, ByteArray.size_append, leStr_size, leStr_size, leStr_size, if_pos (by omega)]
    rfl
  · rw [decide_eq_false h, if_neg (by decide), if_neg h]
end Go.Proofs.Ytdohaocbhcniaaa.PG
end
