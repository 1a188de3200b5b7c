/- The law's proof: words, contracts of the functions that it reaches, plain lemmas. -/
import Derived.Test.YtbcgddacmjliaaaDoorFt9
import Derived.Test.YtbcgddacmjliaaaDoorFt0
import Derived.Test.YtbcgddacmjliaaaDoorFt7
import Derived.Test.YtbcgddacmjliaaaDoorFt22
import Derived.Test.YtbcgddacmjliaaaDoorFt15
import Derived.Test.YtbcgddacmjliaaaDoorFt18
import Derived.Test.YtbcgddacmjliaaaDoorFt17
import Derived.Test.YtbcgddacmjliaaaDoorFt19
section
-- Written by a program (the kit's print.py, called by wip/bin/prseat.sh, mended by wip/bin/mend.py).
namespace Go.Proofs.YtbcgddacmjliaaaDoor.PF
open Go.Proofs.YtbcgddacmjliaaaDoor.Tf Go.RowKit Go.Proofs.YtbcgddacmjliaaaDoorW.PrintWords Go.Proofs.YtbcgddacmjliaaaDoorW.PrintLast Go.Proofs.YtbcgddacmjliaaaDoorW.PrintMore
attribute [local go_sem] max2_int min2_int max_two min_two max_three min_three max_four min_four   -- for this text's walks alone
set_option linter.unusedVariables false
set_option linter.unusedSimpArgs false

attribute [local go_sem high] eqA30
/-! ### decklelaw05_FrameBack: function 6 -/
def decklelaw05_FrameBack.f (a0_0 : Int) (a0_1 : Int) (a0_2 : Int) (a0_3 : Int) (a1 : ByteArray) : Option (Bool) := (decklelaw05_works.f).bind fun t370 => (if t370 = true then ((frame_Encode.f a0_0 a0_1 a0_2 a0_3 a1).bind fun bt371 => (if bt371.2 = 0 then ((frame_Decode.f bt371.1).bind fun bt373 => (if (bt373.1 == 2 && ((bt373.2.1 == a0_0 && (bt373.2.2.1 == a0_1 && (bt373.2.2.2.1 == a0_2 && (bt373.2.2.2.2.1 == a0_3)))) && (bt373.2.2.2.2.2.toList == a1.toList))) = true then ((frame_Blank.f (a1.size : Int)).bind fun t379 => (some ((bt371.1.size : Int) == (t379.size : Int)))) else (some false))) else (some (bt371.1.toList == ([] : List UInt8))))) else (some false))
def decklelaw05_FrameBack.T6 : Bool × List (List Nat × List Nat) := (true, [([], []), ([0], [0]), ([], []), ([], []), ([2, 3], [2, 3]), ([1, 4], [1, 4]), ([5, 1], [5]), ([6], [6]), ([7, 6], [6, 7]), ([6], [6]), ([9, 6], [6, 9]), ([10, 6, 6], [6, 10]), ([11, 6], [6, 11]), ([8, 12, 6], [6, 8, 12]), ([6, 13], [6, 13]), ([14, 11, 0, 1, 2, 3, 4, 5, 6, 7, 8, 9, 10, 11, 12, 13, 14], [14])])
def decklelaw05_FrameBack.B6 : List Nat := [0, 1, 0, 0, 12, 31, 63, 127, 255, 127, 639, 1663, 3711, 8191, 16383, 32767]
theorem decklelaw05_FrameBack.tab6 : rtab .any (opsOf Tryd.f6 6) = decklelaw05_FrameBack.T6 := by kernel_rfl
theorem decklelaw05_FrameBack.bits6 : waitsOk decklelaw05_FrameBack.T6.2 decklelaw05_FrameBack.B6 = true := by kernel_rfl
set_option maxHeartbeats 8000000 in
set_option maxRecDepth 100000 in
theorem decklelaw05_FrameBack.calls (a0_0 : Int) (a0_1 : Int) (a0_2 : Int) (a0_3 : Int) (a1 : ByteArray) (r : Bool) (w : World) (h : decklelaw05_FrameBack.f a0_0 a0_1 a0_2 a0_3 a1 = some r) (HL : Aside0 (Hw.Laid w) := by first | exact HL | exact Hw.laid_at HL (by repeat (first | (with_reducible first | exact HB.out | apply below_alloc | apply pw_below_drewN | apply below_drew1) | exact HB.out | exact Below.refl _ _ | refine below_set ?_ (by apply Aside0.out; assumption)))) :
    Calls Tryd.prog 6 #[.agg #[.int .i64 a0_0, .int .i64 a0_1, .int .i64 a0_2, .int .i64 a0_3], .string a1] w fun e w' => e = .returned (.bool r) ∧ Below w.heap.size w w' := by
  have hu23 := Tryd.underlying23
  have hu30 := Tryd.underlying30
  have HB := Aside0.mk (Below.refl w.heap.size w)
  have H : ((decklelaw05_works.f).bind fun t370 => (if t370 = true then ((frame_Encode.f a0_0 a0_1 a0_2 a0_3 a1).bind fun bt371 => (if bt371.2 = 0 then ((frame_Decode.f bt371.1).bind fun bt373 => (if (bt373.1 == 2 && ((bt373.2.1 == a0_0 && (bt373.2.2.1 == a0_1 && (bt373.2.2.2.1 == a0_2 && (bt373.2.2.2.2.1 == a0_3)))) && (bt373.2.2.2.2.2.toList == a1.toList))) = true then ((frame_Blank.f (a1.size : Int)).bind fun t379 => (some ((bt371.1.size : Int) == (t379.size : Int)))) else (some false))) else (some (bt371.1.toList == ([] : List UInt8))))) else (some false))) = some r := h
  clear h
  replace H := Option.bind_eq_some_iff.mp H
  obtain ⟨t370, A30, H⟩ := H
  replace H : (if t370 = true then ((frame_Encode.f a0_0 a0_1 a0_2 a0_3 a1).bind fun bt371 => (if bt371.2 = 0 then ((frame_Decode.f bt371.1).bind fun bt373 => (if (bt373.1 == 2 && ((bt373.2.1 == a0_0 && (bt373.2.2.1 == a0_1 && (bt373.2.2.2.1 == a0_2 && (bt373.2.2.2.2.1 == a0_3)))) && (bt373.2.2.2.2.2.toList == a1.toList))) = true then ((frame_Blank.f (a1.size : Int)).bind fun t379 => (some ((bt371.1.size : Int) == (t379.size : Int)))) else (some false))) else (some (bt371.1.toList == ([] : List UInt8))))) else (some false)) = some r := H
  have A3 := Aside0.mk A30
  clear A30
  by_cases c4 : t370 = true
  · subst c4
    have H1 : ((frame_Encode.f a0_0 a0_1 a0_2 a0_3 a1).bind fun bt371 => (if bt371.2 = 0 then ((frame_Decode.f bt371.1).bind fun bt373 => (if (bt373.1 == 2 && ((bt373.2.1 == a0_0 && (bt373.2.2.1 == a0_1 && (bt373.2.2.2.1 == a0_2 && (bt373.2.2.2.2.1 == a0_3)))) && (bt373.2.2.2.2.2.toList == a1.toList))) = true then ((frame_Blank.f (a1.size : Int)).bind fun t379 => (some ((bt371.1.size : Int) == (t379.size : Int)))) else (some false))) else (some (bt371.1.toList == ([] : List UInt8))))) = some r := by rw [if_pos rfl] at H; exact H
    clear H
    have H := H1
    clear H1
    replace H := Option.bind_eq_some_iff.mp H
    obtain ⟨⟨t371, t372⟩, A50, H⟩ := H
    replace H : (if t372 = 0 then ((frame_Decode.f t371).bind fun bt373 => (if (bt373.1 == 2 && ((bt373.2.1 == a0_0 && (bt373.2.2.1 == a0_1 && (bt373.2.2.2.1 == a0_2 && (bt373.2.2.2.2.1 == a0_3)))) && (bt373.2.2.2.2.2.toList == a1.toList))) = true then ((frame_Blank.f (a1.size : Int)).bind fun t379 => (some ((t371.size : Int) == (t379.size : Int)))) else (some false))) else (some (t371.toList == ([] : List UInt8)))) = some r := H
    have A5 := Aside0.mk A50
    clear A50
    by_cases c6 : t372 = 0
    · rw [if_pos c6] at H
      have c6b0 : (t372 == 0) = true := beq_iff_eq.mpr c6
      have c6b1 : (t372 != 0) = false := bne_eq_false_iff_eq.mpr c6
      clear c6
      replace H := Option.bind_eq_some_iff.mp H
      obtain ⟨⟨t373, t374, t375, t376, t377, t378⟩, A70, H⟩ := H
      replace H : (if (t373 == 2 && ((t374 == a0_0 && (t375 == a0_1 && (t376 == a0_2 && (t377 == a0_3)))) && (t378.toList == a1.toList))) = true then ((frame_Blank.f (a1.size : Int)).bind fun t379 => (some ((t371.size : Int) == (t379.size : Int)))) else (some false)) = some r := H
      have A7 := Aside0.mk A70
      clear A70
      by_cases c8 : (t373 == 2 && ((t374 == a0_0 && (t375 == a0_1 && (t376 == a0_2 && (t377 == a0_3)))) && (t378.toList == a1.toList))) = true
      · rw [if_pos c8] at H
        have c8b0 : (t373 == 2 && ((t374 == a0_0 && (t375 == a0_1 && (t376 == a0_2 && (t377 == a0_3)))) && (t378.toList == a1.toList))) = true := c8
        (try (have c8b1 : decide (t373 = 2 && ((t374 == a0_0 && (t375 == a0_1 && (t376 == a0_2 && (t377 == a0_3)))) && (t378.toList == a1.toList))) = true := by simpa using c8))
        (try (have c8b2 : (t373 == 2 && ((t374 == a0_0 && (t375 == a0_1 && (t376 == a0_2 && (t377 == a0_3)))) && (t378.toList == a1.toList))) = true := by simpa using c8))
        clear c8
        replace H := Option.bind_eq_some_iff.mp H
        obtain ⟨t379, A90, H⟩ := H
        replace H : (some ((t371.size : Int) == (t379.size : Int))) = some r := H
        have A9 := Aside0.mk A90
        clear A90
        obtain rfl := Option.some.inj H
        go_enter Tryd.func6, Tryd.ntmps6
        try go_wp2_with (first | ((with_reducible refine gate_dst (N := 2) rfl ?_); (try (refine gate_guard (by rfl) ?_; dsimp only)); refine box_event ?hg (N := 2) ?hd (cs := #[.int .i64 a0_0, .int .i64 a0_1, .int .i64 a0_2, .int .i64 a0_3]) (t := 23) ?hr ?_; (case hd => rfl); (case hg => rfl); (case hr => first | (go_simp; done) | (go_simp; rfl)); intro gb369 hg w10 hbox hb; have n0_ := Aside0.mk (below_step (by repeat (first | (with_reducible first | exact HB.out | apply below_alloc | apply pw_below_drewN | apply below_drew1) | exact HB.out)) hb); have n1_ := Aside0.mk (hbox); have n2_ := Aside0.mk ((by rw [hg]; exact (below_size (by repeat (first | (with_reducible first | exact HB.out | apply below_alloc | apply pw_below_drewN | apply below_drew1) | exact HB.out))) : w.heap.size ≤ gb369)); have n3_ := Aside0.mk ((by rw [hg]; exact (below_size (by repeat (first | (with_reducible first | exact HB.out | apply below_alloc | apply pw_below_drewN | apply below_drew1) | exact HB.out))) : w.heap.size ≤ gb369)); clear HB; have HB := n0_; have BK369 := n1_; have GW369 := n2_; have GE369 := n3_; clear n0_ n1_ n2_ n3_; clear hb hbox hg) | ((with_reducible refine gate_callee (f := 9) rfl ?_); refine goesL_ (some 7) rfl rfl Tryd.func9 (by kernel_rfl) rfl #[] rfl (by (try simp only [List.map_toArray, List.map_cons, List.map_nil]); first | done | rfl | (simp only [List.length_drop, List.length_take]; rfl)) ?_; (with_reducible refine (decklelaw05_works.calls  true _ A3.out).mono ?_); rintro e w11 ⟨rfl, hb⟩; refine ⟨_, rfl, ?_⟩; have n0_ := Aside0.mk (blk_below (g := gb369) (o := .cells #[.int .i64 a0_0, .int .i64 a0_1, .int .i64 a0_2, .int .i64 a0_3] 23 (0, 0)) (by (with_reducible repeat (first | refine blk_drewN ?_ _ | refine blk_drew ?_ | refine blk_alloc ?_ _)); exact BK369.out) hb); have n1_ := Aside0.mk (below_step (by repeat (first | (with_reducible first | exact HB.out | apply below_alloc | apply pw_below_drewN | apply below_drew1 | refine below_set ?_ GE369.out) | exact HB.out)) hb); clear BK369; clear HB; have BK369 := n0_; have HB := n1_; clear n0_ n1_; (try clear hb); (try clear hb2); (try clear hk); (try clear hi); have hcz12_0 : w11.cell? ⟨gb369, 0, none⟩ = some (.int .i64 a0_0) := (blk_cell BK369.out 0).trans rfl; have hcz12_1 : w11.cell? ⟨gb369, 1, none⟩ = some (.int .i64 a0_1) := (blk_cell BK369.out 1).trans rfl; have hcz12_2 : w11.cell? ⟨gb369, 2, none⟩ = some (.int .i64 a0_2) := (blk_cell BK369.out 2).trans rfl; have hcz12_3 : w11.cell? ⟨gb369, 3, none⟩ = some (.int .i64 a0_3) := (blk_cell BK369.out 3).trans rfl; have hfz12_0 := blk_frozen BK369.out 0; have hfz12_1 := blk_frozen BK369.out 1; have hfz12_2 := blk_frozen BK369.out 2; have hfz12_3 := blk_frozen BK369.out 3) | ((with_reducible refine gate_callee (f := 10) rfl ?_); refine goesL_ (some 12) rfl rfl Tryd.func10 (by kernel_rfl) rfl #[.agg #[.int .i64 a0_0, .int .i64 a0_1, .int .i64 a0_2, .int .i64 a0_3], .string a1] rfl (by (try simp only [List.map_toArray, List.map_cons, List.map_nil]); first | done | rfl | (simp only [List.length_drop, List.length_take]; rfl)) ?_; (with_reducible refine (frame_Encode.calls a0_0 a0_1 a0_2 a0_3 a1 t371 t372 _ A5.out).mono ?_); rintro e w13 ⟨rfl, hb⟩; refine ⟨_, rfl, ?_⟩; have n0_ := Aside0.mk (blk_below (g := gb369) (o := .cells #[.int .i64 a0_0, .int .i64 a0_1, .int .i64 a0_2, .int .i64 a0_3] 23 (0, 0)) (by (with_reducible repeat (first | refine blk_drewN ?_ _ | refine blk_drew ?_ | refine blk_alloc ?_ _)); exact BK369.out) hb); have n1_ := Aside0.mk (below_step (by repeat (first | (with_reducible first | exact HB.out | apply below_alloc | apply pw_below_drewN | apply below_drew1 | refine below_set ?_ GE369.out) | exact HB.out)) hb); clear BK369; clear HB; have BK369 := n0_; have HB := n1_; clear n0_ n1_; (try clear hb); (try clear hb2); (try clear hk); (try clear hi)))
        have n0_ := Aside0.mk (blk_drew BK369.out)
        have n1_ := Aside0.mk (below_drew1 HB.out)
        clear BK369
        clear HB
        have BK369 := n0_
        have HB := n1_
        clear n0_ n1_
        refine start_ (n := 16) (S := fun w' => w'.cell? ⟨gb369, 0, none⟩ = some (.int .i64 a0_0) ∧ w'.cell? ⟨gb369, 1, none⟩ = some (.int .i64 a0_1) ∧ w'.cell? ⟨gb369, 2, none⟩ = some (.int .i64 a0_2) ∧ w'.cell? ⟨gb369, 3, none⟩ = some (.int .i64 a0_3)) (ds := []) (tfA 0 16) (by kernel_rfl) rfl rfl ⟨(blk_cell BK369.out 0).trans rfl, (blk_cell BK369.out 1).trans rfl, (blk_cell BK369.out 2).trans rfl, (blk_cell BK369.out 3).trans rfl⟩ (fun hHeld => ?_); refine with_tabW decklelaw05_FrameBack.tab6 decklelaw05_FrameBack.bits6 (fun HT_ HW_ => ?_)
        generalize w13.drew = w14 at BK369 HB hHeld ⊢
        refine pure_ (i := 0) (N := some 19) (v := ?_) (a' := ?_) (tfA 1 16) rfl rfl (any_of HT_.out (by kernel_rfl)) (fun _ _ _ h => h) (Or.inl ⟨by rfl, ?_⟩) ?_ ?_
        rotate_left
        · intro w'; go_simp; with_reducible rfl
        rotate_left
        · simp only [Act.put, sib, sc0, sc1, i64_w, i32_w]; rfl
        refine pure_ (i := 3) (N := some 22) (v := ?_) (a' := ?_) #[true, false, false, true, false, false, false, false, false, false, false, false, false, false, false, false] rfl rfl (any_of HT_.out (by kernel_rfl)) (fun _ _ _ h => h) (Or.inl ⟨by rfl, ?_⟩) ?_ ?_
        rotate_left
        · intro w'; go_simp; with_reducible rfl
        rotate_left
        · simp only [Act.put, sib, sc0, sc1, i64_w, i32_w]; rfl
        refine take_ (i := 2) (N := some 21) (v := ?_) (a' := ?_) #[true, false, true, true, false, false, false, false, false, false, false, false, false, false, false, false] rfl rfl (take_ofW HT_.out HW_.out (by kernel_rfl)) (fun _ _ _ h => h) (Or.inl ⟨by rfl, ?_⟩) hHeld ?_ ?_
        rotate_left
        · rintro w' ⟨s0, s1, s2, s3⟩
          go_simp
          with_reducible rfl
        rotate_left
        · simp only [Act.put, sib, sc0, sc1, i64_w, i32_w]
          rfl
        refine pure_ (i := 4) (N := some 23) (v := ?_) (a' := ?_) #[true, false, true, true, true, false, false, false, false, false, false, false, false, false, false, false] rfl rfl (any_of HT_.out (by kernel_rfl)) (fun _ _ _ h => h) (Or.inl ⟨by rfl, ?_⟩) ?_ ?_
        rotate_left
        · intro w'; go_simp; with_reducible rfl
        rotate_left
        · simp only [Act.put, sib, sc0, sc1, i64_w, i32_w]; rfl
        refine one_ (i := 1) (N := some 20) (tfA 5 16) rfl rfl (one_of HT_.out (by kernel_rfl)) (by decide) (fun K hK => ?_)
        refine goes_ Tryd.func12 (by kernel_rfl) rfl #[.string t371] (by rfl) rfl rfl (by (try simp only [List.map_toArray, List.map_cons, List.map_nil]); first | done | rfl | (simp only [List.length_drop, List.length_take]; rfl)) ?_
        with_reducible refine (frame_Decode.calls t371 t373 t374 t375 t376 t377 t378 _ A7.out).mono ?_
        rintro e w15 ⟨rfl, hb⟩
        refine ⟨_, rfl, ?_⟩
        have n0_ := Aside0.mk (blk_below (g := gb369) (o := .cells #[.int .i64 a0_0, .int .i64 a0_1, .int .i64 a0_2, .int .i64 a0_3] 23 (0, 0)) (by (with_reducible repeat (first | refine blk_drewN ?_ _ | refine blk_drew ?_ | refine blk_alloc ?_ _)); exact BK369.out) hb)
        have n1_ := Aside0.mk (below_step (by repeat (first | (with_reducible first | exact HB.out | apply below_alloc | apply pw_below_drewN | apply below_drew1 | refine below_set ?_ GE369.out) | exact HB.out)) hb)
        clear BK369
        clear HB
        have BK369 := n0_
        have HB := n1_
        clear n0_ n1_
        (try clear hb)
        (try clear hb2)
        (try clear hk)
        (try clear hi)
        refine hK.out _ _ ⟨(blk_cell BK369.out 0).trans rfl, (blk_cell BK369.out 1).trans rfl, (blk_cell BK369.out 2).trans rfl, (blk_cell BK369.out 3).trans rfl⟩ (fun hHeld => ?_)
        clear hK K
        refine norm_ (a' := ?_) ?_ ?_
        rotate_left
        · show Act.put _ (some 20) _ = _
          simp only [Act.put, sib, sc0, sc1, i64_w, i32_w]
          rfl
        refine pure_ (i := 5) (N := some 24) (v := ?_) (a' := ?_) (tfA 6 16) rfl rfl (any_of HT_.out (by kernel_rfl)) (fun _ _ _ h => h) (Or.inl ⟨by rfl, ?_⟩) ?_ ?_
        rotate_left
        · intro w'; go_simp; with_reducible rfl
        rotate_left
        · simp only [Act.put, sib, sc0, sc1, i64_w, i32_w]; rfl
        refine pure_ (i := 6) (N := some 25) (v := ?_) (a' := ?_) (tfA 7 16) rfl rfl (any_of HT_.out (by kernel_rfl)) (fun _ _ _ h => h) (Or.inl ⟨by rfl, ?_⟩) ?_ ?_
        rotate_left
        · intro w'; go_simp; with_reducible rfl
        rotate_left
        · simp only [Act.put, sib, sc0, sc1, i64_w, i32_w]; rfl
        refine pure_ (i := 7) (N := some 26) (v := ?_) (a' := ?_) (tfA 8 16) rfl rfl (any_of HT_.out (by kernel_rfl)) (fun _ _ _ h => h) (Or.inl ⟨by rfl, ?_⟩) ?_ ?_
        rotate_left
        · intro w'; go_simp; with_reducible rfl
        rotate_left
        · simp only [Act.put, sib, sc0, sc1, i64_w, i32_w]; rfl
        refine pure_ (i := 8) (N := some 27) (v := ?_) (a' := ?_) (tfA 9 16) rfl rfl (any_of HT_.out (by kernel_rfl)) (fun _ _ _ h => h) (Or.inl ⟨by rfl, ?_⟩) ?_ ?_
        rotate_left
        · intro w'; go_simp; with_reducible rfl
        rotate_left
        · simp only [Act.put, sib, sc0, sc1, i64_w, i32_w]; rfl
        refine pure_ (i := 9) (N := some 28) (v := ?_) (a' := ?_) (tfA 10 16) rfl rfl (any_of HT_.out (by kernel_rfl)) (fun _ _ _ h => h) (Or.inl ⟨by rfl, ?_⟩) ?_ ?_
        rotate_left
        · intro w'; go_simp; with_reducible rfl
        rotate_left
        · simp only [Act.put, sib, sc0, sc1, i64_w, i32_w]; rfl
        refine pure_ (i := 10) (N := some 29) (v := ?_) (a' := ?_) (tfA 11 16) rfl rfl (any_of HT_.out (by kernel_rfl)) (fun _ _ _ h => h) (Or.inl ⟨by rfl, ?_⟩) ?_ ?_
        rotate_left
        · intro w'; go_simp; with_reducible rfl
        rotate_left
        · simp only [Act.put, sib, sc0, sc1, i64_w, i32_w]; rfl
        refine one_ (i := 11) (N := some 30) (tfA 12 16) rfl rfl (one_of HT_.out (by kernel_rfl)) (by decide) (fun K hK => ?_)
        refine goes_ Tryd.func14 (by kernel_rfl) rfl #[.int .i64 (a1.size : Int)] (by rfl) rfl rfl (by (try simp only [List.map_toArray, List.map_cons, List.map_nil]); first | done | rfl | (simp only [List.length_drop, List.length_take]; rfl)) ?_
        with_reducible refine (frame_Blank.calls (a1.size : Int) t379 _ A9.out).mono ?_
        rintro e w16 ⟨rfl, hb⟩
        refine ⟨_, rfl, ?_⟩
        have n0_ := Aside0.mk (blk_below (g := gb369) (o := .cells #[.int .i64 a0_0, .int .i64 a0_1, .int .i64 a0_2, .int .i64 a0_3] 23 (0, 0)) (by (with_reducible repeat (first | refine blk_drewN ?_ _ | refine blk_drew ?_ | refine blk_alloc ?_ _)); exact BK369.out) hb)
        have n1_ := Aside0.mk (below_step (by repeat (first | (with_reducible first | exact HB.out | apply below_alloc | apply pw_below_drewN | apply below_drew1 | refine below_set ?_ GE369.out) | exact HB.out)) hb)
        clear BK369
        clear HB
        have BK369 := n0_
        have HB := n1_
        clear n0_ n1_
        (try clear hb)
        (try clear hb2)
        (try clear hk)
        (try clear hi)
        refine hK.out _ _ ⟨(blk_cell BK369.out 0).trans rfl, (blk_cell BK369.out 1).trans rfl, (blk_cell BK369.out 2).trans rfl, (blk_cell BK369.out 3).trans rfl⟩ (fun hHeld => ?_)
        clear hK K
        refine norm_ (a' := ?_) ?_ ?_
        rotate_left
        · show Act.put _ (some 30) _ = _
          simp only [Act.put, sib, sc0, sc1, i64_w, i32_w]
          rfl
        refine pure_ (i := 12) (N := some 31) (v := ?_) (a' := ?_) (tfA 13 16) rfl rfl (any_of HT_.out (by kernel_rfl)) (fun _ _ _ h => h) (Or.inl ⟨by rfl, ?_⟩) ?_ ?_
        rotate_left
        · intro w'; go_simp; with_reducible rfl
        rotate_left
        · simp only [Act.put, sib, sc0, sc1, i64_w, i32_w]; rfl
        refine pure_ (i := 13) (N := some 32) (v := ?_) (a' := ?_) (tfA 14 16) rfl rfl (any_of HT_.out (by kernel_rfl)) (fun _ _ _ h => h) (Or.inl ⟨by rfl, ?_⟩) ?_ ?_
        rotate_left
        · intro w'; go_simp; with_reducible rfl
        rotate_left
        · simp only [Act.put, sib, sc0, sc1, i64_w, i32_w]; rfl
        refine pure_ (i := 14) (N := some 33) (v := ?_) (a' := ?_) (tfA 15 16) rfl rfl (any_of HT_.out (by kernel_rfl)) (fun _ _ _ h => h) (Or.inl ⟨by rfl, ?_⟩) ?_ ?_
        rotate_left
        · intro w'; go_simp; with_reducible rfl
        rotate_left
        · simp only [Act.put, sib, sc0, sc1, i64_w, i32_w]; rfl
        refine pure_ (i := 15) (N := some 4) (v := ?_) (a' := ?_) (tfA 16 16) rfl rfl (any_of HT_.out (by kernel_rfl)) (fun _ _ _ h => h) (Or.inl ⟨by rfl, ?_⟩) ?_ ?_
        rotate_left
        · intro w'; go_simp; with_reducible rfl
        rotate_left
        · simp only [Act.put, sib, sc0, sc1, i64_w, i32_w]; rfl
        refine done_ (done_of HT_.out (by kernel_rfl)) ?_
        try go_wp2
        go_ret
        exact ⟨by first | rfl | (simp [errW_none, errW_some] <;> rfl) | (simp [*, errW_none, errW_some] <;> rfl), by repeat (first | (with_reducible first | exact HB.out | apply below_alloc | apply pw_below_drewN | apply below_drew1 | refine below_set ?_ GE369.out) | exact HB.out)⟩
      · rw [if_neg c8] at H
        have c8b0 : (t373 == 2 && ((t374 == a0_0 && (t375 == a0_1 && (t376 == a0_2 && (t377 == a0_3)))) && (t378.toList == a1.toList))) = false := by simpa using c8
        (try (have c8b1 : decide (t373 = 2 && ((t374 == a0_0 && (t375 == a0_1 && (t376 == a0_2 && (t377 == a0_3)))) && (t378.toList == a1.toList))) = false := by simpa using c8))
        (try (have c8b2 : (t373 == 2 && ((t374 == a0_0 && (t375 == a0_1 && (t376 == a0_2 && (t377 == a0_3)))) && (t378.toList == a1.toList))) = false := by simpa using c8))
        (try (have c8b3 : ¬ (t373 = 2 && ((t374 == a0_0 && (t375 == a0_1 && (t376 == a0_2 && (t377 == a0_3)))) && (t378.toList == a1.toList))) := by simpa using c8))
        clear c8
        obtain rfl := Option.some.inj H
        go_enter Tryd.func6, Tryd.ntmps6
        try go_wp2_with (first | ((with_reducible refine gate_dst (N := 2) rfl ?_); (try (refine gate_guard (by rfl) ?_; dsimp only)); refine box_event ?hg (N := 2) ?hd (cs := #[.int .i64 a0_0, .int .i64 a0_1, .int .i64 a0_2, .int .i64 a0_3]) (t := 23) ?hr ?_; (case hd => rfl); (case hg => rfl); (case hr => first | (go_simp; done) | (go_simp; rfl)); intro gb369 hg w17 hbox hb; have n0_ := Aside0.mk (below_step (by repeat (first | (with_reducible first | exact HB.out | apply below_alloc | apply pw_below_drewN | apply below_drew1) | exact HB.out)) hb); have n1_ := Aside0.mk (hbox); have n2_ := Aside0.mk ((by rw [hg]; exact (below_size (by repeat (first | (with_reducible first | exact HB.out | apply below_alloc | apply pw_below_drewN | apply below_drew1) | exact HB.out))) : w.heap.size ≤ gb369)); have n3_ := Aside0.mk ((by rw [hg]; exact (below_size (by repeat (first | (with_reducible first | exact HB.out | apply below_alloc | apply pw_below_drewN | apply below_drew1) | exact HB.out))) : w.heap.size ≤ gb369)); clear HB; have HB := n0_; have BK369 := n1_; have GW369 := n2_; have GE369 := n3_; clear n0_ n1_ n2_ n3_; clear hb hbox hg) | ((with_reducible refine gate_callee (f := 9) rfl ?_); refine goesL_ (some 7) rfl rfl Tryd.func9 (by kernel_rfl) rfl #[] rfl (by (try simp only [List.map_toArray, List.map_cons, List.map_nil]); first | done | rfl | (simp only [List.length_drop, List.length_take]; rfl)) ?_; (with_reducible refine (decklelaw05_works.calls  true _ A3.out).mono ?_); rintro e w18 ⟨rfl, hb⟩; refine ⟨_, rfl, ?_⟩; have n0_ := Aside0.mk (blk_below (g := gb369) (o := .cells #[.int .i64 a0_0, .int .i64 a0_1, .int .i64 a0_2, .int .i64 a0_3] 23 (0, 0)) (by (with_reducible repeat (first | refine blk_drewN ?_ _ | refine blk_drew ?_ | refine blk_alloc ?_ _)); exact BK369.out) hb); have n1_ := Aside0.mk (below_step (by repeat (first | (with_reducible first | exact HB.out | apply below_alloc | apply pw_below_drewN | apply below_drew1 | refine below_set ?_ GE369.out) | exact HB.out)) hb); clear BK369; clear HB; have BK369 := n0_; have HB := n1_; clear n0_ n1_; (try clear hb); (try clear hb2); (try clear hk); (try clear hi); have hcz19_0 : w18.cell? ⟨gb369, 0, none⟩ = some (.int .i64 a0_0) := (blk_cell BK369.out 0).trans rfl; have hcz19_1 : w18.cell? ⟨gb369, 1, none⟩ = some (.int .i64 a0_1) := (blk_cell BK369.out 1).trans rfl; have hcz19_2 : w18.cell? ⟨gb369, 2, none⟩ = some (.int .i64 a0_2) := (blk_cell BK369.out 2).trans rfl; have hcz19_3 : w18.cell? ⟨gb369, 3, none⟩ = some (.int .i64 a0_3) := (blk_cell BK369.out 3).trans rfl; have hfz19_0 := blk_frozen BK369.out 0; have hfz19_1 := blk_frozen BK369.out 1; have hfz19_2 := blk_frozen BK369.out 2; have hfz19_3 := blk_frozen BK369.out 3) | ((with_reducible refine gate_callee (f := 10) rfl ?_); refine goesL_ (some 12) rfl rfl Tryd.func10 (by kernel_rfl) rfl #[.agg #[.int .i64 a0_0, .int .i64 a0_1, .int .i64 a0_2, .int .i64 a0_3], .string a1] rfl (by (try simp only [List.map_toArray, List.map_cons, List.map_nil]); first | done | rfl | (simp only [List.length_drop, List.length_take]; rfl)) ?_; (with_reducible refine (frame_Encode.calls a0_0 a0_1 a0_2 a0_3 a1 t371 t372 _ A5.out).mono ?_); rintro e w20 ⟨rfl, hb⟩; refine ⟨_, rfl, ?_⟩; have n0_ := Aside0.mk (blk_below (g := gb369) (o := .cells #[.int .i64 a0_0, .int .i64 a0_1, .int .i64 a0_2, .int .i64 a0_3] 23 (0, 0)) (by (with_reducible repeat (first | refine blk_drewN ?_ _ | refine blk_drew ?_ | refine blk_alloc ?_ _)); exact BK369.out) hb); have n1_ := Aside0.mk (below_step (by repeat (first | (with_reducible first | exact HB.out | apply below_alloc | apply pw_below_drewN | apply below_drew1 | refine below_set ?_ GE369.out) | exact HB.out)) hb); clear BK369; clear HB; have BK369 := n0_; have HB := n1_; clear n0_ n1_; (try clear hb); (try clear hb2); (try clear hk); (try clear hi)))
        have n0_ := Aside0.mk (blk_drew BK369.out)
        have n1_ := Aside0.mk (below_drew1 HB.out)
        clear BK369
        clear HB
        have BK369 := n0_
        have HB := n1_
        clear n0_ n1_
        refine start_ (n := 16) (S := fun w' => w'.cell? ⟨gb369, 0, none⟩ = some (.int .i64 a0_0) ∧ w'.cell? ⟨gb369, 1, none⟩ = some (.int .i64 a0_1) ∧ w'.cell? ⟨gb369, 2, none⟩ = some (.int .i64 a0_2) ∧ w'.cell? ⟨gb369, 3, none⟩ = some (.int .i64 a0_3)) (ds := []) (tfA 0 16) (by kernel_rfl) rfl rfl ⟨(blk_cell BK369.out 0).trans rfl, (blk_cell BK369.out 1).trans rfl, (blk_cell BK369.out 2).trans rfl, (blk_cell BK369.out 3).trans rfl⟩ (fun hHeld => ?_); refine with_tabW decklelaw05_FrameBack.tab6 decklelaw05_FrameBack.bits6 (fun HT_ HW_ => ?_)
        generalize w20.drew = w21 at BK369 HB hHeld ⊢
        refine pure_ (i := 0) (N := some 19) (v := ?_) (a' := ?_) (tfA 1 16) rfl rfl (any_of HT_.out (by kernel_rfl)) (fun _ _ _ h => h) (Or.inl ⟨by rfl, ?_⟩) ?_ ?_
        rotate_left
        · intro w'; go_simp; with_reducible rfl
        rotate_left
        · simp only [Act.put, sib, sc0, sc1, i64_w, i32_w]; rfl
        refine pure_ (i := 3) (N := some 22) (v := ?_) (a' := ?_) #[true, false, false, true, false, false, false, false, false, false, false, false, false, false, false, false] rfl rfl (any_of HT_.out (by kernel_rfl)) (fun _ _ _ h => h) (Or.inl ⟨by rfl, ?_⟩) ?_ ?_
        rotate_left
        · intro w'; go_simp; with_reducible rfl
        rotate_left
        · simp only [Act.put, sib, sc0, sc1, i64_w, i32_w]; rfl
        refine take_ (i := 2) (N := some 21) (v := ?_) (a' := ?_) #[true, false, true, true, false, false, false, false, false, false, false, false, false, false, false, false] rfl rfl (take_ofW HT_.out HW_.out (by kernel_rfl)) (fun _ _ _ h => h) (Or.inl ⟨by rfl, ?_⟩) hHeld ?_ ?_
        rotate_left
        · rintro w' ⟨s0, s1, s2, s3⟩
          go_simp
          with_reducible rfl
        rotate_left
        · simp only [Act.put, sib, sc0, sc1, i64_w, i32_w]
          rfl
        refine pure_ (i := 4) (N := some 23) (v := ?_) (a' := ?_) #[true, false, true, true, true, false, false, false, false, false, false, false, false, false, false, false] rfl rfl (any_of HT_.out (by kernel_rfl)) (fun _ _ _ h => h) (Or.inl ⟨by rfl, ?_⟩) ?_ ?_
        rotate_left
        · intro w'; go_simp; with_reducible rfl
        rotate_left
        · simp only [Act.put, sib, sc0, sc1, i64_w, i32_w]; rfl
        refine one_ (i := 1) (N := some 20) (tfA 5 16) rfl rfl (one_of HT_.out (by kernel_rfl)) (by decide) (fun K hK => ?_)
        refine goes_ Tryd.func12 (by kernel_rfl) rfl #[.string t371] (by rfl) rfl rfl (by (try simp only [List.map_toArray, List.map_cons, List.map_nil]); first | done | rfl | (simp only [List.length_drop, List.length_take]; rfl)) ?_
        with_reducible refine (frame_Decode.calls t371 t373 t374 t375 t376 t377 t378 _ A7.out).mono ?_
        rintro e w22 ⟨rfl, hb⟩
        refine ⟨_, rfl, ?_⟩
        have n0_ := Aside0.mk (blk_below (g := gb369) (o := .cells #[.int .i64 a0_0, .int .i64 a0_1, .int .i64 a0_2, .int .i64 a0_3] 23 (0, 0)) (by (with_reducible repeat (first | refine blk_drewN ?_ _ | refine blk_drew ?_ | refine blk_alloc ?_ _)); exact BK369.out) hb)
        have n1_ := Aside0.mk (below_step (by repeat (first | (with_reducible first | exact HB.out | apply below_alloc | apply pw_below_drewN | apply below_drew1 | refine below_set ?_ GE369.out) | exact HB.out)) hb)
        clear BK369
        clear HB
        have BK369 := n0_
        have HB := n1_
        clear n0_ n1_
        (try clear hb)
        (try clear hb2)
        (try clear hk)
        (try clear hi)
        refine hK.out _ _ ⟨(blk_cell BK369.out 0).trans rfl, (blk_cell BK369.out 1).trans rfl, (blk_cell BK369.out 2).trans rfl, (blk_cell BK369.out 3).trans rfl⟩ (fun hHeld => ?_)
        clear hK K
        refine norm_ (a' := ?_) ?_ ?_
        rotate_left
        · show Act.put _ (some 20) _ = _
          simp only [Act.put, sib, sc0, sc1, i64_w, i32_w]
          rfl
        refine pure_ (i := 5) (N := some 24) (v := ?_) (a' := ?_) (tfA 6 16) rfl rfl (any_of HT_.out (by kernel_rfl)) (fun _ _ _ h => h) (Or.inl ⟨by rfl, ?_⟩) ?_ ?_
        rotate_left
        · intro w'; go_simp; with_reducible rfl
        rotate_left
        · simp only [Act.put, sib, sc0, sc1, i64_w, i32_w]; rfl
        refine pure_ (i := 6) (N := some 25) (v := ?_) (a' := ?_) (tfA 7 16) rfl rfl (any_of HT_.out (by kernel_rfl)) (fun _ _ _ h => h) (Or.inl ⟨by rfl, ?_⟩) ?_ ?_
        rotate_left
        · intro w'; go_simp; with_reducible rfl
        rotate_left
        · simp only [Act.put, sib, sc0, sc1, i64_w, i32_w]; rfl
        refine pure_ (i := 7) (N := some 26) (v := undef) (a' := ?_) (tfA 8 16) rfl rfl (any_of HT_.out (by kernel_rfl)) (fun _ _ _ h => h) (Or.inr ⟨by rfl, rfl⟩) ?_ ?_
        rotate_left
        · simp only [Act.put, sib, sc0, sc1, i64_w, i32_w]
          rfl
        refine pure_ (i := 8) (N := some 27) (v := undef) (a' := ?_) (tfA 9 16) rfl rfl (any_of HT_.out (by kernel_rfl)) (fun _ _ _ h => h) (Or.inr ⟨by rfl, rfl⟩) ?_ ?_
        rotate_left
        · simp only [Act.put, sib, sc0, sc1, i64_w, i32_w]
          rfl
        refine pure_ (i := 9) (N := some 28) (v := undef) (a' := ?_) (tfA 10 16) rfl rfl (any_of HT_.out (by kernel_rfl)) (fun _ _ _ h => h) (Or.inr ⟨by rfl, rfl⟩) ?_ ?_
        rotate_left
        · simp only [Act.put, sib, sc0, sc1, i64_w, i32_w]
          rfl
        refine pure_ (i := 10) (N := some 29) (v := undef) (a' := ?_) (tfA 11 16) rfl rfl (any_of HT_.out (by kernel_rfl)) (fun _ _ _ h => h) (Or.inr ⟨by rfl, rfl⟩) ?_ ?_
        rotate_left
        · simp only [Act.put, sib, sc0, sc1, i64_w, i32_w]
          rfl
        refine pure_ (i := 11) (N := some 30) (v := undef) (a' := ?_) (tfA 12 16) rfl rfl (any_of HT_.out (by kernel_rfl)) (fun _ _ _ h => h) (Or.inr ⟨by rfl, rfl⟩) ?_ ?_
        rotate_left
        · simp only [Act.put, sib, sc0, sc1, i64_w, i32_w]
          rfl
        refine pure_ (i := 12) (N := some 31) (v := undef) (a' := ?_) (tfA 13 16) rfl rfl (any_of HT_.out (by kernel_rfl)) (fun _ _ _ h => h) (Or.inr ⟨by rfl, rfl⟩) ?_ ?_
        rotate_left
        · simp only [Act.put, sib, sc0, sc1, i64_w, i32_w]
          rfl
        refine pure_ (i := 13) (N := some 32) (v := undef) (a' := ?_) (tfA 14 16) rfl rfl (any_of HT_.out (by kernel_rfl)) (fun _ _ _ h => h) (Or.inr ⟨by rfl, rfl⟩) ?_ ?_
        rotate_left
        · simp only [Act.put, sib, sc0, sc1, i64_w, i32_w]
          rfl
        refine pure_ (i := 14) (N := some 33) (v := ?_) (a' := ?_) (tfA 15 16) rfl rfl (any_of HT_.out (by kernel_rfl)) (fun _ _ _ h => h) (Or.inl ⟨by rfl, ?_⟩) ?_ ?_
        rotate_left
        · intro w'; go_simp; with_reducible rfl
        rotate_left
        · simp only [Act.put, sib, sc0, sc1, i64_w, i32_w]; rfl
        refine pure_ (i := 15) (N := some 4) (v := ?_) (a' := ?_) (tfA 16 16) rfl rfl (any_of HT_.out (by kernel_rfl)) (fun _ _ _ h => h) (Or.inl ⟨by rfl, ?_⟩) ?_ ?_
        rotate_left
        · intro w'; go_simp; with_reducible rfl
        rotate_left
        · simp only [Act.put, sib, sc0, sc1, i64_w, i32_w]; rfl
        refine done_ (done_of HT_.out (by kernel_rfl)) ?_
        try go_wp2
        go_ret
        exact ⟨by first | rfl | (simp [errW_none, errW_some] <;> rfl) | (simp [*, errW_none, errW_some] <;> rfl), by repeat (first | (with_reducible first | exact HB.out | apply below_alloc | apply pw_below_drewN | apply below_drew1 | refine below_set ?_ GE369.out) | exact HB.out)⟩
    · rw [if_neg c6] at H
      have c6b0 : (t372 == 0) = false := beq_eq_false_iff_ne.mpr c6
      have c6b1 : (t372 != 0) = true := bne_iff_ne.mpr c6
      obtain rfl := Option.some.inj H
      go_enter Tryd.func6, Tryd.ntmps6
      go_wp2_with (first | ((with_reducible refine gate_dst (N := 2) rfl ?_); (try (refine gate_guard (by rfl) ?_; dsimp only)); refine box_event ?hg (N := 2) ?hd (cs := #[.int .i64 a0_0, .int .i64 a0_1, .int .i64 a0_2, .int .i64 a0_3]) (t := 23) ?hr ?_; (case hd => rfl); (case hg => rfl); (case hr => first | (go_simp; done) | (go_simp; rfl)); intro gb369 hg w23 hbox hb; have n0_ := Aside0.mk (below_step (by repeat (first | (with_reducible first | exact HB.out | apply below_alloc | apply pw_below_drewN | apply below_drew1) | exact HB.out)) hb); have n1_ := Aside0.mk (hbox); have n2_ := Aside0.mk ((by rw [hg]; exact (below_size (by repeat (first | (with_reducible first | exact HB.out | apply below_alloc | apply pw_below_drewN | apply below_drew1) | exact HB.out))) : w.heap.size ≤ gb369)); have n3_ := Aside0.mk ((by rw [hg]; exact (below_size (by repeat (first | (with_reducible first | exact HB.out | apply below_alloc | apply pw_below_drewN | apply below_drew1) | exact HB.out))) : w.heap.size ≤ gb369)); clear HB; have HB := n0_; have BK369 := n1_; have GW369 := n2_; have GE369 := n3_; clear n0_ n1_ n2_ n3_; clear hb hbox hg) | ((with_reducible refine gate_callee (f := 9) rfl ?_); refine goesL_ (some 7) rfl rfl Tryd.func9 (by kernel_rfl) rfl #[] rfl (by (try simp only [List.map_toArray, List.map_cons, List.map_nil]); first | done | rfl | (simp only [List.length_drop, List.length_take]; rfl)) ?_; (with_reducible refine (decklelaw05_works.calls  true _ A3.out).mono ?_); rintro e w24 ⟨rfl, hb⟩; refine ⟨_, rfl, ?_⟩; have n0_ := Aside0.mk (blk_below (g := gb369) (o := .cells #[.int .i64 a0_0, .int .i64 a0_1, .int .i64 a0_2, .int .i64 a0_3] 23 (0, 0)) (by (with_reducible repeat (first | refine blk_drewN ?_ _ | refine blk_drew ?_ | refine blk_alloc ?_ _)); exact BK369.out) hb); have n1_ := Aside0.mk (below_step (by repeat (first | (with_reducible first | exact HB.out | apply below_alloc | apply pw_below_drewN | apply below_drew1 | refine below_set ?_ GE369.out) | exact HB.out)) hb); clear BK369; clear HB; have BK369 := n0_; have HB := n1_; clear n0_ n1_; (try clear hb); (try clear hb2); (try clear hk); (try clear hi); have hcz25_0 : w24.cell? ⟨gb369, 0, none⟩ = some (.int .i64 a0_0) := (blk_cell BK369.out 0).trans rfl; have hcz25_1 : w24.cell? ⟨gb369, 1, none⟩ = some (.int .i64 a0_1) := (blk_cell BK369.out 1).trans rfl; have hcz25_2 : w24.cell? ⟨gb369, 2, none⟩ = some (.int .i64 a0_2) := (blk_cell BK369.out 2).trans rfl; have hcz25_3 : w24.cell? ⟨gb369, 3, none⟩ = some (.int .i64 a0_3) := (blk_cell BK369.out 3).trans rfl; have hfz25_0 := blk_frozen BK369.out 0; have hfz25_1 := blk_frozen BK369.out 1; have hfz25_2 := blk_frozen BK369.out 2; have hfz25_3 := blk_frozen BK369.out 3) | ((with_reducible refine gate_callee (f := 10) rfl ?_); refine goesL_ (some 12) rfl rfl Tryd.func10 (by kernel_rfl) rfl #[.agg #[.int .i64 a0_0, .int .i64 a0_1, .int .i64 a0_2, .int .i64 a0_3], .string a1] rfl (by (try simp only [List.map_toArray, List.map_cons, List.map_nil]); first | done | rfl | (simp only [List.length_drop, List.length_take]; rfl)) ?_; (with_reducible refine (frame_Encode.calls a0_0 a0_1 a0_2 a0_3 a1 t371 t372 _ A5.out).mono ?_); rintro e w26 ⟨rfl, hb⟩; refine ⟨_, rfl, ?_⟩; have n0_ := Aside0.mk (blk_below (g := gb369) (o := .cells #[.int .i64 a0_0, .int .i64 a0_1, .int .i64 a0_2, .int .i64 a0_3] 23 (0, 0)) (by (with_reducible repeat (first | refine blk_drewN ?_ _ | refine blk_drew ?_ | refine blk_alloc ?_ _)); exact BK369.out) hb); have n1_ := Aside0.mk (below_step (by repeat (first | (with_reducible first | exact HB.out | apply below_alloc | apply pw_below_drewN | apply below_drew1 | refine below_set ?_ GE369.out) | exact HB.out)) hb); clear BK369; clear HB; have BK369 := n0_; have HB := n1_; clear n0_ n1_; (try clear hb); (try clear hb2); (try clear hk); (try clear hi)))
      go_ret
      exact ⟨by first | rfl | (simp [errW_none, errW_some] <;> rfl) | (simp [*, errW_none, errW_some] <;> rfl), by repeat (first | (with_reducible first | exact HB.out | apply below_alloc | apply pw_below_drewN | apply below_drew1 | refine below_set ?_ GE369.out) | exact HB.out)⟩
  · replace c4 := Bool.eq_false_iff.mpr c4
    subst c4
    have H1 : (some false) = some r := by rw [if_neg (show ¬ (false = true) by decide)] at H; exact H
    clear H
    have H := H1
    clear H1
    obtain rfl := Option.some.inj H
    go_enter Tryd.func6, Tryd.ntmps6
    go_wp2_with (first | ((with_reducible refine gate_dst (N := 2) rfl ?_); (try (refine gate_guard (by rfl) ?_; dsimp only)); refine box_event ?hg (N := 2) ?hd (cs := #[.int .i64 a0_0, .int .i64 a0_1, .int .i64 a0_2, .int .i64 a0_3]) (t := 23) ?hr ?_; (case hd => rfl); (case hg => rfl); (case hr => first | (go_simp; done) | (go_simp; rfl)); intro gb369 hg w27 hbox hb; have n0_ := Aside0.mk (below_step (by repeat (first | (with_reducible first | exact HB.out | apply below_alloc | apply pw_below_drewN | apply below_drew1) | exact HB.out)) hb); have n1_ := Aside0.mk (hbox); have n2_ := Aside0.mk ((by rw [hg]; exact (below_size (by repeat (first | (with_reducible first | exact HB.out | apply below_alloc | apply pw_below_drewN | apply below_drew1) | exact HB.out))) : w.heap.size ≤ gb369)); have n3_ := Aside0.mk ((by rw [hg]; exact (below_size (by repeat (first | (with_reducible first | exact HB.out | apply below_alloc | apply pw_below_drewN | apply below_drew1) | exact HB.out))) : w.heap.size ≤ gb369)); clear HB; have HB := n0_; have BK369 := n1_; have GW369 := n2_; have GE369 := n3_; clear n0_ n1_ n2_ n3_; clear hb hbox hg) | ((with_reducible refine gate_callee (f := 9) rfl ?_); refine goesL_ (some 7) rfl rfl Tryd.func9 (by kernel_rfl) rfl #[] rfl (by (try simp only [List.map_toArray, List.map_cons, List.map_nil]); first | done | rfl | (simp only [List.length_drop, List.length_take]; rfl)) ?_; (with_reducible refine (decklelaw05_works.calls  false _ A3.out).mono ?_); rintro e w28 ⟨rfl, hb⟩; refine ⟨_, rfl, ?_⟩; have n0_ := Aside0.mk (blk_below (g := gb369) (o := .cells #[.int .i64 a0_0, .int .i64 a0_1, .int .i64 a0_2, .int .i64 a0_3] 23 (0, 0)) (by (with_reducible repeat (first | refine blk_drewN ?_ _ | refine blk_drew ?_ | refine blk_alloc ?_ _)); exact BK369.out) hb); have n1_ := Aside0.mk (below_step (by repeat (first | (with_reducible first | exact HB.out | apply below_alloc | apply pw_below_drewN | apply below_drew1 | refine below_set ?_ GE369.out) | exact HB.out)) hb); clear BK369; clear HB; have BK369 := n0_; have HB := n1_; clear n0_ n1_; (try clear hb); (try clear hb2); (try clear hk); (try clear hi)))
    go_ret
    exact ⟨by first | rfl | (simp [errW_none, errW_some] <;> rfl) | (simp [*, errW_none, errW_some] <;> rfl), by repeat (first | (with_reducible first | exact HB.out | apply below_alloc | apply pw_below_drewN | apply below_drew1 | refine below_set ?_ GE369.out) | exact HB.out)⟩

end Go.Proofs.YtbcgddacmjliaaaDoor.PF
end

section
/- A page's bytes in plain words: what is encoded, chunk by chunk; what chunks come to; what a whole page is; which is erased. -/
set_option linter.unusedVariables false
set_option linter.unusedSimpArgs false
namespace Go.Proofs.YtbcgddacmjliaaaDoor.PF
open Go.RowKit Go.Proofs.YtbcgddacmjliaaaDoor.Hw Go.Proofs.YtbcgddacmjliaaaDoorW.PrintWords Go.Proofs.YtbcgddacmjliaaaDoorW.PrintLast

/-- Eight bytes with their check; the bytes of a whole page, chunk by chunk. -/
def enc9 (s : ByteArray) : ByteArray := s ++ strOfNums [((chkB s : Nat) : Int)]
def encs (all : ByteArray) : Nat → ByteArray
  | 0 => ⟨#[]⟩
  | j + 1 => encs all j ++ enc9 (all.extract (8 * j) (8 * j + 8))
theorem enc9_size (s : ByteArray) (h : s.size = 8) : (enc9 s).size = 9 := by unfold enc9; rw [ByteArray.size_append, son_size, h]; rfl
theorem encs_size (all : ByteArray) : ∀ n, 8 * n ≤ all.size → (encs all n).size = 9 * n
  | 0, _ => rfl
  | n + 1, h => by
    unfold encs
    rw [ByteArray.size_append, encs_size all n (by omega), enc9_size _ (by rw [size_extract' _ _ _ (by omega)]; omega)]
    omega
theorem encAt_is (all : ByteArray) : ∀ n, 8 * n ≤ all.size → n ≤ 1000 → encAt all n = some (encs all n)
  | 0, _, _ => rfl
  | n + 1, h, h2 => by
    have h8 : (all.extract (8 * n) (8 * n + 8)).size = 8 := by rw [size_extract' _ _ _ (by omega)]; omega
    have hz : (encs all n).size + (enc9 (all.extract (8 * n) (8 * n + 8))).size ≤ 140737488355328 := by rw [encs_size all n (by omega), enc9_size _ h8]; omega
    unfold encAt
    rw [encAt_is all n (by omega) (by omega), Option.bind_some, ham_enc _ h8, Option.bind_some]
    exact if_pos hz
theorem encs_chk (all : ByteArray) (j : Nat) : ∀ n, 8 * n ≤ all.size → j < n → chk (encs all n) j = enc9 (all.extract (8 * j) (8 * j + 8))
  | 0, _, h => by omega
  | n + 1, h, hj => by
    have hs := encs_size all n (by omega)
    have h9 : (enc9 (all.extract (8 * n) (8 * n + 8))).size = 9 := enc9_size _ (by rw [size_extract' _ _ _ (by omega)]; omega)
    unfold chk encs
    by_cases e : j = n
    · subst e
      rw [app_extract_r _ _ _ _ (by omega) (by omega), hs, Nat.sub_self, Nat.add_sub_cancel_left, ← h9, ext_all]
    · rw [app_extract_l _ _ _ _ (by omega)]
      exact encs_chk all j n (by omega) (by omega)
/-- What chunks come to. -/
def whAt (st : Nat → Int) : Nat → Int
  | 0 => 2
  | n + 1 => if st n = 3 then 3 else whAt st n
theorem ext_snoc (a : ByteArray) (m n : Nat) (h : n ≤ a.size) (hm : m ≤ n) : a.extract 0 m ++ a.extract m n = a.extract 0 n := by
  apply bext
  · rw [ByteArray.size_append, size_extract' _ _ _ (by omega), size_extract' _ _ _ (by omega), size_extract' _ _ _ (by omega)]; omega
  · intro i hi
    rw [ByteArray.size_append, size_extract' _ _ _ (by omega), size_extract' _ _ _ (by omega)] at hi
    rw [bn_append, size_extract' _ _ _ (by omega), bn_extract _ 0 n i (by omega) (by omega)]
    split
    · rw [bn_extract _ _ _ _ (by omega) (by omega)]
    · rw [bn_extract _ _ _ _ (by omega) (by omega)]; congr 1; omega
theorem dec_ok (s a : ByteArray) (st : Nat → Int) : ∀ n, 8 * n ≤ a.size → n ≤ 1000 → (∀ j, j < n → ham_Decode.f 40 (chk s j) = some (a.extract (8 * j) (8 * j + 8), st j, 0) ∧ st j ≠ 4) → decAt s n = some (a.extract 0 (8 * n), whAt st n, false)
  | 0, _, _, _ => by
    have : a.extract 0 (8 * 0) = ⟨#[]⟩ := bext (by rw [size_extract' _ _ _ (by omega)]; rfl) (fun i hi => by rw [size_extract' _ _ _ (by omega)] at hi; omega)
    rw [this]
    rfl
  | n + 1, h, h2, hh => by
    obtain ⟨h3, h4⟩ := hh n (by omega)
    have ih := dec_ok s a st n (by omega) (by omega) (fun j hj => hh j (by omega))
    unfold decAt
    rw [ih, Option.bind_some, if_neg (by decide : ¬ (false = true)), h3, Option.bind_some, if_neg h4, if_pos (by rw [size_extract' _ _ _ (by omega), size_extract' _ _ _ (by omega)]; omega), ext_snoc a _ _ (by omega) (by omega)]
    rfl
theorem dec_stay (s : ByteArray) (x : ByteArray) (wh : Int) (j : Nat) (h : decAt s j = some (x, wh, true)) : ∀ d, decAt s (j + d) = some (x, wh, true)
  | 0 => h
  | d + 1 => by
    show decAt s (j + d + 1) = _
    unfold decAt
    rw [dec_stay s x wh j h d, Option.bind_some, if_pos rfl]
/-- A bad chunk behind others. -/
theorem dec_bad (s a : ByteArray) (st : Nat → Int) (n j : Nat) (hj : j < n) (ha : 8 * j ≤ a.size) (h1 : n ≤ 1000) (hh : ∀ i, i < j → ham_Decode.f 40 (chk s i) = some (a.extract (8 * i) (8 * i + 8), st i, 0) ∧ st i ≠ 4) (hb : ham_Decode.f 40 (chk s j) = some (⟨#[]⟩, 4, 0)) : decAt s n = some (a.extract 0 (8 * j), 4, true) := by
  have h := dec_ok s a st j ha (by omega) hh
  have h2 : decAt s (j + 1) = some (a.extract 0 (8 * j), 4, true) := by
    unfold decAt
    rw [h, Option.bind_some, if_neg (by decide : ¬ (false = true)), hb, Option.bind_some, if_pos rfl]
  have := dec_stay s _ _ _ h2 (n - (j + 1))
  rw [show j + 1 + (n - (j + 1)) = n by omega] at this
  exact this
/-- What a whole page's bytes are. -/
def wholeP (a : ByteArray) (wh : Int) : Page6 :=
  if a.extract (a.size - 4) a.size = zero4 ∧ Sealed (a.extract 0 (a.size - 4)) ∧ TagOk (a.extract 0 16) then
    (wh, ((bn (a.extract 0 16) 1 : Nat) : Int), ((parts (a.extract 0 16) 2 4 : Nat) : Int), ((parts (a.extract 0 16) 4 10 : Nat) : Int), ((parts (a.extract 0 16) 10 14 : Nat) : Int), a.extract 16 (a.size - 8)) else (4, 0, 0, 0, 0, ⟨#[]⟩)
/-- A page's bytes ahead of their checks. -/
def allOf (k l s e : Int) (d : ByteArray) : ByteArray := (strOfNums (tagInts k l s e) ++ d ++ sum4 (strOfNums (tagInts k l s e) ++ d)) ++ zero4
theorem allOf_size (k l s e : Int) (d : ByteArray) : (allOf k l s e d).size = d.size + 24 := by
  unfold allOf
  rw [ByteArray.size_append, ByteArray.size_append, ByteArray.size_append, tag_size, sum4_size]
  show 16 + d.size + 4 + 4 = _
  omega
def pageOf (k l s e : Int) (d : ByteArray) : ByteArray := encs (allOf k l s e d) ((d.size + 24) / 8)
theorem frame_enc (k l s e : Int) (d : ByteArray) : frame_Encode.f k l s e d = some (if mayB d.size = true then (if mayT k l s e = true then (pageOf k l s e d, 0) else (⟨#[]⟩, 1)) else (⟨#[]⟩, 2)) := by
  unfold frame_Encode.f
  rw [may_is, Option.bind_some]
  by_cases hm : mayB d.size = true
  · have hb := of_decide_eq_true hm
    rw [if_pos hm, if_pos hm]
    unfold tag_Encode.f
    rw [Option.bind_some]
    by_cases ht : mayT k l s e = true
    · have hz : (strOfNums (tagInts k l s e)).size = 16 := tag_size k l s e
      have hzd : (strOfNums (tagInts k l s e) ++ d).size = d.size + 16 := by rw [ByteArray.size_append, hz]; omega
      have hs2 : (strOfNums (tagInts k l s e) ++ d ++ sum4 (strOfNums (tagInts k l s e) ++ d)).size = d.size + 20 := by rw [ByteArray.size_append, sum4_size, hzd]
      rw [if_pos ht, if_pos ht, if_pos (by rfl), if_pos (by rw [hz]; omega), seal_is _ (by rw [hzd]; omega), Option.bind_some, hs2, if_pos ⟨by omega, by omega⟩]
      have := encAt_is (allOf k l s e d) ((d.size + 24) / 8) (by rw [allOf_size]; omega) (by omega)
      unfold allOf at this
      rw [show d.size + 20 + 4 = d.size + 24 by omega, this, Option.bind_some]
      rfl
    · rw [if_neg ht, if_neg ht, if_neg (by decide)]
  · rw [if_neg hm, if_neg hm]
theorem era_some (s : ByteArray) : ∀ n, (∀ j, j < n → (chk s j).size ≤ 9) → ∃ b, eraAt s n = some b
  | 0, _ => ⟨true, rfl⟩
  | n + 1, h => by
    obtain ⟨b, hb⟩ := era_some s n (fun j hj => h j (by omega))
    have h1 := h n (by omega)
    unfold eraAt bits_Zeros.f
    rw [hb, Option.bind_some]
    cases b with
    | true => rw [if_pos rfl, if_pos (by omega), Option.bind_some]; exact ⟨_, rfl⟩
    | false => rw [if_neg (by decide)]; exact ⟨_, rfl⟩
theorem era_stay (s : ByteArray) (j : Nat) (h : eraAt s j = some false) : ∀ d, eraAt s (j + d) = some false
  | 0 => h
  | d + 1 => by
    show eraAt s (j + d + 1) = _
    unfold eraAt
    rw [era_stay s j h d, Option.bind_some, if_neg (by decide)]
theorem era_no (s : ByteArray) (n j : Nat) (hj : j < n) (h : ∀ i, i < n → (chk s i).size ≤ 9) (h2 : 1 < zerGo (chk s j) (chk s j).size) : eraAt s n = some false := by
  obtain ⟨b, hb⟩ := era_some s j (fun i hi => h i (by omega))
  have h9 := h j hj
  have h1 : eraAt s (j + 1) = some false := by
    unfold eraAt bits_Zeros.f
    rw [hb, Option.bind_some]
    cases b with
    | true => rw [if_pos rfl, if_pos (by omega), Option.bind_some, decide_eq_false (by omega)]
    | false => rw [if_neg (by decide)]
  have := era_stay s _ h1 (n - (j + 1))
  rw [show j + 1 + (n - (j + 1)) = n by omega] at this
  exact this
theorem zer_turn : ∀ (m : Fin 8) (c : Fin 256), zerB (c.val ^^^ 2 ^ m.val) ≤ zerB c.val + 1 ∧ zerB c.val ≤ zerB (c.val ^^^ 2 ^ m.val) + 1 := by decide +kernel
theorem zerGo_congr {s t : ByteArray} : ∀ n, (∀ i, i < n → bn s i = bn t i) → zerGo s n = zerGo t n
  | 0, _ => rfl
  | n + 1, h => by
    show zerGo s n + zerB (bn s n) = zerGo t n + zerB (bn t n)
    rw [zerGo_congr n (fun i hi => h i (by omega)), h n (by omega)]
theorem zerGo_turn (s : ByteArray) (j : Nat) (hj : j / 8 < s.size) : ∀ n, zerGo (flipAt s j) n ≤ zerGo s n + 1 ∧ zerGo s n ≤ zerGo (flipAt s j) n + 1
  | 0 => ⟨by show 0 ≤ 0 + 1; omega, by show 0 ≤ 0 + 1; omega⟩
  | n + 1 => by
    have ih := zerGo_turn s j hj n
    have hb := bn_flipAt s j n hj
    show zerGo (flipAt s j) n + zerB (bn (flipAt s j) n) ≤ zerGo s n + zerB (bn s n) + 1 ∧ zerGo s n + zerB (bn s n) ≤ zerGo (flipAt s j) n + zerB (bn (flipAt s j) n) + 1
    by_cases e : n = j / 8
    · have hc : zerGo (flipAt s j) n = zerGo s n := zerGo_congr n (fun i hi => by rw [bn_flipAt s j i hj, if_neg (by omega)])
      rw [if_pos e] at hb
      have z := zer_turn ⟨j % 8, by omega⟩ ⟨bn s n, bn_lt s n⟩
      simp only at z
      rw [hb, hc]
      omega
    · rw [if_neg e] at hb
      rw [hb]
      omega
theorem zerGo_mono (s : ByteArray) : ∀ n m, m ≤ n → zerGo s m ≤ zerGo s n
  | 0, m, h => by rw [Nat.le_zero.1 h]; exact Nat.le_refl _
  | n + 1, m, h => by
    by_cases e : m = n + 1
    · rw [e]; exact Nat.le_refl _
    · have := zerGo_mono s n m (by omega)
      show zerGo s m ≤ zerGo s n + zerB (bn s n)
      omega
/-- The first chunk of a page has four bits at least that are nought. -/
theorem first_zeros (k l s e : Int) (d : ByteArray) (h8 : 8 ≤ d.size) : 4 ≤ zerGo (chk (pageOf k l s e d) 0) 9 := by
  have hz := allOf_size k l s e d
  have ht := tag_size k l s e
  unfold pageOf
  rw [encs_chk _ 0 _ (by omega) (by omega)]
  have e0 : bn (enc9 ((allOf k l s e d).extract (8 * 0) (8 * 0 + 8))) 0 = 27 := by
    unfold enc9
    rw [bn_append, if_pos (by rw [size_extract' _ _ _ (by omega)]; omega), bn_extract _ _ _ _ (by omega) (by omega)]
    unfold allOf
    rw [bn_append, if_pos (by rw [ByteArray.size_append, ByteArray.size_append, ht]; omega), bn_append, if_pos (by rw [ByteArray.size_append, ht]; omega), bn_append, if_pos (by omega), tag_bn, if_pos (by omega), bn_son]
    rfl
  refine Nat.le_trans ?_ (zerGo_mono _ 9 1 (by omega))
  show 4 ≤ 0 + zerB _
  rw [e0]
  decide
end Go.Proofs.YtbcgddacmjliaaaDoor.PF
end

section
/- Law FrameBack in plain Lean. -/
set_option linter.unusedVariables false
set_option linter.unusedSimpArgs false
namespace Go.Proofs.YtbcgddacmjliaaaDoor.PF
open Go.RowKit Go.Proofs.YtbcgddacmjliaaaDoor.Hw Go.Proofs.YtbcgddacmjliaaaDoorW.PrintWords Go.Proofs.YtbcgddacmjliaaaDoorW.PrintLast

theorem nil_tl : (some (((⟨#[]⟩ : ByteArray).toList == ([] : List UInt8))) : Option Bool) = some true := by rw [ByteArray.toList_eq]; rfl
theorem chk_size (s : ByteArray) (j : Nat) (h : 9 * j + 9 ≤ s.size) : (chk s j).size = 9 := by unfold chk; rw [size_extract' _ _ _ h]; omega
theorem page_size (k l s e : Int) (d : ByteArray) (h : d.size % 8 = 0) : (pageOf k l s e d).size = 9 * ((d.size + 24) / 8) := by
  unfold pageOf
  rw [encs_size _ _ (by rw [allOf_size]; omega)]
theorem page_chk (k l s e : Int) (d : ByteArray) (h : d.size % 8 = 0) (j : Nat) (hj : j < (d.size + 24) / 8) : chk (pageOf k l s e d) j = enc9 ((allOf k l s e d).extract (8 * j) (8 * j + 8)) ∧ ((allOf k l s e d).extract (8 * j) (8 * j + 8)).size = 8 := by
  have hz := allOf_size k l s e d
  exact ⟨encs_chk _ j _ (by omega) hj, by rw [size_extract' _ _ _ (by omega)]; omega⟩
theorem page_code (k l s e : Int) (d : ByteArray) (h : d.size % 8 = 0) (j : Nat) (hj : j < (d.size + 24) / 8) : IsCode (chk (pageOf k l s e d) j) ∧ (chk (pageOf k l s e d) j).extract 0 8 = (allOf k l s e d).extract (8 * j) (8 * j + 8) := by
  obtain ⟨h1, h2⟩ := page_chk k l s e d h j hj
  rw [h1]
  exact ⟨enc_code _ h2, enc_extract _ h2 _⟩
end Go.Proofs.YtbcgddacmjliaaaDoor.PF
end

section
/- Law FrameFixes in plain Lean: one bit in each chunk. -/
set_option linter.unusedVariables false
set_option linter.unusedSimpArgs false
namespace Go.Proofs.YtbcgddacmjliaaaDoor.PF
open Go.RowKit Go.Proofs.YtbcgddacmjliaaaDoor.Hw Go.Proofs.YtbcgddacmjliaaaDoorW.PrintWords Go.Proofs.YtbcgddacmjliaaaDoorW.PrintLast

theorem ffs_size (n : Nat) : (ffs n).size = n := by
  unfold ffs
  show (List.replicate _ (255 : UInt8)).toArray.size = _
  simp
theorem ffs_bn (n i : Nat) (h : i < n) : bn (ffs n) i = 255 := by
  rw [bn_at _ i (by rw [ffs_size]; exact h)]
  simp [ffs, ByteArray.getElem_eq_getElem_data]
theorem ffs_chk (n j : Nat) (h : j < n) : chk (ffs (9 * n)) j = ffs 9 := by
  have hz := ffs_size (9 * n)
  unfold chk
  apply bext
  · rw [size_extract' _ _ _ (by omega), ffs_size]; omega
  · intro i hi
    rw [size_extract' _ _ _ (by omega)] at hi
    rw [bn_extract _ _ _ i hi (by omega), ffs_bn _ _ (by omega), ffs_bn _ _ (by omega)]
theorem ffs_zeros : zerGo (ffs 9) 9 = 0 := by
  have h : ∀ n, n ≤ 9 → zerGo (ffs 9) n = 0 := by
    intro n
    induction n with
    | zero => intro _; rfl
    | succ n ih =>
      intro h
      show zerGo (ffs 9) n + zerB (bn (ffs 9) n) = 0
      rw [ih (by omega), ffs_bn _ _ (by omega)]
      decide
  exact h 9 (Nat.le_refl _)
/-- A bit turned in one chunk. -/
theorem chk_turn (s : ByteArray) (n i b j : Nat) (hs : s.size = 9 * n) (hi : i < n) (hb : b < 72) (hj : j < n) : chk (flipAt s (72 * i + b)) j = if j = i then flipAt (chk s i) b else chk s j := by
  have hz : (flipAt s (72 * i + b)).size = 9 * n := by rw [flipAt_size, hs]
  have hsz := chk_size (flipAt s (72 * i + b)) j (by omega)
  apply bext
  · rw [hsz]
    split
    · rw [flipAt_size, chk_size _ _ (by omega)]
    · rw [chk_size _ _ (by omega)]
  · intro q hq
    rw [hsz] at hq
    have e : bn (chk (flipAt s (72 * i + b)) j) q = bn (flipAt s (72 * i + b)) (9 * j + q) := by
      unfold chk
      rw [bn_extract _ _ _ q (by omega) (by omega)]
    have e2 : bn (chk s j) q = bn s (9 * j + q) := by
      unfold chk
      rw [bn_extract _ _ _ q (by omega) (by omega)]
    rw [e, bn_flipAt _ _ _ (by omega)]
    by_cases hji : j = i
    · subst hji
      rw [if_pos rfl, bn_flipAt _ _ _ (by rw [chk_size _ _ (by omega)]; omega), e2]
      by_cases hq2 : q = b / 8
      · rw [if_pos (by omega), if_pos hq2, show (72 * j + b) % 8 = b % 8 by omega]
      · rw [if_neg (by omega), if_neg hq2]
    · rw [if_neg (by omega), if_neg hji, e2]
theorem turned_is (s : ByteArray) (n i : Nat) (b : Int) (hs : s.size = 9 * n) (hn : 1 ≤ n) (hn2 : n ≤ 1000) (hi : i < n) : decklelaw05_turned.f s (i : Int) b = some (flipAt s (72 * i + (b % 72).toNat)) := by
  unfold decklelaw05_turned.f
  have h1 : ((i : Int) % ((s.size / 9 : Nat) : Int)) = (i : Int) := by
    rw [hs, show 9 * n / 9 = n by omega]
    exact Int.emod_eq_of_lt (by omega) (by omega)
  rw [if_pos (by omega), h1]
  congr 2
  have := Int.emod_nonneg b (by decide : (72 : Int) ≠ 0)
  omega
/-- Which chunks of a page, and of a blank one, have a bit turned. -/
structure Hurt1 (P : ByteArray) (n i : Nat) (S Bl : ByteArray) (wh : Int) (st : Nat → Int) : Prop where
  size : S.size = 9 * n
  bsize : Bl.size = 9 * n
  left : ∀ j, i ≤ j → j < n → chk S j = chk P j ∧ st j = 2 ∧ chk Bl j = ffs 9
  done : ∀ j, j < i → j < n → ((chk S j = chk P j ∧ st j = 2 ∧ chk Bl j = ffs 9) ∨ ∃ b, b < 72 ∧ chk S j = flipAt (chk P j) b ∧ st j = 3 ∧ chk Bl j = flipAt (ffs 9) b)
  what : (wh = 2 ∧ ∀ j, j < n → st j = 2) ∨ (wh = 3 ∧ ∃ j, j < n ∧ st j = 3)
theorem Hurt1.same {P : ByteArray} {n i : Nat} {S Bl : ByteArray} {wh : Int} {st : Nat → Int} (h : Hurt1 P n i S Bl wh st) (hi : i < n) : Hurt1 P n (i + 1) S Bl wh st :=
  ⟨h.size, h.bsize, fun j hj hn => h.left j (by omega) hn, fun j hj hn => if e : j = i then Or.inl (h.left j (by omega) hn) else h.done j (by omega) hn, h.what⟩
theorem Hurt1.turn {P : ByteArray} {n i : Nat} {S Bl : ByteArray} {wh : Int} {st : Nat → Int} (h : Hurt1 P n i S Bl wh st) (hi : i < n) (b : Nat) (hb : b < 72) : Hurt1 P n (i + 1) (flipAt S (72 * i + b)) (flipAt Bl (72 * i + b)) 3 (fun j => if j = i then 3 else st j) := by
  refine ⟨by rw [flipAt_size, h.size], by rw [flipAt_size, h.bsize], ?_, ?_, Or.inr ⟨rfl, i, hi, if_pos rfl⟩⟩
  · intro j hj hn
    obtain ⟨a1, a2, a3⟩ := h.left j (by omega) hn
    rw [chk_turn S n i b j h.size hi hb hn, chk_turn Bl n i b j h.bsize hi hb hn]
    simp only [if_neg (by omega : ¬ j = i)]
    exact ⟨a1, a2, a3⟩
  · intro j hj hn
    rw [chk_turn S n i b j h.size hi hb hn, chk_turn Bl n i b j h.bsize hi hb hn]
    by_cases e : j = i
    · subst e
      obtain ⟨a1, a2, a3⟩ := h.left j (Nat.le_refl _) hn
      exact Or.inr ⟨b, hb, by rw [if_pos rfl, a1], by simp, by rw [if_pos rfl, a3]⟩
    · simp only [if_neg e]
      exact h.done j (by omega) hn
end Go.Proofs.YtbcgddacmjliaaaDoor.PF
end

section
/- Law FrameTells in plain Lean: two bits in one chunk. -/
set_option linter.unusedVariables false
set_option linter.unusedSimpArgs false
namespace Go.Proofs.YtbcgddacmjliaaaDoor.PF
open Go.RowKit Go.Proofs.YtbcgddacmjliaaaDoor.Hw Go.Proofs.YtbcgddacmjliaaaDoorW.PrintWords Go.Proofs.YtbcgddacmjliaaaDoorW.PrintLast

/-- Two bits turned in one chunk, at most one in each other. -/
structure Two (S S' : ByteArray) (n j0 : Nat) : Prop where
  size : S'.size = 9 * n
  here : ∃ a b, a < 72 ∧ b < 72 ∧ a ≠ b ∧ chk S' j0 = flipAt (flipAt (chk S j0) a) b
  away : ∀ j, j < n → j ≠ j0 → chk S' j = chk S j ∨ ∃ c, c < 72 ∧ chk S' j = flipAt (chk S j) c
/-- Chunks that are words of the code, and their data. -/
structure Coded (S : ByteArray) (n : Nat) (a : ByteArray) : Prop where
  size : S.size = 9 * n
  n4 : 4 ≤ n
  n35 : n ≤ 35
  asize : a.size = 8 * n
  code : ∀ j, j < n → IsCode (chk S j) ∧ (chk S j).extract 0 8 = a.extract (8 * j) (8 * j + 8)
theorem two_dec {S S' a : ByteArray} {n j0 : Nat} (hS : Coded S n a) (h : Two S S' n j0) (hj : j0 < n) (he : frame_erased.f S' = some false) : frame_Decode.f S' = some (4, 0, 0, 0, 0, ⟨#[]⟩) := by
  have h4 := hS.n4
  have h35 := hS.n35
  have hz := h.size
  have haz := hS.asize
  obtain ⟨x, y, hx, hy, hxy, e⟩ := h.here
  have hb : ham_Decode.f 40 (chk S' j0) = some (⟨#[]⟩, 4, 0) := by rw [e]; exact (hS.code j0 hj).1.two x y hx hy hxy 39
  let st : Nat → Int := fun j => if chk S' j = chk S j then 2 else 3
  have hd := dec_bad S' a st n j0 hj (by omega) (by omega) (fun i hi => by
    obtain ⟨c1, c2⟩ := hS.code i (by omega)
    rcases h.away i (by omega) (by omega) with e | ⟨c, hc, e⟩
    · refine ⟨?_, ?_⟩
      · show _ = some (_, (if chk S' i = chk S i then (2 : Int) else 3), 0)
        rw [if_pos e, e, c1.good 39, c2]
      · show (if chk S' i = chk S i then (2 : Int) else 3) ≠ 4
        split <;> decide
    · by_cases q : chk S' i = chk S i
      · refine ⟨?_, ?_⟩
        · show _ = some (_, (if chk S' i = chk S i then (2 : Int) else 3), 0)
          rw [if_pos q, q, c1.good 39, c2]
        · show (if chk S' i = chk S i then (2 : Int) else 3) ≠ 4
          split <;> decide
      · refine ⟨?_, ?_⟩
        · show _ = some (_, (if chk S' i = chk S i then (2 : Int) else 3), 0)
          rw [if_neg q, e, c1.one c hc 39, c2]
        · show (if chk S' i = chk S i then (2 : Int) else 3) ≠ 4
          split <;> decide) hb
  unfold frame_Decode.f
  rw [if_pos (by omega), if_neg (by omega), he, Option.bind_some, if_neg (by decide), show S'.size / 9 = n by omega, hd, Option.bind_some, if_pos rfl]
theorem era_two {S' : ByteArray} {n : Nat} (hz : S'.size = 9 * n) (h35 : n ≤ 35) (j : Nat) (hj : j < n) (h : 1 < zerGo (chk S' j) 9) : frame_erased.f S' = some false := by
  unfold frame_erased.f
  rw [if_pos (by omega)]
  refine era_no _ _ j (by omega) (fun i hi => by rw [chk_size _ _ (by omega)]; omega) ?_
  rw [chk_size _ _ (by omega)]
  exact h
theorem page_coded (k l s e : Int) (d : ByteArray) (hd : mayB d.size = true) : Coded (pageOf k l s e d) ((d.size + 24) / 8) (allOf k l s e d) := by
  have hb := of_decide_eq_true hd
  exact ⟨page_size k l s e d (by omega), by omega, by omega, by rw [allOf_size]; omega, fun j hj => page_code k l s e d (by omega) j hj⟩
theorem page_two (k l s e : Int) (d : ByteArray) (hd : mayB d.size = true) (S' : ByteArray) (j0 : Nat) (h : Two (pageOf k l s e d) S' ((d.size + 24) / 8) j0) (hj : j0 < (d.size + 24) / 8) : frame_Decode.f S' = some (4, 0, 0, 0, 0, ⟨#[]⟩) := by
  have hb := of_decide_eq_true hd
  have hc := page_coded k l s e d hd
  have hsz := hc.size
  have z := first_zeros k l s e d (by omega)
  refine two_dec hc h hj (era_two h.size hc.n35 0 (by omega) ?_)
  have h9 : (chk (pageOf k l s e d) 0).size = 9 := chk_size _ _ (by omega)
  by_cases e0 : j0 = 0
  · subst e0
    obtain ⟨a, b, ha, hb2, hab, q⟩ := h.here
    rw [q]
    have z1 := (zerGo_turn (chk (pageOf k l s e d) 0) a (by rw [h9]; omega) 9).2
    have z2 := (zerGo_turn (flipAt (chk (pageOf k l s e d) 0) a) b (by rw [flipAt_size, h9]; omega) 9).2
    omega
  · rcases h.away 0 (by omega) (fun x => e0 x.symm) with q | ⟨c, hc2, q⟩
    · rw [q]; omega
    · rw [q]
      have z1 := (zerGo_turn (chk (pageOf k l s e d) 0) c (by rw [h9]; omega) 9).2
      omega
theorem ffs_code : IsCode (ffs 9) := by
  have hP : ∀ n, n ≤ 8 → hamP (ffs 9) n = (List.range n).foldl (fun p i => p ^^^ xorB i 255) 0 := by
    intro n
    induction n with
    | zero => intro _; rfl
    | succ n ih =>
      intro h
      show hamP (ffs 9) n ^^^ xorB n (bn (ffs 9) n) = _
      rw [ih (by omega), ffs_bn _ _ (by omega), List.range_succ, List.foldl_append]
      rfl
  have hN : ∀ n, n ≤ 8 → hamN (ffs 9) n = 8 * n := by
    intro n
    induction n with
    | zero => intro _; rfl
    | succ n ih =>
      intro h
      show hamN (ffs 9) n + popB (bn (ffs 9) n) = _
      rw [ih (by omega), ffs_bn _ _ (by omega), show popB 255 = 8 by decide]
      omega
  refine ⟨ffs_size 9, ?_, ?_⟩
  · unfold syn
    rw [hP 8 (by omega), ffs_bn _ _ (by omega)]
    decide +kernel
  · unfold par
    rw [hN 8 (by omega), ffs_bn _ _ (by omega)]
    decide +kernel
theorem ffs_coded (n : Nat) (h4 : 4 ≤ n) (h35 : n ≤ 35) : Coded (ffs (9 * n)) n (ffs (8 * n)) := by
  refine ⟨ffs_size _, h4, h35, ffs_size _, fun j hj => ⟨by rw [ffs_chk _ _ hj]; exact ffs_code, ?_⟩⟩
  rw [ffs_chk _ _ hj]
  have z1 := ffs_size 9
  have z2 := ffs_size (8 * n)
  apply bext
  · rw [size_extract' _ _ _ (by omega), size_extract' _ _ _ (by omega)]; omega
  · intro i hi
    rw [size_extract' _ _ _ (by omega)] at hi
    rw [bn_extract _ _ _ _ (by omega) (by omega), bn_extract _ _ _ _ (by omega) (by omega), ffs_bn _ _ (by omega), ffs_bn _ _ (by omega)]
theorem zer_up : ∀ (m : Fin 8) (c : Fin 256), c.val / 2 ^ m.val % 2 = 1 → zerB (c.val ^^^ 2 ^ m.val) = zerB c.val + 1 := by decide +kernel
theorem bit_stays : ∀ (m q : Fin 8), (255 ^^^ 2 ^ m.val) / 2 ^ q.val % 2 = if m = q then 0 else 1 := by decide +kernel
theorem bit_255 : ∀ q : Fin 8, 255 / 2 ^ q.val % 2 = 1 := by decide +kernel
theorem zerGo_up (s : ByteArray) (j : Nat) (hj : j / 8 < s.size) (hb : bn s (j / 8) / 2 ^ (j % 8) % 2 = 1) : ∀ n, j / 8 < n → zerGo (flipAt s j) n = zerGo s n + 1
  | 0, h => by omega
  | n + 1, h => by
    have hbn := bn_flipAt s j n hj
    show zerGo (flipAt s j) n + zerB (bn (flipAt s j) n) = zerGo s n + zerB (bn s n) + 1
    by_cases e : n = j / 8
    · have hc : zerGo (flipAt s j) n = zerGo s n := zerGo_congr n (fun i hi => by rw [bn_flipAt s j i hj, if_neg (by omega)])
      rw [if_pos e] at hbn
      have z := zer_up ⟨j % 8, by omega⟩ ⟨bn s n, bn_lt s n⟩
      simp only at z
      rw [← e] at hb
      rw [hbn, hc, z hb]
      omega
    · rw [if_neg e] at hbn
      rw [hbn, zerGo_up s j hj hb n (by omega)]
      omega
theorem ffs_two (a b : Nat) (ha : a < 72) (hb : b < 72) (hab : a ≠ b) : zerGo (flipAt (flipAt (ffs 9) a) b) 9 = 2 := by
  have z1 := ffs_size 9
  have z0 := ffs_zeros
  have u1 := zerGo_up (ffs 9) a (by omega) (by rw [ffs_bn _ _ (by omega)]; exact bit_255 ⟨a % 8, by omega⟩) 9 (by omega)
  have u2 := zerGo_up (flipAt (ffs 9) a) b (by rw [flipAt_size]; omega) (by
    rw [bn_flipAt _ _ _ (by omega), ffs_bn _ _ (by omega)]
    split
    · have := bit_stays ⟨a % 8, by omega⟩ ⟨b % 8, by omega⟩
      simp only at this
      rw [this, if_neg (by simp only [Fin.mk.injEq]; omega)]
    · exact bit_255 ⟨b % 8, by omega⟩) 9 (by omega)
  omega
theorem blank_two (n : Nat) (h4 : 4 ≤ n) (h35 : n ≤ 35) (S' : ByteArray) (j0 : Nat) (h : Two (ffs (9 * n)) S' n j0) (hj : j0 < n) : frame_Decode.f S' = some (4, 0, 0, 0, 0, ⟨#[]⟩) := by
  refine two_dec (ffs_coded n h4 h35) h hj (era_two h.size h35 j0 hj ?_)
  obtain ⟨a, b, ha, hb, hab, q⟩ := h.here
  rw [q, ffs_chk _ _ hj, ffs_two a b ha hb hab]
  decide
/-- Two bits turned in a chunk; a third one in another. -/
theorem two_made (x : ByteArray) (n j a b : Nat) (hx : x.size = 9 * n) (hj : j < n) (ha : a < 72) (hb : b < 72) (hab : a ≠ b) : Two x (flipAt (flipAt x (72 * j + a)) (72 * j + b)) n j := by
  have z1 : (flipAt x (72 * j + a)).size = 9 * n := by rw [flipAt_size, hx]
  refine ⟨by rw [flipAt_size, z1], ⟨a, b, ha, hb, hab, ?_⟩, fun i hi hij => Or.inl ?_⟩
  · rw [chk_turn _ n j b j z1 hj hb hj, if_pos rfl, chk_turn _ n j a j hx hj ha hj, if_pos rfl]
  · rw [chk_turn _ n j b i z1 hj hb hi, if_neg hij, chk_turn _ n j a i hx hj ha hi, if_neg hij]
theorem two_more (x y : ByteArray) (n j i c : Nat) (h : Two x y n j) (hpl : ∀ q, q < n → q ≠ j → chk y q = chk x q) (hj : j < n) (hi : i < n) (hij : i ≠ j) (hc : c < 72) : Two x (flipAt y (72 * i + c)) n j := by
  refine ⟨by rw [flipAt_size, h.size], ?_, fun q hq hqj => ?_⟩
  · obtain ⟨a, b, ha, hb, hab, e⟩ := h.here
    exact ⟨a, b, ha, hb, hab, by rw [chk_turn _ n i c j h.size hi hc hj, if_neg (fun g => hij g.symm), e]⟩
  · rw [chk_turn _ n i c q h.size hi hc hq]
    by_cases e : q = i
    · rw [if_pos e]
      subst e
      exact Or.inr ⟨c, hc, by rw [hpl q hq hqj]⟩
    · rw [if_neg e]
      exact h.away q hq hqj
theorem hurt_is (x : ByteArray) (n : Nat) (a b : Int) (hx : x.size = 9 * n) (h4 : 4 ≤ n) (h35 : n ≤ 35) (hr1 : frame_rest.f a 72 = some (a % 72)) (hr2 : frame_rest.f b 71 = some (b % 71)) :
    frame_Hurt.f x a b = some (flipAt (flipAt x (72 * 0 + (a % 72).toNat)) (72 * 0 + ((a % 72 + 1 + b % 71) % 72).toNat)) := by
  have a0 := Int.emod_nonneg a (by decide : (72 : Int) ≠ 0)
  have a1 := Int.emod_lt_of_pos a (by decide : (0 : Int) < 72)
  have b0 := Int.emod_nonneg b (by decide : (71 : Int) ≠ 0)
  have b1 := Int.emod_lt_of_pos b (by decide : (0 : Int) < 71)
  have c0 := Int.emod_nonneg (a % 72 + 1 + b % 71) (by decide : (72 : Int) ≠ 0)
  have c1 := Int.emod_lt_of_pos (a % 72 + 1 + b % 71) (by decide : (0 : Int) < 72)
  have fl : ∀ (y : ByteArray) (q : Int), y.size = 9 * n → 0 ≤ q → q < 72 → bits_Flip.f y q = some (flipAt y q.toNat, 0) := by
    intro y q hy h0 h1
    unfold bits_Flip.f
    rw [if_pos ⟨by omega, by omega⟩, if_neg (by omega)]
  unfold frame_Hurt.f
  rw [if_neg (by omega), hr1, Option.bind_some, hr2, Option.bind_some, fl x _ hx a0 a1, Option.bind_some, w64' (a % 72 + 1) (by omega), w64' _ (by omega), Int.tmod_eq_emod_of_nonneg (by omega)]
  rw [fl _ _ (by rw [flipAt_size, hx]) c0 c1, Option.bind_some, Nat.mul_zero, Nat.zero_add, Nat.zero_add]
/-- One round. -/
theorem tells_round (x : ByteArray) (n : Nat) (hx : x.size = 9 * n) (h4 : 4 ≤ n) (h35 : n ≤ 35) (hbad : ∀ S' j0, j0 < n → Two x S' n j0 → frame_Decode.f S' = some (4, 0, 0, 0, 0, ⟨#[]⟩))
    (xs : List ByteArray) (i : Int) (L : Int) (h0 : 0 ≤ i) (h1 : i < L) (h2 : i < (xs.length : Int)) (h3 : i < 1000) (hr : rdOf ByteArray.empty xs i = x) (at_ ot : Nat) (one two : Int) (k0 k1 k2 k3 : Int) (ha : at_ < n) (ho : ot < n) (e1 : one = k1 % 72) (e2 : two = (one + 1 + k2 % 71) % 72)
    (hr1 : frame_rest.f k1 72 = some (k1 % 72)) (hr2 : frame_rest.f k2 71 = some (k2 % 71)) (q : Nat) :
    decklelaw05_FrameTells.l0 (q + 1) (at_ : Int) (ot : Int) one two xs L i k0 k1 k2 k3 4 0 0 0 0 (⟨#[]⟩ : ByteArray) = decklelaw05_FrameTells.l0 q (at_ : Int) (ot : Int) one two xs L (i + 1) k0 k1 k2 k3 4 0 0 0 0 (⟨#[]⟩ : ByteArray) := by
  have a0 := Int.emod_nonneg k1 (by decide : (72 : Int) ≠ 0)
  have a1 := Int.emod_lt_of_pos k1 (by decide : (0 : Int) < 72)
  have b0 := Int.emod_nonneg k2 (by decide : (71 : Int) ≠ 0)
  have b1 := Int.emod_lt_of_pos k2 (by decide : (0 : Int) < 71)
  have c0 := Int.emod_nonneg (one + 1 + k2 % 71) (by decide : (72 : Int) ≠ 0)
  have c1 := Int.emod_lt_of_pos (one + 1 + k2 % 71) (by decide : (0 : Int) < 72)
  have m1 : (one % 72).toNat = one.toNat := by rw [e1, Int.emod_emod_of_dvd _ (by decide : (72 : Int) ∣ 72)]
  have m2 : (two % 72).toNat = two.toNat := by rw [e2, Int.emod_emod_of_dvd _ (by decide : (72 : Int) ∣ 72)]
  have t1 := turned_is x n at_ one hx (by omega) (by omega) ha
  rw [m1] at t1
  have z1 : (flipAt x (72 * at_ + one.toNat)).size = 9 * n := by rw [flipAt_size, hx]
  have t2 := turned_is (flipAt x (72 * at_ + one.toNat)) n at_ two z1 (by omega) (by omega) ha
  rw [m2] at t2
  have z2 : (flipAt (flipAt x (72 * at_ + one.toNat)) (72 * at_ + two.toNat)).size = 9 * n := by rw [flipAt_size, z1]
  have hne : one.toNat ≠ two.toNat := by omega
  have w1 := two_made x n at_ one.toNat two.toNat hx ha (by omega) (by omega) hne
  have pl : ∀ g, g < n → g ≠ at_ → chk (flipAt (flipAt x (72 * at_ + one.toNat)) (72 * at_ + two.toNat)) g = chk x g := by
    intro g hg hga
    rw [chk_turn _ n at_ two.toNat g z1 ha (by omega) hg, if_neg hga, chk_turn _ n at_ one.toNat g hx ha (by omega) hg, if_neg hga]
  have t3 := turned_is (flipAt (flipAt x (72 * at_ + one.toNat)) (72 * at_ + two.toNat)) n ot k1 z2 (by omega) (by omega) ho
  have d1 := hbad _ _ ha w1
  have th := hurt_is x n k1 k2 hx h4 h35 hr1 hr2
  have w3 := two_made x n 0 (k1 % 72).toNat ((k1 % 72 + 1 + k2 % 71) % 72).toNat hx (by omega) (by omega) (by omega) (by omega)
  have d3 := hbad _ _ (by omega) w3
  have nb : ∀ (X Y : Option Bool), (if (!((4 : Int) == 4) || ((!((0 : Int) == 0) || (!((0 : Int) == 0) || (!((0 : Int) == 0) || (!((0 : Int) == 0))))) || (!((⟨#[]⟩ : ByteArray).toList == (⟨#[]⟩ : ByteArray).toList)))) = true then X else Y) = Y := by
    intro X Y
    rw [if_neg (by simp)]
  rw [decklelaw05_FrameTells.l0, if_pos h1, if_pos h0, if_pos h2, hr, t1, Option.bind_some, t2, Option.bind_some, d1, Option.bind_some]
  refine (nb _ _).trans ?_
  by_cases ho2 : (ot : Int) = (at_ : Int)
  · rw [if_pos ho2, th, Option.bind_some, d3, Option.bind_some]
    refine (nb _ _).trans ?_
    rw [w64' _ (by omega)]
  · have d2 := hbad _ _ ha (two_more x _ n at_ ot (k1 % 72).toNat w1 pl ha ho (by omega) (by omega))
    rw [if_neg ho2, t3, Option.bind_some, d2, Option.bind_some]
    refine (nb _ _).trans ?_
    rw [th, Option.bind_some, d3, Option.bind_some]
    refine (nb _ _).trans ?_
    rw [w64' _ (by omega)]
theorem tmod_pos' (a b : Int) (h : 0 < b) : Int.tmod a b = if Int.tmod a b < 0 then a % b - b else a % b := by
  have h0 := Int.emod_nonneg a (by omega : b ≠ 0)
  have hl := Int.emod_lt_of_pos a h
  have hn : (b.natAbs : Int) = b := by omega
  have h1 := Int.tmod_eq_emod (a := a) (b := b)
  by_cases hc : 0 ≤ a ∨ b ∣ a
  · rw [if_pos hc] at h1
    rw [if_neg (by omega)]
    omega
  · rw [if_neg hc] at h1
    rw [if_pos (by omega)]
    omega
theorem rest_is' (a b : Int) (hb : 0 < b) (hb2 : b ≤ 1000) : frame_rest.f a b = some (a % b) := by
  unfold frame_rest.f
  rw [if_neg (by omega)]
  have h0 := Int.emod_nonneg a (by omega : b ≠ 0)
  have h1 := Int.emod_lt_of_pos a hb
  have ht := tmod_pos' a b hb
  congr 1
  split at ht
  · rw [ht, w64' _ (by omega), show a % b - b + b = a % b by omega, Int.tmod_eq_emod_of_nonneg h0, Int.emod_eq_of_lt h0 h1]
  · rw [ht, w64' _ (by omega), Int.tmod_eq_emod_of_nonneg (by omega), Int.add_emod_right, Int.emod_eq_of_lt h0 h1]
theorem frameTells_true (k l s e : Int) (d : ByteArray) (k0 k1 k2 k3 : Int) : ∃ q, decklelaw05_FrameTells.f q k l s e d k0 k1 k2 k3 = some true := by
  refine ⟨3, ?_⟩
  unfold decklelaw05_FrameTells.f
  rw [works_true, Option.bind_some, if_pos rfl, frame_enc, Option.bind_some]
  by_cases hd : mayB d.size = true
  · by_cases ht : mayT k l s e = true
    · have hb := of_decide_eq_true hd
      have hsz := page_size k l s e d (by omega)
      have hbl : frame_Blank.f (d.size : Int) = some (ffs (9 * ((d.size + 24) / 8))) := by
        unfold frame_Blank.f
        rw [if_pos hd, Nat.mul_comm]
        rfl
      have hn : wrap64 (((pageOf k l s e d).size : Int) / 9) = (((d.size + 24) / 8 : Nat) : Int) := by rw [hsz, w64' _ (by omega)]; omega
      obtain ⟨n, en⟩ : ∃ n, n = (d.size + 24) / 8 := ⟨_, rfl⟩
      have h4 : 4 ≤ n := by omega
      have h35 : n ≤ 35 := by omega
      have p0 := Int.emod_nonneg k0 (by omega : ((n : Nat) : Int) ≠ 0)
      have p1 := Int.emod_lt_of_pos k0 (by omega : 0 < ((n : Nat) : Int))
      have q0 := Int.emod_nonneg k3 (by omega : ((n : Nat) : Int) ≠ 0)
      have q1 := Int.emod_lt_of_pos k3 (by omega : 0 < ((n : Nat) : Int))
      have a0 := Int.emod_nonneg k1 (by decide : (72 : Int) ≠ 0)
      have a1 := Int.emod_lt_of_pos k1 (by decide : (0 : Int) < 72)
      have b0 := Int.emod_nonneg k2 (by decide : (71 : Int) ≠ 0)
      have b1 := Int.emod_lt_of_pos k2 (by decide : (0 : Int) < 71)
      have hpb := page_two k l s e d hd
      rw [← en] at hn hbl hsz hpb
      obtain ⟨at_, ea⟩ : ∃ m : Nat, k0 % (n : Int) = (m : Int) := ⟨(k0 % (n : Int)).toNat, by omega⟩
      obtain ⟨ot, eo⟩ : ∃ m : Nat, k3 % (n : Int) = (m : Int) := ⟨(k3 % (n : Int)).toNat, by omega⟩
      have r1 := rest_is' k1 72 (by decide) (by decide)
      have r2 := rest_is' k2 71 (by decide) (by decide)
      rw [if_pos hd, if_pos ht, if_pos (by rfl), hn, below_is k0 n (by omega) (by omega), Option.bind_some, below_is k3 n (by omega) (by omega), Option.bind_some, below_is k1 72 (by decide) (by decide), Option.bind_some, below_is k2 71 (by decide) (by decide), Option.bind_some, w64' (k1 % 72 + 1) (by omega), w64' _ (by omega), below_is _ 72 (by decide) (by decide), Option.bind_some, hbl, Option.bind_some, Option.bind_some, ea, eo]
      rw [tells_round (pageOf k l s e d) n hsz h4 h35 (fun S' j0 hj h => hpb S' j0 h hj) [pageOf k l s e d, ffs (9 * n)] 0 _ (by decide) (by show (0 : Int) < ((2 : Nat) : Int); decide) (by show (0 : Int) < ((2 : Nat) : Int); decide) (by decide) rfl at_ ot (k1 % 72) _ k0 k1 k2 k3 (by omega) (by omega) rfl rfl r1 r2]
      rw [tells_round (ffs (9 * n)) n (ffs_size _) h4 h35 (fun S' j0 hj h => blank_two n h4 h35 S' j0 h hj) [pageOf k l s e d, ffs (9 * n)] (0 + 1) _ (by decide) (by show (1 : Int) < ((2 : Nat) : Int); decide) (by show (1 : Int) < ((2 : Nat) : Int); decide) (by decide) rfl at_ ot (k1 % 72) _ k0 k1 k2 k3 (by omega) (by omega) rfl rfl r1 r2]
      rfl
    · rw [if_pos hd, if_neg ht, if_neg (by simp)]
      exact nil_tl
  · rw [if_neg hd, if_neg (by simp)]
    exact nil_tl
end Go.Proofs.YtbcgddacmjliaaaDoor.PF
end
