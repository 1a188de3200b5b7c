import Derived.Test.YtbcgddacmjliaaaDoorPFy1
import Derived.Test.YtbcgddacmjliaaaDoorRefFlip
import Derived.Test.YtbcgddacmjliaaaDoorLaid
import Derived.Test.YtbcgddacmjliaaaDoorPFx38
import Derived.Test.YtbcgddacmjliaaaDoorPFx39
import Derived.Test.YtbcgddacmjliaaaDoorBlank
import Derived.Test.YtbcgddacmjliaaaDoorBitsFlip
-- Written by a program (the kit's print.py, called by wip/bin/prseat.sh, mended by wip/bin/mend.py).
namespace Go.Proofs.YtbcgddacmjliaaaDoor.PF
open Go.RowKit Go.Proofs.YtbcgddacmjliaaaDoorW.PrintWords Go.Proofs.YtbcgddacmjliaaaDoorW.PrintLast Go.Proofs.YtbcgddacmjliaaaDoorW.PrintMore
attribute [local go_sem] max2_int min2_int max_two min_two max_three min_three max_four min_four   -- for this text's walks alone
set_option linter.unusedVariables false
set_option linter.unusedSimpArgs false

/-! ### deckleref05_Hurt: function 17 -/
def deckleref05_Hurt.f (a0 : ByteArray) (a1 : Int) (a2 : Int) : Option (ByteArray) := if (a0.size : Int) < 9 then (some a0) else ((deckleref05_Rest.f a1 72).bind fun t356 => ((deckleref01_Flip.f a0 t356).bind fun bt357 => ((deckleref05_Rest.f a2 71).bind fun t359 => ((deckleref05_Rest.f (wrap64 ((wrap64 (t356 + 1)) + t359)) 72).bind fun t360 => ((deckleref01_Flip.f bt357.1 t360).bind fun bt361 => (some bt361.1))))))
set_option maxHeartbeats 8000000 in
set_option maxRecDepth 100000 in
theorem deckleref05_Hurt.calls (a0 : ByteArray) (a1 : Int) (a2 : Int) (r : ByteArray) (w : World) (h : deckleref05_Hurt.f a0 a1 a2 = some r) :
    Calls Tryd.prog 17 #[.string a0, .int .i64 a1, .int .i64 a2] w fun e w' => e = .returned (.string r) ∧ Below w.heap.size w w' := by
  have HB := Aside0.mk (Below.refl w.heap.size w)
  have H : (if (a0.size : Int) < 9 then (some a0) else ((deckleref05_Rest.f a1 72).bind fun t356 => ((deckleref01_Flip.f a0 t356).bind fun bt357 => ((deckleref05_Rest.f a2 71).bind fun t359 => ((deckleref05_Rest.f (wrap64 ((wrap64 (t356 + 1)) + t359)) 72).bind fun t360 => ((deckleref01_Flip.f bt357.1 t360).bind fun bt361 => (some bt361.1))))))) = some r := h
  clear h
  by_cases c4 : (a0.size : Int) < 9
  · rw [if_pos c4] at H
    have c4b0 : decide ((a0.size : Int) < 9) = true := decide_eq_true c4
    have c4b1 : decide (a0.size < 9) = true := decide_eq_true (by omega)
    clear c4
    obtain rfl := Option.some.inj H
    go_enter Tryd.func17, Tryd.ntmps17
    go_wp2
    go_ret
    exact ⟨by first | rfl | (simp [errW_none, errW_some] <;> rfl) | (simp [*, errW_none, errW_some] <;> rfl), by repeat (first | (with_reducible first | exact HB.out | apply below_alloc | apply pw_below_drewN | apply below_drew1) | exact HB.out)⟩
  · rw [if_neg c4] at H
    have c4b0 : decide ((a0.size : Int) < 9) = false := decide_eq_false c4
    have c4b1 : decide (a0.size < 9) = false := decide_eq_false (by omega)
    clear c4
    replace H := Option.bind_eq_some_iff.mp H
    obtain ⟨t356, A50, H⟩ := H
    replace H : ((deckleref01_Flip.f a0 t356).bind fun bt357 => ((deckleref05_Rest.f a2 71).bind fun t359 => ((deckleref05_Rest.f (wrap64 ((wrap64 (t356 + 1)) + t359)) 72).bind fun t360 => ((deckleref01_Flip.f bt357.1 t360).bind fun bt361 => (some bt361.1))))) = some r := H
    have A5 := Aside0.mk A50
    clear A50
    replace H := Option.bind_eq_some_iff.mp H
    obtain ⟨⟨t357, t358⟩, A60, H⟩ := H
    replace H : ((deckleref05_Rest.f a2 71).bind fun t359 => ((deckleref05_Rest.f (wrap64 ((wrap64 (t356 + 1)) + t359)) 72).bind fun t360 => ((deckleref01_Flip.f t357 t360).bind fun bt361 => (some bt361.1)))) = some r := H
    have A6 := Aside0.mk A60
    clear A60
    replace H := Option.bind_eq_some_iff.mp H
    obtain ⟨t359, A70, H⟩ := H
    replace H : ((deckleref05_Rest.f (wrap64 ((wrap64 (t356 + 1)) + t359)) 72).bind fun t360 => ((deckleref01_Flip.f t357 t360).bind fun bt361 => (some bt361.1))) = some r := H
    have A7 := Aside0.mk A70
    clear A70
    replace H := Option.bind_eq_some_iff.mp H
    obtain ⟨t360, A80, H⟩ := H
    replace H : ((deckleref01_Flip.f t357 t360).bind fun bt361 => (some bt361.1)) = some r := H
    have A8 := Aside0.mk A80
    clear A80
    replace H := Option.bind_eq_some_iff.mp H
    obtain ⟨⟨t361, t362⟩, A90, H⟩ := H
    replace H : (some t361) = some r := H
    have A9 := Aside0.mk A90
    clear A90
    obtain rfl := Option.some.inj H
    go_enter Tryd.func17, Tryd.ntmps17
    go_wp2_with (first | ((with_reducible refine gate_callee (f := 41) rfl ?_); refine goesL_ (some 17) rfl rfl Tryd.func41 (by kernel_rfl) rfl #[.int .i64 a1, .int .i64 72] rfl (by (try simp only [List.map_toArray, List.map_cons, List.map_nil]); first | done | rfl | (simp only [List.length_drop, List.length_take]; rfl)) ?_; (with_reducible refine (deckleref05_Rest.calls a1 72 t356 _ A5.out).mono ?_); rintro e w' ⟨rfl, ⟨nd, rfl⟩⟩; refine ⟨_, rfl, ?_⟩) | ((with_reducible refine gate_callee (f := 42) rfl ?_); refine goesL_ (some 21) rfl rfl Tryd.func42 (by kernel_rfl) rfl #[.string a0, .int .i64 t356] rfl (by (try simp only [List.map_toArray, List.map_cons, List.map_nil]); first | done | rfl | (simp only [List.length_drop, List.length_take]; rfl)) ?_; (with_reducible refine (deckleref01_Flip.calls a0 t356 t357 t358 _ A6.out).mono ?_); rintro e w10 ⟨rfl, hb⟩; refine ⟨_, rfl, ?_⟩; have n0_ := Aside0.mk (below_step (by repeat (first | (with_reducible first | exact HB.out | apply below_alloc | apply pw_below_drewN | apply below_drew1) | exact HB.out)) hb); clear HB; have HB := n0_; clear n0_; (try clear hb); (try clear hb2); (try clear hk); (try clear hi)) | ((with_reducible refine gate_callee (f := 41) rfl ?_); refine goesL_ (some 29) rfl rfl Tryd.func41 (by kernel_rfl) rfl #[.int .i64 a2, .int .i64 71] rfl (by (try simp only [List.map_toArray, List.map_cons, List.map_nil]); first | done | rfl | (simp only [List.length_drop, List.length_take]; rfl)) ?_; (with_reducible refine (deckleref05_Rest.calls a2 71 t359 _ A7.out).mono ?_); rintro e w' ⟨rfl, ⟨nd, rfl⟩⟩; refine ⟨_, rfl, ?_⟩) | ((with_reducible refine gate_callee (f := 41) rfl ?_); refine goesL_ (some 31) rfl rfl Tryd.func41 (by kernel_rfl) rfl #[.int .i64 (wrap64 ((wrap64 (t356 + 1)) + t359)), .int .i64 72] rfl (by (try simp only [List.map_toArray, List.map_cons, List.map_nil]); first | done | rfl | (simp only [List.length_drop, List.length_take]; rfl)) ?_; (with_reducible refine (deckleref05_Rest.calls (wrap64 ((wrap64 (t356 + 1)) + t359)) 72 t360 _ A8.out).mono ?_); rintro e w' ⟨rfl, ⟨nd, rfl⟩⟩; refine ⟨_, rfl, ?_⟩) | ((with_reducible refine gate_callee (f := 42) rfl ?_); refine goesL_ (some 32) rfl rfl Tryd.func42 (by kernel_rfl) rfl #[.string t357, .int .i64 t360] rfl (by (try simp only [List.map_toArray, List.map_cons, List.map_nil]); first | done | rfl | (simp only [List.length_drop, List.length_take]; rfl)) ?_; (with_reducible refine (deckleref01_Flip.calls t357 t360 t361 t362 _ A9.out).mono ?_); rintro e w11 ⟨rfl, hb⟩; refine ⟨_, rfl, ?_⟩; have n0_ := Aside0.mk (below_step (by repeat (first | (with_reducible first | exact HB.out | apply below_alloc | apply pw_below_drewN | apply below_drew1) | exact HB.out)) hb); clear HB; have HB := n0_; clear n0_; (try clear hb); (try clear hb2); (try clear hk); (try clear hi)))
    go_ret
    exact ⟨by first | rfl | (simp [errW_none, errW_some] <;> rfl) | (simp [*, errW_none, errW_some] <;> rfl), by repeat (first | (with_reducible first | exact HB.out | apply below_alloc | apply pw_below_drewN | apply below_drew1) | exact HB.out)⟩

end Go.Proofs.YtbcgddacmjliaaaDoor.PF

-- Written by a program (the kit's print.py, called by wip/bin/prseat.sh, mended by wip/bin/mend.py).
namespace Go.Proofs.YtbcgddacmjliaaaDoor.PF
open Go.RowKit Go.Proofs.YtbcgddacmjliaaaDoorW.PrintWords Go.Proofs.YtbcgddacmjliaaaDoorW.PrintLast Go.Proofs.YtbcgddacmjliaaaDoorW.PrintMore
attribute [local go_sem] max2_int min2_int max_two min_two max_three min_three max_four min_four   -- for this text's walks alone
set_option linter.unusedVariables false
set_option linter.unusedSimpArgs false

/-! ### decklelaw05_FrameHurts: function 5 -/
def decklelaw05_FrameHurts.f (k : Nat) (a0 : ByteArray) (a1 : Int) (a2 : Int) : Option (Bool) := if (a0.size : Int) > 400 then ((decklelaw05_works.f).bind fun t363 => (some t363)) else ((frame_Blank.f a1).bind fun t364 => ((deckleref05_Blank.f k a1).bind fun t365 => (if t364.toList = t365.toList then ((frame_Hurt.f a0 a1 a2).bind fun t366 => ((deckleref05_Hurt.f a0 a1 a2).bind fun t367 => (if t366.toList = t367.toList then ((decklelaw05_works.f).bind fun t368 => (some t368)) else (some false)))) else (some false))))
theorem decklelaw05_FrameHurts.mono : ∀ a0 a1 a2 k, LeO (decklelaw05_FrameHurts.f k a0 a1 a2) (decklelaw05_FrameHurts.f (k + 1) a0 a1 a2) := by
  intro a0 a1 a2 k
  unfold decklelaw05_FrameHurts.f
  repeat' first
      | (with_reducible exact deckleref05_Blank.mono _ _)
      | (with_reducible exact LeO.refl _)
      | (with_reducible exact LeO.none _)
      | (with_reducible refine LeO.ite ?_ ?_)
      | (with_reducible refine LeO.bind ?_ (fun _ => ?_))
      | exact deckleref05_Blank.mono _ _
      | exact LeO.none _
      | refine LeO.ite ?_ ?_
      | refine LeO.bind ?_ (fun _ => ?_)
set_option maxHeartbeats 8000000 in
set_option maxRecDepth 100000 in
theorem decklelaw05_FrameHurts.calls (k : Nat) (a0 : ByteArray) (a1 : Int) (a2 : Int) (r : Bool) (w : World) (h : decklelaw05_FrameHurts.f k a0 a1 a2 = some r) (HL : Aside0 (Hw.Laid w) := by first | exact HL | exact Hw.laid_at HL (by repeat (first | (with_reducible first | exact HB.out | apply below_alloc | apply pw_below_drewN | apply below_drew1) | exact HB.out | exact Below.refl _ _ | refine below_set ?_ (by apply Aside0.out; assumption)))) :
    Calls Tryd.prog 5 #[.string a0, .int .i64 a1, .int .i64 a2] w fun e w' => e = .returned (.bool r) ∧ Below w.heap.size w w' := by
  have HB := Aside0.mk (Below.refl w.heap.size w)
  have H : (if (a0.size : Int) > 400 then ((decklelaw05_works.f).bind fun t363 => (some t363)) else ((frame_Blank.f a1).bind fun t364 => ((deckleref05_Blank.f k a1).bind fun t365 => (if t364.toList = t365.toList then ((frame_Hurt.f a0 a1 a2).bind fun t366 => ((deckleref05_Hurt.f a0 a1 a2).bind fun t367 => (if t366.toList = t367.toList then ((decklelaw05_works.f).bind fun t368 => (some t368)) else (some false)))) else (some false))))) = some r := h
  clear h
  by_cases c4 : (a0.size : Int) > 400
  · rw [if_pos c4] at H
    have c4b0 : decide (400 < (a0.size : Int)) = true := decide_eq_true c4
    have c4b1 : decide (400 < a0.size) = true := decide_eq_true (by omega)
    clear c4
    replace H := Option.bind_eq_some_iff.mp H
    obtain ⟨t363, A50, H⟩ := H
    replace H : (some t363) = some r := H
    have A5 := Aside0.mk A50
    clear A50
    obtain rfl := Option.some.inj H
    go_enter Tryd.func5, Tryd.ntmps5
    go_wp2_with (first | ((with_reducible refine gate_callee (f := 9) rfl ?_); refine goesL_ (some 10) rfl rfl Tryd.func9 (by kernel_rfl) rfl #[] rfl (by (try simp only [List.map_toArray, List.map_cons, List.map_nil]); first | done | rfl | (simp only [List.length_drop, List.length_take]; rfl)) ?_; (with_reducible refine (decklelaw05_works.calls  t363 _ A5.out).mono ?_); rintro e w6 ⟨rfl, hb⟩; refine ⟨_, rfl, ?_⟩; have n0_ := Aside0.mk (below_step (by repeat (first | (with_reducible first | exact HB.out | apply below_alloc | apply pw_below_drewN | apply below_drew1) | exact HB.out)) hb); clear HB; have HB := n0_; clear n0_; (try clear hb); (try clear hb2); (try clear hk); (try clear hi)))
    go_ret
    exact ⟨by first | rfl | (simp [errW_none, errW_some] <;> rfl) | (simp [*, errW_none, errW_some] <;> rfl), by repeat (first | (with_reducible first | exact HB.out | apply below_alloc | apply pw_below_drewN | apply below_drew1) | exact HB.out)⟩
  · rw [if_neg c4] at H
    have c4b0 : decide (400 < (a0.size : Int)) = false := decide_eq_false c4
    have c4b1 : decide (400 < a0.size) = false := decide_eq_false (by omega)
    clear c4
    replace H := Option.bind_eq_some_iff.mp H
    obtain ⟨t364, A70, H⟩ := H
    replace H : ((deckleref05_Blank.f k a1).bind fun t365 => (if t364.toList = t365.toList then ((frame_Hurt.f a0 a1 a2).bind fun t366 => ((deckleref05_Hurt.f a0 a1 a2).bind fun t367 => (if t366.toList = t367.toList then ((decklelaw05_works.f).bind fun t368 => (some t368)) else (some false)))) else (some false))) = some r := H
    have A7 := Aside0.mk A70
    clear A70
    replace H := Option.bind_eq_some_iff.mp H
    obtain ⟨t365, A80, H⟩ := H
    replace H : (if t364.toList = t365.toList then ((frame_Hurt.f a0 a1 a2).bind fun t366 => ((deckleref05_Hurt.f a0 a1 a2).bind fun t367 => (if t366.toList = t367.toList then ((decklelaw05_works.f).bind fun t368 => (some t368)) else (some false)))) else (some false)) = some r := H
    have A8 := Aside0.mk A80
    clear A80
    by_cases c9 : t364.toList = t365.toList
    · rw [if_pos c9] at H
      have c9b0 : (t364.toList == t365.toList) = true := beq_iff_eq.mpr c9
      have c9b1 : (t364.toList != t365.toList) = false := bne_eq_false_iff_eq.mpr c9
      clear c9
      replace H := Option.bind_eq_some_iff.mp H
      obtain ⟨t366, A100, H⟩ := H
      replace H : ((deckleref05_Hurt.f a0 a1 a2).bind fun t367 => (if t366.toList = t367.toList then ((decklelaw05_works.f).bind fun t368 => (some t368)) else (some false))) = some r := H
      have A10 := Aside0.mk A100
      clear A100
      replace H := Option.bind_eq_some_iff.mp H
      obtain ⟨t367, A110, H⟩ := H
      replace H : (if t366.toList = t367.toList then ((decklelaw05_works.f).bind fun t368 => (some t368)) else (some false)) = some r := H
      have A11 := Aside0.mk A110
      clear A110
      by_cases c12 : t366.toList = t367.toList
      · rw [if_pos c12] at H
        have c12b0 : (t366.toList == t367.toList) = true := beq_iff_eq.mpr c12
        have c12b1 : (t366.toList != t367.toList) = false := bne_eq_false_iff_eq.mpr c12
        clear c12
        replace H := Option.bind_eq_some_iff.mp H
        obtain ⟨t368, A130, H⟩ := H
        replace H : (some t368) = some r := H
        have A13 := Aside0.mk A130
        clear A130
        obtain rfl := Option.some.inj H
        go_enter Tryd.func5, Tryd.ntmps5
        go_wp2_with (first | ((with_reducible refine gate_callee (f := 14) rfl ?_); refine goesL_ (some 12) rfl rfl Tryd.func14 (by kernel_rfl) rfl #[.int .i64 a1] rfl (by (try simp only [List.map_toArray, List.map_cons, List.map_nil]); first | done | rfl | (simp only [List.length_drop, List.length_take]; rfl)) ?_; (with_reducible refine (frame_Blank.calls a1 t364 _ A7.out).mono ?_); rintro e w14 ⟨rfl, hb⟩; refine ⟨_, rfl, ?_⟩; have n0_ := Aside0.mk (below_step (by repeat (first | (with_reducible first | exact HB.out | apply below_alloc | apply pw_below_drewN | apply below_drew1) | exact HB.out)) hb); clear HB; have HB := n0_; clear n0_; (try clear hb); (try clear hb2); (try clear hk); (try clear hi)) | ((with_reducible refine gate_callee (f := 15) rfl ?_); refine goesL_ (some 14) rfl rfl Tryd.func15 (by kernel_rfl) rfl #[.int .i64 a1] rfl (by (try simp only [List.map_toArray, List.map_cons, List.map_nil]); first | done | rfl | (simp only [List.length_drop, List.length_take]; rfl)) ?_; (with_reducible refine (deckleref05_Blank.calls k a1 t365 _ A8.out).mono ?_); rintro e w15 ⟨rfl, hb⟩; refine ⟨_, rfl, ?_⟩; have n0_ := Aside0.mk (below_step (by repeat (first | (with_reducible first | exact HB.out | apply below_alloc | apply pw_below_drewN | apply below_drew1) | exact HB.out)) hb); clear HB; have HB := n0_; clear n0_; (try clear hb); (try clear hb2); (try clear hk); (try clear hi)) | (go_at_call 16; (with_reducible refine (frame_Hurt.calls a0 a1 a2 t366 _ A10.out).mono ?_); rintro e w16 ⟨rfl, hb⟩; have n0_ := Aside0.mk (below_step (by repeat (first | (with_reducible first | exact HB.out | apply below_alloc | apply pw_below_drewN | apply below_drew1) | exact HB.out)) hb); clear HB; have HB := n0_; clear n0_; (try clear hb); (try clear hb2); (try clear hk); (try clear hi)) | (go_at_call 17; (with_reducible refine (deckleref05_Hurt.calls a0 a1 a2 t367 _ A11.out).mono ?_); rintro e w17 ⟨rfl, hb⟩; have n0_ := Aside0.mk (below_step (by repeat (first | (with_reducible first | exact HB.out | apply below_alloc | apply pw_below_drewN | apply below_drew1) | exact HB.out)) hb); clear HB; have HB := n0_; clear n0_; (try clear hb); (try clear hb2); (try clear hk); (try clear hi)) | (go_at_call 9; (with_reducible refine (decklelaw05_works.calls  t368 _ A13.out).mono ?_); rintro e w18 ⟨rfl, hb⟩; have n0_ := Aside0.mk (below_step (by repeat (first | (with_reducible first | exact HB.out | apply below_alloc | apply pw_below_drewN | apply below_drew1) | exact HB.out)) hb); clear HB; have HB := n0_; clear n0_; (try clear hb); (try clear hb2); (try clear hk); (try clear hi)))
        go_ret
        exact ⟨by first | rfl | (simp [errW_none, errW_some] <;> rfl) | (simp [*, errW_none, errW_some] <;> rfl), by repeat (first | (with_reducible first | exact HB.out | apply below_alloc | apply pw_below_drewN | apply below_drew1) | exact HB.out)⟩
      · rw [if_neg c12] at H
        have c12b0 : (t366.toList == t367.toList) = false := beq_eq_false_iff_ne.mpr c12
        have c12b1 : (t366.toList != t367.toList) = true := bne_iff_ne.mpr c12
        obtain rfl := Option.some.inj H
        go_enter Tryd.func5, Tryd.ntmps5
        go_wp2_with (first | ((with_reducible refine gate_callee (f := 14) rfl ?_); refine goesL_ (some 12) rfl rfl Tryd.func14 (by kernel_rfl) rfl #[.int .i64 a1] rfl (by (try simp only [List.map_toArray, List.map_cons, List.map_nil]); first | done | rfl | (simp only [List.length_drop, List.length_take]; rfl)) ?_; (with_reducible refine (frame_Blank.calls a1 t364 _ A7.out).mono ?_); rintro e w19 ⟨rfl, hb⟩; refine ⟨_, rfl, ?_⟩; have n0_ := Aside0.mk (below_step (by repeat (first | (with_reducible first | exact HB.out | apply below_alloc | apply pw_below_drewN | apply below_drew1) | exact HB.out)) hb); clear HB; have HB := n0_; clear n0_; (try clear hb); (try clear hb2); (try clear hk); (try clear hi)) | ((with_reducible refine gate_callee (f := 15) rfl ?_); refine goesL_ (some 14) rfl rfl Tryd.func15 (by kernel_rfl) rfl #[.int .i64 a1] rfl (by (try simp only [List.map_toArray, List.map_cons, List.map_nil]); first | done | rfl | (simp only [List.length_drop, List.length_take]; rfl)) ?_; (with_reducible refine (deckleref05_Blank.calls k a1 t365 _ A8.out).mono ?_); rintro e w20 ⟨rfl, hb⟩; refine ⟨_, rfl, ?_⟩; have n0_ := Aside0.mk (below_step (by repeat (first | (with_reducible first | exact HB.out | apply below_alloc | apply pw_below_drewN | apply below_drew1) | exact HB.out)) hb); clear HB; have HB := n0_; clear n0_; (try clear hb); (try clear hb2); (try clear hk); (try clear hi)) | (go_at_call 16; (with_reducible refine (frame_Hurt.calls a0 a1 a2 t366 _ A10.out).mono ?_); rintro e w21 ⟨rfl, hb⟩; have n0_ := Aside0.mk (below_step (by repeat (first | (with_reducible first | exact HB.out | apply below_alloc | apply pw_below_drewN | apply below_drew1) | exact HB.out)) hb); clear HB; have HB := n0_; clear n0_; (try clear hb); (try clear hb2); (try clear hk); (try clear hi)) | (go_at_call 17; (with_reducible refine (deckleref05_Hurt.calls a0 a1 a2 t367 _ A11.out).mono ?_); rintro e w22 ⟨rfl, hb⟩; have n0_ := Aside0.mk (below_step (by repeat (first | (with_reducible first | exact HB.out | apply below_alloc | apply pw_below_drewN | apply below_drew1) | exact HB.out)) hb); clear HB; have HB := n0_; clear n0_; (try clear hb); (try clear hb2); (try clear hk); (try clear hi)))
        go_ret
        exact ⟨by first | rfl | (simp [errW_none, errW_some] <;> rfl) | (simp [*, errW_none, errW_some] <;> rfl), by repeat (first | (with_reducible first | exact HB.out | apply below_alloc | apply pw_below_drewN | apply below_drew1) | exact HB.out)⟩
    · rw [if_neg c9] at H
      have c9b0 : (t364.toList == t365.toList) = false := beq_eq_false_iff_ne.mpr c9
      have c9b1 : (t364.toList != t365.toList) = true := bne_iff_ne.mpr c9
      obtain rfl := Option.some.inj H
      go_enter Tryd.func5, Tryd.ntmps5
      go_wp2_with (first | ((with_reducible refine gate_callee (f := 14) rfl ?_); refine goesL_ (some 12) rfl rfl Tryd.func14 (by kernel_rfl) rfl #[.int .i64 a1] rfl (by (try simp only [List.map_toArray, List.map_cons, List.map_nil]); first | done | rfl | (simp only [List.length_drop, List.length_take]; rfl)) ?_; (with_reducible refine (frame_Blank.calls a1 t364 _ A7.out).mono ?_); rintro e w23 ⟨rfl, hb⟩; refine ⟨_, rfl, ?_⟩; have n0_ := Aside0.mk (below_step (by repeat (first | (with_reducible first | exact HB.out | apply below_alloc | apply pw_below_drewN | apply below_drew1) | exact HB.out)) hb); clear HB; have HB := n0_; clear n0_; (try clear hb); (try clear hb2); (try clear hk); (try clear hi)) | ((with_reducible refine gate_callee (f := 15) rfl ?_); refine goesL_ (some 14) rfl rfl Tryd.func15 (by kernel_rfl) rfl #[.int .i64 a1] rfl (by (try simp only [List.map_toArray, List.map_cons, List.map_nil]); first | done | rfl | (simp only [List.length_drop, List.length_take]; rfl)) ?_; (with_reducible refine (deckleref05_Blank.calls k a1 t365 _ A8.out).mono ?_); rintro e w24 ⟨rfl, hb⟩; refine ⟨_, rfl, ?_⟩; have n0_ := Aside0.mk (below_step (by repeat (first | (with_reducible first | exact HB.out | apply below_alloc | apply pw_below_drewN | apply below_drew1) | exact HB.out)) hb); clear HB; have HB := n0_; clear n0_; (try clear hb); (try clear hb2); (try clear hk); (try clear hi)))
      go_ret
      exact ⟨by first | rfl | (simp [errW_none, errW_some] <;> rfl) | (simp [*, errW_none, errW_some] <;> rfl), by repeat (first | (with_reducible first | exact HB.out | apply below_alloc | apply pw_below_drewN | apply below_drew1) | exact HB.out)⟩

/-- THE ONE PURE STATEMENT of decklelaw05_FrameHurts: yours. -/
def decklelaw05_FrameHurts.Pure : Prop := ∀ (a0 : ByteArray) (a1 : Int) (a2 : Int), a0.size ≤ 140737488351232 → (Lit.int .i64 a1).wf = true → (Lit.int .i64 a2).wf = true → ∃ k, decklelaw05_FrameHurts.f k a0 a1 a2 = some true
theorem decklelaw05_FrameHurts.walk (P : decklelaw05_FrameHurts.Pure) (a0 : ByteArray) (a1 : Int) (a2 : Int) (w : World) (w0 : a0.size ≤ 140737488351232) (w1 : (Lit.int .i64 a1).wf = true) (w2 : (Lit.int .i64 a2).wf = true) (HL : Aside0 (Hw.Laid w)) :
    Calls Tryd.prog 5 #[.string a0, .int .i64 a1, .int .i64 a2] w fun e w' => e = .returned (.bool true) ∧ Below w.heap.size w w' := by
  obtain ⟨k, h⟩ := P a0 a1 a2 w0 w1 w2
  refine (decklelaw05_FrameHurts.calls k a0 a1 a2 true w h).mono ?_
  rintro e w' ⟨rfl, hd⟩
  exact ⟨rfl, hd⟩

end Go.Proofs.YtbcgddacmjliaaaDoor.PF

/- Law FrameHurts in plain Lean. -/
set_option linter.unusedVariables false
set_option linter.unusedSimpArgs false
namespace Go.Proofs.YtbcgddacmjliaaaDoor.Pure
open Go.RowKit Go.Proofs.YtbcgddacmjliaaaDoor.PF Go.Proofs.YtbcgddacmjliaaaDoor.Hw Go.Proofs.YtbcgddacmjliaaaDoorW.PrintWords Go.Proofs.YtbcgddacmjliaaaDoorW.PrintLast

theorem flips_same (s : ByteArray) (k : Int) : deckleref01_Flip.f s k = bits_Flip.f s k := rfl
theorem w64 (x : Int) (h : -9223372036854775808 ≤ x ∧ x ≤ 9223372036854775807) : wrap64 x = x := by unfold wrap64; omega
theorem i64_bounds {a : Int} (h : (Lit.int .i64 a).wf = true) : -9223372036854775808 ≤ a ∧ a ≤ 9223372036854775807 := Go.bounds_i64 h
theorem tmod_pos (a b : Int) (h : 0 < b) : Int.tmod a b = if Int.tmod a b < 0 then a % b - b else a % b := by
  have h0 := Int.emod_nonneg a (by omega : b ≠ 0)
  have hl := Int.emod_lt_of_pos a h
  have hn : (b.natAbs : Int) = b := by omega
  have h1 := Int.tmod_eq_emod (a := a) (b := b)
  by_cases hc : 0 ≤ a ∨ b ∣ a
  · rw [if_pos hc] at h1
    rw [if_neg (by omega)]
    omega
  · rw [if_neg hc] at h1
    rw [if_pos (by omega)]
    omega
theorem rest_is (a b : Int) (hb : 0 < b) (hb2 : b ≤ 1000) : frame_rest.f a b = some (a % b) := by
  unfold frame_rest.f
  rw [if_neg (by omega)]
  have h0 := Int.emod_nonneg a (by omega : b ≠ 0)
  have h1 := Int.emod_lt_of_pos a hb
  have ht := tmod_pos a b hb
  congr 1
  split at ht
  · rw [ht, w64 _ (by omega), show a % b - b + b = a % b by omega, Int.tmod_eq_emod_of_nonneg h0, Int.emod_eq_of_lt h0 h1]
  · rw [ht, w64 _ (by omega), Int.tmod_eq_emod_of_nonneg (by omega), Int.add_emod_right, Int.emod_eq_of_lt h0 h1]
theorem refRest_is (a b : Int) (hb : 0 < b) (hb2 : b ≤ 1000) : deckleref05_Rest.f a b = some (a % b) := by
  unfold deckleref05_Rest.f
  rw [if_neg (by omega)]
  have h0 := Int.emod_nonneg a (by omega : b ≠ 0)
  have h1 := Int.emod_lt_of_pos a hb
  have ht := tmod_pos a b hb
  split
  · rename_i h2
    rw [if_pos h2] at ht
    rw [ht, w64 _ (by omega)]
    congr 1
    omega
  · rename_i h2
    rw [if_neg h2] at ht
    rw [ht]
theorem hurt_same (s : ByteArray) (a b : Int) (hs : s.size ≤ 400) : ∃ t, frame_Hurt.f s a b = some t ∧ deckleref05_Hurt.f s a b = some t := by
  unfold frame_Hurt.f deckleref05_Hurt.f
  by_cases h9 : (s.size : Int) < 9
  · exact ⟨s, by rw [if_pos h9], by rw [if_pos h9]⟩
  · rw [if_neg h9, if_neg h9]
    have a0 := Int.emod_nonneg a (by decide : (72 : Int) ≠ 0)
    have a1 := Int.emod_lt_of_pos a (by decide : (0 : Int) < 72)
    have b0 := Int.emod_nonneg b (by decide : (71 : Int) ≠ 0)
    have b1 := Int.emod_lt_of_pos b (by decide : (0 : Int) < 71)
    rw [rest_is a 72 (by decide) (by decide), refRest_is a 72 (by decide) (by decide), rest_is b 71 (by decide) (by decide), refRest_is b 71 (by decide) (by decide)]
    simp only [Option.bind_some, flips_same]
    rw [w64 (a % 72 + 1) (by omega), w64 _ (by omega), refRest_is _ 72 (by decide) (by decide)]
    simp only [Option.bind_some]
    rw [Int.tmod_eq_emod_of_nonneg (by omega)]
    have c0 := Int.emod_nonneg (a % 72 + 1 + b % 71) (by decide : (72 : Int) ≠ 0)
    have c1 := Int.emod_lt_of_pos (a % 72 + 1 + b % 71) (by decide : (0 : Int) < 72)
    have f1 : bits_Flip.f s (a % 72) = some (flipAt s (a % 72).toNat, 0) := by
      unfold bits_Flip.f
      rw [if_pos ⟨by omega, by omega⟩, if_neg (by omega)]
    have hz : (flipAt s (a % 72).toNat).size = s.size := by
      unfold flipAt
      have hz : ∀ xs : List Int, (strOfNums xs).size = xs.length := fun xs => by simp [strOfNums, ByteArray.size]
      rw [hz, List.length_set, bytesOf_length]
    rw [f1]
    simp only [Option.bind_some]
    have f2 : bits_Flip.f (flipAt s (a % 72).toNat) ((a % 72 + 1 + b % 71) % 72) = some (flipAt (flipAt s (a % 72).toNat) ((a % 72 + 1 + b % 71) % 72).toNat, 0) := by
      unfold bits_Flip.f
      rw [hz, if_pos ⟨by omega, by omega⟩, if_neg (by omega)]
    rw [f2]
    exact ⟨_, rfl, rfl⟩
theorem refMay_is (n : Int) : deckleref05_May.f n = some (mayB n) := may_is n
theorem blank_loop (a : Int) (m : Nat) (h8 : 8 ≤ a) (h256 : a ≤ 256) (hm : (m : Int) = (a + 24) / 8 * 9) : ∀ (d i : Nat), i + d = m → deckleref05_Blank.l0 (d + 1) a (List.replicate i 255) i = some (strOfNums (List.replicate m 255))
  | 0, i, h => by
    obtain rfl : i = m := by omega
    rw [deckleref05_Blank.l0, w64 (a + 24) (by omega), Int.tdiv_eq_ediv_of_nonneg (by omega), w64 ((a + 24) / 8) (by omega), w64 _ (by omega), if_neg (by omega)]
  | d + 1, i, h => by
    rw [deckleref05_Blank.l0, w64 (a + 24) (by omega), Int.tdiv_eq_ediv_of_nonneg (by omega), w64 ((a + 24) / 8) (by omega), w64 _ (by omega), if_pos (by omega), if_pos (by rw [List.length_replicate]; omega), w64 _ (by omega)]
    have := blank_loop a m h8 h256 hm d (i + 1) (by omega)
    rw [List.replicate_succ'] at this
    exact this
theorem blank_same (a : Int) : ∃ X Y k, frame_Blank.f a = some X ∧ deckleref05_Blank.f k a = some Y ∧ X.toList = Y.toList := by
  unfold frame_Blank.f deckleref05_Blank.f
  cases hm : mayB a with
  | false => exact ⟨_, _, 0, rfl, by rw [refMay_is, hm]; rfl, rfl⟩
  | true =>
    have h := hm
    unfold mayB at h
    have h := of_decide_eq_true h
    refine ⟨_, strOfNums (List.replicate ((a.toNat + 24) / 8 * 9) 255), ((a.toNat + 24) / 8 * 9) + 1, rfl, ?_, ?_⟩
    · rw [refMay_is, hm]
      simp only [Option.bind_some, if_true]
      exact blank_loop a _ h.1 h.2.1 (by omega) _ 0 (by omega)
    · congr 1
      rw [if_pos rfl]
      unfold ffs strOfNums
      simp
theorem FrameHurts : decklelaw05_FrameHurts.Pure := by
  intro a0 a1 a2 h0 h1 h2
  obtain ⟨X, Y, k, e1, e2, e3⟩ := blank_same a1
  refine ⟨k, ?_⟩
  unfold decklelaw05_FrameHurts.f
  rw [works_true]
  by_cases h4 : (a0.size : Int) > 400
  · rw [if_pos h4]
    rfl
  · obtain ⟨t, t1, t2⟩ := hurt_same a0 a1 a2 (by omega)
    rw [if_neg h4, e1, e2]
    simp only [Option.bind_some]
    rw [if_pos e3, t1, t2]
    simp
end Go.Proofs.YtbcgddacmjliaaaDoor.Pure
