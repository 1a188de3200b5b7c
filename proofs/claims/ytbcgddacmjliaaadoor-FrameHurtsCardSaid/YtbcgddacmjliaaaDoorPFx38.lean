-- Written by a program (the kit's print.py, called by wip/bin/prseat.sh, mended by wip/bin/mend.py).
import Derived.Test.YtbcgddacmjliaaaDoorPFy1
import Derived.Test.YtbcgddacmjliaaaDoorBitsFlip
namespace Go.Proofs.YtbcgddacmjliaaaDoor.PF
open Go.RowKit Go.Proofs.YtbcgddacmjliaaaDoorW.PrintWords Go.Proofs.YtbcgddacmjliaaaDoorW.PrintLast Go.Proofs.YtbcgddacmjliaaaDoorW.PrintMore
attribute [local go_sem] max2_int min2_int max_two min_two max_three min_three max_four min_four   -- for this text's walks alone
set_option linter.unusedVariables false
set_option linter.unusedSimpArgs false

/-! ### frame_Hurt: function 16 -/
def frame_Hurt.f (a0 : ByteArray) (a1 : Int) (a2 : Int) : Option (ByteArray) := if (a0.size : Int) < 9 then (some a0) else ((frame_rest.f a1 72).bind fun t149 => ((frame_rest.f a2 71).bind fun t150 => ((bits_Flip.f a0 t149).bind fun bt151 => ((bits_Flip.f bt151.1 (Int.tmod (wrap64 ((wrap64 (t149 + 1)) + t150)) 72)).bind fun bt153 => (some bt153.1)))))
set_option maxHeartbeats 8000000 in
set_option maxRecDepth 100000 in
theorem frame_Hurt.calls (a0 : ByteArray) (a1 : Int) (a2 : Int) (r : ByteArray) (w : World) (h : frame_Hurt.f a0 a1 a2 = some r) :
    Calls Tryd.prog 16 #[.string a0, .int .i64 a1, .int .i64 a2] w fun e w' => e = .returned (.string r) ∧ Below w.heap.size w w' := by
  have HB := Aside0.mk (Below.refl w.heap.size w)
  have H : (if (a0.size : Int) < 9 then (some a0) else ((frame_rest.f a1 72).bind fun t149 => ((frame_rest.f a2 71).bind fun t150 => ((bits_Flip.f a0 t149).bind fun bt151 => ((bits_Flip.f bt151.1 (Int.tmod (wrap64 ((wrap64 (t149 + 1)) + t150)) 72)).bind fun bt153 => (some bt153.1)))))) = some r := h
  clear h
  by_cases c4 : (a0.size : Int) < 9
  · rw [if_pos c4] at H
    have c4b0 : decide ((a0.size : Int) < 9) = true := decide_eq_true c4
    have c4b1 : decide (a0.size < 9) = true := decide_eq_true (by omega)
    clear c4
    obtain rfl := Option.some.inj H
    go_enter Tryd.func16, Tryd.ntmps16
    go_wp2
    go_ret
    exact ⟨by first | rfl | (simp [errW_none, errW_some] <;> rfl) | (simp [*, errW_none, errW_some] <;> rfl), by repeat (first | (with_reducible first | exact HB.out | apply below_alloc | apply pw_below_drewN | apply below_drew1) | exact HB.out)⟩
  · rw [if_neg c4] at H
    have c4b0 : decide ((a0.size : Int) < 9) = false := decide_eq_false c4
    have c4b1 : decide (a0.size < 9) = false := decide_eq_false (by omega)
    clear c4
    replace H := Option.bind_eq_some_iff.mp H
    obtain ⟨t149, A50, H⟩ := H
    replace H : ((frame_rest.f a2 71).bind fun t150 => ((bits_Flip.f a0 t149).bind fun bt151 => ((bits_Flip.f bt151.1 (Int.tmod (wrap64 ((wrap64 (t149 + 1)) + t150)) 72)).bind fun bt153 => (some bt153.1)))) = some r := H
    have A5 := Aside0.mk A50
    clear A50
    replace H := Option.bind_eq_some_iff.mp H
    obtain ⟨t150, A60, H⟩ := H
    replace H : ((bits_Flip.f a0 t149).bind fun bt151 => ((bits_Flip.f bt151.1 (Int.tmod (wrap64 ((wrap64 (t149 + 1)) + t150)) 72)).bind fun bt153 => (some bt153.1))) = some r := H
    have A6 := Aside0.mk A60
    clear A60
    replace H := Option.bind_eq_some_iff.mp H
    obtain ⟨⟨t151, t152⟩, A70, H⟩ := H
    replace H : ((bits_Flip.f t151 (Int.tmod (wrap64 ((wrap64 (t149 + 1)) + t150)) 72)).bind fun bt153 => (some bt153.1)) = some r := H
    have A7 := Aside0.mk A70
    clear A70
    replace H := Option.bind_eq_some_iff.mp H
    obtain ⟨⟨t153, t154⟩, A80, H⟩ := H
    replace H : (some t153) = some r := H
    have A8 := Aside0.mk A80
    clear A80
    obtain rfl := Option.some.inj H
    go_enter Tryd.func16, Tryd.ntmps16
    go_wp2_with (first | ((with_reducible refine gate_callee (f := 39) rfl ?_); refine goesL_ (some 14) rfl rfl Tryd.func39 (by kernel_rfl) rfl #[.int .i64 a1, .int .i64 72] rfl (by (try simp only [List.map_toArray, List.map_cons, List.map_nil]); first | done | rfl | (simp only [List.length_drop, List.length_take]; rfl)) ?_; (with_reducible refine (frame_rest.calls a1 72 t149 _ A5.out).mono ?_); rintro e w' ⟨rfl, ⟨nd, rfl⟩⟩; refine ⟨_, rfl, ?_⟩) | ((with_reducible refine gate_callee (f := 39) rfl ?_); refine goesL_ (some 18) rfl rfl Tryd.func39 (by kernel_rfl) rfl #[.int .i64 a2, .int .i64 71] rfl (by (try simp only [List.map_toArray, List.map_cons, List.map_nil]); first | done | rfl | (simp only [List.length_drop, List.length_take]; rfl)) ?_; (with_reducible refine (frame_rest.calls a2 71 t150 _ A6.out).mono ?_); rintro e w' ⟨rfl, ⟨nd, rfl⟩⟩; refine ⟨_, rfl, ?_⟩) | ((with_reducible refine gate_callee (f := 40) rfl ?_); refine goesL_ (some 24) rfl rfl Tryd.func40 (by kernel_rfl) rfl #[.string a0, .int .i64 t149] rfl (by (try simp only [List.map_toArray, List.map_cons, List.map_nil]); first | done | rfl | (simp only [List.length_drop, List.length_take]; rfl)) ?_; (with_reducible refine (bits_Flip.calls a0 t149 t151 t152 _ A7.out).mono ?_); rintro e w9 ⟨rfl, hb⟩; refine ⟨_, rfl, ?_⟩; have n0_ := Aside0.mk (below_step (by repeat (first | (with_reducible first | exact HB.out | apply below_alloc | apply pw_below_drewN | apply below_drew1) | exact HB.out)) hb); clear HB; have HB := n0_; clear n0_; (try clear hb); (try clear hb2); (try clear hk); (try clear hi)) | ((with_reducible refine gate_callee (f := 40) rfl ?_); refine goesL_ (some 30) rfl rfl Tryd.func40 (by kernel_rfl) rfl #[.string t151, .int .i64 (Int.tmod (wrap64 ((wrap64 (t149 + 1)) + t150)) 72)] rfl (by (try simp only [List.map_toArray, List.map_cons, List.map_nil]); first | done | rfl | (simp only [List.length_drop, List.length_take]; rfl)) ?_; (with_reducible refine (bits_Flip.calls t151 (Int.tmod (wrap64 ((wrap64 (t149 + 1)) + t150)) 72) t153 t154 _ A8.out).mono ?_); rintro e w10 ⟨rfl, hb⟩; refine ⟨_, rfl, ?_⟩; have n0_ := Aside0.mk (below_step (by repeat (first | (with_reducible first | exact HB.out | apply below_alloc | apply pw_below_drewN | apply below_drew1) | exact HB.out)) hb); clear HB; have HB := n0_; clear n0_; (try clear hb); (try clear hb2); (try clear hk); (try clear hi)))
    go_ret
    exact ⟨by first | rfl | (simp [errW_none, errW_some] <;> rfl) | (simp [*, errW_none, errW_some] <;> rfl), by repeat (first | (with_reducible first | exact HB.out | apply below_alloc | apply pw_below_drewN | apply below_drew1) | exact HB.out)⟩

end Go.Proofs.YtbcgddacmjliaaaDoor.PF
