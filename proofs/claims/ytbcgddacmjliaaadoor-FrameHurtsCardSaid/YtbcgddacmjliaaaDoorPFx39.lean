-- Written by a program (the kit's print.py, called by wip/bin/prseat.sh, mended by wip/bin/mend.py).
import Derived.Test.YtbcgddacmjliaaaDoorLaid
import Derived.Test.YtbcgddacmjliaaaDoorTf
import Derived.Test.YtbcgddacmjliaaaDoorPFy1
import Derived.Test.YtbcgddacmjliaaaDoorPFx38
import Derived.Test.YtbcgddacmjliaaaDoorBlank
import Derived.Test.YtbcgddacmjliaaaDoorFrameDec
import Derived.Test.YtbcgddacmjliaaaDoorFrameEnc
namespace Go.Proofs.YtbcgddacmjliaaaDoor.PF
open Go.Proofs.YtbcgddacmjliaaaDoor.Tf Go.RowKit Go.Proofs.YtbcgddacmjliaaaDoorW.PrintWords Go.Proofs.YtbcgddacmjliaaaDoorW.PrintLast Go.Proofs.YtbcgddacmjliaaaDoorW.PrintMore
attribute [local go_sem] max2_int min2_int max_two min_two max_three min_three max_four min_four   -- for this text's walks alone
set_option linter.unusedVariables false
set_option linter.unnecessarySimpa false
set_option linter.unusedSimpArgs false

attribute [local go_sem high] eqA30
/-! ### decklelaw05_works: function 9 -/
def decklelaw05_works.f  : Option (Bool) := (frame_Encode.f 1 2 3 4 (⟨#[97, 98, 99, 100, 101, 102, 103, 104]⟩ : ByteArray)).bind fun bt156 => ((frame_Blank.f 8).bind fun t158 => (if bt156.2 = 0 then (if (bt156.1.size : Int) = 36 then ((frame_Decode.f bt156.1).bind fun bt159 => (if (bt159.1 == 2 && ((bt159.2.1 == 1 && (bt159.2.2.1 == 2 && (bt159.2.2.2.1 == 3 && (bt159.2.2.2.2.1 == 4)))) && (bt159.2.2.2.2.2.toList == ([97, 98, 99, 100, 101, 102, 103, 104] : List UInt8)))) = true then (if (t158.size : Int) = 36 then ((frame_Decode.f t158).bind fun bt165 => (if (bt165.1 == 1 && ((bt165.2.1 == 0 && (bt165.2.2.1 == 0 && (bt165.2.2.2.1 == 0 && (bt165.2.2.2.2.1 == 0)))) && (bt165.2.2.2.2.2.toList == ([] : List UInt8)))) = true then ((frame_Hurt.f t158 0 0).bind fun t171 => ((frame_Decode.f t171).bind fun bt172 => (some (bt172.1 == 4 && ((bt172.2.1 == 0 && (bt172.2.2.1 == 0 && (bt172.2.2.2.1 == 0 && (bt172.2.2.2.2.1 == 0)))) && (bt172.2.2.2.2.2.toList == ([] : List UInt8))))))) else (some false))) else (some false)) else (some false))) else (some false)) else (some false)))
def decklelaw05_works.T4 : Bool × List (List Nat × List Nat) := (true, [([], []), ([0], [0]), ([1], [1]), ([2], [2]), ([3, 2], [2, 3]), ([4, 2], [2, 4]), ([2, 5], [2, 5]), ([6, 2], [6]), ([7], [7]), ([8, 7, 7], [7, 8]), ([7], [7]), ([10, 7], [7, 10]), ([9, 11, 7], [7, 9, 11]), ([7, 12], [7, 12]), ([13, 9], [13]), ([14], [14]), ([15, 14], [14, 15]), ([16, 14], [14, 16]), ([14, 17], [14, 17]), ([18, 14], [18]), ([19], [19]), ([20, 19, 19], [19, 20]), ([19], [19]), ([21, 22, 19], [19, 21, 22]), ([19, 23], [19, 23]), ([24, 21], [24]), ([25], [25]), ([26, 25, 25], [25, 26]), ([27, 27, 25], [25, 27]), ([25], [25]), ([28, 29, 25], [25, 28, 29]), ([25, 30], [25, 30]), ([31, 28, 0, 1, 2, 3, 4, 5, 6, 7, 8, 9, 10, 11, 12, 13, 14, 15, 16, 17, 18, 19, 20, 21, 22, 23, 24, 25, 26, 27, 28, 29, 30, 31], [31])])
def decklelaw05_works.B4 : List Nat := [0, 1, 3, 7, 15, 31, 63, 127, 255, 511, 255, 1279, 4095, 8191, 16383, 32767, 65535, 131071, 262143, 524287, 1048575, 2097151, 1048575, 8388607, 16777215, 33554431, 67108863, 134217727, 268435455, 67108863, 1073741823, 2147483647, 4294967295]
theorem decklelaw05_works.tab4 : rtab .any (opsOf Tryd.f9 4) = decklelaw05_works.T4 := by kernel_rfl
theorem decklelaw05_works.bits4 : waitsOk decklelaw05_works.T4.2 decklelaw05_works.B4 = true := by kernel_rfl
theorem works_dec1 {B : ByteArray} {a b c d e : Int} {x : ByteArray} (h : frame_Blank.f 8 = some B) (h2 : frame_Decode.f B = some (a, b, c, d, e, x)) : a = 1 ∧ b = 0 ∧ c = 0 ∧ d = 0 ∧ e = 0 ∧ x = ⟨#[]⟩ := by
  have h3 : (frame_Blank.f 8).bind (fun B => frame_Decode.f B) = some (1, 0, 0, 0, 0, ⟨#[]⟩) := by kernel_rfl
  rw [h] at h3
  have h4 := Option.some.inj (h2.symm.trans h3)
  simp only [Prod.mk.injEq] at h4
  exact h4
theorem works_true : decklelaw05_works.f = some true := by kernel_rfl
set_option maxHeartbeats 8000000 in
set_option maxRecDepth 100000 in
theorem decklelaw05_works.calls  (r : Bool) (w : World) (h : decklelaw05_works.f  = some r) (HL : Aside0 (Hw.Laid w) := by first | exact HL | exact Hw.laid_at HL (by repeat (first | (with_reducible first | exact HB.out | apply below_alloc | apply pw_below_drewN | apply below_drew1) | exact HB.out | exact Below.refl _ _ | refine below_set ?_ (by apply Aside0.out; assumption)))) :
    Calls Tryd.prog 9 #[] w fun e w' => e = .returned (.bool r) ∧ Below w.heap.size w w' := by
  have hu23 := Tryd.underlying23
  have hu30 := Tryd.underlying30
  have HB := Aside0.mk (Below.refl w.heap.size w)
  have H : ((frame_Encode.f 1 2 3 4 (⟨#[97, 98, 99, 100, 101, 102, 103, 104]⟩ : ByteArray)).bind fun bt156 => ((frame_Blank.f 8).bind fun t158 => (if bt156.2 = 0 then (if (bt156.1.size : Int) = 36 then ((frame_Decode.f bt156.1).bind fun bt159 => (if (bt159.1 == 2 && ((bt159.2.1 == 1 && (bt159.2.2.1 == 2 && (bt159.2.2.2.1 == 3 && (bt159.2.2.2.2.1 == 4)))) && (bt159.2.2.2.2.2.toList == ([97, 98, 99, 100, 101, 102, 103, 104] : List UInt8)))) = true then (if (t158.size : Int) = 36 then ((frame_Decode.f t158).bind fun bt165 => (if (bt165.1 == 1 && ((bt165.2.1 == 0 && (bt165.2.2.1 == 0 && (bt165.2.2.2.1 == 0 && (bt165.2.2.2.2.1 == 0)))) && (bt165.2.2.2.2.2.toList == ([] : List UInt8)))) = true then ((frame_Hurt.f t158 0 0).bind fun t171 => ((frame_Decode.f t171).bind fun bt172 => (some (bt172.1 == 4 && ((bt172.2.1 == 0 && (bt172.2.2.1 == 0 && (bt172.2.2.2.1 == 0 && (bt172.2.2.2.2.1 == 0)))) && (bt172.2.2.2.2.2.toList == ([] : List UInt8))))))) else (some false))) else (some false)) else (some false))) else (some false)) else (some false)))) = some r := h
  have HRT := Aside0.mk (Option.some.inj (h.symm.trans works_true))
  clear h
  replace H := Option.bind_eq_some_iff.mp H
  obtain ⟨⟨t156, t157⟩, A10, H⟩ := H
  replace H : ((frame_Blank.f 8).bind fun t158 => (if t157 = 0 then (if (t156.size : Int) = 36 then ((frame_Decode.f t156).bind fun bt159 => (if (bt159.1 == 2 && ((bt159.2.1 == 1 && (bt159.2.2.1 == 2 && (bt159.2.2.2.1 == 3 && (bt159.2.2.2.2.1 == 4)))) && (bt159.2.2.2.2.2.toList == ([97, 98, 99, 100, 101, 102, 103, 104] : List UInt8)))) = true then (if (t158.size : Int) = 36 then ((frame_Decode.f t158).bind fun bt165 => (if (bt165.1 == 1 && ((bt165.2.1 == 0 && (bt165.2.2.1 == 0 && (bt165.2.2.2.1 == 0 && (bt165.2.2.2.2.1 == 0)))) && (bt165.2.2.2.2.2.toList == ([] : List UInt8)))) = true then ((frame_Hurt.f t158 0 0).bind fun t171 => ((frame_Decode.f t171).bind fun bt172 => (some (bt172.1 == 4 && ((bt172.2.1 == 0 && (bt172.2.2.1 == 0 && (bt172.2.2.2.1 == 0 && (bt172.2.2.2.2.1 == 0)))) && (bt172.2.2.2.2.2.toList == ([] : List UInt8))))))) else (some false))) else (some false)) else (some false))) else (some false)) else (some false))) = some r := H
  have A1 := Aside0.mk A10
  clear A10
  replace H := Option.bind_eq_some_iff.mp H
  obtain ⟨t158, A20, H⟩ := H
  replace H : (if t157 = 0 then (if (t156.size : Int) = 36 then ((frame_Decode.f t156).bind fun bt159 => (if (bt159.1 == 2 && ((bt159.2.1 == 1 && (bt159.2.2.1 == 2 && (bt159.2.2.2.1 == 3 && (bt159.2.2.2.2.1 == 4)))) && (bt159.2.2.2.2.2.toList == ([97, 98, 99, 100, 101, 102, 103, 104] : List UInt8)))) = true then (if (t158.size : Int) = 36 then ((frame_Decode.f t158).bind fun bt165 => (if (bt165.1 == 1 && ((bt165.2.1 == 0 && (bt165.2.2.1 == 0 && (bt165.2.2.2.1 == 0 && (bt165.2.2.2.2.1 == 0)))) && (bt165.2.2.2.2.2.toList == ([] : List UInt8)))) = true then ((frame_Hurt.f t158 0 0).bind fun t171 => ((frame_Decode.f t171).bind fun bt172 => (some (bt172.1 == 4 && ((bt172.2.1 == 0 && (bt172.2.2.1 == 0 && (bt172.2.2.2.1 == 0 && (bt172.2.2.2.2.1 == 0)))) && (bt172.2.2.2.2.2.toList == ([] : List UInt8))))))) else (some false))) else (some false)) else (some false))) else (some false)) else (some false)) = some r := H
  have A2 := Aside0.mk A20
  clear A20
  by_cases c3 : t157 = 0
  · rw [if_pos c3] at H
    have c3b0 : (t157 == 0) = true := beq_iff_eq.mpr c3
    have c3b1 : (t157 != 0) = false := bne_eq_false_iff_eq.mpr c3
    clear c3
    by_cases c4 : (t156.size : Int) = 36
    · rw [if_pos c4] at H
      have c4b0 : ((t156.size : Int) == 36) = true := beq_iff_eq.mpr c4
      have c4b1 : ((t156.size : Int) != 36) = false := bne_eq_false_iff_eq.mpr c4
      clear c4
      replace H := Option.bind_eq_some_iff.mp H
      obtain ⟨⟨t159, t160, t161, t162, t163, t164⟩, A50, H⟩ := H
      replace H : (if (t159 == 2 && ((t160 == 1 && (t161 == 2 && (t162 == 3 && (t163 == 4)))) && (t164.toList == ([97, 98, 99, 100, 101, 102, 103, 104] : List UInt8)))) = true then (if (t158.size : Int) = 36 then ((frame_Decode.f t158).bind fun bt165 => (if (bt165.1 == 1 && ((bt165.2.1 == 0 && (bt165.2.2.1 == 0 && (bt165.2.2.2.1 == 0 && (bt165.2.2.2.2.1 == 0)))) && (bt165.2.2.2.2.2.toList == ([] : List UInt8)))) = true then ((frame_Hurt.f t158 0 0).bind fun t171 => ((frame_Decode.f t171).bind fun bt172 => (some (bt172.1 == 4 && ((bt172.2.1 == 0 && (bt172.2.2.1 == 0 && (bt172.2.2.2.1 == 0 && (bt172.2.2.2.2.1 == 0)))) && (bt172.2.2.2.2.2.toList == ([] : List UInt8))))))) else (some false))) else (some false)) else (some false)) = some r := H
      have A5 := Aside0.mk A50
      clear A50
      by_cases c6 : (t159 == 2 && ((t160 == 1 && (t161 == 2 && (t162 == 3 && (t163 == 4)))) && (t164.toList == ([97, 98, 99, 100, 101, 102, 103, 104] : List UInt8)))) = true
      · rw [if_pos c6] at H
        have c6b0 : (t159 == 2 && ((t160 == 1 && (t161 == 2 && (t162 == 3 && (t163 == 4)))) && (t164.toList == ([97, 98, 99, 100, 101, 102, 103, 104] : List UInt8)))) = true := c6
        (try (have c6b1 : decide (t159 = 2 && ((t160 == 1 && (t161 == 2 && (t162 == 3 && (t163 == 4)))) && (t164.toList == ([97, 98, 99, 100, 101, 102, 103, 104] : List UInt8)))) = true := by simpa using c6))
        (try (have c6b2 : (t159 == 2 && ((t160 == 1 && (t161 == 2 && (t162 == 3 && (t163 == 4)))) && (t164.toList == ([97, 98, 99, 100, 101, 102, 103, 104] : List UInt8)))) = true := by simpa using c6))
        clear c6
        by_cases c7 : (t158.size : Int) = 36
        · rw [if_pos c7] at H
          have c7b0 : ((t158.size : Int) == 36) = true := beq_iff_eq.mpr c7
          have c7b1 : ((t158.size : Int) != 36) = false := bne_eq_false_iff_eq.mpr c7
          clear c7
          replace H := Option.bind_eq_some_iff.mp H
          obtain ⟨⟨t165, t166, t167, t168, t169, t170⟩, A80, H⟩ := H
          replace H : (if (t165 == 1 && ((t166 == 0 && (t167 == 0 && (t168 == 0 && (t169 == 0)))) && (t170.toList == ([] : List UInt8)))) = true then ((frame_Hurt.f t158 0 0).bind fun t171 => ((frame_Decode.f t171).bind fun bt172 => (some (bt172.1 == 4 && ((bt172.2.1 == 0 && (bt172.2.2.1 == 0 && (bt172.2.2.2.1 == 0 && (bt172.2.2.2.2.1 == 0)))) && (bt172.2.2.2.2.2.toList == ([] : List UInt8))))))) else (some false)) = some r := H
          obtain ⟨rfl, rfl, rfl, rfl, rfl, rfl⟩ := works_dec1 A2.out A80
          have A8 := Aside0.mk A80
          clear A80
          by_cases c9 : ((1 : Int) == 1 && (((0 : Int) == 0 && ((0 : Int) == 0 && ((0 : Int) == 0 && ((0 : Int) == 0)))) && ((⟨#[]⟩ : ByteArray).toList == ([] : List UInt8)))) = true
          · rw [if_pos c9] at H
            have c9b0 : ((1 : Int) == 1 && (((0 : Int) == 0 && ((0 : Int) == 0 && ((0 : Int) == 0 && ((0 : Int) == 0)))) && ((⟨#[]⟩ : ByteArray).toList == ([] : List UInt8)))) = true := c9
            (try (have c9b1 : decide ((1 : Int) = 1 && (((0 : Int) == 0 && ((0 : Int) == 0 && ((0 : Int) == 0 && ((0 : Int) == 0)))) && ((⟨#[]⟩ : ByteArray).toList == ([] : List UInt8)))) = true := by simpa using c9))
            (try (have c9b2 : ((1 : Int) == 1 && (((0 : Int) == 0 && ((0 : Int) == 0 && ((0 : Int) == 0 && ((0 : Int) == 0)))) && ((⟨#[]⟩ : ByteArray).toList == ([] : List UInt8)))) = true := by simpa using c9))
            clear c9
            replace H := Option.bind_eq_some_iff.mp H
            obtain ⟨t171, A100, H⟩ := H
            replace H : ((frame_Decode.f t171).bind fun bt172 => (some (bt172.1 == 4 && ((bt172.2.1 == 0 && (bt172.2.2.1 == 0 && (bt172.2.2.2.1 == 0 && (bt172.2.2.2.2.1 == 0)))) && (bt172.2.2.2.2.2.toList == ([] : List UInt8)))))) = some r := H
            have A10 := Aside0.mk A100
            clear A100
            replace H := Option.bind_eq_some_iff.mp H
            obtain ⟨⟨t172, t173, t174, t175, t176, t177⟩, A110, H⟩ := H
            replace H : (some (t172 == 4 && ((t173 == 0 && (t174 == 0 && (t175 == 0 && (t176 == 0)))) && (t177.toList == ([] : List UInt8))))) = some r := H
            have A11 := Aside0.mk A110
            clear A110
            obtain rfl := Option.some.inj H
            go_enter Tryd.func9, Tryd.ntmps9
            try go_wp2_with (first | ((with_reducible refine gate_dst (N := 1) rfl ?_); (try (refine gate_guard (by rfl) ?_; dsimp only)); refine box_event ?hg (N := 1) ?hd (cs := #[.int .i64 0, .int .i64 0, .int .i64 0, .int .i64 0]) (t := 23) ?hr ?_; (case hd => rfl); (case hg => rfl); (case hr => first | (go_simp; done) | (go_simp; rfl)); intro gb155 hg w12 hbox hb; have n0_ := Aside0.mk (below_step (by repeat (first | (with_reducible first | exact HB.out | apply below_alloc | apply pw_below_drewN | apply below_drew1) | exact HB.out)) hb); have n1_ := Aside0.mk (hbox); have n2_ := Aside0.mk ((by rw [hg]; exact (below_size (by repeat (first | (with_reducible first | exact HB.out | apply below_alloc | apply pw_below_drewN | apply below_drew1) | exact HB.out))) : w.heap.size ≤ gb155)); have n3_ := Aside0.mk ((by rw [hg]; exact (below_size (by repeat (first | (with_reducible first | exact HB.out | apply below_alloc | apply pw_below_drewN | apply below_drew1) | exact HB.out))) : w.heap.size ≤ gb155)); clear HB; have HB := n0_; have BK155 := n1_; have GW155 := n2_; have GE155 := n3_; clear n0_ n1_ n2_ n3_; clear hb hbox hg; have hcz13_0 : w12.cell? ⟨gb155, 0, none⟩ = some (.int .i64 0) := (blk_cell BK155.out 0).trans rfl; have hcz13_1 : w12.cell? ⟨gb155, 1, none⟩ = some (.int .i64 0) := (blk_cell BK155.out 1).trans rfl; have hcz13_2 : w12.cell? ⟨gb155, 2, none⟩ = some (.int .i64 0) := (blk_cell BK155.out 2).trans rfl; have hcz13_3 : w12.cell? ⟨gb155, 3, none⟩ = some (.int .i64 0) := (blk_cell BK155.out 3).trans rfl; have hfz13_0 := blk_frozen BK155.out 0; have hfz13_1 := blk_frozen BK155.out 1; have hfz13_2 := blk_frozen BK155.out 2; have hfz13_3 := blk_frozen BK155.out 3) | ((with_reducible refine gate_callee (f := 10) rfl ?_); refine goesL_ (some 8) rfl rfl Tryd.func10 (by kernel_rfl) rfl #[.agg #[.int .i64 1, .int .i64 2, .int .i64 3, .int .i64 4], .string (⟨#[97, 98, 99, 100, 101, 102, 103, 104]⟩ : ByteArray)] rfl (by (try simp only [List.map_toArray, List.map_cons, List.map_nil]); first | done | rfl | (simp only [List.length_drop, List.length_take]; rfl)) ?_; (with_reducible refine (frame_Encode.calls 1 2 3 4 (⟨#[97, 98, 99, 100, 101, 102, 103, 104]⟩ : ByteArray) t156 t157 _ A1.out).mono ?_); rintro e w14 ⟨rfl, hb⟩; refine ⟨_, rfl, ?_⟩; have n0_ := Aside0.mk (blk_below (g := gb155) (o := .cells #[.int .i64 1, .int .i64 2, .int .i64 3, .int .i64 4] 23 (0, 0)) (by (with_reducible repeat (first | refine blk_drewN ?_ _ | refine blk_drew ?_ | refine blk_alloc ?_ _)); refine blk_put (cs := #[.int .i64 1, .int .i64 2, .int .i64 3, .int .i64 0]) ?_ 3 _ rfl; (with_reducible repeat (first | refine blk_drewN ?_ _ | refine blk_drew ?_ | refine blk_alloc ?_ _)); refine blk_put (cs := #[.int .i64 1, .int .i64 2, .int .i64 0, .int .i64 0]) ?_ 2 _ rfl; (with_reducible repeat (first | refine blk_drewN ?_ _ | refine blk_drew ?_ | refine blk_alloc ?_ _)); refine blk_put (cs := #[.int .i64 1, .int .i64 0, .int .i64 0, .int .i64 0]) ?_ 1 _ rfl; (with_reducible repeat (first | refine blk_drewN ?_ _ | refine blk_drew ?_ | refine blk_alloc ?_ _)); refine blk_put (cs := #[.int .i64 0, .int .i64 0, .int .i64 0, .int .i64 0]) ?_ 0 _ rfl; (with_reducible repeat (first | refine blk_drewN ?_ _ | refine blk_drew ?_ | refine blk_alloc ?_ _)); exact BK155.out) hb); have n1_ := Aside0.mk (below_step (by repeat (first | (with_reducible first | exact HB.out | apply below_alloc | apply pw_below_drewN | apply below_drew1 | refine below_set ?_ GE155.out) | exact HB.out)) hb); clear BK155; clear HB; have BK155 := n0_; have HB := n1_; clear n0_ n1_; (try clear hb); (try clear hb2); (try clear hk); (try clear hi)) | ((with_reducible refine gate_callee (f := 14) rfl ?_); refine goesL_ (some 11) rfl rfl Tryd.func14 (by kernel_rfl) rfl #[.int .i64 8] rfl (by (try simp only [List.map_toArray, List.map_cons, List.map_nil]); first | done | rfl | (simp only [List.length_drop, List.length_take]; rfl)) ?_; (with_reducible refine (frame_Blank.calls 8 t158 _ A2.out).mono ?_); rintro e w15 ⟨rfl, hb⟩; refine ⟨_, rfl, ?_⟩; have n0_ := Aside0.mk (blk_below (g := gb155) (o := .cells #[.int .i64 1, .int .i64 2, .int .i64 3, .int .i64 4] 23 (0, 0)) (by (with_reducible repeat (first | refine blk_drewN ?_ _ | refine blk_drew ?_ | refine blk_alloc ?_ _)); exact BK155.out) hb); have n1_ := Aside0.mk (below_step (by repeat (first | (with_reducible first | exact HB.out | apply below_alloc | apply pw_below_drewN | apply below_drew1 | refine below_set ?_ GE155.out) | exact HB.out)) hb); clear BK155; clear HB; have BK155 := n0_; have HB := n1_; clear n0_ n1_; (try clear hb); (try clear hb2); (try clear hk); (try clear hi)))
            have n0_ := Aside0.mk (blk_drew BK155.out)
            have n1_ := Aside0.mk (below_drew1 HB.out)
            clear BK155
            clear HB
            have BK155 := n0_
            have HB := n1_
            clear n0_ n1_
            refine start_ (n := 33) (S := fun w' => w'.cell? ⟨gb155, 0, none⟩ = some (.int .i64 1) ∧ w'.cell? ⟨gb155, 1, none⟩ = some (.int .i64 2) ∧ w'.cell? ⟨gb155, 2, none⟩ = some (.int .i64 3) ∧ w'.cell? ⟨gb155, 3, none⟩ = some (.int .i64 4)) (ds := []) (tfA 0 33) (by kernel_rfl) rfl rfl ⟨(blk_cell BK155.out 0).trans rfl, (blk_cell BK155.out 1).trans rfl, (blk_cell BK155.out 2).trans rfl, (blk_cell BK155.out 3).trans rfl⟩ (fun hHeld => ?_); refine with_tabW decklelaw05_works.tab4 decklelaw05_works.bits4 (fun HT_ HW_ => ?_)
            generalize w15.drew = w16 at BK155 HB hHeld ⊢
            refine pure_ (i := 0) (N := some 12) (v := ?_) (a' := ?_) (tfA 1 33) rfl rfl (any_of HT_.out (by kernel_rfl)) (fun _ _ _ h => h) (Or.inl ⟨by rfl, ?_⟩) ?_ ?_
            rotate_left
            · intro w'; go_simp; with_reducible rfl
            rotate_left
            · simp only [Act.put, sib, sc0, sc1, i64_w, i32_w]; rfl
            refine pure_ (i := 1) (N := some 13) (v := ?_) (a' := ?_) (tfA 2 33) rfl rfl (any_of HT_.out (by kernel_rfl)) (fun _ _ _ h => h) (Or.inl ⟨by rfl, ?_⟩) ?_ ?_
            rotate_left
            · intro w'; go_simp; with_reducible rfl
            rotate_left
            · simp only [Act.put, sib, sc0, sc1, i64_w, i32_w]; rfl
            refine pure_ (i := 2) (N := some 14) (v := ?_) (a' := ?_) (tfA 3 33) rfl rfl (any_of HT_.out (by kernel_rfl)) (fun _ _ _ h => h) (Or.inl ⟨by rfl, ?_⟩) ?_ ?_
            rotate_left
            · intro w'; go_simp; with_reducible rfl
            rotate_left
            · simp only [Act.put, sib, sc0, sc1, i64_w, i32_w]; rfl
            refine pure_ (i := 3) (N := some 15) (v := ?_) (a' := ?_) (tfA 4 33) rfl rfl (any_of HT_.out (by kernel_rfl)) (fun _ _ _ h => h) (Or.inl ⟨by rfl, ?_⟩) ?_ ?_
            rotate_left
            · intro w'; go_simp; with_reducible rfl
            rotate_left
            · simp only [Act.put, sib, sc0, sc1, i64_w, i32_w]; rfl
            refine pure_ (i := 4) (N := some 16) (v := ?_) (a' := ?_) (tfA 5 33) rfl rfl (any_of HT_.out (by kernel_rfl)) (fun _ _ _ h => h) (Or.inl ⟨by rfl, ?_⟩) ?_ ?_
            rotate_left
            · intro w'; go_simp; with_reducible rfl
            rotate_left
            · simp only [Act.put, sib, sc0, sc1, i64_w, i32_w]; rfl
            refine pure_ (i := 5) (N := some 17) (v := ?_) (a' := ?_) (tfA 6 33) rfl rfl (any_of HT_.out (by kernel_rfl)) (fun _ _ _ h => h) (Or.inl ⟨by rfl, ?_⟩) ?_ ?_
            rotate_left
            · intro w'; go_simp; with_reducible rfl
            rotate_left
            · simp only [Act.put, sib, sc0, sc1, i64_w, i32_w]; rfl
            refine pure_ (i := 6) (N := some 18) (v := ?_) (a' := ?_) (tfA 7 33) rfl rfl (any_of HT_.out (by kernel_rfl)) (fun _ _ _ h => h) (Or.inl ⟨by rfl, ?_⟩) ?_ ?_
            rotate_left
            · intro w'; go_simp; with_reducible rfl
            rotate_left
            · simp only [Act.put, sib, sc0, sc1, i64_w, i32_w]; rfl
            refine pure_ (i := 7) (N := some 19) (v := ?_) (a' := ?_) (tfA 8 33) rfl rfl (any_of HT_.out (by kernel_rfl)) (fun _ _ _ h => h) (Or.inl ⟨by rfl, ?_⟩) ?_ ?_
            rotate_left
            · intro w'; go_simp; with_reducible rfl
            rotate_left
            · simp only [Act.put, sib, sc0, sc1, i64_w, i32_w]; rfl
            refine pure_ (i := 8) (N := some 20) (v := ?_) (a' := ?_) (tfA 9 33) rfl rfl (any_of HT_.out (by kernel_rfl)) (fun _ _ _ h => h) (Or.inl ⟨by rfl, ?_⟩) ?_ ?_
            rotate_left
            · intro w'; go_simp; with_reducible rfl
            rotate_left
            · simp only [Act.put, sib, sc0, sc1, i64_w, i32_w]; rfl
            refine take_ (i := 10) (N := some 22) (v := ?_) (a' := ?_) #[true, true, true, true, true, true, true, true, true, false, true, false, false, false, false, false, false, false, false, false, false, false, false, false, false, false, false, false, false, false, false, false, false] rfl rfl (take_ofW HT_.out HW_.out (by kernel_rfl)) (fun _ _ _ h => h) (Or.inl ⟨by rfl, ?_⟩) hHeld ?_ ?_
            rotate_left
            · rintro w' ⟨s0, s1, s2, s3⟩
              go_simp
              with_reducible rfl
            rotate_left
            · simp only [Act.put, sib, sc0, sc1, i64_w, i32_w]
              rfl
            refine pure_ (i := 11) (N := some 23) (v := ?_) (a' := ?_) #[true, true, true, true, true, true, true, true, true, false, true, true, false, false, false, false, false, false, false, false, false, false, false, false, false, false, false, false, false, false, false, false, false] rfl rfl (any_of HT_.out (by kernel_rfl)) (fun _ _ _ h => h) (Or.inl ⟨by rfl, ?_⟩) ?_ ?_
            rotate_left
            · intro w'; go_simp; with_reducible rfl
            rotate_left
            · simp only [Act.put, sib, sc0, sc1, i64_w, i32_w]; rfl
            refine one_ (i := 9) (N := some 21) (tfA 12 33) rfl rfl (one_of HT_.out (by kernel_rfl)) (by decide) (fun K hK => ?_)
            refine goes_ Tryd.func12 (by kernel_rfl) rfl #[.string t156] (by rfl) rfl rfl (by (try simp only [List.map_toArray, List.map_cons, List.map_nil]); first | done | rfl | (simp only [List.length_drop, List.length_take]; rfl)) ?_
            with_reducible refine (frame_Decode.calls t156 t159 t160 t161 t162 t163 t164 _ A5.out).mono ?_
            rintro e w17 ⟨rfl, hb⟩
            refine ⟨_, rfl, ?_⟩
            have n0_ := Aside0.mk (blk_below (g := gb155) (o := .cells #[.int .i64 1, .int .i64 2, .int .i64 3, .int .i64 4] 23 (0, 0)) (by (with_reducible repeat (first | refine blk_drewN ?_ _ | refine blk_drew ?_ | refine blk_alloc ?_ _)); exact BK155.out) hb)
            have n1_ := Aside0.mk (below_step (by repeat (first | (with_reducible first | exact HB.out | apply below_alloc | apply pw_below_drewN | apply below_drew1 | refine below_set ?_ GE155.out) | exact HB.out)) hb)
            clear BK155
            clear HB
            have BK155 := n0_
            have HB := n1_
            clear n0_ n1_
            (try clear hb)
            (try clear hb2)
            (try clear hk)
            (try clear hi)
            refine hK.out _ _ ⟨(blk_cell BK155.out 0).trans rfl, (blk_cell BK155.out 1).trans rfl, (blk_cell BK155.out 2).trans rfl, (blk_cell BK155.out 3).trans rfl⟩ (fun hHeld => ?_)
            clear hK K
            refine norm_ (a' := ?_) ?_ ?_
            rotate_left
            · show Act.put _ (some 21) _ = _
              simp only [Act.put, sib, sc0, sc1, i64_w, i32_w]
              rfl
            refine pure_ (i := 12) (N := some 24) (v := ?_) (a' := ?_) (tfA 13 33) rfl rfl (any_of HT_.out (by kernel_rfl)) (fun _ _ _ h => h) (Or.inl ⟨by rfl, ?_⟩) ?_ ?_
            rotate_left
            · intro w'; go_simp; with_reducible rfl
            rotate_left
            · simp only [Act.put, sib, sc0, sc1, i64_w, i32_w]; rfl
            refine pure_ (i := 13) (N := some 25) (v := ?_) (a' := ?_) (tfA 14 33) rfl rfl (any_of HT_.out (by kernel_rfl)) (fun _ _ _ h => h) (Or.inl ⟨by rfl, ?_⟩) ?_ ?_
            rotate_left
            · intro w'; go_simp; with_reducible rfl
            rotate_left
            · simp only [Act.put, sib, sc0, sc1, i64_w, i32_w]; rfl
            refine pure_ (i := 14) (N := some 26) (v := ?_) (a' := ?_) (tfA 15 33) rfl rfl (any_of HT_.out (by kernel_rfl)) (fun _ _ _ h => h) (Or.inl ⟨by rfl, ?_⟩) ?_ ?_
            rotate_left
            · intro w'; go_simp; with_reducible rfl
            rotate_left
            · simp only [Act.put, sib, sc0, sc1, i64_w, i32_w]; rfl
            refine pure_ (i := 15) (N := some 27) (v := ?_) (a' := ?_) (tfA 16 33) rfl rfl (any_of HT_.out (by kernel_rfl)) (fun _ _ _ h => h) (Or.inl ⟨by rfl, ?_⟩) ?_ ?_
            rotate_left
            · intro w'; go_simp; with_reducible rfl
            rotate_left
            · simp only [Act.put, sib, sc0, sc1, i64_w, i32_w]; rfl
            refine pure_ (i := 16) (N := some 28) (v := ?_) (a' := ?_) (tfA 17 33) rfl rfl (any_of HT_.out (by kernel_rfl)) (fun _ _ _ h => h) (Or.inl ⟨by rfl, ?_⟩) ?_ ?_
            rotate_left
            · intro w'; go_simp; with_reducible rfl
            rotate_left
            · simp only [Act.put, sib, sc0, sc1, i64_w, i32_w]; rfl
            refine pure_ (i := 17) (N := some 29) (v := ?_) (a' := ?_) (tfA 18 33) rfl rfl (any_of HT_.out (by kernel_rfl)) (fun _ _ _ h => h) (Or.inl ⟨by rfl, ?_⟩) ?_ ?_
            rotate_left
            · intro w'; go_simp; with_reducible rfl
            rotate_left
            · simp only [Act.put, sib, sc0, sc1, i64_w, i32_w]; rfl
            refine pure_ (i := 18) (N := some 30) (v := ?_) (a' := ?_) (tfA 19 33) rfl rfl (any_of HT_.out (by kernel_rfl)) (fun _ _ _ h => h) (Or.inl ⟨by rfl, ?_⟩) ?_ ?_
            rotate_left
            · intro w'; go_simp; with_reducible rfl
            rotate_left
            · simp only [Act.put, sib, sc0, sc1, i64_w, i32_w]; rfl
            refine pure_ (i := 19) (N := some 31) (v := ?_) (a' := ?_) (tfA 20 33) rfl rfl (any_of HT_.out (by kernel_rfl)) (fun _ _ _ h => h) (Or.inl ⟨by rfl, ?_⟩) ?_ ?_
            rotate_left
            · intro w'; go_simp; with_reducible rfl
            rotate_left
            · simp only [Act.put, sib, sc0, sc1, i64_w, i32_w]; rfl
            refine pure_ (i := 20) (N := some 32) (v := ?_) (a' := ?_) (tfA 21 33) rfl rfl (any_of HT_.out (by kernel_rfl)) (fun _ _ _ h => h) (Or.inl ⟨by rfl, ?_⟩) ?_ ?_
            rotate_left
            · intro w'; go_simp; with_reducible rfl
            rotate_left
            · simp only [Act.put, sib, sc0, sc1, i64_w, i32_w]; rfl
            refine pure_ (i := 22) (N := some 34) (v := ?_) (a' := ?_) #[true, true, true, true, true, true, true, true, true, true, true, true, true, true, true, true, true, true, true, true, true, false, true, false, false, false, false, false, false, false, false, false, false] rfl rfl (any_of HT_.out (by kernel_rfl)) (fun _ _ _ h => h) (Or.inl ⟨by rfl, ?_⟩) ?_ ?_
            rotate_left
            · intro w'; go_simp; with_reducible rfl
            rotate_left
            · simp only [Act.put, sib, sc0, sc1, i64_w, i32_w]; rfl
            refine one_ (i := 21) (N := some 33) (tfA 23 33) rfl rfl (one_of HT_.out (by kernel_rfl)) (by decide) (fun K hK => ?_)
            refine goes_ Tryd.func12 (by kernel_rfl) rfl #[.string t158] (by rfl) rfl rfl (by (try simp only [List.map_toArray, List.map_cons, List.map_nil]); first | done | rfl | (simp only [List.length_drop, List.length_take]; rfl)) ?_
            with_reducible refine (frame_Decode.calls t158 (1 : Int) (0 : Int) (0 : Int) (0 : Int) (0 : Int) (⟨#[]⟩ : ByteArray) _ A8.out).mono ?_
            rintro e w18 ⟨rfl, hb⟩
            refine ⟨_, rfl, ?_⟩
            have n0_ := Aside0.mk (blk_below (g := gb155) (o := .cells #[.int .i64 1, .int .i64 2, .int .i64 3, .int .i64 4] 23 (0, 0)) (by (with_reducible repeat (first | refine blk_drewN ?_ _ | refine blk_drew ?_ | refine blk_alloc ?_ _)); exact BK155.out) hb)
            have n1_ := Aside0.mk (below_step (by repeat (first | (with_reducible first | exact HB.out | apply below_alloc | apply pw_below_drewN | apply below_drew1 | refine below_set ?_ GE155.out) | exact HB.out)) hb)
            clear BK155
            clear HB
            have BK155 := n0_
            have HB := n1_
            clear n0_ n1_
            (try clear hb)
            (try clear hb2)
            (try clear hk)
            (try clear hi)
            refine hK.out _ _ ⟨(blk_cell BK155.out 0).trans rfl, (blk_cell BK155.out 1).trans rfl, (blk_cell BK155.out 2).trans rfl, (blk_cell BK155.out 3).trans rfl⟩ (fun hHeld => ?_)
            clear hK K
            refine norm_ (a' := ?_) ?_ ?_
            rotate_left
            · show Act.put _ (some 33) _ = _
              simp only [Act.put, sib, sc0, sc1, i64_w, i32_w]
              rfl
            refine pure_ (i := 23) (N := some 35) (v := ?_) (a' := ?_) (tfA 24 33) rfl rfl (any_of HT_.out (by kernel_rfl)) (fun _ _ _ h => h) (Or.inl ⟨by rfl, ?_⟩) ?_ ?_
            rotate_left
            · intro w'; go_simp; with_reducible rfl
            rotate_left
            · simp only [Act.put, sib, sc0, sc1, i64_w, i32_w]; rfl
            refine pure_ (i := 24) (N := some 36) (v := ?_) (a' := ?_) (tfA 25 33) rfl rfl (any_of HT_.out (by kernel_rfl)) (fun _ _ _ h => h) (Or.inl ⟨by rfl, ?_⟩) ?_ ?_
            rotate_left
            · intro w'; go_simp; with_reducible rfl
            rotate_left
            · simp only [Act.put, sib, sc0, sc1, i64_w, i32_w]; rfl
            refine pure_ (i := 25) (N := some 37) (v := ?_) (a' := ?_) (tfA 26 33) rfl rfl (any_of HT_.out (by kernel_rfl)) (fun _ _ _ h => h) (Or.inl ⟨by rfl, ?_⟩) ?_ ?_
            rotate_left
            · intro w'; go_simp; with_reducible rfl
            rotate_left
            · simp only [Act.put, sib, sc0, sc1, i64_w, i32_w]; rfl
            refine pure_ (i := 26) (N := some 38) (v := ?_) (a' := ?_) (tfA 27 33) rfl rfl (any_of HT_.out (by kernel_rfl)) (fun _ _ _ h => h) (Or.inl ⟨by rfl, ?_⟩) ?_ ?_
            rotate_left
            · intro w'; go_simp; with_reducible rfl
            rotate_left
            · simp only [Act.put, sib, sc0, sc1, i64_w, i32_w]; rfl
            refine pure_ (i := 29) (N := some 41) (v := ?_) (a' := ?_) #[true, true, true, true, true, true, true, true, true, true, true, true, true, true, true, true, true, true, true, true, true, true, true, true, true, true, true, false, false, true, false, false, false] rfl rfl (any_of HT_.out (by kernel_rfl)) (fun _ _ _ h => h) (Or.inl ⟨by rfl, ?_⟩) ?_ ?_
            rotate_left
            · intro w'; go_simp; with_reducible rfl
            rotate_left
            · simp only [Act.put, sib, sc0, sc1, i64_w, i32_w]; rfl
            refine one_ (i := 27) (N := some 39) #[true, true, true, true, true, true, true, true, true, true, true, true, true, true, true, true, true, true, true, true, true, true, true, true, true, true, true, true, false, true, false, false, false] rfl rfl (one_of HT_.out (by kernel_rfl)) (by decide) (fun K hK => ?_)
            refine goes_ Tryd.func16 (by kernel_rfl) rfl #[.string t158, .int .i64 0, .int .i64 0] (by rfl) rfl rfl (by (try simp only [List.map_toArray, List.map_cons, List.map_nil]); first | done | rfl | (simp only [List.length_drop, List.length_take]; rfl)) ?_
            with_reducible refine (frame_Hurt.calls t158 0 0 t171 _ A10.out).mono ?_
            rintro e w19 ⟨rfl, hb⟩
            refine ⟨_, rfl, ?_⟩
            have n0_ := Aside0.mk (blk_below (g := gb155) (o := .cells #[.int .i64 1, .int .i64 2, .int .i64 3, .int .i64 4] 23 (0, 0)) (by (with_reducible repeat (first | refine blk_drewN ?_ _ | refine blk_drew ?_ | refine blk_alloc ?_ _)); exact BK155.out) hb)
            have n1_ := Aside0.mk (below_step (by repeat (first | (with_reducible first | exact HB.out | apply below_alloc | apply pw_below_drewN | apply below_drew1 | refine below_set ?_ GE155.out) | exact HB.out)) hb)
            clear BK155
            clear HB
            have BK155 := n0_
            have HB := n1_
            clear n0_ n1_
            (try clear hb)
            (try clear hb2)
            (try clear hk)
            (try clear hi)
            refine hK.out _ _ ⟨(blk_cell BK155.out 0).trans rfl, (blk_cell BK155.out 1).trans rfl, (blk_cell BK155.out 2).trans rfl, (blk_cell BK155.out 3).trans rfl⟩ (fun hHeld => ?_)
            clear hK K
            refine norm_ (a' := ?_) ?_ ?_
            rotate_left
            · show Act.put _ (some 39) _ = _
              simp only [Act.put, sib, sc0, sc1, i64_w, i32_w]
              rfl
            refine one_ (i := 28) (N := some 40) (tfA 30 33) rfl rfl (one_of HT_.out (by kernel_rfl)) (by decide) (fun K hK => ?_)
            refine goes_ Tryd.func12 (by kernel_rfl) rfl #[.string t171] (by rfl) rfl rfl (by (try simp only [List.map_toArray, List.map_cons, List.map_nil]); first | done | rfl | (simp only [List.length_drop, List.length_take]; rfl)) ?_
            with_reducible refine (frame_Decode.calls t171 t172 t173 t174 t175 t176 t177 _ A11.out).mono ?_
            rintro e w20 ⟨rfl, hb⟩
            refine ⟨_, rfl, ?_⟩
            have n0_ := Aside0.mk (blk_below (g := gb155) (o := .cells #[.int .i64 1, .int .i64 2, .int .i64 3, .int .i64 4] 23 (0, 0)) (by (with_reducible repeat (first | refine blk_drewN ?_ _ | refine blk_drew ?_ | refine blk_alloc ?_ _)); exact BK155.out) hb)
            have n1_ := Aside0.mk (below_step (by repeat (first | (with_reducible first | exact HB.out | apply below_alloc | apply pw_below_drewN | apply below_drew1 | refine below_set ?_ GE155.out) | exact HB.out)) hb)
            clear BK155
            clear HB
            have BK155 := n0_
            have HB := n1_
            clear n0_ n1_
            (try clear hb)
            (try clear hb2)
            (try clear hk)
            (try clear hi)
            refine hK.out _ _ ⟨(blk_cell BK155.out 0).trans rfl, (blk_cell BK155.out 1).trans rfl, (blk_cell BK155.out 2).trans rfl, (blk_cell BK155.out 3).trans rfl⟩ (fun hHeld => ?_)
            clear hK K
            refine norm_ (a' := ?_) ?_ ?_
            rotate_left
            · show Act.put _ (some 40) _ = _
              simp only [Act.put, sib, sc0, sc1, i64_w, i32_w]
              rfl
            refine pure_ (i := 30) (N := some 42) (v := ?_) (a' := ?_) (tfA 31 33) rfl rfl (any_of HT_.out (by kernel_rfl)) (fun _ _ _ h => h) (Or.inl ⟨by rfl, ?_⟩) ?_ ?_
            rotate_left
            · intro w'; go_simp; with_reducible rfl
            rotate_left
            · simp only [Act.put, sib, sc0, sc1, i64_w, i32_w]; rfl
            refine pure_ (i := 31) (N := some 43) (v := ?_) (a' := ?_) (tfA 32 33) rfl rfl (any_of HT_.out (by kernel_rfl)) (fun _ _ _ h => h) (Or.inl ⟨by rfl, ?_⟩) ?_ ?_
            rotate_left
            · intro w'; go_simp; with_reducible rfl
            rotate_left
            · simp only [Act.put, sib, sc0, sc1, i64_w, i32_w]; rfl
            refine pure_ (i := 32) (N := some 0) (v := ?_) (a' := ?_) (tfA 33 33) rfl rfl (any_of HT_.out (by kernel_rfl)) (fun _ _ _ h => h) (Or.inl ⟨by rfl, ?_⟩) ?_ ?_
            rotate_left
            · intro w'; go_simp; with_reducible rfl
            rotate_left
            · simp only [Act.put, sib, sc0, sc1, i64_w, i32_w]; rfl
            refine done_ (done_of HT_.out (by kernel_rfl)) ?_
            try go_wp2
            go_ret
            exact ⟨by first | rfl | (simp [errW_none, errW_some] <;> rfl) | (simp [*, errW_none, errW_some] <;> rfl), by repeat (first | (with_reducible first | exact HB.out | apply below_alloc | apply pw_below_drewN | apply below_drew1 | refine below_set ?_ GE155.out) | exact HB.out)⟩
          · rw [if_neg c9] at H
            exact absurd ((Option.some.inj H).trans HRT.out) (by decide)
        · rw [if_neg c7] at H
          exact absurd ((Option.some.inj H).trans HRT.out) (by decide)
      · rw [if_neg c6] at H
        exact absurd ((Option.some.inj H).trans HRT.out) (by decide)
    · rw [if_neg c4] at H
      exact absurd ((Option.some.inj H).trans HRT.out) (by decide)
  · rw [if_neg c3] at H
    exact absurd ((Option.some.inj H).trans HRT.out) (by decide)

end Go.Proofs.YtbcgddacmjliaaaDoor.PF
