-- Written by a program (the kit's print.py, called by wip/bin/prseat.sh, mended by wip/bin/mend.py).
import Derived.Test.YtbcgddacmjliaaaDoorLaid
import Derived.Test.YtbcgddacmjliaaaDoorPFy1
import Derived.Test.YtbcgddacmjliaaaDoorHam
namespace Go.Proofs.YtbcgddacmjliaaaDoor.PF
open Go.RowKit Go.Proofs.YtbcgddacmjliaaaDoorW.PrintWords Go.Proofs.YtbcgddacmjliaaaDoorW.PrintLast Go.Proofs.YtbcgddacmjliaaaDoorW.PrintMore
attribute [local go_sem] max2_int min2_int max_two min_two max_three min_three max_four min_four   -- for this text's walks alone
set_option linter.unusedVariables false
set_option linter.unusedSimpArgs false

/-! ### ham_Encode: function 23 -/
def ham_Encode.f (a0 : ByteArray) : Option (ByteArray × Int) := if (a0.size : Int) = 8 then ((ham_left.f a0).bind fun bt113 => ((bits_OnesCount8.f bt113.1).bind fun t115 => (if (Int.tmod (wrap64 (bt113.2 + t115)) 2) = 1 then ((some (([Go.bits .or .u8 bt113.1 128] : List Int) : List Int)).bind fun y116 => (if a0.size + (strOfNums y116).size ≤ 9223372036854775807 then (some (a0 ++ (strOfNums y116), 0)) else (none))) else ((some (([bt113.1] : List Int) : List Int)).bind fun y119 => (if a0.size + (strOfNums y119).size ≤ 9223372036854775807 then (some (a0 ++ (strOfNums y119), 0)) else (none)))))) else (some ((⟨#[]⟩ : ByteArray), 4))
set_option maxHeartbeats 8000000 in
set_option maxRecDepth 100000 in
theorem ham_Encode.calls (a0 : ByteArray) (r1 : ByteArray) (r2 : Int) (w : World) (h : ham_Encode.f a0 = some (r1, r2)) (HL : Aside0 (Hw.Laid w) := by first | exact HL | exact Hw.laid_at HL (by repeat (first | (with_reducible first | exact HB.out | apply below_alloc | apply pw_below_drewN | apply below_drew1) | exact HB.out | exact Below.refl _ _ | refine below_set ?_ (by apply Aside0.out; assumption)))) :
    Calls Tryd.prog 23 #[.string a0] w fun e w' => e = .returned (.tuple #[.string r1, .int .i64 r2]) ∧ Below w.heap.size w w' := by
  have HB := Aside0.mk (Below.refl w.heap.size w)
  have H : (if (a0.size : Int) = 8 then ((ham_left.f a0).bind fun bt113 => ((bits_OnesCount8.f bt113.1).bind fun t115 => (if (Int.tmod (wrap64 (bt113.2 + t115)) 2) = 1 then ((some (([Go.bits .or .u8 bt113.1 128] : List Int) : List Int)).bind fun y116 => (if a0.size + (strOfNums y116).size ≤ 9223372036854775807 then (some (a0 ++ (strOfNums y116), 0)) else (none))) else ((some (([bt113.1] : List Int) : List Int)).bind fun y119 => (if a0.size + (strOfNums y119).size ≤ 9223372036854775807 then (some (a0 ++ (strOfNums y119), 0)) else (none)))))) else (some ((⟨#[]⟩ : ByteArray), 4))) = some (r1, r2) := h
  clear h
  by_cases c2 : (a0.size : Int) = 8
  · rw [if_pos c2] at H
    have c2b0 : ((a0.size : Int) == 8) = true := beq_iff_eq.mpr c2
    have c2b1 : ((a0.size : Int) != 8) = false := bne_eq_false_iff_eq.mpr c2
    clear c2
    replace H := Option.bind_eq_some_iff.mp H
    obtain ⟨⟨t113, t114⟩, A30, H⟩ := H
    replace H : ((bits_OnesCount8.f t113).bind fun t115 => (if (Int.tmod (wrap64 (t114 + t115)) 2) = 1 then ((some (([Go.bits .or .u8 t113 128] : List Int) : List Int)).bind fun y116 => (if a0.size + (strOfNums y116).size ≤ 9223372036854775807 then (some (a0 ++ (strOfNums y116), 0)) else (none))) else ((some (([t113] : List Int) : List Int)).bind fun y119 => (if a0.size + (strOfNums y119).size ≤ 9223372036854775807 then (some (a0 ++ (strOfNums y119), 0)) else (none))))) = some (r1, r2) := H
    have A3 := Aside0.mk A30
    clear A30
    replace H := Option.bind_eq_some_iff.mp H
    obtain ⟨t115, A40, H⟩ := H
    replace H : (if (Int.tmod (wrap64 (t114 + t115)) 2) = 1 then ((some (([Go.bits .or .u8 t113 128] : List Int) : List Int)).bind fun y116 => (if a0.size + (strOfNums y116).size ≤ 9223372036854775807 then (some (a0 ++ (strOfNums y116), 0)) else (none))) else ((some (([t113] : List Int) : List Int)).bind fun y119 => (if a0.size + (strOfNums y119).size ≤ 9223372036854775807 then (some (a0 ++ (strOfNums y119), 0)) else (none)))) = some (r1, r2) := H
    have A4 := Aside0.mk A40
    clear A40
    by_cases c5 : (Int.tmod (wrap64 (t114 + t115)) 2) = 1
    · rw [if_pos c5] at H
      have c5b0 : ((Int.tmod (wrap64 (t114 + t115)) 2) == 1) = true := beq_iff_eq.mpr c5
      have c5b1 : ((Int.tmod (wrap64 (t114 + t115)) 2) != 1) = false := bne_eq_false_iff_eq.mpr c5
      clear c5
      obtain ⟨y116, hy116⟩ : ∃ y_ : List Int, y_ = (([Go.bits .or .u8 t113 128] : List Int)) := ⟨_, rfl⟩
      replace H : (if a0.size + (strOfNums y116).size ≤ 9223372036854775807 then (some (a0 ++ (strOfNums y116), 0)) else (none)) = some (r1, r2) := by first | (rw [hy116]; with_reducible exact H) | (have H2_ := (Option.bind_some _ _).symm.trans H; rw [hy116]; with_reducible exact H2_) | (have H2_ := (Option.bind_some _ _).symm.trans H; with_reducible exact H2_) | with_reducible exact H | (rw [hy116]; exact H) | exact H
      have Ny116 := Aside0.mk hy116
      clear hy116
      by_cases c6 : a0.size + (strOfNums y116).size ≤ 9223372036854775807
      · rw [if_pos c6] at H
        have c6b0 := eq_true c6
        have c6b1 : decide (a0.size + (strOfNums y116).size ≤ 9223372036854775807) = true := decide_eq_true c6
        try have c6b2 : (9223372036854775807 < a0.size + (strOfNums y116).size) = False := eq_false (Nat.not_lt.2 c6)
        simp only [Option.some.injEq, Prod.mk.injEq] at H
        obtain ⟨rfl, rfl⟩ := H
        go_enter Tryd.func23, Tryd.ntmps23
        go_wp2_with (first | ((with_reducible refine gate_callee (f := 47) rfl ?_); refine goesL_ (some 11) rfl rfl Tryd.func47 (by kernel_rfl) rfl #[.string a0] rfl (by (try simp only [List.map_toArray, List.map_cons, List.map_nil]); first | done | rfl | (simp only [List.length_drop, List.length_take]; rfl)) ?_; (with_reducible refine (ham_left.calls a0 t113 t114 _ A3.out).mono ?_); rintro e w7 ⟨rfl, hb⟩; refine ⟨_, rfl, ?_⟩; have n0_ := Aside0.mk (below_step (by repeat (first | (with_reducible first | exact HB.out | apply below_alloc | apply pw_below_drewN | apply below_drew1) | exact HB.out)) hb); clear HB; have HB := n0_; clear n0_; (try clear hb); (try clear hb2); (try clear hk); (try clear hi)) | ((with_reducible refine gate_callee (f := 48) rfl ?_); refine goesL_ (some 16) rfl rfl Tryd.func48 (by kernel_rfl) rfl #[.int .u8 t113] rfl (by (try simp only [List.map_toArray, List.map_cons, List.map_nil]); first | done | rfl | (simp only [List.length_drop, List.length_take]; rfl)) ?_; (with_reducible refine (bits_OnesCount8.calls t113 t115 _ A4.out).mono ?_); rintro e w8 ⟨rfl, hb⟩; refine ⟨_, rfl, ?_⟩; have n0_ := Aside0.mk (below_step (by repeat (first | (with_reducible first | exact HB.out | apply below_alloc | apply pw_below_drewN | apply below_drew1) | exact HB.out)) hb); clear HB; have HB := n0_; clear n0_; (try clear hb); (try clear hb2); (try clear hk); (try clear hi)) | ((with_reducible refine gate_dst (N := 24) rfl ?_); refine Kd.R_lit (Kd.int .u8) _ 5 ?hg (N := 24) ?hd (xs := ([Go.bits .or .u8 t113 128] : List Int)) (inner := [.int .u8 (Go.bits .or .u8 t113 128)]) (ok := fun _ => True) (okp := fun _ => True) ?hr ?hp (fun _ hk => hk) trivial (Below.refl _ _) (Nat.le_refl _) (by simp) ?_; (case hd => rfl); (case hg => rfl); (case hr => first | (go_simp; done) | (go_simp; rfl)); (case hp => exact (Reps.one (show Kd.M (Kd.int .u8) _ _ _ (Go.bits .or .u8 t113 128) [.int .u8 (Go.bits .or .u8 t113 128)] from rfl) (Reps.none _ _))); intro v117 w9 ho10 hb hg_ hnew_; clear hg_ hnew_; (first | rw [← Ny116.out] at ho10 | (simp only [Int.reduceToNat] at ho10; rw [← Ny116.out] at ho10)); have n0_ := Aside0.mk (Kd.R_lower ho10 (below_size (by repeat (first | (with_reducible first | exact HB.out | apply below_alloc | apply pw_below_drewN | apply below_drew1) | exact HB.out)))); have n1_ := Aside0.mk (below_step (by repeat (first | (with_reducible first | exact HB.out | apply below_alloc | apply pw_below_drewN | apply below_drew1) | exact HB.out)) hb); clear HB; have HO118 := n0_; have HB := n1_; clear n0_ n1_; clear hb ho10; have hcv11 := own_string (P := Tryd.prog) Tryd.underlying46 Tryd.underlying5 Tryd.underlying9 (Kd.own_of_R HO118.out)))
        go_ret2
        exact ⟨by first | rfl | (simp [errW_none, errW_some] <;> rfl) | (simp [*, errW_none, errW_some] <;> rfl), by repeat (first | (with_reducible first | exact HB.out | apply below_alloc | apply pw_below_drewN | apply below_drew1) | exact HB.out)⟩
      · rw [if_neg c6] at H
        exact absurd H (by simp)
    · rw [if_neg c5] at H
      have c5b0 : ((Int.tmod (wrap64 (t114 + t115)) 2) == 1) = false := beq_eq_false_iff_ne.mpr c5
      have c5b1 : ((Int.tmod (wrap64 (t114 + t115)) 2) != 1) = true := bne_iff_ne.mpr c5
      obtain ⟨y119, hy119⟩ : ∃ y_ : List Int, y_ = (([t113] : List Int)) := ⟨_, rfl⟩
      replace H : (if a0.size + (strOfNums y119).size ≤ 9223372036854775807 then (some (a0 ++ (strOfNums y119), 0)) else (none)) = some (r1, r2) := by first | (rw [hy119]; with_reducible exact H) | (have H2_ := (Option.bind_some _ _).symm.trans H; rw [hy119]; with_reducible exact H2_) | (have H2_ := (Option.bind_some _ _).symm.trans H; with_reducible exact H2_) | with_reducible exact H | (rw [hy119]; exact H) | exact H
      have Ny119 := Aside0.mk hy119
      clear hy119
      by_cases c12 : a0.size + (strOfNums y119).size ≤ 9223372036854775807
      · rw [if_pos c12] at H
        have c12b0 := eq_true c12
        have c12b1 : decide (a0.size + (strOfNums y119).size ≤ 9223372036854775807) = true := decide_eq_true c12
        try have c12b2 : (9223372036854775807 < a0.size + (strOfNums y119).size) = False := eq_false (Nat.not_lt.2 c12)
        simp only [Option.some.injEq, Prod.mk.injEq] at H
        obtain ⟨rfl, rfl⟩ := H
        go_enter Tryd.func23, Tryd.ntmps23
        go_wp2_with (first | ((with_reducible refine gate_callee (f := 47) rfl ?_); refine goesL_ (some 11) rfl rfl Tryd.func47 (by kernel_rfl) rfl #[.string a0] rfl (by (try simp only [List.map_toArray, List.map_cons, List.map_nil]); first | done | rfl | (simp only [List.length_drop, List.length_take]; rfl)) ?_; (with_reducible refine (ham_left.calls a0 t113 t114 _ A3.out).mono ?_); rintro e w13 ⟨rfl, hb⟩; refine ⟨_, rfl, ?_⟩; have n0_ := Aside0.mk (below_step (by repeat (first | (with_reducible first | exact HB.out | apply below_alloc | apply pw_below_drewN | apply below_drew1) | exact HB.out)) hb); clear HB; have HB := n0_; clear n0_; (try clear hb); (try clear hb2); (try clear hk); (try clear hi)) | ((with_reducible refine gate_callee (f := 48) rfl ?_); refine goesL_ (some 16) rfl rfl Tryd.func48 (by kernel_rfl) rfl #[.int .u8 t113] rfl (by (try simp only [List.map_toArray, List.map_cons, List.map_nil]); first | done | rfl | (simp only [List.length_drop, List.length_take]; rfl)) ?_; (with_reducible refine (bits_OnesCount8.calls t113 t115 _ A4.out).mono ?_); rintro e w14 ⟨rfl, hb⟩; refine ⟨_, rfl, ?_⟩; have n0_ := Aside0.mk (below_step (by repeat (first | (with_reducible first | exact HB.out | apply below_alloc | apply pw_below_drewN | apply below_drew1) | exact HB.out)) hb); clear HB; have HB := n0_; clear n0_; (try clear hb); (try clear hb2); (try clear hk); (try clear hi)) | ((with_reducible refine gate_dst (N := 24) rfl ?_); refine Kd.R_lit (Kd.int .u8) _ 5 ?hg (N := 24) ?hd (xs := ([t113] : List Int)) (inner := [.int .u8 t113]) (ok := fun _ => True) (okp := fun _ => True) ?hr ?hp (fun _ hk => hk) trivial (Below.refl _ _) (Nat.le_refl _) (by simp) ?_; (case hd => rfl); (case hg => rfl); (case hr => first | (go_simp; done) | (go_simp; rfl)); (case hp => exact (Reps.one (show Kd.M (Kd.int .u8) _ _ _ t113 [.int .u8 t113] from rfl) (Reps.none _ _))); intro v120 w15 ho16 hb hg_ hnew_; clear hg_ hnew_; (first | rw [← Ny119.out] at ho16 | (simp only [Int.reduceToNat] at ho16; rw [← Ny119.out] at ho16)); have n0_ := Aside0.mk (Kd.R_lower ho16 (below_size (by repeat (first | (with_reducible first | exact HB.out | apply below_alloc | apply pw_below_drewN | apply below_drew1) | exact HB.out)))); have n1_ := Aside0.mk (below_step (by repeat (first | (with_reducible first | exact HB.out | apply below_alloc | apply pw_below_drewN | apply below_drew1) | exact HB.out)) hb); clear HB; have HO121 := n0_; have HB := n1_; clear n0_ n1_; clear hb ho16; have hcv17 := own_string (P := Tryd.prog) Tryd.underlying46 Tryd.underlying5 Tryd.underlying9 (Kd.own_of_R HO121.out)))
        go_ret2
        exact ⟨by first | rfl | (simp [errW_none, errW_some] <;> rfl) | (simp [*, errW_none, errW_some] <;> rfl), by repeat (first | (with_reducible first | exact HB.out | apply below_alloc | apply pw_below_drewN | apply below_drew1) | exact HB.out)⟩
      · rw [if_neg c12] at H
        exact absurd H (by simp)
  · rw [if_neg c2] at H
    have c2b0 : ((a0.size : Int) == 8) = false := beq_eq_false_iff_ne.mpr c2
    have c2b1 : ((a0.size : Int) != 8) = true := bne_iff_ne.mpr c2
    simp only [Option.some.injEq, Prod.mk.injEq] at H
    obtain ⟨rfl, rfl⟩ := H
    go_enter Tryd.func23, Tryd.ntmps23
    go_wp2
    go_ret2
    exact ⟨by first | rfl | (simp [errW_none, errW_some] <;> rfl) | (simp [*, errW_none, errW_some] <;> rfl), by repeat (first | (with_reducible first | exact HB.out | apply below_alloc | apply pw_below_drewN | apply below_drew1) | exact HB.out)⟩

end Go.Proofs.YtbcgddacmjliaaaDoor.PF
