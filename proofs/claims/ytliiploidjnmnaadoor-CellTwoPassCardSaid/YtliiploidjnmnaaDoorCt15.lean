/- The law's proof: words, contracts of the functions that it reaches, plain lemmas. -/
import Derived.Test.YtliiploidjnmnaaDoorCt7
import Derived.Test.YtliiploidjnmnaaDoorCt13
import Derived.Test.YtliiploidjnmnaaDoorCt9
import Derived.ArgAppend
import Derived.Below
import Derived.BigQuiet
import Derived.Carry
import Derived.Deep.AppendLies
import Derived.Deep.CutBlock
import Derived.Deep.DeepCutAuto
import Derived.Deep.Draws
import Derived.Deep.LoopGhost
import Derived.Deep.OwnRows
import Derived.Deep.QuietTactic
import Derived.Deep.RegionHeld3
import Derived.Deep.RegionWith
import Derived.KernelRfl
import Derived.Laws.BitsLemmas
import Derived.Laws.BytesArg
import Derived.Laws.IdiomCopy
import Derived.Laws.MakeOwn
import Derived.Laws.OwnMore
import Derived.Laws.Rows
import Derived.Laws.Slices
import Derived.Lib.AppendStr
import Derived.Lib.BufferMore
import Derived.Lib.ConvBytes
import Derived.Lib.Hide
import Derived.Lib.LazyBuf
import Derived.Maps.AppendAt
import Derived.OpenShut
import Derived.OrdersHeld
import Derived.Outline
import Derived.OwnWalk
import Derived.OwnWalkIn
import Derived.RegionTactic
import Derived.RowKit3
import Derived.StillTailTactics
import Derived.Tactics
import Derived.WalkKit
import Derived.WideLaws
import Derived.Test.YtliiploidjnmnaaDoorProg
import Derived.Test.YtliiploidjnmnaaDoorCt2
section
-- Written by a program (the kit's print.py, called by wip/bin/prseat.sh, mended by wip/bin/mend.py).
namespace Go.Proofs.YtliiploidjnmnaaDoor.PF
open Go.RowKit Go.Proofs.YtliiploidjnmnaaDoorW.PrintWords Go.Proofs.YtliiploidjnmnaaDoorW.PrintLast Go.Proofs.YtliiploidjnmnaaDoorW.PrintMore
attribute [local go_sem] max2_int min2_int max_two min_two max_three min_three max_four min_four   -- for this text's walks alone
set_option linter.unusedVariables false
set_option linter.unusedSimpArgs false

/-! ### tag_number: function 98 -/
def tag_number.f (a0 : Int) (a1 : Int) : Option (ByteArray) := (bits_Put.f (IntKind.u64.wrap (a0)) a1).bind fun bt167 => (some bt167.1)
set_option maxHeartbeats 8000000 in
set_option maxRecDepth 100000 in
theorem tag_number.calls (a0 : Int) (a1 : Int) (r : ByteArray) (w : World) (h : tag_number.f a0 a1 = some r) :
    Calls Tryd.prog 98 #[.int .i64 a0, .int .i64 a1] w fun e w' => e = .returned (.string r) ∧ Below w.heap.size w w' := by
  have HB := Aside0.mk (Below.refl w.heap.size w)
  have H : ((bits_Put.f (IntKind.u64.wrap (a0)) a1).bind fun bt167 => (some bt167.1)) = some r := h
  clear h
  replace H := Option.bind_eq_some_iff.mp H
  obtain ⟨⟨t167, t168⟩, A30, H⟩ := H
  replace H : (some t167) = some r := H
  have A3 := Aside0.mk A30
  clear A30
  obtain rfl := Option.some.inj H
  go_enter Tryd.func98, Tryd.ntmps98
  go_wp2_with (first | ((with_reducible refine gate_callee (f := 108) rfl ?_); refine goesL_ (some 11) rfl rfl Tryd.func108 (by kernel_rfl) rfl #[.int .u64 (IntKind.u64.wrap (a0)), .int .i64 a1] rfl (by (try simp only [List.map_toArray, List.map_cons, List.map_nil]); first | done | rfl | (simp only [List.length_drop, List.length_take]; rfl)) ?_; (with_reducible refine (bits_Put.calls (IntKind.u64.wrap (a0)) a1 t167 t168 _ A3.out).mono ?_); rintro e w4 ⟨rfl, hb⟩; refine ⟨_, rfl, ?_⟩; have n0_ := Aside0.mk (below_step (by repeat (first | (with_reducible first | exact HB.out | apply below_alloc | apply pw_below_drewN | apply below_drew1) | exact HB.out)) hb); clear HB; have HB := n0_; clear n0_; (try clear hb); (try clear hb2); (try clear hk); (try clear hi)))
  go_ret
  exact ⟨by first | rfl | (simp [errW_none, errW_some] <;> rfl) | (simp [*, errW_none, errW_some] <;> rfl), by repeat (first | (with_reducible first | exact HB.out | apply below_alloc | apply pw_below_drewN | apply below_drew1) | exact HB.out)⟩

end Go.Proofs.YtliiploidjnmnaaDoor.PF
end

section
-- Written by a program (the kit's print.py, called by wip/bin/prseat.sh, mended by wip/bin/mend.py).
namespace Go.Proofs.YtliiploidjnmnaaDoor.PF
open Go.RowKit Go.Proofs.YtliiploidjnmnaaDoorW.PrintWords Go.Proofs.YtliiploidjnmnaaDoorW.PrintLast Go.Proofs.YtliiploidjnmnaaDoorW.PrintMore
attribute [local go_sem] max2_int min2_int max_two min_two max_three min_three max_four min_four   -- for this text's walks alone
set_option linter.unusedVariables false
set_option linter.unusedSimpArgs false

/-! ### ham_Encode: function 80 -/
def ham_Encode.f (a0 : ByteArray) : Option (ByteArray × Int) := if (a0.size : Int) = 8 then ((ham_left.f a0).bind fun bt174 => ((bits_OnesCount8.f bt174.1).bind fun t176 => (if (Int.tmod (wrap64 (bt174.2 + t176)) 2) = 1 then ((some (([Go.bits .or .u8 bt174.1 128] : List Int) : List Int)).bind fun y177 => (if a0.size + (strOfNums y177).size ≤ 9223372036854775807 then (some (a0 ++ (strOfNums y177), 0)) else (none))) else ((some (([bt174.1] : List Int) : List Int)).bind fun y180 => (if a0.size + (strOfNums y180).size ≤ 9223372036854775807 then (some (a0 ++ (strOfNums y180), 0)) else (none)))))) else (some ((⟨#[]⟩ : ByteArray), 4))
set_option maxHeartbeats 8000000 in
set_option maxRecDepth 100000 in
theorem ham_Encode.calls (a0 : ByteArray) (r1 : ByteArray) (r2 : Int) (w : World) (h : ham_Encode.f a0 = some (r1, r2)) (HL : Aside0 (Hw.Laid w) := by first | exact HL | exact Hw.laid_at HL (by repeat (first | (with_reducible first | exact HB.out | apply below_alloc | apply pw_below_drewN | apply below_drew1) | exact HB.out | exact Below.refl _ _ | refine below_set ?_ (by apply Aside0.out; assumption)))) :
    Calls Tryd.prog 80 #[.string a0] w fun e w' => e = .returned (.tuple #[.string r1, .int .i64 r2]) ∧ Below w.heap.size w w' := by
  have HB := Aside0.mk (Below.refl w.heap.size w)
  have H : (if (a0.size : Int) = 8 then ((ham_left.f a0).bind fun bt174 => ((bits_OnesCount8.f bt174.1).bind fun t176 => (if (Int.tmod (wrap64 (bt174.2 + t176)) 2) = 1 then ((some (([Go.bits .or .u8 bt174.1 128] : List Int) : List Int)).bind fun y177 => (if a0.size + (strOfNums y177).size ≤ 9223372036854775807 then (some (a0 ++ (strOfNums y177), 0)) else (none))) else ((some (([bt174.1] : List Int) : List Int)).bind fun y180 => (if a0.size + (strOfNums y180).size ≤ 9223372036854775807 then (some (a0 ++ (strOfNums y180), 0)) else (none)))))) else (some ((⟨#[]⟩ : ByteArray), 4))) = some (r1, r2) := h
  clear h
  by_cases c2 : (a0.size : Int) = 8
  · rw [if_pos c2] at H
    have c2b0 : ((a0.size : Int) == 8) = true := beq_iff_eq.mpr c2
    have c2b1 : ((a0.size : Int) != 8) = false := bne_eq_false_iff_eq.mpr c2
    clear c2
    replace H := Option.bind_eq_some_iff.mp H
    obtain ⟨⟨t174, t175⟩, A30, H⟩ := H
    replace H : ((bits_OnesCount8.f t174).bind fun t176 => (if (Int.tmod (wrap64 (t175 + t176)) 2) = 1 then ((some (([Go.bits .or .u8 t174 128] : List Int) : List Int)).bind fun y177 => (if a0.size + (strOfNums y177).size ≤ 9223372036854775807 then (some (a0 ++ (strOfNums y177), 0)) else (none))) else ((some (([t174] : List Int) : List Int)).bind fun y180 => (if a0.size + (strOfNums y180).size ≤ 9223372036854775807 then (some (a0 ++ (strOfNums y180), 0)) else (none))))) = some (r1, r2) := H
    have A3 := Aside0.mk A30
    clear A30
    replace H := Option.bind_eq_some_iff.mp H
    obtain ⟨t176, A40, H⟩ := H
    replace H : (if (Int.tmod (wrap64 (t175 + t176)) 2) = 1 then ((some (([Go.bits .or .u8 t174 128] : List Int) : List Int)).bind fun y177 => (if a0.size + (strOfNums y177).size ≤ 9223372036854775807 then (some (a0 ++ (strOfNums y177), 0)) else (none))) else ((some (([t174] : List Int) : List Int)).bind fun y180 => (if a0.size + (strOfNums y180).size ≤ 9223372036854775807 then (some (a0 ++ (strOfNums y180), 0)) else (none)))) = some (r1, r2) := H
    have A4 := Aside0.mk A40
    clear A40
    by_cases c5 : (Int.tmod (wrap64 (t175 + t176)) 2) = 1
    · rw [if_pos c5] at H
      have c5b0 : ((Int.tmod (wrap64 (t175 + t176)) 2) == 1) = true := beq_iff_eq.mpr c5
      have c5b1 : ((Int.tmod (wrap64 (t175 + t176)) 2) != 1) = false := bne_eq_false_iff_eq.mpr c5
      clear c5
      obtain ⟨y177, hy177⟩ : ∃ y_ : List Int, y_ = (([Go.bits .or .u8 t174 128] : List Int)) := ⟨_, rfl⟩
      replace H : (if a0.size + (strOfNums y177).size ≤ 9223372036854775807 then (some (a0 ++ (strOfNums y177), 0)) else (none)) = some (r1, r2) := by first | (rw [hy177]; with_reducible exact H) | (have H2_ := (Option.bind_some _ _).symm.trans H; rw [hy177]; with_reducible exact H2_) | (have H2_ := (Option.bind_some _ _).symm.trans H; with_reducible exact H2_) | with_reducible exact H | (rw [hy177]; exact H) | exact H
      have Ny177 := Aside0.mk hy177
      clear hy177
      by_cases c6 : a0.size + (strOfNums y177).size ≤ 9223372036854775807
      · rw [if_pos c6] at H
        have c6b0 := eq_true c6
        have c6b1 : decide (a0.size + (strOfNums y177).size ≤ 9223372036854775807) = true := decide_eq_true c6
        try have c6b2 : (9223372036854775807 < a0.size + (strOfNums y177).size) = False := eq_false (Nat.not_lt.2 c6)
        simp only [Option.some.injEq, Prod.mk.injEq] at H
        obtain ⟨rfl, rfl⟩ := H
        go_enter Tryd.func80, Tryd.ntmps80
        go_wp2_with (first | ((with_reducible refine gate_callee (f := 72) rfl ?_); refine goesL_ (some 11) rfl rfl Tryd.func72 (by kernel_rfl) rfl #[.string a0] rfl (by (try simp only [List.map_toArray, List.map_cons, List.map_nil]); first | done | rfl | (simp only [List.length_drop, List.length_take]; rfl)) ?_; (with_reducible refine (ham_left.calls a0 t174 t175 _ A3.out).mono ?_); rintro e w7 ⟨rfl, hb⟩; refine ⟨_, rfl, ?_⟩; have n0_ := Aside0.mk (below_step (by repeat (first | (with_reducible first | exact HB.out | apply below_alloc | apply pw_below_drewN | apply below_drew1) | exact HB.out)) hb); clear HB; have HB := n0_; clear n0_; (try clear hb); (try clear hb2); (try clear hk); (try clear hi)) | ((with_reducible refine gate_callee (f := 73) rfl ?_); refine goesL_ (some 16) rfl rfl Tryd.func73 (by kernel_rfl) rfl #[.int .u8 t174] rfl (by (try simp only [List.map_toArray, List.map_cons, List.map_nil]); first | done | rfl | (simp only [List.length_drop, List.length_take]; rfl)) ?_; (with_reducible refine (bits_OnesCount8.calls t174 t176 _ A4.out).mono ?_); rintro e w8 ⟨rfl, hb⟩; refine ⟨_, rfl, ?_⟩; have n0_ := Aside0.mk (below_step (by repeat (first | (with_reducible first | exact HB.out | apply below_alloc | apply pw_below_drewN | apply below_drew1) | exact HB.out)) hb); clear HB; have HB := n0_; clear n0_; (try clear hb); (try clear hb2); (try clear hk); (try clear hi)) | ((with_reducible refine gate_dst (N := 24) rfl ?_); refine Kd.R_lit (Kd.int .u8) _ 5 ?hg (N := 24) ?hd (xs := ([Go.bits .or .u8 t174 128] : List Int)) (inner := [.int .u8 (Go.bits .or .u8 t174 128)]) (ok := fun _ => True) (okp := fun _ => True) ?hr ?hp (fun _ hk => hk) trivial (Below.refl _ _) (Nat.le_refl _) (by simp) ?_; (case hd => rfl); (case hg => rfl); (case hr => first | (go_simp; done) | (go_simp; rfl)); (case hp => exact (Reps.one (show Kd.M (Kd.int .u8) _ _ _ (Go.bits .or .u8 t174 128) [.int .u8 (Go.bits .or .u8 t174 128)] from rfl) (Reps.none _ _))); intro v178 w9 ho10 hb hg_ hnew_; clear hg_ hnew_; (first | rw [← Ny177.out] at ho10 | (simp only [Int.reduceToNat] at ho10; rw [← Ny177.out] at ho10)); have n0_ := Aside0.mk (Kd.R_lower ho10 (below_size (by repeat (first | (with_reducible first | exact HB.out | apply below_alloc | apply pw_below_drewN | apply below_drew1) | exact HB.out)))); have n1_ := Aside0.mk (below_step (by repeat (first | (with_reducible first | exact HB.out | apply below_alloc | apply pw_below_drewN | apply below_drew1) | exact HB.out)) hb); clear HB; have HO179 := n0_; have HB := n1_; clear n0_ n1_; clear hb ho10; have hcv11 := own_string (P := Tryd.prog) Tryd.underlying91 Tryd.underlying5 Tryd.underlying9 (Kd.own_of_R HO179.out)))
        go_ret2
        exact ⟨by first | rfl | (simp [errW_none, errW_some] <;> rfl) | (simp [*, errW_none, errW_some] <;> rfl), by repeat (first | (with_reducible first | exact HB.out | apply below_alloc | apply pw_below_drewN | apply below_drew1) | exact HB.out)⟩
      · rw [if_neg c6] at H
        exact absurd H (by simp)
    · rw [if_neg c5] at H
      have c5b0 : ((Int.tmod (wrap64 (t175 + t176)) 2) == 1) = false := beq_eq_false_iff_ne.mpr c5
      have c5b1 : ((Int.tmod (wrap64 (t175 + t176)) 2) != 1) = true := bne_iff_ne.mpr c5
      obtain ⟨y180, hy180⟩ : ∃ y_ : List Int, y_ = (([t174] : List Int)) := ⟨_, rfl⟩
      replace H : (if a0.size + (strOfNums y180).size ≤ 9223372036854775807 then (some (a0 ++ (strOfNums y180), 0)) else (none)) = some (r1, r2) := by first | (rw [hy180]; with_reducible exact H) | (have H2_ := (Option.bind_some _ _).symm.trans H; rw [hy180]; with_reducible exact H2_) | (have H2_ := (Option.bind_some _ _).symm.trans H; with_reducible exact H2_) | with_reducible exact H | (rw [hy180]; exact H) | exact H
      have Ny180 := Aside0.mk hy180
      clear hy180
      by_cases c12 : a0.size + (strOfNums y180).size ≤ 9223372036854775807
      · rw [if_pos c12] at H
        have c12b0 := eq_true c12
        have c12b1 : decide (a0.size + (strOfNums y180).size ≤ 9223372036854775807) = true := decide_eq_true c12
        try have c12b2 : (9223372036854775807 < a0.size + (strOfNums y180).size) = False := eq_false (Nat.not_lt.2 c12)
        simp only [Option.some.injEq, Prod.mk.injEq] at H
        obtain ⟨rfl, rfl⟩ := H
        go_enter Tryd.func80, Tryd.ntmps80
        go_wp2_with (first | ((with_reducible refine gate_callee (f := 72) rfl ?_); refine goesL_ (some 11) rfl rfl Tryd.func72 (by kernel_rfl) rfl #[.string a0] rfl (by (try simp only [List.map_toArray, List.map_cons, List.map_nil]); first | done | rfl | (simp only [List.length_drop, List.length_take]; rfl)) ?_; (with_reducible refine (ham_left.calls a0 t174 t175 _ A3.out).mono ?_); rintro e w13 ⟨rfl, hb⟩; refine ⟨_, rfl, ?_⟩; have n0_ := Aside0.mk (below_step (by repeat (first | (with_reducible first | exact HB.out | apply below_alloc | apply pw_below_drewN | apply below_drew1) | exact HB.out)) hb); clear HB; have HB := n0_; clear n0_; (try clear hb); (try clear hb2); (try clear hk); (try clear hi)) | ((with_reducible refine gate_callee (f := 73) rfl ?_); refine goesL_ (some 16) rfl rfl Tryd.func73 (by kernel_rfl) rfl #[.int .u8 t174] rfl (by (try simp only [List.map_toArray, List.map_cons, List.map_nil]); first | done | rfl | (simp only [List.length_drop, List.length_take]; rfl)) ?_; (with_reducible refine (bits_OnesCount8.calls t174 t176 _ A4.out).mono ?_); rintro e w14 ⟨rfl, hb⟩; refine ⟨_, rfl, ?_⟩; have n0_ := Aside0.mk (below_step (by repeat (first | (with_reducible first | exact HB.out | apply below_alloc | apply pw_below_drewN | apply below_drew1) | exact HB.out)) hb); clear HB; have HB := n0_; clear n0_; (try clear hb); (try clear hb2); (try clear hk); (try clear hi)) | ((with_reducible refine gate_dst (N := 24) rfl ?_); refine Kd.R_lit (Kd.int .u8) _ 5 ?hg (N := 24) ?hd (xs := ([t174] : List Int)) (inner := [.int .u8 t174]) (ok := fun _ => True) (okp := fun _ => True) ?hr ?hp (fun _ hk => hk) trivial (Below.refl _ _) (Nat.le_refl _) (by simp) ?_; (case hd => rfl); (case hg => rfl); (case hr => first | (go_simp; done) | (go_simp; rfl)); (case hp => exact (Reps.one (show Kd.M (Kd.int .u8) _ _ _ t174 [.int .u8 t174] from rfl) (Reps.none _ _))); intro v181 w15 ho16 hb hg_ hnew_; clear hg_ hnew_; (first | rw [← Ny180.out] at ho16 | (simp only [Int.reduceToNat] at ho16; rw [← Ny180.out] at ho16)); have n0_ := Aside0.mk (Kd.R_lower ho16 (below_size (by repeat (first | (with_reducible first | exact HB.out | apply below_alloc | apply pw_below_drewN | apply below_drew1) | exact HB.out)))); have n1_ := Aside0.mk (below_step (by repeat (first | (with_reducible first | exact HB.out | apply below_alloc | apply pw_below_drewN | apply below_drew1) | exact HB.out)) hb); clear HB; have HO182 := n0_; have HB := n1_; clear n0_ n1_; clear hb ho16; have hcv17 := own_string (P := Tryd.prog) Tryd.underlying91 Tryd.underlying5 Tryd.underlying9 (Kd.own_of_R HO182.out)))
        go_ret2
        exact ⟨by first | rfl | (simp [errW_none, errW_some] <;> rfl) | (simp [*, errW_none, errW_some] <;> rfl), by repeat (first | (with_reducible first | exact HB.out | apply below_alloc | apply pw_below_drewN | apply below_drew1) | exact HB.out)⟩
      · rw [if_neg c12] at H
        exact absurd H (by simp)
  · rw [if_neg c2] at H
    have c2b0 : ((a0.size : Int) == 8) = false := beq_eq_false_iff_ne.mpr c2
    have c2b1 : ((a0.size : Int) != 8) = true := bne_iff_ne.mpr c2
    simp only [Option.some.injEq, Prod.mk.injEq] at H
    obtain ⟨rfl, rfl⟩ := H
    go_enter Tryd.func80, Tryd.ntmps80
    go_wp2
    go_ret2
    exact ⟨by first | rfl | (simp [errW_none, errW_some] <;> rfl) | (simp [*, errW_none, errW_some] <;> rfl), by repeat (first | (with_reducible first | exact HB.out | apply below_alloc | apply pw_below_drewN | apply below_drew1) | exact HB.out)⟩

end Go.Proofs.YtliiploidjnmnaaDoor.PF
end

section
/- Package frame, by hand: Blank: a page on which nothing stands. -/
set_option linter.unusedVariables false
set_option linter.unusedSimpArgs false
namespace Go.Proofs.YtliiploidjnmnaaDoor.PF
open Go.RowKit Go.Shelf Go.Proofs.YtliiploidjnmnaaDoorW.PrintWords Go.Proofs.YtliiploidjnmnaaDoor.Hw

/-- May a page have so many bytes of data? -/
def mayB (n : Int) : Bool := decide (8 ≤ n ∧ n ≤ 256 ∧ n % 8 = 0)
theorem may_is (n : Int) : frame_may.f n = some (mayB n) := by
  unfold frame_may.f mayB
  by_cases h1 : 8 ≤ n
  · rw [if_pos (show n ≥ 8 from h1)]
    by_cases h2 : n ≤ 256
    · rw [if_pos h2, Int.tmod_eq_emod_of_nonneg (by omega)]
      congr 1
      rw [Bool.eq_iff_iff]
      simp
      omega
    · rw [if_neg h2, decide_eq_false (by omega)]
  · rw [if_neg (show ¬ n ≥ 8 from h1), decide_eq_false (by omega)]
def ffs (n : Nat) : ByteArray := ⟨(List.replicate n (255 : UInt8)).toArray⟩
theorem repeat_ff (n : Nat) : (⟨(Lib.repeatL [255] n).toArray⟩ : ByteArray) = ffs n := by
  have h : ∀ n : Nat, Lib.repeatL [255] n = List.replicate n (255 : UInt8) := by
    intro n
    induction n with
    | zero => rfl
    | succ n ih => show [255] ++ Lib.repeatL [255] n = _; rw [ih]; rfl
  unfold ffs
  rw [h]
def frame_Blank.f (n : Int) : Option ByteArray := some (if mayB n = true then ffs ((n.toNat + 24) / 8 * 9) else ⟨#[]⟩)
set_option maxHeartbeats 2000000 in
set_option maxRecDepth 100000 in
theorem frame_Blank.calls (n : Int) (r : ByteArray) (w : World) (h : frame_Blank.f n = some r) :
    Calls Tryd.prog 31 #[.int .i64 n] w fun e w' => e = .returned (.string r) ∧ Below w.heap.size w w' := by
  unfold frame_Blank.f at h
  obtain rfl := Option.some.inj h
  have hm := may_is n
  cases hb : mayB n with
  | true =>
    rw [hb] at hm
    have hb' : 8 ≤ n ∧ n ≤ 256 ∧ n % 8 = 0 := by unfold mayB at hb; exact of_decide_eq_true hb
    obtain ⟨b1, b2, b3⟩ := hb'
    obtain ⟨m, rfl⟩ : ∃ m : Nat, n = m := ⟨n.toNat, by omega⟩
    have HM := Aside0.mk hm
    obtain ⟨c, hc⟩ : ∃ c, c = (m + 24) / 8 * 9 := ⟨_, rfl⟩
    have hce : ((m : Int) + 16 + 8) / 8 * 9 = (c : Nat) := by omega
    have HR := Aside0.mk (fun (w1 : World) => Any.strings_Repeat lays105 extra105 ⟨#[255]⟩ c w1 (by omega) (by show 1 * c ≤ _; omega))
    have HC := Lib.hid hc
    clear hm hb b3 hc
    go_enter Tryd.func31, Tryd.ntmps31
    go_wp2_with fail
    refine (frame_may.calls _ _ _ HM.out).mono ?_
    rintro e w1 ⟨rfl, hb⟩
    have HB := Aside0.mk hb.below
    clear hb
    go_wp2_with fail
    refine (HR.out _).mono ?_
    rintro e w2 ⟨rfl, hb2⟩
    rw [repeat_ff]
    have HB2 := Aside0.mk (below_then HB.out HB.out.size hb2)
    clear hb2 HB
    go_wp2_with fail
    go_ret
    refine ⟨?_, HB2.out⟩
    show Ending.returned (.string (ffs c)) = _
    rw [HC.out]
  | false =>
    rw [hb] at hm
    have HM := Aside0.mk hm
    clear hm hb
    go_enter Tryd.func31, Tryd.ntmps31
    go_wp2_with fail
    refine (frame_may.calls _ _ _ HM.out).mono ?_
    rintro e w1 ⟨rfl, hb⟩
    have HB := Aside0.mk hb
    clear hb
    go_wp2_with fail
    go_ret
    exact ⟨rfl, by have := HB.out.below; exact this⟩
end Go.Proofs.YtliiploidjnmnaaDoor.PF
end
