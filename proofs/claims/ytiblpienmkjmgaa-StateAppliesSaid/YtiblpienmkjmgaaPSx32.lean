-- Written by a program (the kit's print.py, called by wip/bin/prseat.sh, mended by wip/bin/mend.py).
import Derived.Test.YtiblpienmkjmgaaTf
import Derived.Test.YtiblpienmkjmgaaPSx0
import Derived.Test.YtiblpienmkjmgaaPSy3
namespace Go.Proofs.Ytiblpienmkjmgaa.PS
open Go.Proofs.Ytiblpienmkjmgaa.Tf Go.RowKit Go.Proofs.YtiblpienmkjmgaaW.PrintWords Go.Proofs.YtiblpienmkjmgaaW.PrintLast Go.Proofs.YtiblpienmkjmgaaW.PrintMore
attribute [local go_sem] max2_int min2_int max_two min_two max_three min_three max_four min_four   -- for this text's walks alone
set_option linter.unusedVariables false
set_option linter.unusedSimpArgs false

/-! ### deckleref14_Apply: function 40 -/
def deckleref14_Apply.j0 : Nat → Bool → List Int → List Int → List Int → List Int → Int → Int → Int → Option (List Int × List Int × List Int × List Int × Int)
  | 0, _, _, _, _, _, _, _, _ => none
  | k + 1, x57, x185000, x185001, x185002, x185003, x186000, x186001, x186002 => if x57 = true then (some (x185000, x185001, x185002, x185003, 110)) else (if x186000 = 3 then ((deckleref14_Put.f k x185001 x186001 x186002).bind fun t192 => (some (x185000, t192, x185002, x185003, 0))) else ((deckleref14_Put.f k x185001 x186001 0).bind fun t195 => (if x186002 = 1 then (if 0 ≤ x186001 then (if x186001 < (x185002.length : Int) then ((deckleref14_Put.f k x185002 x186001 (mn (wrap64 ((rd x185002 x186001) + 1)) 16777215)).bind fun t199 => (some (x185000, t195, t199, x185003, 0))) else (none)) else (none)) else (if 0 ≤ x186001 then (if x186001 < (x185003.length : Int) then ((deckleref14_Put.f k x185003 x186001 (mn (wrap64 ((rd x185003 x186001) + 1)) 16777215)).bind fun t203 => (some (x185000, t195, x185002, t203, 0))) else (none)) else (none)))))
def deckleref14_Apply.f (k : Nat) (l0_0 : List Int) (l0_1 : List Int) (l0_2 : List Int) (l0_3 : List Int) (a1_0 : Int) (a1_1 : Int) (a1_2 : Int) : Option (List Int × List Int × List Int × List Int × Int) := (deckleref11_May.f k a1_0 a1_1 a1_2).bind fun t187 => (if t187 = true then (if a1_0 ≤ 2 then (if a1_1 ≥ (l0_0.length : Int) then (some (l0_0, l0_1, l0_2, l0_3, 110)) else (if 0 ≤ a1_1 then (if a1_1 < (l0_0.length : Int) then ((deckleref14_Put.f k l0_0 a1_1 (mx (rd l0_0 a1_1) a1_2)).bind fun t189 => (some (t189, l0_1, l0_2, l0_3, 0))) else (none)) else (none))) else (if a1_1 ≥ (l0_1.length : Int) then (deckleref14_Apply.j0 k true l0_0 l0_1 l0_2 l0_3 a1_0 a1_1 a1_2) else (if a1_1 ≥ (l0_2.length : Int) then (deckleref14_Apply.j0 k true l0_0 l0_1 l0_2 l0_3 a1_0 a1_1 a1_2) else (deckleref14_Apply.j0 k (decide (a1_1 ≥ (l0_3.length : Int))) l0_0 l0_1 l0_2 l0_3 a1_0 a1_1 a1_2)))) else (some (l0_0, l0_1, l0_2, l0_3, 110)))
theorem deckleref14_Apply.mono_l : ∀ k, (∀ y0 y1 y2 y3 y4 y5 y6 y7, LeO (deckleref14_Apply.j0 k y0 y1 y2 y3 y4 y5 y6 y7) (deckleref14_Apply.j0 (k + 1) y0 y1 y2 y3 y4 y5 y6 y7))
  | 0 => fun _ _ _ _ _ _ _ _ r h => by simp [deckleref14_Apply.j0] at h
  | k + 1 => by
    have ih0 := deckleref14_Apply.mono_l k
    · intro y0 y1 y2 y3 y4 y5 y6 y7
      unfold deckleref14_Apply.j0
      repeat' first
      | (with_reducible exact ih0 _ _ _ _ _ _ _ _)
      | (with_reducible exact deckleref11_May.mono _ _ _ _)
      | (with_reducible exact deckleref14_Put.mono _ _ _ _)
      | (with_reducible exact LeO.refl _)
      | (with_reducible exact LeO.none _)
      | (with_reducible refine LeO.ite ?_ ?_)
      | (with_reducible refine LeO.bind ?_ (fun _ => ?_))
      | exact ih0 _ _ _ _ _ _ _ _
      | exact deckleref11_May.mono _ _ _ _
      | exact deckleref14_Put.mono _ _ _ _
      | exact LeO.none _
      | refine LeO.ite ?_ ?_
      | refine LeO.bind ?_ (fun _ => ?_)
theorem deckleref14_Apply.mono : ∀ a0 a1 a2 a3 a4 a5 a6 k, LeO (deckleref14_Apply.f k a0 a1 a2 a3 a4 a5 a6) (deckleref14_Apply.f (k + 1) a0 a1 a2 a3 a4 a5 a6) := by
  intro a0 a1 a2 a3 a4 a5 a6 k
  have ih0 := deckleref14_Apply.mono_l k
  unfold deckleref14_Apply.f
  repeat' first
      | (with_reducible exact ih0 _ _ _ _ _ _ _ _)
      | (with_reducible exact deckleref11_May.mono _ _ _ _)
      | (with_reducible exact deckleref14_Put.mono _ _ _ _)
      | (with_reducible exact LeO.refl _)
      | (with_reducible exact LeO.none _)
      | (with_reducible refine LeO.ite ?_ ?_)
      | (with_reducible refine LeO.bind ?_ (fun _ => ?_))
      | exact ih0 _ _ _ _ _ _ _ _
      | exact deckleref11_May.mono _ _ _ _
      | exact deckleref14_Put.mono _ _ _ _
      | exact LeO.none _
      | refine LeO.ite ?_ ?_
      | refine LeO.bind ?_ (fun _ => ?_)
def deckleref14_Apply.T6 : Bool × List (List Nat × List Nat) := (true, [([], []), ([0], [0]), ([], []), ([2], [2]), ([], []), ([4], [4]), ([], []), ([6], [6]), ([5, 7], [5, 7]), ([8], [8]), ([], []), ([10], [10]), ([9, 11], [9, 11]), ([1, 3, 12], [1, 3, 12]), ([0, 1, 2, 3, 4, 5, 6, 7, 8, 9, 10, 11, 12, 13], []), ([14, 13, 13, 0, 1, 2, 3, 4, 5, 6, 7, 8, 9, 10, 11, 12, 13], [13, 14])])
def deckleref14_Apply.B6 : List Nat := [0, 1, 0, 4, 0, 16, 0, 64, 240, 496, 0, 1024, 4080, 8191, 16383, 32767]
theorem deckleref14_Apply.tab6 : rtab .any (opsOf Try.f40 6) = deckleref14_Apply.T6 := by kernel_rfl
theorem deckleref14_Apply.bits6 : waitsOk deckleref14_Apply.T6.2 deckleref14_Apply.B6 = true := by kernel_rfl
def deckleref14_Apply.T15 : Bool × List (List Nat × List Nat) := (true, [([], []), ([0], [0]), ([], []), ([2], [2]), ([], []), ([4], [4]), ([], []), ([6], [6]), ([5, 7], [5, 7]), ([8], [8]), ([9], [9]), ([10], [10]), ([1, 3, 11], [1, 3, 11]), ([0, 1, 2, 3, 4, 5, 6, 7, 8, 9, 10, 11, 12], []), ([13, 12, 12, 0, 1, 2, 3, 4, 5, 6, 7, 8, 9, 10, 11, 12], [12, 13])])
def deckleref14_Apply.B15 : List Nat := [0, 1, 0, 4, 0, 16, 0, 64, 240, 496, 1008, 2032, 4095, 8191, 16383]
theorem deckleref14_Apply.tab15 : rtab .any (opsOf Try.f40 15) = deckleref14_Apply.T15 := by kernel_rfl
theorem deckleref14_Apply.bits15 : waitsOk deckleref14_Apply.T15.2 deckleref14_Apply.B15 = true := by kernel_rfl
def deckleref14_Apply.T16 : Bool × List (List Nat × List Nat) := (true, [([], []), ([0], [0]), ([], []), ([2], [2]), ([], []), ([4], [4]), ([], []), ([6], [6]), ([5, 7], [5, 7]), ([8], [8]), ([9], [9]), ([10], [10]), ([1, 3, 11], [1, 3, 11]), ([0, 1, 2, 3, 4, 5, 6, 7, 8, 9, 10, 11, 12], []), ([13, 12, 12, 0, 1, 2, 3, 4, 5, 6, 7, 8, 9, 10, 11, 12], [12, 13])])
def deckleref14_Apply.B16 : List Nat := [0, 1, 0, 4, 0, 16, 0, 64, 240, 496, 1008, 2032, 4095, 8191, 16383]
theorem deckleref14_Apply.tab16 : rtab .any (opsOf Try.f40 16) = deckleref14_Apply.T16 := by kernel_rfl
theorem deckleref14_Apply.bits16 : waitsOk deckleref14_Apply.T16.2 deckleref14_Apply.B16 = true := by kernel_rfl
set_option maxHeartbeats 8000000 in
set_option maxRecDepth 100000 in
theorem deckleref14_Apply.calls (k : Nat) (P0_0_ : Nat → Prop) (u9000_ : Value) (l0_0 : List Int) (P0_1_ : Nat → Prop) (u9001_ : Value) (l0_1 : List Int) (P0_2_ : Nat → Prop) (u9002_ : Value) (l0_2 : List Int) (P0_3_ : Nat → Prop) (u9003_ : Value) (l0_3 : List Int) (a1_0 : Int) (a1_1 : Int) (a1_2 : Int) (r1 : List Int) (r2 : List Int) (r3 : List Int) (r4 : List Int) (r5 : Int) (w0 w : World) (hB : Below w0.heap.size w0 w) (ho0_0 : Kd.R (Kd.int .i64) 3 w w0.heap.size P0_0_ u9000_ l0_0) (hp0_0_0_1 : ∀ k_, P0_0_ k_ → ¬ P0_1_ k_) (hp0_0_0_2 : ∀ k_, P0_0_ k_ → ¬ P0_2_ k_) (hp0_0_0_3 : ∀ k_, P0_0_ k_ → ¬ P0_3_ k_) (ho0_1 : Kd.R (Kd.int .i64) 3 w w0.heap.size P0_1_ u9001_ l0_1) (hp0_1_0_0 : ∀ k_, P0_1_ k_ → ¬ P0_0_ k_) (hp0_1_0_2 : ∀ k_, P0_1_ k_ → ¬ P0_2_ k_) (hp0_1_0_3 : ∀ k_, P0_1_ k_ → ¬ P0_3_ k_) (ho0_2 : Kd.R (Kd.int .i64) 3 w w0.heap.size P0_2_ u9002_ l0_2) (hp0_2_0_0 : ∀ k_, P0_2_ k_ → ¬ P0_0_ k_) (hp0_2_0_1 : ∀ k_, P0_2_ k_ → ¬ P0_1_ k_) (hp0_2_0_3 : ∀ k_, P0_2_ k_ → ¬ P0_3_ k_) (ho0_3 : Kd.R (Kd.int .i64) 3 w w0.heap.size P0_3_ u9003_ l0_3) (hp0_3_0_0 : ∀ k_, P0_3_ k_ → ¬ P0_0_ k_) (hp0_3_0_1 : ∀ k_, P0_3_ k_ → ¬ P0_1_ k_) (hp0_3_0_2 : ∀ k_, P0_3_ k_ → ¬ P0_2_ k_) (h : deckleref14_Apply.f k l0_0 l0_1 l0_2 l0_3 a1_0 a1_1 a1_2 = some (r1, r2, r3, r4, r5)) :
    Calls Try.prog 40 #[.agg #[u9000_, u9001_, u9002_, u9003_], .agg #[.int .i64 a1_0, .int .i64 a1_1, .int .i64 a1_2]] w fun e w' => ∃ v0_ v1_ v2_ v3_ : Value, e = .returned (.tuple #[.agg #[v0_, v1_, v2_, v3_], .int .i64 r5]) ∧ Kd.R (Kd.int .i64) 3 w' w0.heap.size (fun k_ => ((P0_0_ k_ ∨ P0_1_ k_ ∨ P0_2_ k_ ∨ P0_3_ k_) ∨ w.heap.size ≤ k_) ∧ some k_ ≠ (v1_ : Value).ownBlock ∧ some k_ ≠ (v2_ : Value).ownBlock ∧ some k_ ≠ (v3_ : Value).ownBlock) v0_ r1 ∧ Kd.R (Kd.int .i64) 3 w' w0.heap.size (fun k_ => ((P0_0_ k_ ∨ P0_1_ k_ ∨ P0_2_ k_ ∨ P0_3_ k_) ∨ w.heap.size ≤ k_) ∧ some k_ ≠ (v0_ : Value).ownBlock ∧ some k_ ≠ (v2_ : Value).ownBlock ∧ some k_ ≠ (v3_ : Value).ownBlock) v1_ r2 ∧ Kd.R (Kd.int .i64) 3 w' w0.heap.size (fun k_ => ((P0_0_ k_ ∨ P0_1_ k_ ∨ P0_2_ k_ ∨ P0_3_ k_) ∨ w.heap.size ≤ k_) ∧ some k_ ≠ (v0_ : Value).ownBlock ∧ some k_ ≠ (v1_ : Value).ownBlock ∧ some k_ ≠ (v3_ : Value).ownBlock) v2_ r3 ∧ Kd.R (Kd.int .i64) 3 w' w0.heap.size (fun k_ => ((P0_0_ k_ ∨ P0_1_ k_ ∨ P0_2_ k_ ∨ P0_3_ k_) ∨ w.heap.size ≤ k_) ∧ some k_ ≠ (v0_ : Value).ownBlock ∧ some k_ ≠ (v1_ : Value).ownBlock ∧ some k_ ≠ (v2_ : Value).ownBlock) v3_ r4 ∧ Below w0.heap.size w0 w' ∧ Kept w w' (fun k_ => P0_0_ k_ ∨ P0_1_ k_ ∨ P0_2_ k_ ∨ P0_3_ k_) := by
  have hu69 := Try.underlying69
  have hu73 := Try.underlying73
  have HO0_0 := Aside0.mk (show Kd.R (Kd.int .i64) 3 w w0.heap.size (fun k_ => ((P0_0_ k_ ∨ P0_1_ k_ ∨ P0_2_ k_ ∨ P0_3_ k_) ∨ w.heap.size ≤ k_) ∧ some k_ ≠ (u9001_ : Value).ownBlock ∧ some k_ ≠ (u9002_ : Value).ownBlock ∧ some k_ ≠ (u9003_ : Value).ownBlock) u9000_ l0_0 from Kd.R_mono ho0_0 (fun k_ hk => ⟨(.inl (.inl hk)), fun e_ => hp0_0_0_1 k_ hk (ho0_1.1 k_ e_.symm), fun e_ => hp0_0_0_2 k_ hk (ho0_2.1 k_ e_.symm), fun e_ => hp0_0_0_3 k_ hk (ho0_3.1 k_ e_.symm)⟩))
  have HO0_1 := Aside0.mk (show Kd.R (Kd.int .i64) 3 w w0.heap.size (fun k_ => ((P0_0_ k_ ∨ P0_1_ k_ ∨ P0_2_ k_ ∨ P0_3_ k_) ∨ w.heap.size ≤ k_) ∧ some k_ ≠ (u9000_ : Value).ownBlock ∧ some k_ ≠ (u9002_ : Value).ownBlock ∧ some k_ ≠ (u9003_ : Value).ownBlock) u9001_ l0_1 from Kd.R_mono ho0_1 (fun k_ hk => ⟨(.inl (.inr (.inl hk))), fun e_ => hp0_1_0_0 k_ hk (ho0_0.1 k_ e_.symm), fun e_ => hp0_1_0_2 k_ hk (ho0_2.1 k_ e_.symm), fun e_ => hp0_1_0_3 k_ hk (ho0_3.1 k_ e_.symm)⟩))
  have HO0_2 := Aside0.mk (show Kd.R (Kd.int .i64) 3 w w0.heap.size (fun k_ => ((P0_0_ k_ ∨ P0_1_ k_ ∨ P0_2_ k_ ∨ P0_3_ k_) ∨ w.heap.size ≤ k_) ∧ some k_ ≠ (u9000_ : Value).ownBlock ∧ some k_ ≠ (u9001_ : Value).ownBlock ∧ some k_ ≠ (u9003_ : Value).ownBlock) u9002_ l0_2 from Kd.R_mono ho0_2 (fun k_ hk => ⟨(.inl (.inr (.inr (.inl hk)))), fun e_ => hp0_2_0_0 k_ hk (ho0_0.1 k_ e_.symm), fun e_ => hp0_2_0_1 k_ hk (ho0_1.1 k_ e_.symm), fun e_ => hp0_2_0_3 k_ hk (ho0_3.1 k_ e_.symm)⟩))
  have HO0_3 := Aside0.mk (show Kd.R (Kd.int .i64) 3 w w0.heap.size (fun k_ => ((P0_0_ k_ ∨ P0_1_ k_ ∨ P0_2_ k_ ∨ P0_3_ k_) ∨ w.heap.size ≤ k_) ∧ some k_ ≠ (u9000_ : Value).ownBlock ∧ some k_ ≠ (u9001_ : Value).ownBlock ∧ some k_ ≠ (u9002_ : Value).ownBlock) u9003_ l0_3 from Kd.R_mono ho0_3 (fun k_ hk => ⟨(.inl (.inr (.inr (.inr hk)))), fun e_ => hp0_3_0_0 k_ hk (ho0_0.1 k_ e_.symm), fun e_ => hp0_3_0_1 k_ hk (ho0_1.1 k_ e_.symm), fun e_ => hp0_3_0_2 k_ hk (ho0_2.1 k_ e_.symm)⟩))
  have HK := Aside0.mk (Kept.refl w (fun k_ => P0_0_ k_ ∨ P0_1_ k_ ∨ P0_2_ k_ ∨ P0_3_ k_))
  have HW0 := Aside0.mk hB.size
  have HB := Aside0.mk hB
  clear hB
  have H : ((deckleref11_May.f k a1_0 a1_1 a1_2).bind fun t187 => (if t187 = true then (if a1_0 ≤ 2 then (if a1_1 ≥ (l0_0.length : Int) then (some (l0_0, l0_1, l0_2, l0_3, 110)) else (if 0 ≤ a1_1 then (if a1_1 < (l0_0.length : Int) then ((deckleref14_Put.f k l0_0 a1_1 (mx (rd l0_0 a1_1) a1_2)).bind fun t189 => (some (t189, l0_1, l0_2, l0_3, 0))) else (none)) else (none))) else (if a1_1 ≥ (l0_1.length : Int) then (deckleref14_Apply.j0 k true l0_0 l0_1 l0_2 l0_3 a1_0 a1_1 a1_2) else (if a1_1 ≥ (l0_2.length : Int) then (deckleref14_Apply.j0 k true l0_0 l0_1 l0_2 l0_3 a1_0 a1_1 a1_2) else (deckleref14_Apply.j0 k (decide (a1_1 ≥ (l0_3.length : Int))) l0_0 l0_1 l0_2 l0_3 a1_0 a1_1 a1_2)))) else (some (l0_0, l0_1, l0_2, l0_3, 110)))) = some (r1, r2, r3, r4, r5) := h
  clear h
  replace H := Option.bind_eq_some_iff.mp H
  obtain ⟨t187, A30, H⟩ := H
  replace H : (if t187 = true then (if a1_0 ≤ 2 then (if a1_1 ≥ (l0_0.length : Int) then (some (l0_0, l0_1, l0_2, l0_3, 110)) else (if 0 ≤ a1_1 then (if a1_1 < (l0_0.length : Int) then ((deckleref14_Put.f k l0_0 a1_1 (mx (rd l0_0 a1_1) a1_2)).bind fun t189 => (some (t189, l0_1, l0_2, l0_3, 0))) else (none)) else (none))) else (if a1_1 ≥ (l0_1.length : Int) then (deckleref14_Apply.j0 k true l0_0 l0_1 l0_2 l0_3 a1_0 a1_1 a1_2) else (if a1_1 ≥ (l0_2.length : Int) then (deckleref14_Apply.j0 k true l0_0 l0_1 l0_2 l0_3 a1_0 a1_1 a1_2) else (deckleref14_Apply.j0 k (decide (a1_1 ≥ (l0_3.length : Int))) l0_0 l0_1 l0_2 l0_3 a1_0 a1_1 a1_2)))) else (some (l0_0, l0_1, l0_2, l0_3, 110))) = some (r1, r2, r3, r4, r5) := H
  have A3 := Aside0.mk A30
  clear A30
  by_cases c4 : t187 = true
  · subst c4
    have H1 : (if a1_0 ≤ 2 then (if a1_1 ≥ (l0_0.length : Int) then (some (l0_0, l0_1, l0_2, l0_3, 110)) else (if 0 ≤ a1_1 then (if a1_1 < (l0_0.length : Int) then ((deckleref14_Put.f k l0_0 a1_1 (mx (rd l0_0 a1_1) a1_2)).bind fun t189 => (some (t189, l0_1, l0_2, l0_3, 0))) else (none)) else (none))) else (if a1_1 ≥ (l0_1.length : Int) then (deckleref14_Apply.j0 k true l0_0 l0_1 l0_2 l0_3 a1_0 a1_1 a1_2) else (if a1_1 ≥ (l0_2.length : Int) then (deckleref14_Apply.j0 k true l0_0 l0_1 l0_2 l0_3 a1_0 a1_1 a1_2) else (deckleref14_Apply.j0 k (decide (a1_1 ≥ (l0_3.length : Int))) l0_0 l0_1 l0_2 l0_3 a1_0 a1_1 a1_2)))) = some (r1, r2, r3, r4, r5) := by rw [if_pos rfl] at H; exact H
    clear H
    have H := H1
    clear H1
    by_cases c5 : a1_0 ≤ 2
    · rw [if_pos c5] at H
      have c5b0 : decide (a1_0 ≤ 2) = true := decide_eq_true c5
      clear c5
      by_cases c6 : a1_1 ≥ (l0_0.length : Int)
      · rw [if_pos c6] at H
        have c6b0 : decide ((l0_0.length : Int) ≤ a1_1) = true := decide_eq_true c6
        clear c6
        simp only [Option.some.injEq, Prod.mk.injEq] at H
        obtain ⟨rfl, rfl, rfl, rfl, rfl⟩ := H
        obtain ⟨Ao7, co7, eo7⟩ := Kd.R_slice HO0_0.out
        subst eo7
        obtain ⟨Ao8, co8, eo8⟩ := Kd.R_slice HO0_1.out
        subst eo8
        obtain ⟨Ao9, co9, eo9⟩ := Kd.R_slice HO0_2.out
        subst eo9
        obtain ⟨Ao10, co10, eo10⟩ := Kd.R_slice HO0_3.out
        subst eo10
        go_enter Try.func40, Try.ntmps40
        go_wp2_with (first | ((with_reducible refine gate_dst (N := 2) rfl ?_); (try (refine gate_guard (by rfl) ?_; dsimp only)); refine box_event ?hg (N := 2) ?hd (cs := #[.slice Ao7 l0_0.length co7, .slice Ao8 l0_1.length co8, .slice Ao9 l0_2.length co9, .slice Ao10 l0_3.length co10]) (t := 69) ?hr ?_; (case hd => rfl); (case hg => rfl); (case hr => first | (go_simp; done) | (go_simp; rfl)); intro gb184 hg w11 hbox hb; have n0_ := Aside0.mk (Kd.R_below (by (with_reducible repeat (first | apply Kd.R_alloc | apply Kd.R_drewN | apply Kd.R_drew)); exact HO0_0.out) hb); have n1_ := Aside0.mk (Kd.R_below (by (with_reducible repeat (first | apply Kd.R_alloc | apply Kd.R_drewN | apply Kd.R_drew)); exact HO0_1.out) hb); have n2_ := Aside0.mk (Kd.R_below (by (with_reducible repeat (first | apply Kd.R_alloc | apply Kd.R_drewN | apply Kd.R_drew)); exact HO0_2.out) hb); have n3_ := Aside0.mk (Kd.R_below (by (with_reducible repeat (first | apply Kd.R_alloc | apply Kd.R_drewN | apply Kd.R_drew)); exact HO0_3.out) hb); have n4_ := Aside0.mk (Kept.below (S := (fun k_ => P0_0_ k_ ∨ P0_1_ k_ ∨ P0_2_ k_ ∨ P0_3_ k_)) (by repeat (first | (with_reducible first | exact HK.out | apply Kept.alloc | apply Kept.drewN | apply Kept.drew) | exact HK.out)) hb); have n5_ := Aside0.mk (below_step (by repeat (first | (with_reducible first | exact HB.out | apply below_alloc | apply pw_below_drewN | apply below_drew1) | exact HB.out)) hb); have n6_ := Aside0.mk (hbox); have n7_ := Aside0.mk ((by rw [hg]; exact (by first | exact HK.out.1 | exact (show Kept w _ (fun k_ => P0_0_ k_ ∨ P0_1_ k_ ∨ P0_2_ k_ ∨ P0_3_ k_) from by repeat (first | (with_reducible first | exact HK.out | apply Kept.alloc | apply Kept.drewN | apply Kept.drew) | exact HK.out)).1) : w.heap.size ≤ gb184)); have n8_ := Aside0.mk ((by rw [hg]; exact (below_size (by repeat (first | (with_reducible first | exact HB.out | apply below_alloc | apply pw_below_drewN | apply below_drew1) | exact HB.out))) : w0.heap.size ≤ gb184)); clear HO0_0; clear HO0_1; clear HO0_2; clear HO0_3; clear HK; clear HB; have HO0_0 := n0_; have HO0_1 := n1_; have HO0_2 := n2_; have HO0_3 := n3_; have HK := n4_; have HB := n5_; have BK184 := n6_; have GW184 := n7_; have GE184 := n8_; clear n0_ n1_ n2_ n3_ n4_ n5_ n6_ n7_ n8_; clear hb hbox hg) | ((with_reducible refine gate_dst (N := 3) rfl ?_); (try (refine gate_guard (by rfl) ?_; dsimp only)); refine box_event ?hg (N := 3) ?hd (cs := #[.int .i64 a1_0, .int .i64 a1_1, .int .i64 a1_2]) (t := 73) ?hr ?_; (case hd => rfl); (case hg => rfl); (case hr => first | (go_simp; done) | (go_simp; rfl)); intro gb185 hg w12 hbox hb; have n0_ := Aside0.mk (Kd.R_below (by (with_reducible repeat (first | apply Kd.R_alloc | apply Kd.R_drewN | apply Kd.R_drew)); exact HO0_0.out) hb); have n1_ := Aside0.mk (Kd.R_below (by (with_reducible repeat (first | apply Kd.R_alloc | apply Kd.R_drewN | apply Kd.R_drew)); exact HO0_1.out) hb); have n2_ := Aside0.mk (Kd.R_below (by (with_reducible repeat (first | apply Kd.R_alloc | apply Kd.R_drewN | apply Kd.R_drew)); exact HO0_2.out) hb); have n3_ := Aside0.mk (Kd.R_below (by (with_reducible repeat (first | apply Kd.R_alloc | apply Kd.R_drewN | apply Kd.R_drew)); exact HO0_3.out) hb); have n4_ := Aside0.mk (blk_below (g := gb184) (o := .cells #[.slice Ao7 l0_0.length co7, .slice Ao8 l0_1.length co8, .slice Ao9 l0_2.length co9, .slice Ao10 l0_3.length co10] 69 (0, 0)) (by (with_reducible repeat (first | refine blk_drewN ?_ _ | refine blk_drew ?_ | refine blk_alloc ?_ _)); exact BK184.out) hb); have n5_ := Aside0.mk (Kept.below (S := (fun k_ => P0_0_ k_ ∨ P0_1_ k_ ∨ P0_2_ k_ ∨ P0_3_ k_)) (by repeat (first | (with_reducible first | exact HK.out | apply Kept.alloc | apply Kept.drewN | apply Kept.drew | refine Kept.setCell ?_ (.inr GW184.out) _) | exact HK.out)) hb); have n6_ := Aside0.mk (below_step (by repeat (first | (with_reducible first | exact HB.out | apply below_alloc | apply pw_below_drewN | apply below_drew1 | refine below_set ?_ GE184.out) | exact HB.out)) hb); have n7_ := Aside0.mk (hbox); have n8_ := Aside0.mk ((by rw [hg]; exact (by first | exact HK.out.1 | exact (show Kept w _ (fun k_ => P0_0_ k_ ∨ P0_1_ k_ ∨ P0_2_ k_ ∨ P0_3_ k_) from by repeat (first | (with_reducible first | exact HK.out | apply Kept.alloc | apply Kept.drewN | apply Kept.drew | refine Kept.setCell ?_ (.inr GW184.out) _) | exact HK.out)).1) : w.heap.size ≤ gb185)); have n9_ := Aside0.mk ((by rw [hg]; exact (below_size (by repeat (first | (with_reducible first | exact HB.out | apply below_alloc | apply pw_below_drewN | apply below_drew1 | refine below_set ?_ GE184.out) | exact HB.out))) : w0.heap.size ≤ gb185)); have n10_ := Aside0.mk ((by rw [hg]; exact Nat.ne_of_lt (blk_lt (g := gb184) (o := .cells #[.slice Ao7 l0_0.length co7, .slice Ao8 l0_1.length co8, .slice Ao9 l0_2.length co9, .slice Ao10 l0_3.length co10] 69 (0, 0)) (by (with_reducible repeat (first | refine blk_drewN ?_ _ | refine blk_drew ?_ | refine blk_alloc ?_ _)); exact BK184.out)) : gb184 ≠ gb185)); have n11_ := Aside0.mk ((by rw [hg]; exact Nat.ne_of_gt (blk_lt (g := gb184) (o := .cells #[.slice Ao7 l0_0.length co7, .slice Ao8 l0_1.length co8, .slice Ao9 l0_2.length co9, .slice Ao10 l0_3.length co10] 69 (0, 0)) (by (with_reducible repeat (first | refine blk_drewN ?_ _ | refine blk_drew ?_ | refine blk_alloc ?_ _)); exact BK184.out)) : gb185 ≠ gb184)); clear HO0_0; clear HO0_1; clear HO0_2; clear HO0_3; clear BK184; clear HK; clear HB; have HO0_0 := n0_; have HO0_1 := n1_; have HO0_2 := n2_; have HO0_3 := n3_; have BK184 := n4_; have HK := n5_; have HB := n6_; have BK185 := n7_; have GW185 := n8_; have GE185 := n9_; have NB184_185 := n10_; have NB185_184 := n11_; clear n0_ n1_ n2_ n3_ n4_ n5_ n6_ n7_ n8_ n9_ n10_ n11_; clear hb hbox hg) | ((with_reducible refine gate_dst (N := 4) rfl ?_); (try (refine gate_guard (by rfl) ?_; dsimp only)); refine box_event ?hg (N := 4) ?hd (cs := #[.slice none 0 0, .slice none 0 0, .slice none 0 0, .slice none 0 0]) (t := 69) ?hr ?_; (case hd => rfl); (case hg => rfl); (case hr => first | (go_simp; done) | (go_simp; rfl)); intro gb186 hg w13 hbox hb; have n0_ := Aside0.mk (Kd.R_below (by (with_reducible repeat (first | apply Kd.R_alloc | apply Kd.R_drewN | apply Kd.R_drew)); exact HO0_0.out) hb); have n1_ := Aside0.mk (Kd.R_below (by (with_reducible repeat (first | apply Kd.R_alloc | apply Kd.R_drewN | apply Kd.R_drew)); exact HO0_1.out) hb); have n2_ := Aside0.mk (Kd.R_below (by (with_reducible repeat (first | apply Kd.R_alloc | apply Kd.R_drewN | apply Kd.R_drew)); exact HO0_2.out) hb); have n3_ := Aside0.mk (Kd.R_below (by (with_reducible repeat (first | apply Kd.R_alloc | apply Kd.R_drewN | apply Kd.R_drew)); exact HO0_3.out) hb); have n4_ := Aside0.mk (blk_below (g := gb184) (o := .cells #[.slice Ao7 l0_0.length co7, .slice Ao8 l0_1.length co8, .slice Ao9 l0_2.length co9, .slice Ao10 l0_3.length co10] 69 (0, 0)) (by (with_reducible repeat (first | refine blk_drewN ?_ _ | refine blk_drew ?_ | refine blk_alloc ?_ _)); exact BK184.out) hb); have n5_ := Aside0.mk (blk_below (g := gb185) (o := .cells #[.int .i64 a1_0, .int .i64 a1_1, .int .i64 a1_2] 73 (0, 0)) (by (with_reducible repeat (first | refine blk_drewN ?_ _ | refine blk_drew ?_ | refine blk_alloc ?_ _)); exact BK185.out) hb); have n6_ := Aside0.mk (Kept.below (S := (fun k_ => P0_0_ k_ ∨ P0_1_ k_ ∨ P0_2_ k_ ∨ P0_3_ k_)) (by repeat (first | (with_reducible first | exact HK.out | apply Kept.alloc | apply Kept.drewN | apply Kept.drew | refine Kept.setCell ?_ (.inr GW184.out) _ | refine Kept.setCell ?_ (.inr GW185.out) _) | exact HK.out)) hb); have n7_ := Aside0.mk (below_step (by repeat (first | (with_reducible first | exact HB.out | apply below_alloc | apply pw_below_drewN | apply below_drew1 | refine below_set ?_ GE184.out | refine below_set ?_ GE185.out) | exact HB.out)) hb); have n8_ := Aside0.mk (hbox); have n9_ := Aside0.mk ((by rw [hg]; exact (by first | exact HK.out.1 | exact (show Kept w _ (fun k_ => P0_0_ k_ ∨ P0_1_ k_ ∨ P0_2_ k_ ∨ P0_3_ k_) from by repeat (first | (with_reducible first | exact HK.out | apply Kept.alloc | apply Kept.drewN | apply Kept.drew | refine Kept.setCell ?_ (.inr GW184.out) _ | refine Kept.setCell ?_ (.inr GW185.out) _) | exact HK.out)).1) : w.heap.size ≤ gb186)); have n10_ := Aside0.mk ((by rw [hg]; exact (below_size (by repeat (first | (with_reducible first | exact HB.out | apply below_alloc | apply pw_below_drewN | apply below_drew1 | refine below_set ?_ GE184.out | refine below_set ?_ GE185.out) | exact HB.out))) : w0.heap.size ≤ gb186)); have n11_ := Aside0.mk ((by rw [hg]; exact Nat.ne_of_lt (blk_lt (g := gb184) (o := .cells #[.slice Ao7 l0_0.length co7, .slice Ao8 l0_1.length co8, .slice Ao9 l0_2.length co9, .slice Ao10 l0_3.length co10] 69 (0, 0)) (by (with_reducible repeat (first | refine blk_drewN ?_ _ | refine blk_drew ?_ | refine blk_alloc ?_ _)); exact BK184.out)) : gb184 ≠ gb186)); have n12_ := Aside0.mk ((by rw [hg]; exact Nat.ne_of_gt (blk_lt (g := gb184) (o := .cells #[.slice Ao7 l0_0.length co7, .slice Ao8 l0_1.length co8, .slice Ao9 l0_2.length co9, .slice Ao10 l0_3.length co10] 69 (0, 0)) (by (with_reducible repeat (first | refine blk_drewN ?_ _ | refine blk_drew ?_ | refine blk_alloc ?_ _)); exact BK184.out)) : gb186 ≠ gb184)); have n13_ := Aside0.mk ((by rw [hg]; exact Nat.ne_of_lt (blk_lt (g := gb185) (o := .cells #[.int .i64 a1_0, .int .i64 a1_1, .int .i64 a1_2] 73 (0, 0)) (by (with_reducible repeat (first | refine blk_drewN ?_ _ | refine blk_drew ?_ | refine blk_alloc ?_ _)); exact BK185.out)) : gb185 ≠ gb186)); have n14_ := Aside0.mk ((by rw [hg]; exact Nat.ne_of_gt (blk_lt (g := gb185) (o := .cells #[.int .i64 a1_0, .int .i64 a1_1, .int .i64 a1_2] 73 (0, 0)) (by (with_reducible repeat (first | refine blk_drewN ?_ _ | refine blk_drew ?_ | refine blk_alloc ?_ _)); exact BK185.out)) : gb186 ≠ gb185)); clear HO0_0; clear HO0_1; clear HO0_2; clear HO0_3; clear BK184; clear BK185; clear HK; clear HB; have HO0_0 := n0_; have HO0_1 := n1_; have HO0_2 := n2_; have HO0_3 := n3_; have BK184 := n4_; have BK185 := n5_; have HK := n6_; have HB := n7_; have BK186 := n8_; have GW186 := n9_; have GE186 := n10_; have NB184_186 := n11_; have NB186_184 := n12_; have NB185_186 := n13_; have NB186_185 := n14_; clear n0_ n1_ n2_ n3_ n4_ n5_ n6_ n7_ n8_ n9_ n10_ n11_ n12_ n13_ n14_; clear hb hbox hg; have hnb14 := NB185_184.out; have hnc14 := NB184_185.out; have hnb15 := NB185_186.out; have hnc15 := NB186_185.out; have hcz16_0 : w13.cell? ⟨gb185, 0, none⟩ = some (.int .i64 a1_0) := (blk_cell BK185.out 0).trans rfl; have hcz16_1 : w13.cell? ⟨gb185, 1, none⟩ = some (.int .i64 a1_1) := (blk_cell BK185.out 1).trans rfl; have hcz16_2 : w13.cell? ⟨gb185, 2, none⟩ = some (.int .i64 a1_2) := (blk_cell BK185.out 2).trans rfl; have hfz16_0 := blk_frozen BK185.out 0; have hfz16_1 := blk_frozen BK185.out 1; have hfz16_2 := blk_frozen BK185.out 2) | ((with_reducible refine gate_callee (f := 66) rfl ?_); refine goesL_ (some 7) rfl rfl Try.func66 (by kernel_rfl) rfl #[.agg #[.int .i64 a1_0, .int .i64 a1_1, .int .i64 a1_2]] rfl (by (try simp only [List.map_toArray, List.map_cons, List.map_nil]); first | done | rfl | (simp only [List.length_drop, List.length_take]; rfl)) ?_; (with_reducible refine (deckleref11_May.calls k a1_0 a1_1 a1_2 true _ A3.out).mono ?_); rintro e w17 ⟨rfl, hb⟩; refine ⟨_, rfl, ?_⟩; have n0_ := Aside0.mk (Kd.R_below (by (with_reducible repeat (first | apply Kd.R_alloc | apply Kd.R_drewN | apply Kd.R_drew)); exact HO0_0.out) hb); have n1_ := Aside0.mk (Kd.R_below (by (with_reducible repeat (first | apply Kd.R_alloc | apply Kd.R_drewN | apply Kd.R_drew)); exact HO0_1.out) hb); have n2_ := Aside0.mk (Kd.R_below (by (with_reducible repeat (first | apply Kd.R_alloc | apply Kd.R_drewN | apply Kd.R_drew)); exact HO0_2.out) hb); have n3_ := Aside0.mk (Kd.R_below (by (with_reducible repeat (first | apply Kd.R_alloc | apply Kd.R_drewN | apply Kd.R_drew)); exact HO0_3.out) hb); have n4_ := Aside0.mk (blk_below (g := gb184) (o := .cells #[.slice Ao7 l0_0.length co7, .slice Ao8 l0_1.length co8, .slice Ao9 l0_2.length co9, .slice Ao10 l0_3.length co10] 69 (0, 0)) (by (with_reducible repeat (first | refine blk_drewN ?_ _ | refine blk_drew ?_ | refine blk_alloc ?_ _)); exact BK184.out) hb); have n5_ := Aside0.mk (blk_below (g := gb185) (o := .cells #[.int .i64 a1_0, .int .i64 a1_1, .int .i64 a1_2] 73 (0, 0)) (by (with_reducible repeat (first | refine blk_drewN ?_ _ | refine blk_drew ?_ | refine blk_alloc ?_ _)); exact BK185.out) hb); have n6_ := Aside0.mk (blk_below (g := gb186) (o := .cells #[.slice none 0 0, .slice none 0 0, .slice none 0 0, .slice none 0 0] 69 (0, 0)) (by (with_reducible repeat (first | refine blk_drewN ?_ _ | refine blk_drew ?_ | refine blk_alloc ?_ _)); exact BK186.out) hb); have n7_ := Aside0.mk (Kept.below (S := (fun k_ => P0_0_ k_ ∨ P0_1_ k_ ∨ P0_2_ k_ ∨ P0_3_ k_)) (by repeat (first | (with_reducible first | exact HK.out | apply Kept.alloc | apply Kept.drewN | apply Kept.drew | refine Kept.setCell ?_ (.inr GW184.out) _ | refine Kept.setCell ?_ (.inr GW185.out) _ | refine Kept.setCell ?_ (.inr GW186.out) _) | exact HK.out)) hb); have n8_ := Aside0.mk (below_step (by repeat (first | (with_reducible first | exact HB.out | apply below_alloc | apply pw_below_drewN | apply below_drew1 | refine below_set ?_ GE184.out | refine below_set ?_ GE185.out | refine below_set ?_ GE186.out) | exact HB.out)) hb); clear HO0_0; clear HO0_1; clear HO0_2; clear HO0_3; clear BK184; clear BK185; clear BK186; clear HK; clear HB; have HO0_0 := n0_; have HO0_1 := n1_; have HO0_2 := n2_; have HO0_3 := n3_; have BK184 := n4_; have BK185 := n5_; have BK186 := n6_; have HK := n7_; have HB := n8_; clear n0_ n1_ n2_ n3_ n4_ n5_ n6_ n7_ n8_; (try clear hb); (try clear hb2); (try clear hk); (try clear hi); have hcz18_0 : w17.cell? ⟨gb185, 0, none⟩ = some (.int .i64 a1_0) := (blk_cell BK185.out 0).trans rfl; have hcz18_1 : w17.cell? ⟨gb185, 1, none⟩ = some (.int .i64 a1_1) := (blk_cell BK185.out 1).trans rfl; have hcz18_2 : w17.cell? ⟨gb185, 2, none⟩ = some (.int .i64 a1_2) := (blk_cell BK185.out 2).trans rfl; have hfz18_0 := blk_frozen BK185.out 0; have hfz18_1 := blk_frozen BK185.out 1; have hfz18_2 := blk_frozen BK185.out 2; have hnb19 := NB184_186.out; have hnc19 := NB186_184.out; have hcz20_0 : w17.cell? ⟨gb184, 0, none⟩ = some (.slice Ao7 l0_0.length co7) := (blk_cell BK184.out 0).trans rfl; have hcz20_1 : w17.cell? ⟨gb184, 1, none⟩ = some (.slice Ao8 l0_1.length co8) := (blk_cell BK184.out 1).trans rfl; have hcz20_2 : w17.cell? ⟨gb184, 2, none⟩ = some (.slice Ao9 l0_2.length co9) := (blk_cell BK184.out 2).trans rfl; have hcz20_3 : w17.cell? ⟨gb184, 3, none⟩ = some (.slice Ao10 l0_3.length co10) := (blk_cell BK184.out 3).trans rfl; have hfz20_0 := blk_frozen BK184.out 0; have hfz20_1 := blk_frozen BK184.out 1; have hfz20_2 := blk_frozen BK184.out 2; have hfz20_3 := blk_frozen BK184.out 3; have hcz21_0 : w17.cell? ⟨gb186, 0, none⟩ = some (.slice none 0 0) := (blk_cell BK186.out 0).trans rfl; have hcz21_1 : w17.cell? ⟨gb186, 1, none⟩ = some (.slice none 0 0) := (blk_cell BK186.out 1).trans rfl; have hcz21_2 : w17.cell? ⟨gb186, 2, none⟩ = some (.slice none 0 0) := (blk_cell BK186.out 2).trans rfl; have hcz21_3 : w17.cell? ⟨gb186, 3, none⟩ = some (.slice none 0 0) := (blk_cell BK186.out 3).trans rfl; have hfz21_0 := blk_frozen BK186.out 0; have hfz21_1 := blk_frozen BK186.out 1; have hfz21_2 := blk_frozen BK186.out 2; have hfz21_3 := blk_frozen BK186.out 3))
        refine bodyPost_ret (results_ct rfl _ _ gb186 69 #[.slice Ao7 l0_0.length co7, .slice Ao8 l0_1.length co8, .slice Ao9 l0_2.length co9, .slice Ao10 l0_3.length co10] (0, 0) _ rfl (by (with_reducible repeat (first | refine blk_drewN ?_ _ | refine blk_drew ?_ | refine blk_alloc ?_ _)); refine blk_put (cs := #[.slice Ao7 l0_0.length co7, .slice Ao8 l0_1.length co8, .slice Ao9 l0_2.length co9, .slice none 0 0]) ?_ 3 _ rfl; (with_reducible repeat (first | refine blk_drewN ?_ _ | refine blk_drew ?_ | refine blk_alloc ?_ _)); refine blk_put (cs := #[.slice Ao7 l0_0.length co7, .slice Ao8 l0_1.length co8, .slice none 0 0, .slice none 0 0]) ?_ 2 _ rfl; (with_reducible repeat (first | refine blk_drewN ?_ _ | refine blk_drew ?_ | refine blk_alloc ?_ _)); refine blk_put (cs := #[.slice Ao7 l0_0.length co7, .slice none 0 0, .slice none 0 0, .slice none 0 0]) ?_ 1 _ rfl; (with_reducible repeat (first | refine blk_drewN ?_ _ | refine blk_drew ?_ | refine blk_alloc ?_ _)); refine blk_put (cs := #[.slice none 0 0, .slice none 0 0, .slice none 0 0, .slice none 0 0]) ?_ 0 _ rfl; (with_reducible repeat (first | refine blk_drewN ?_ _ | refine blk_drew ?_ | refine blk_alloc ?_ _)); exact BK186.out) Try.underlying69 rfl (by kernel_rfl)) rfl ?_
        exact ⟨_, _, _, _, by first | rfl | (simp [errW_none, errW_some] <;> rfl) | (simp [*, errW_none, errW_some] <;> rfl), by (with_reducible repeat (first | apply Kd.R_alloc | apply Kd.R_drewN | apply Kd.R_drew)); exact Kd.R_mono (Kd.R_far (p := ⟨gb186, 3, none⟩) (Kd.R_far (p := ⟨gb186, 2, none⟩) (Kd.R_far (p := ⟨gb186, 1, none⟩) (Kd.R_far (p := ⟨gb186, 0, none⟩) (Kd.R_types HO0_0.out BK186.out (by decide)) (fun _ hk => hk.2) (.slice Ao7 l0_0.length co7)) (fun _ hk => hk.2) (.slice Ao8 l0_1.length co8)) (fun _ hk => hk.2) (.slice Ao9 l0_2.length co9)) (fun _ hk => hk.2) (.slice Ao10 l0_3.length co10)) (fun _ hk => ⟨hk.1.1, ⟨hk.1.2.1, ⟨hk.1.2.2.1, hk.1.2.2.2⟩⟩⟩), by (with_reducible repeat (first | apply Kd.R_alloc | apply Kd.R_drewN | apply Kd.R_drew)); exact Kd.R_mono (Kd.R_far (p := ⟨gb186, 3, none⟩) (Kd.R_far (p := ⟨gb186, 2, none⟩) (Kd.R_far (p := ⟨gb186, 1, none⟩) (Kd.R_far (p := ⟨gb186, 0, none⟩) (Kd.R_types HO0_1.out BK186.out (by decide)) (fun _ hk => hk.2) (.slice Ao7 l0_0.length co7)) (fun _ hk => hk.2) (.slice Ao8 l0_1.length co8)) (fun _ hk => hk.2) (.slice Ao9 l0_2.length co9)) (fun _ hk => hk.2) (.slice Ao10 l0_3.length co10)) (fun _ hk => ⟨hk.1.1, ⟨hk.1.2.1, ⟨hk.1.2.2.1, hk.1.2.2.2⟩⟩⟩), by (with_reducible repeat (first | apply Kd.R_alloc | apply Kd.R_drewN | apply Kd.R_drew)); exact Kd.R_mono (Kd.R_far (p := ⟨gb186, 3, none⟩) (Kd.R_far (p := ⟨gb186, 2, none⟩) (Kd.R_far (p := ⟨gb186, 1, none⟩) (Kd.R_far (p := ⟨gb186, 0, none⟩) (Kd.R_types HO0_2.out BK186.out (by decide)) (fun _ hk => hk.2) (.slice Ao7 l0_0.length co7)) (fun _ hk => hk.2) (.slice Ao8 l0_1.length co8)) (fun _ hk => hk.2) (.slice Ao9 l0_2.length co9)) (fun _ hk => hk.2) (.slice Ao10 l0_3.length co10)) (fun _ hk => ⟨hk.1.1, ⟨hk.1.2.1, ⟨hk.1.2.2.1, hk.1.2.2.2⟩⟩⟩), by (with_reducible repeat (first | apply Kd.R_alloc | apply Kd.R_drewN | apply Kd.R_drew)); exact Kd.R_mono (Kd.R_far (p := ⟨gb186, 3, none⟩) (Kd.R_far (p := ⟨gb186, 2, none⟩) (Kd.R_far (p := ⟨gb186, 1, none⟩) (Kd.R_far (p := ⟨gb186, 0, none⟩) (Kd.R_types HO0_3.out BK186.out (by decide)) (fun _ hk => hk.2) (.slice Ao7 l0_0.length co7)) (fun _ hk => hk.2) (.slice Ao8 l0_1.length co8)) (fun _ hk => hk.2) (.slice Ao9 l0_2.length co9)) (fun _ hk => hk.2) (.slice Ao10 l0_3.length co10)) (fun _ hk => ⟨hk.1.1, ⟨hk.1.2.1, ⟨hk.1.2.2.1, hk.1.2.2.2⟩⟩⟩), by repeat (first | (with_reducible first | exact HB.out | apply below_alloc | apply pw_below_drewN | apply below_drew1 | refine below_set ?_ GE184.out | refine below_set ?_ GE185.out | refine below_set ?_ GE186.out) | exact HB.out), by repeat (first | (with_reducible first | exact HK.out | apply Kept.alloc | apply Kept.drewN | apply Kept.drew | refine Kept.setCell ?_ (.inr GW184.out) _ | refine Kept.setCell ?_ (.inr GW185.out) _ | refine Kept.setCell ?_ (.inr GW186.out) _) | exact HK.out)⟩
      · rw [if_neg c6] at H
        have c6b0 : decide ((l0_0.length : Int) ≤ a1_1) = false := decide_eq_false c6
        clear c6
        by_cases c22 : 0 ≤ a1_1
        · rw [if_pos c22] at H
          have c22b0 : decide (0 ≤ a1_1) = true := decide_eq_true c22
          clear c22
          by_cases c23 : a1_1 < (l0_0.length : Int)
          · rw [if_pos c23] at H
            have c23b0 : decide (a1_1 < (l0_0.length : Int)) = true := decide_eq_true c23
            clear c23
            obtain ⟨ji24, hji24⟩ : ∃ j_ : Int, (mx (rd l0_0 a1_1) a1_2) = j_ := ⟨_, rfl⟩
            replace H : ((deckleref14_Put.f k l0_0 a1_1 (ji24)).bind fun t189 => (some (t189, l0_1, l0_2, l0_3, 0))) = some (r1, r2, r3, r4, r5) := by first | (rw [hji24] at H; exact H) | (simp only [hji24] at H ⊢; exact H)
            (try rw [hji24] at A3)
            have hji24_ : (if (rd l0_0 a1_1) < a1_2 then a1_2 else (rd l0_0 a1_1)) = ji24 := hji24
            replace H := Option.bind_eq_some_iff.mp H
            obtain ⟨t189, A250, H⟩ := H
            replace H : (some (t189, l0_1, l0_2, l0_3, 0)) = some (r1, r2, r3, r4, r5) := H
            have A25 := Aside0.mk A250
            clear A250
            simp only [Option.some.injEq, Prod.mk.injEq] at H
            obtain ⟨rfl, rfl, rfl, rfl, rfl⟩ := H
            obtain ⟨Ao26, co26, eo26⟩ := Kd.R_slice HO0_0.out
            subst eo26
            obtain ⟨Ao27, co27, eo27⟩ := Kd.R_slice HO0_1.out
            subst eo27
            obtain ⟨Ao28, co28, eo28⟩ := Kd.R_slice HO0_2.out
            subst eo28
            obtain ⟨Ao29, co29, eo29⟩ := Kd.R_slice HO0_3.out
            subst eo29
            go_enter Try.func40, Try.ntmps40
            try go_wp2_with (first | ((with_reducible refine gate_dst (N := 2) rfl ?_); (try (refine gate_guard (by rfl) ?_; dsimp only)); refine box_event ?hg (N := 2) ?hd (cs := #[.slice Ao26 l0_0.length co26, .slice Ao27 l0_1.length co27, .slice Ao28 l0_2.length co28, .slice Ao29 l0_3.length co29]) (t := 69) ?hr ?_; (case hd => rfl); (case hg => rfl); (case hr => first | (go_simp; done) | (go_simp; rfl)); intro gb184 hg w30 hbox hb; have n0_ := Aside0.mk (Kd.R_below (by (with_reducible repeat (first | apply Kd.R_alloc | apply Kd.R_drewN | apply Kd.R_drew)); exact HO0_0.out) hb); have n1_ := Aside0.mk (Kd.R_below (by (with_reducible repeat (first | apply Kd.R_alloc | apply Kd.R_drewN | apply Kd.R_drew)); exact HO0_1.out) hb); have n2_ := Aside0.mk (Kd.R_below (by (with_reducible repeat (first | apply Kd.R_alloc | apply Kd.R_drewN | apply Kd.R_drew)); exact HO0_2.out) hb); have n3_ := Aside0.mk (Kd.R_below (by (with_reducible repeat (first | apply Kd.R_alloc | apply Kd.R_drewN | apply Kd.R_drew)); exact HO0_3.out) hb); have n4_ := Aside0.mk (Kept.below (S := (fun k_ => P0_0_ k_ ∨ P0_1_ k_ ∨ P0_2_ k_ ∨ P0_3_ k_)) (by repeat (first | (with_reducible first | exact HK.out | apply Kept.alloc | apply Kept.drewN | apply Kept.drew) | exact HK.out)) hb); have n5_ := Aside0.mk (below_step (by repeat (first | (with_reducible first | exact HB.out | apply below_alloc | apply pw_below_drewN | apply below_drew1) | exact HB.out)) hb); have n6_ := Aside0.mk (hbox); have n7_ := Aside0.mk ((by rw [hg]; exact (by first | exact HK.out.1 | exact (show Kept w _ (fun k_ => P0_0_ k_ ∨ P0_1_ k_ ∨ P0_2_ k_ ∨ P0_3_ k_) from by repeat (first | (with_reducible first | exact HK.out | apply Kept.alloc | apply Kept.drewN | apply Kept.drew) | exact HK.out)).1) : w.heap.size ≤ gb184)); have n8_ := Aside0.mk ((by rw [hg]; exact (below_size (by repeat (first | (with_reducible first | exact HB.out | apply below_alloc | apply pw_below_drewN | apply below_drew1) | exact HB.out))) : w0.heap.size ≤ gb184)); clear HO0_0; clear HO0_1; clear HO0_2; clear HO0_3; clear HK; clear HB; have HO0_0 := n0_; have HO0_1 := n1_; have HO0_2 := n2_; have HO0_3 := n3_; have HK := n4_; have HB := n5_; have BK184 := n6_; have GW184 := n7_; have GE184 := n8_; clear n0_ n1_ n2_ n3_ n4_ n5_ n6_ n7_ n8_; clear hb hbox hg) | ((with_reducible refine gate_dst (N := 3) rfl ?_); (try (refine gate_guard (by rfl) ?_; dsimp only)); refine box_event ?hg (N := 3) ?hd (cs := #[.int .i64 a1_0, .int .i64 a1_1, .int .i64 a1_2]) (t := 73) ?hr ?_; (case hd => rfl); (case hg => rfl); (case hr => first | (go_simp; done) | (go_simp; rfl)); intro gb185 hg w31 hbox hb; have n0_ := Aside0.mk (Kd.R_below (by (with_reducible repeat (first | apply Kd.R_alloc | apply Kd.R_drewN | apply Kd.R_drew)); exact HO0_0.out) hb); have n1_ := Aside0.mk (Kd.R_below (by (with_reducible repeat (first | apply Kd.R_alloc | apply Kd.R_drewN | apply Kd.R_drew)); exact HO0_1.out) hb); have n2_ := Aside0.mk (Kd.R_below (by (with_reducible repeat (first | apply Kd.R_alloc | apply Kd.R_drewN | apply Kd.R_drew)); exact HO0_2.out) hb); have n3_ := Aside0.mk (Kd.R_below (by (with_reducible repeat (first | apply Kd.R_alloc | apply Kd.R_drewN | apply Kd.R_drew)); exact HO0_3.out) hb); have n4_ := Aside0.mk (blk_below (g := gb184) (o := .cells #[.slice Ao26 l0_0.length co26, .slice Ao27 l0_1.length co27, .slice Ao28 l0_2.length co28, .slice Ao29 l0_3.length co29] 69 (0, 0)) (by (with_reducible repeat (first | refine blk_drewN ?_ _ | refine blk_drew ?_ | refine blk_alloc ?_ _)); exact BK184.out) hb); have n5_ := Aside0.mk (Kept.below (S := (fun k_ => P0_0_ k_ ∨ P0_1_ k_ ∨ P0_2_ k_ ∨ P0_3_ k_)) (by repeat (first | (with_reducible first | exact HK.out | apply Kept.alloc | apply Kept.drewN | apply Kept.drew | refine Kept.setCell ?_ (.inr GW184.out) _) | exact HK.out)) hb); have n6_ := Aside0.mk (below_step (by repeat (first | (with_reducible first | exact HB.out | apply below_alloc | apply pw_below_drewN | apply below_drew1 | refine below_set ?_ GE184.out) | exact HB.out)) hb); have n7_ := Aside0.mk (hbox); have n8_ := Aside0.mk ((by rw [hg]; exact (by first | exact HK.out.1 | exact (show Kept w _ (fun k_ => P0_0_ k_ ∨ P0_1_ k_ ∨ P0_2_ k_ ∨ P0_3_ k_) from by repeat (first | (with_reducible first | exact HK.out | apply Kept.alloc | apply Kept.drewN | apply Kept.drew | refine Kept.setCell ?_ (.inr GW184.out) _) | exact HK.out)).1) : w.heap.size ≤ gb185)); have n9_ := Aside0.mk ((by rw [hg]; exact (below_size (by repeat (first | (with_reducible first | exact HB.out | apply below_alloc | apply pw_below_drewN | apply below_drew1 | refine below_set ?_ GE184.out) | exact HB.out))) : w0.heap.size ≤ gb185)); have n10_ := Aside0.mk ((by rw [hg]; exact Nat.ne_of_lt (blk_lt (g := gb184) (o := .cells #[.slice Ao26 l0_0.length co26, .slice Ao27 l0_1.length co27, .slice Ao28 l0_2.length co28, .slice Ao29 l0_3.length co29] 69 (0, 0)) (by (with_reducible repeat (first | refine blk_drewN ?_ _ | refine blk_drew ?_ | refine blk_alloc ?_ _)); exact BK184.out)) : gb184 ≠ gb185)); have n11_ := Aside0.mk ((by rw [hg]; exact Nat.ne_of_gt (blk_lt (g := gb184) (o := .cells #[.slice Ao26 l0_0.length co26, .slice Ao27 l0_1.length co27, .slice Ao28 l0_2.length co28, .slice Ao29 l0_3.length co29] 69 (0, 0)) (by (with_reducible repeat (first | refine blk_drewN ?_ _ | refine blk_drew ?_ | refine blk_alloc ?_ _)); exact BK184.out)) : gb185 ≠ gb184)); clear HO0_0; clear HO0_1; clear HO0_2; clear HO0_3; clear BK184; clear HK; clear HB; have HO0_0 := n0_; have HO0_1 := n1_; have HO0_2 := n2_; have HO0_3 := n3_; have BK184 := n4_; have HK := n5_; have HB := n6_; have BK185 := n7_; have GW185 := n8_; have GE185 := n9_; have NB184_185 := n10_; have NB185_184 := n11_; clear n0_ n1_ n2_ n3_ n4_ n5_ n6_ n7_ n8_ n9_ n10_ n11_; clear hb hbox hg) | ((with_reducible refine gate_dst (N := 4) rfl ?_); (try (refine gate_guard (by rfl) ?_; dsimp only)); refine box_event ?hg (N := 4) ?hd (cs := #[.slice none 0 0, .slice none 0 0, .slice none 0 0, .slice none 0 0]) (t := 69) ?hr ?_; (case hd => rfl); (case hg => rfl); (case hr => first | (go_simp; done) | (go_simp; rfl)); intro gb186 hg w32 hbox hb; have n0_ := Aside0.mk (Kd.R_below (by (with_reducible repeat (first | apply Kd.R_alloc | apply Kd.R_drewN | apply Kd.R_drew)); exact HO0_0.out) hb); have n1_ := Aside0.mk (Kd.R_below (by (with_reducible repeat (first | apply Kd.R_alloc | apply Kd.R_drewN | apply Kd.R_drew)); exact HO0_1.out) hb); have n2_ := Aside0.mk (Kd.R_below (by (with_reducible repeat (first | apply Kd.R_alloc | apply Kd.R_drewN | apply Kd.R_drew)); exact HO0_2.out) hb); have n3_ := Aside0.mk (Kd.R_below (by (with_reducible repeat (first | apply Kd.R_alloc | apply Kd.R_drewN | apply Kd.R_drew)); exact HO0_3.out) hb); have n4_ := Aside0.mk (blk_below (g := gb184) (o := .cells #[.slice Ao26 l0_0.length co26, .slice Ao27 l0_1.length co27, .slice Ao28 l0_2.length co28, .slice Ao29 l0_3.length co29] 69 (0, 0)) (by (with_reducible repeat (first | refine blk_drewN ?_ _ | refine blk_drew ?_ | refine blk_alloc ?_ _)); exact BK184.out) hb); have n5_ := Aside0.mk (blk_below (g := gb185) (o := .cells #[.int .i64 a1_0, .int .i64 a1_1, .int .i64 a1_2] 73 (0, 0)) (by (with_reducible repeat (first | refine blk_drewN ?_ _ | refine blk_drew ?_ | refine blk_alloc ?_ _)); exact BK185.out) hb); have n6_ := Aside0.mk (Kept.below (S := (fun k_ => P0_0_ k_ ∨ P0_1_ k_ ∨ P0_2_ k_ ∨ P0_3_ k_)) (by repeat (first | (with_reducible first | exact HK.out | apply Kept.alloc | apply Kept.drewN | apply Kept.drew | refine Kept.setCell ?_ (.inr GW184.out) _ | refine Kept.setCell ?_ (.inr GW185.out) _) | exact HK.out)) hb); have n7_ := Aside0.mk (below_step (by repeat (first | (with_reducible first | exact HB.out | apply below_alloc | apply pw_below_drewN | apply below_drew1 | refine below_set ?_ GE184.out | refine below_set ?_ GE185.out) | exact HB.out)) hb); have n8_ := Aside0.mk (hbox); have n9_ := Aside0.mk ((by rw [hg]; exact (by first | exact HK.out.1 | exact (show Kept w _ (fun k_ => P0_0_ k_ ∨ P0_1_ k_ ∨ P0_2_ k_ ∨ P0_3_ k_) from by repeat (first | (with_reducible first | exact HK.out | apply Kept.alloc | apply Kept.drewN | apply Kept.drew | refine Kept.setCell ?_ (.inr GW184.out) _ | refine Kept.setCell ?_ (.inr GW185.out) _) | exact HK.out)).1) : w.heap.size ≤ gb186)); have n10_ := Aside0.mk ((by rw [hg]; exact (below_size (by repeat (first | (with_reducible first | exact HB.out | apply below_alloc | apply pw_below_drewN | apply below_drew1 | refine below_set ?_ GE184.out | refine below_set ?_ GE185.out) | exact HB.out))) : w0.heap.size ≤ gb186)); have n11_ := Aside0.mk ((by rw [hg]; exact Nat.ne_of_lt (blk_lt (g := gb184) (o := .cells #[.slice Ao26 l0_0.length co26, .slice Ao27 l0_1.length co27, .slice Ao28 l0_2.length co28, .slice Ao29 l0_3.length co29] 69 (0, 0)) (by (with_reducible repeat (first | refine blk_drewN ?_ _ | refine blk_drew ?_ | refine blk_alloc ?_ _)); exact BK184.out)) : gb184 ≠ gb186)); have n12_ := Aside0.mk ((by rw [hg]; exact Nat.ne_of_gt (blk_lt (g := gb184) (o := .cells #[.slice Ao26 l0_0.length co26, .slice Ao27 l0_1.length co27, .slice Ao28 l0_2.length co28, .slice Ao29 l0_3.length co29] 69 (0, 0)) (by (with_reducible repeat (first | refine blk_drewN ?_ _ | refine blk_drew ?_ | refine blk_alloc ?_ _)); exact BK184.out)) : gb186 ≠ gb184)); have n13_ := Aside0.mk ((by rw [hg]; exact Nat.ne_of_lt (blk_lt (g := gb185) (o := .cells #[.int .i64 a1_0, .int .i64 a1_1, .int .i64 a1_2] 73 (0, 0)) (by (with_reducible repeat (first | refine blk_drewN ?_ _ | refine blk_drew ?_ | refine blk_alloc ?_ _)); exact BK185.out)) : gb185 ≠ gb186)); have n14_ := Aside0.mk ((by rw [hg]; exact Nat.ne_of_gt (blk_lt (g := gb185) (o := .cells #[.int .i64 a1_0, .int .i64 a1_1, .int .i64 a1_2] 73 (0, 0)) (by (with_reducible repeat (first | refine blk_drewN ?_ _ | refine blk_drew ?_ | refine blk_alloc ?_ _)); exact BK185.out)) : gb186 ≠ gb185)); clear HO0_0; clear HO0_1; clear HO0_2; clear HO0_3; clear BK184; clear BK185; clear HK; clear HB; have HO0_0 := n0_; have HO0_1 := n1_; have HO0_2 := n2_; have HO0_3 := n3_; have BK184 := n4_; have BK185 := n5_; have HK := n6_; have HB := n7_; have BK186 := n8_; have GW186 := n9_; have GE186 := n10_; have NB184_186 := n11_; have NB186_184 := n12_; have NB185_186 := n13_; have NB186_185 := n14_; clear n0_ n1_ n2_ n3_ n4_ n5_ n6_ n7_ n8_ n9_ n10_ n11_ n12_ n13_ n14_; clear hb hbox hg; have hnb33 := NB185_184.out; have hnc33 := NB184_185.out; have hnb34 := NB185_186.out; have hnc34 := NB186_185.out; have hcz35_0 : w32.cell? ⟨gb185, 0, none⟩ = some (.int .i64 a1_0) := (blk_cell BK185.out 0).trans rfl; have hcz35_1 : w32.cell? ⟨gb185, 1, none⟩ = some (.int .i64 a1_1) := (blk_cell BK185.out 1).trans rfl; have hcz35_2 : w32.cell? ⟨gb185, 2, none⟩ = some (.int .i64 a1_2) := (blk_cell BK185.out 2).trans rfl; have hfz35_0 := blk_frozen BK185.out 0; have hfz35_1 := blk_frozen BK185.out 1; have hfz35_2 := blk_frozen BK185.out 2) | ((with_reducible refine gate_callee (f := 66) rfl ?_); refine goesL_ (some 7) rfl rfl Try.func66 (by kernel_rfl) rfl #[.agg #[.int .i64 a1_0, .int .i64 a1_1, .int .i64 a1_2]] rfl (by (try simp only [List.map_toArray, List.map_cons, List.map_nil]); first | done | rfl | (simp only [List.length_drop, List.length_take]; rfl)) ?_; (with_reducible refine (deckleref11_May.calls k a1_0 a1_1 a1_2 true _ A3.out).mono ?_); rintro e w36 ⟨rfl, hb⟩; refine ⟨_, rfl, ?_⟩; have n0_ := Aside0.mk (Kd.R_below (by (with_reducible repeat (first | apply Kd.R_alloc | apply Kd.R_drewN | apply Kd.R_drew)); exact HO0_0.out) hb); have n1_ := Aside0.mk (Kd.R_below (by (with_reducible repeat (first | apply Kd.R_alloc | apply Kd.R_drewN | apply Kd.R_drew)); exact HO0_1.out) hb); have n2_ := Aside0.mk (Kd.R_below (by (with_reducible repeat (first | apply Kd.R_alloc | apply Kd.R_drewN | apply Kd.R_drew)); exact HO0_2.out) hb); have n3_ := Aside0.mk (Kd.R_below (by (with_reducible repeat (first | apply Kd.R_alloc | apply Kd.R_drewN | apply Kd.R_drew)); exact HO0_3.out) hb); have n4_ := Aside0.mk (blk_below (g := gb184) (o := .cells #[.slice Ao26 l0_0.length co26, .slice Ao27 l0_1.length co27, .slice Ao28 l0_2.length co28, .slice Ao29 l0_3.length co29] 69 (0, 0)) (by (with_reducible repeat (first | refine blk_drewN ?_ _ | refine blk_drew ?_ | refine blk_alloc ?_ _)); exact BK184.out) hb); have n5_ := Aside0.mk (blk_below (g := gb185) (o := .cells #[.int .i64 a1_0, .int .i64 a1_1, .int .i64 a1_2] 73 (0, 0)) (by (with_reducible repeat (first | refine blk_drewN ?_ _ | refine blk_drew ?_ | refine blk_alloc ?_ _)); exact BK185.out) hb); have n6_ := Aside0.mk (blk_below (g := gb186) (o := .cells #[.slice none 0 0, .slice none 0 0, .slice none 0 0, .slice none 0 0] 69 (0, 0)) (by (with_reducible repeat (first | refine blk_drewN ?_ _ | refine blk_drew ?_ | refine blk_alloc ?_ _)); exact BK186.out) hb); have n7_ := Aside0.mk (Kept.below (S := (fun k_ => P0_0_ k_ ∨ P0_1_ k_ ∨ P0_2_ k_ ∨ P0_3_ k_)) (by repeat (first | (with_reducible first | exact HK.out | apply Kept.alloc | apply Kept.drewN | apply Kept.drew | refine Kept.setCell ?_ (.inr GW184.out) _ | refine Kept.setCell ?_ (.inr GW185.out) _ | refine Kept.setCell ?_ (.inr GW186.out) _) | exact HK.out)) hb); have n8_ := Aside0.mk (below_step (by repeat (first | (with_reducible first | exact HB.out | apply below_alloc | apply pw_below_drewN | apply below_drew1 | refine below_set ?_ GE184.out | refine below_set ?_ GE185.out | refine below_set ?_ GE186.out) | exact HB.out)) hb); clear HO0_0; clear HO0_1; clear HO0_2; clear HO0_3; clear BK184; clear BK185; clear BK186; clear HK; clear HB; have HO0_0 := n0_; have HO0_1 := n1_; have HO0_2 := n2_; have HO0_3 := n3_; have BK184 := n4_; have BK185 := n5_; have BK186 := n6_; have HK := n7_; have HB := n8_; clear n0_ n1_ n2_ n3_ n4_ n5_ n6_ n7_ n8_; (try clear hb); (try clear hb2); (try clear hk); (try clear hi); have hcz37_0 : w36.cell? ⟨gb185, 0, none⟩ = some (.int .i64 a1_0) := (blk_cell BK185.out 0).trans rfl; have hcz37_1 : w36.cell? ⟨gb185, 1, none⟩ = some (.int .i64 a1_1) := (blk_cell BK185.out 1).trans rfl; have hcz37_2 : w36.cell? ⟨gb185, 2, none⟩ = some (.int .i64 a1_2) := (blk_cell BK185.out 2).trans rfl; have hfz37_0 := blk_frozen BK185.out 0; have hfz37_1 := blk_frozen BK185.out 1; have hfz37_2 := blk_frozen BK185.out 2; have hnb38 := NB184_186.out; have hnc38 := NB186_184.out; have hcz39_0 : w36.cell? ⟨gb184, 0, none⟩ = some (.slice Ao26 l0_0.length co26) := (blk_cell BK184.out 0).trans rfl; have hcz39_1 : w36.cell? ⟨gb184, 1, none⟩ = some (.slice Ao27 l0_1.length co27) := (blk_cell BK184.out 1).trans rfl; have hcz39_2 : w36.cell? ⟨gb184, 2, none⟩ = some (.slice Ao28 l0_2.length co28) := (blk_cell BK184.out 2).trans rfl; have hcz39_3 : w36.cell? ⟨gb184, 3, none⟩ = some (.slice Ao29 l0_3.length co29) := (blk_cell BK184.out 3).trans rfl; have hfz39_0 := blk_frozen BK184.out 0; have hfz39_1 := blk_frozen BK184.out 1; have hfz39_2 := blk_frozen BK184.out 2; have hfz39_3 := blk_frozen BK184.out 3))
            have n0_ := Aside0.mk (Kd.R_drew HO0_0.out)
            have n1_ := Aside0.mk (Kd.R_drew HO0_1.out)
            have n2_ := Aside0.mk (Kd.R_drew HO0_2.out)
            have n3_ := Aside0.mk (Kd.R_drew HO0_3.out)
            have n4_ := Aside0.mk (blk_drew BK184.out)
            have n5_ := Aside0.mk (blk_drew BK185.out)
            have n6_ := Aside0.mk (blk_drew BK186.out)
            have n7_ := Aside0.mk (Kept.drew HK.out)
            have n8_ := Aside0.mk (below_drew1 HB.out)
            clear HO0_0
            clear HO0_1
            clear HO0_2
            clear HO0_3
            clear BK184
            clear BK185
            clear BK186
            clear HK
            clear HB
            have HO0_0 := n0_
            have HO0_1 := n1_
            have HO0_2 := n2_
            have HO0_3 := n3_
            have BK184 := n4_
            have BK185 := n5_
            have BK186 := n6_
            have HK := n7_
            have HB := n8_
            clear n0_ n1_ n2_ n3_ n4_ n5_ n6_ n7_ n8_
            have p188 : 0 ≤ (a1_1 : Int) := of_decide_eq_true (by first | (with_reducible assumption) | assumption)
            have q188 : a1_1 < (l0_0.length : Int) := of_decide_eq_true (by first | (with_reducible assumption) | assumption)
            obtain ⟨ad188, e188, hx188_0⟩ := Kd.at_int (Kd.R_reads' HO0_0.out).2.2 a1_1 p188 q188
            cases e188
            replace p188 := eq_true p188
            replace q188 := eq_true q188
            refine start_ (n := 16) (S := fun w' => w'.cell? ⟨gb184, 0, none⟩ = some (.slice (some ad188) l0_0.length co26) ∧ w'.cell? ⟨gb184, 1, none⟩ = some (.slice Ao27 l0_1.length co27) ∧ w'.cell? ⟨gb184, 2, none⟩ = some (.slice Ao28 l0_2.length co28) ∧ w'.cell? ⟨gb184, 3, none⟩ = some (.slice Ao29 l0_3.length co29) ∧ w'.cell? ⟨gb185, 0, none⟩ = some (.int .i64 a1_0) ∧ w'.cell? ⟨gb185, 1, none⟩ = some (.int .i64 a1_1) ∧ w'.cell? ⟨gb185, 2, none⟩ = some (.int .i64 a1_2) ∧ w'.cell? (ad188.add (a1_1).toNat) = some (.int .i64 (rd l0_0 a1_1))) (ds := [15]) (tfA 0 16) (by kernel_rfl) rfl rfl ⟨(blk_cell BK184.out 0).trans rfl, (blk_cell BK184.out 1).trans rfl, (blk_cell BK184.out 2).trans rfl, (blk_cell BK184.out 3).trans rfl, (blk_cell BK185.out 0).trans rfl, (blk_cell BK185.out 1).trans rfl, (blk_cell BK185.out 2).trans rfl, hx188_0⟩ (fun hHeld => ?_); refine with_tabW deckleref14_Apply.tab6 deckleref14_Apply.bits6 (fun HT_ HW_ => ?_)
            generalize w36.drew = w40 at HO0_0 HO0_1 HO0_2 HO0_3 BK184 BK185 BK186 HK HB hx188_0 hHeld ⊢
            refine pure_ (i := 0) (N := some 20) (v := ?_) (a' := ?_) (tfA 1 16) rfl rfl (any_of HT_.out (by kernel_rfl)) (fun _ _ _ h => h) (Or.inl ⟨by rfl, ?_⟩) ?_ ?_
            rotate_left; (· intro w'; go_simp; with_reducible rfl); rotate_left; (· simp only [Act.put, sib, sc0, sc1, i64_w, i32_w]; rfl); refine pure_ (i := 2) (N := some 22) (v := ?_) (a' := ?_) #[true, false, true, false, false, false, false, false, false, false, false, false, false, false, false, false] rfl rfl (any_of HT_.out (by kernel_rfl)) (fun _ _ _ h => h) (Or.inl ⟨by rfl, ?_⟩) ?_ ?_
            rotate_left; (· intro w'; go_simp; with_reducible rfl); rotate_left; (· simp only [Act.put, sib, sc0, sc1, i64_w, i32_w]; rfl); refine pure_ (i := 4) (N := some 24) (v := ?_) (a' := ?_) #[true, false, true, false, true, false, false, false, false, false, false, false, false, false, false, false] rfl rfl (any_of HT_.out (by kernel_rfl)) (fun _ _ _ h => h) (Or.inl ⟨by rfl, ?_⟩) ?_ ?_
            rotate_left; (· intro w'; go_simp; with_reducible rfl); rotate_left; (· simp only [Act.put, sib, sc0, sc1, i64_w, i32_w]; rfl); refine pure_ (i := 6) (N := some 26) (v := ?_) (a' := ?_) #[true, false, true, false, true, false, true, false, false, false, false, false, false, false, false, false] rfl rfl (any_of HT_.out (by kernel_rfl)) (fun _ _ _ h => h) (Or.inl ⟨by rfl, ?_⟩) ?_ ?_
            rotate_left; (· intro w'; go_simp; with_reducible rfl); rotate_left; (· simp only [Act.put, sib, sc0, sc1, i64_w, i32_w]; rfl); refine pure_ (i := 10) (N := some 30) (v := ?_) (a' := ?_) #[true, false, true, false, true, false, true, false, false, false, true, false, false, false, false, false] rfl rfl (any_of HT_.out (by kernel_rfl)) (fun _ _ _ h => h) (Or.inl ⟨by rfl, ?_⟩) ?_ ?_
            rotate_left; (· intro w'; go_simp; with_reducible rfl); rotate_left; (· simp only [Act.put, sib, sc0, sc1, i64_w, i32_w]; rfl); refine take_ (i := 1) (N := some 21) (v := ?_) (a' := ?_) #[true, true, true, false, true, false, true, false, false, false, true, false, false, false, false, false] rfl rfl (take_ofW HT_.out HW_.out (by kernel_rfl)) (fun _ _ _ h => h) (Or.inl ⟨by rfl, ?_⟩) hHeld ?_ ?_
            rotate_left
            · rintro w' ⟨s0, s1, s2, s3, s4, s5, s6, s7⟩
              go_simp
              with_reducible rfl
            rotate_left
            · simp only [Act.put, sib, sc0, sc1, i64_w, i32_w]
              rfl
            refine take_ (i := 3) (N := some 23) (v := ?_) (a' := ?_) #[true, true, true, true, true, false, true, false, false, false, true, false, false, false, false, false] rfl rfl (take_ofW HT_.out HW_.out (by kernel_rfl)) (fun _ _ _ h => h) (Or.inl ⟨by rfl, ?_⟩) hHeld ?_ ?_
            rotate_left
            · rintro w' ⟨s0, s1, s2, s3, s4, s5, s6, s7⟩
              go_simp
              with_reducible rfl
            rotate_left
            · simp only [Act.put, sib, sc0, sc1, i64_w, i32_w]
              rfl
            refine take_ (i := 5) (N := some 25) (v := ?_) (a' := ?_) #[true, true, true, true, true, true, true, false, false, false, true, false, false, false, false, false] rfl rfl (take_ofW HT_.out HW_.out (by kernel_rfl)) (fun _ _ _ h => h) (Or.inl ⟨by rfl, ?_⟩) hHeld ?_ ?_
            rotate_left
            · rintro w' ⟨s0, s1, s2, s3, s4, s5, s6, s7⟩
              go_simp
              with_reducible rfl
            rotate_left
            · simp only [Act.put, sib, sc0, sc1, i64_w, i32_w]
              rfl
            refine take_ (i := 7) (N := some 27) (v := ?_) (a' := ?_) #[true, true, true, true, true, true, true, true, false, false, true, false, false, false, false, false] rfl rfl (take_ofW HT_.out HW_.out (by kernel_rfl)) (fun _ _ _ h => h) (Or.inl ⟨by rfl, ?_⟩) hHeld ?_ ?_
            rotate_left
            · rintro w' ⟨s0, s1, s2, s3, s4, s5, s6, s7⟩
              go_simp
              with_reducible rfl
            rotate_left
            · simp only [Act.put, sib, sc0, sc1, i64_w, i32_w]
              rfl
            refine pure_ (i := 8) (N := some 28) (v := ?_) (a' := ?_) #[true, true, true, true, true, true, true, true, true, false, true, false, false, false, false, false] rfl rfl (any_of HT_.out (by kernel_rfl)) (fun _ _ _ h => h) (Or.inl ⟨by rfl, ?_⟩) ?_ ?_
            rotate_left; (· intro w'; go_simp; with_reducible rfl); rotate_left; (· simp only [Act.put, sib, sc0, sc1, i64_w, i32_w]; rfl); refine take_ (i := 9) (N := some 29) (v := ?_) (a' := ?_) (tfA 11 16) rfl rfl (take_ofW HT_.out HW_.out (by kernel_rfl)) (fun _ _ _ h => h) (Or.inl ⟨by rfl, ?_⟩) hHeld ?_ ?_
            rotate_left
            · rintro w' ⟨s0, s1, s2, s3, s4, s5, s6, s7⟩
              go_simp
              with_reducible rfl
            rotate_left
            · simp only [Act.put, sib, sc0, sc1, i64_w, i32_w]
              rfl
            refine take_ (i := 11) (N := some 31) (v := ?_) (a' := ?_) (tfA 12 16) rfl rfl (take_ofW HT_.out HW_.out (by kernel_rfl)) (fun _ _ _ h => h) (Or.inl ⟨by rfl, ?_⟩) hHeld ?_ ?_
            rotate_left
            · rintro w' ⟨s0, s1, s2, s3, s4, s5, s6, s7⟩
              go_simp
              with_reducible rfl
            rotate_left
            · simp only [Act.put, sib, sc0, sc1, i64_w, i32_w]
              rfl
            refine pure_ (i := 12) (N := some 32) (v := ?_) (a' := ?_) (tfA 13 16) rfl rfl (any_of HT_.out (by kernel_rfl)) (fun _ _ _ h => h) (Or.inl ⟨by rfl, ?_⟩) ?_ ?_
            rotate_left; (· intro w'; go_simp; with_reducible rfl); rotate_left; (· simp only [Act.put, sib, sc0, sc1, i64_w, i32_w]; rfl); refine one_ (i := 13) (N := some 33) (tfA 14 16) rfl rfl (one_of HT_.out (by kernel_rfl)) (by decide) (fun K hK => ?_); refine goes_ Try.func57 (by kernel_rfl) rfl #[.slice (some ad188) l0_0.length co26, .int .i64 a1_1, .int .i64 ji24] (by rfl) rfl rfl (by (try simp only [List.map_toArray, List.map_cons, List.map_nil]); first | done | (simp only [hji24]; rfl) | rfl | (simp only [List.length_drop, List.length_take]; rfl)) ?_
            with_reducible refine (deckleref14_Put.calls k _ _ l0_0 a1_1 ji24 t189 _ ?side1 ?side2 A25.out).mono ?_
            (case side1 => repeat (first | exact (Kd.R_reads' HO0_0.out).2.2 | (with_reducible refine Kd.C_alloc ?_ _) | (with_reducible refine Kd.C_drewN ?_ _) | (with_reducible refine Kd.C_drew ?_)))
            (case side2 => exact (Kd.R_reads' HO0_0.out).2.1)
            rintro e w41 ⟨v190, rfl, ho0, hb⟩
            have HS7_ := (hb.cell (World.block_lt_of_cell? _ _ (hHeld.2.2.2.2.2.2.2))).trans (hHeld.2.2.2.2.2.2.2)
            refine ⟨_, rfl, ?_⟩
            have n0_ := Aside0.mk (Kd.R_elder' (by (with_reducible repeat (first | apply Kd.R_alloc | apply Kd.R_drewN | apply Kd.R_drew)); exact HO0_0.out) (Kd.R_base ho0) hb)
            have n1_ := Aside0.mk (Kd.R_elder' (by (with_reducible repeat (first | apply Kd.R_alloc | apply Kd.R_drewN | apply Kd.R_drew)); exact HO0_1.out) (Kd.R_base ho0) hb)
            have n2_ := Aside0.mk (Kd.R_elder' (by (with_reducible repeat (first | apply Kd.R_alloc | apply Kd.R_drewN | apply Kd.R_drew)); exact HO0_2.out) (Kd.R_base ho0) hb)
            have n3_ := Aside0.mk (Kd.R_elder' (by (with_reducible repeat (first | apply Kd.R_alloc | apply Kd.R_drewN | apply Kd.R_drew)); exact HO0_3.out) (Kd.R_base ho0) hb)
            have n4_ := Aside0.mk (Kd.R_lower (Kd.R_new' (Kd.R_new' (Kd.R_new' (Kd.R_new' (Kd.R_newM (M := fun k_ => ((P0_0_ k_ ∨ P0_1_ k_ ∨ P0_2_ k_ ∨ P0_3_ k_) ∨ w.heap.size ≤ k_)) ho0 (by first | exact HK.out.1 | exact (show Kept w _ (fun k_ => P0_0_ k_ ∨ P0_1_ k_ ∨ P0_2_ k_ ∨ P0_3_ k_) from by repeat (first | (with_reducible first | exact HK.out | apply Kept.alloc | apply Kept.drewN | apply Kept.drew | refine Kept.setCell ?_ (.inr GW184.out) _ | refine Kept.setCell ?_ (.inr GW185.out) _ | refine Kept.setCell ?_ (.inr GW186.out) _) | exact HK.out)).1) (fun k_ h_ => .inr h_)) (Kd.R_lt (by (with_reducible repeat (first | apply Kd.R_alloc | apply Kd.R_drewN | apply Kd.R_drew)); exact HO0_0.out))) (Kd.R_lt (by (with_reducible repeat (first | apply Kd.R_alloc | apply Kd.R_drewN | apply Kd.R_drew)); exact HO0_1.out))) (Kd.R_lt (by (with_reducible repeat (first | apply Kd.R_alloc | apply Kd.R_drewN | apply Kd.R_drew)); exact HO0_2.out))) (Kd.R_lt (by (with_reducible repeat (first | apply Kd.R_alloc | apply Kd.R_drewN | apply Kd.R_drew)); exact HO0_3.out))) (below_size (by repeat (first | (with_reducible first | exact HB.out | apply below_alloc | apply pw_below_drewN | apply below_drew1 | refine below_set ?_ GE184.out | refine below_set ?_ GE185.out | refine below_set ?_ GE186.out) | exact HB.out))))
            have n5_ := Aside0.mk (blk_below (g := gb184) (o := .cells #[.slice (some ad188) l0_0.length co26, .slice Ao27 l0_1.length co27, .slice Ao28 l0_2.length co28, .slice Ao29 l0_3.length co29] 69 (0, 0)) (by (with_reducible repeat (first | refine blk_drewN ?_ _ | refine blk_drew ?_ | refine blk_alloc ?_ _)); exact BK184.out) hb)
            have n6_ := Aside0.mk (blk_below (g := gb185) (o := .cells #[.int .i64 a1_0, .int .i64 a1_1, .int .i64 a1_2] 73 (0, 0)) (by (with_reducible repeat (first | refine blk_drewN ?_ _ | refine blk_drew ?_ | refine blk_alloc ?_ _)); exact BK185.out) hb)
            have n7_ := Aside0.mk (blk_below (g := gb186) (o := .cells #[.slice none 0 0, .slice none 0 0, .slice none 0 0, .slice none 0 0] 69 (0, 0)) (by (with_reducible repeat (first | refine blk_drewN ?_ _ | refine blk_drew ?_ | refine blk_alloc ?_ _)); exact BK186.out) hb)
            have n8_ := Aside0.mk (Kept.below (S := (fun k_ => P0_0_ k_ ∨ P0_1_ k_ ∨ P0_2_ k_ ∨ P0_3_ k_)) (by repeat (first | (with_reducible first | exact HK.out | apply Kept.alloc | apply Kept.drewN | apply Kept.drew | refine Kept.setCell ?_ (.inr GW184.out) _ | refine Kept.setCell ?_ (.inr GW185.out) _ | refine Kept.setCell ?_ (.inr GW186.out) _) | exact HK.out)) hb)
            have n9_ := Aside0.mk (below_step (by repeat (first | (with_reducible first | exact HB.out | apply below_alloc | apply pw_below_drewN | apply below_drew1 | refine below_set ?_ GE184.out | refine below_set ?_ GE185.out | refine below_set ?_ GE186.out) | exact HB.out)) hb)
            clear HO0_0
            clear HO0_1
            clear HO0_2
            clear HO0_3
            clear BK184
            clear BK185
            clear BK186
            clear HK
            clear HB
            have HO0_0 := n0_
            have HO0_1 := n1_
            have HO0_2 := n2_
            have HO0_3 := n3_
            have HO191 := n4_
            have BK184 := n5_
            have BK185 := n6_
            have BK186 := n7_
            have HK := n8_
            have HB := n9_
            clear n0_ n1_ n2_ n3_ n4_ n5_ n6_ n7_ n8_ n9_
            (try clear hb)
            (try clear hb2)
            (try clear hk)
            (try clear hi)
            (try clear ho0)
            obtain ⟨Ao42, co42, eo42⟩ := Kd.R_slice HO191.out
            (first | subst eo42 | (injection eo42 with f1_ f2_ f3_; have f4_ := f1_.symm; have f5_ := f3_.symm; clear f1_ f2_ f3_; subst f4_; subst f5_))
            refine hK.out _ _ ⟨(blk_cell BK184.out 0).trans rfl, (blk_cell BK184.out 1).trans rfl, (blk_cell BK184.out 2).trans rfl, (blk_cell BK184.out 3).trans rfl, (blk_cell BK185.out 0).trans rfl, (blk_cell BK185.out 1).trans rfl, (blk_cell BK185.out 2).trans rfl, HS7_⟩ (fun hHeld => ?_)
            clear hK K
            refine norm_ (a' := ?_) ?_ ?_
            rotate_left
            · show Act.put _ (some 33) _ = _
              simp only [Act.put, sib, sc0, sc1, i64_w, i32_w]
              rfl
            refine pure_ (i := 14) (N := some 34) (v := ?_) (a' := ?_) (tfA 15 16) rfl rfl (any_of HT_.out (by kernel_rfl)) (fun _ _ _ h => h) (Or.inl ⟨by rfl, ?_⟩) ?_ ?_
            rotate_left; (· intro w'; go_simp; with_reducible rfl); rotate_left; (· simp only [Act.put, sib, sc0, sc1, i64_w, i32_w]; rfl); refine last_ (i := 15) (N := none) (tfA 16 16) rfl rfl (one_of HT_.out (by kernel_rfl)) (by decide) (fun K hK => ?_)
            have hs43 : w41.cell? ⟨gb184, 0, none⟩ = some (.slice (some ad188) l0_0.length co26) := (blk_cell BK184.out 0).trans rfl
            have hfs43 := blk_frozen BK184.out 0
            have hns43_1 := NB185_184.out
            have hns43_2 := NB186_184.out
            have hms43_1 := NB184_185.out
            have hms43_2 := NB184_186.out
            refine skip_ (w1 := ?_) (by rfl) rfl ?_ ?_
            rotate_left
            · go_simp
              rfl
            refine hK.out _ _ ?_
            clear hK K
            refine done_ (done_of HT_.out (by kernel_rfl)) ?_
            have hcz44_0 : w41.cell? ⟨gb184, 0, none⟩ = some (.slice (some ad188) l0_0.length co26) := (blk_cell BK184.out 0).trans rfl
            have hcz44_1 : w41.cell? ⟨gb184, 1, none⟩ = some (.slice Ao27 l0_1.length co27) := (blk_cell BK184.out 1).trans rfl
            have hcz44_2 : w41.cell? ⟨gb184, 2, none⟩ = some (.slice Ao28 l0_2.length co28) := (blk_cell BK184.out 2).trans rfl
            have hcz44_3 : w41.cell? ⟨gb184, 3, none⟩ = some (.slice Ao29 l0_3.length co29) := (blk_cell BK184.out 3).trans rfl
            have hfz44_0 := blk_frozen BK184.out 0
            have hfz44_1 := blk_frozen BK184.out 1
            have hfz44_2 := blk_frozen BK184.out 2
            have hfz44_3 := blk_frozen BK184.out 3
            have hcz45_0 : w41.cell? ⟨gb186, 0, none⟩ = some (.slice none 0 0) := (blk_cell BK186.out 0).trans rfl
            have hcz45_1 : w41.cell? ⟨gb186, 1, none⟩ = some (.slice none 0 0) := (blk_cell BK186.out 1).trans rfl
            have hcz45_2 : w41.cell? ⟨gb186, 2, none⟩ = some (.slice none 0 0) := (blk_cell BK186.out 2).trans rfl
            have hcz45_3 : w41.cell? ⟨gb186, 3, none⟩ = some (.slice none 0 0) := (blk_cell BK186.out 3).trans rfl
            have hfz45_0 := blk_frozen BK186.out 0
            have hfz45_1 := blk_frozen BK186.out 1
            have hfz45_2 := blk_frozen BK186.out 2
            have hfz45_3 := blk_frozen BK186.out 3
            try go_wp2
            refine bodyPost_ret (results_ct rfl _ _ gb186 69 #[.slice Ao42 t189.length co42, .slice Ao27 l0_1.length co27, .slice Ao28 l0_2.length co28, .slice Ao29 l0_3.length co29] (0, 0) _ rfl (by (with_reducible repeat (first | refine blk_drewN ?_ _ | refine blk_drew ?_ | refine blk_alloc ?_ _)); refine blk_put (cs := #[.slice Ao42 t189.length co42, .slice Ao27 l0_1.length co27, .slice Ao28 l0_2.length co28, .slice none 0 0]) ?_ 3 _ rfl; (with_reducible repeat (first | refine blk_drewN ?_ _ | refine blk_drew ?_ | refine blk_alloc ?_ _)); refine blk_put (cs := #[.slice Ao42 t189.length co42, .slice Ao27 l0_1.length co27, .slice none 0 0, .slice none 0 0]) ?_ 2 _ rfl; (with_reducible repeat (first | refine blk_drewN ?_ _ | refine blk_drew ?_ | refine blk_alloc ?_ _)); refine blk_put (cs := #[.slice Ao42 t189.length co42, .slice none 0 0, .slice none 0 0, .slice none 0 0]) ?_ 1 _ rfl; (with_reducible repeat (first | refine blk_drewN ?_ _ | refine blk_drew ?_ | refine blk_alloc ?_ _)); refine blk_put (cs := #[.slice none 0 0, .slice none 0 0, .slice none 0 0, .slice none 0 0]) ?_ 0 _ rfl; (with_reducible repeat (first | refine blk_drewN ?_ _ | refine blk_drew ?_ | refine blk_alloc ?_ _)); refine blk_far ?_ NB186_184.out _; (with_reducible repeat (first | refine blk_drewN ?_ _ | refine blk_drew ?_ | refine blk_alloc ?_ _)); exact BK186.out) Try.underlying69 rfl (by kernel_rfl)) rfl ?_
            exact ⟨_, _, _, _, by first | rfl | (simp [errW_none, errW_some] <;> rfl) | (simp only [← hji24]; first | rfl | (simp [errW_none, errW_some] <;> rfl)) | (simp [*, errW_none, errW_some] <;> rfl), by (with_reducible repeat (first | apply Kd.R_alloc | apply Kd.R_drewN | apply Kd.R_drew)); exact Kd.R_mono (Kd.R_far (p := ⟨gb186, 3, none⟩) (Kd.R_far (p := ⟨gb186, 2, none⟩) (Kd.R_far (p := ⟨gb186, 1, none⟩) (Kd.R_far (p := ⟨gb186, 0, none⟩) (Kd.R_far (p := ⟨gb184, 0, none⟩) (Kd.R_types (Kd.R_types HO191.out BK184.out (by decide)) BK186.out (by decide)) (fun _ hk => hk.1.2) (.slice Ao42 t189.length co42)) (fun _ hk => hk.2) (.slice Ao42 t189.length co42)) (fun _ hk => hk.2) (.slice Ao27 l0_1.length co27)) (fun _ hk => hk.2) (.slice Ao28 l0_2.length co28)) (fun _ hk => hk.2) (.slice Ao29 l0_3.length co29)) (fun _ hk => ⟨hk.1.1.1.1.1.1.1, ⟨hk.1.1.1.1.2, ⟨hk.1.1.1.2, hk.1.1.2⟩⟩⟩), by (with_reducible repeat (first | apply Kd.R_alloc | apply Kd.R_drewN | apply Kd.R_drew)); exact Kd.R_mono (Kd.R_far (p := ⟨gb186, 3, none⟩) (Kd.R_far (p := ⟨gb186, 2, none⟩) (Kd.R_far (p := ⟨gb186, 1, none⟩) (Kd.R_far (p := ⟨gb186, 0, none⟩) (Kd.R_far (p := ⟨gb184, 0, none⟩) (Kd.R_types (Kd.R_types HO0_1.out BK184.out (by decide)) BK186.out (by decide)) (fun _ hk => hk.1.2) (.slice Ao42 t189.length co42)) (fun _ hk => hk.2) (.slice Ao42 t189.length co42)) (fun _ hk => hk.2) (.slice Ao27 l0_1.length co27)) (fun _ hk => hk.2) (.slice Ao28 l0_2.length co28)) (fun _ hk => hk.2) (.slice Ao29 l0_3.length co29)) (fun _ hk => ⟨hk.1.1.1.1, ⟨hk.1.1.2, ⟨hk.1.1.1.2.2.1, hk.1.1.1.2.2.2⟩⟩⟩), by (with_reducible repeat (first | apply Kd.R_alloc | apply Kd.R_drewN | apply Kd.R_drew)); exact Kd.R_mono (Kd.R_far (p := ⟨gb186, 3, none⟩) (Kd.R_far (p := ⟨gb186, 2, none⟩) (Kd.R_far (p := ⟨gb186, 1, none⟩) (Kd.R_far (p := ⟨gb186, 0, none⟩) (Kd.R_far (p := ⟨gb184, 0, none⟩) (Kd.R_types (Kd.R_types HO0_2.out BK184.out (by decide)) BK186.out (by decide)) (fun _ hk => hk.1.2) (.slice Ao42 t189.length co42)) (fun _ hk => hk.2) (.slice Ao42 t189.length co42)) (fun _ hk => hk.2) (.slice Ao27 l0_1.length co27)) (fun _ hk => hk.2) (.slice Ao28 l0_2.length co28)) (fun _ hk => hk.2) (.slice Ao29 l0_3.length co29)) (fun _ hk => ⟨hk.1.1.1.1, ⟨hk.1.1.2, ⟨hk.1.1.1.2.2.1, hk.1.1.1.2.2.2⟩⟩⟩), by (with_reducible repeat (first | apply Kd.R_alloc | apply Kd.R_drewN | apply Kd.R_drew)); exact Kd.R_mono (Kd.R_far (p := ⟨gb186, 3, none⟩) (Kd.R_far (p := ⟨gb186, 2, none⟩) (Kd.R_far (p := ⟨gb186, 1, none⟩) (Kd.R_far (p := ⟨gb186, 0, none⟩) (Kd.R_far (p := ⟨gb184, 0, none⟩) (Kd.R_types (Kd.R_types HO0_3.out BK184.out (by decide)) BK186.out (by decide)) (fun _ hk => hk.1.2) (.slice Ao42 t189.length co42)) (fun _ hk => hk.2) (.slice Ao42 t189.length co42)) (fun _ hk => hk.2) (.slice Ao27 l0_1.length co27)) (fun _ hk => hk.2) (.slice Ao28 l0_2.length co28)) (fun _ hk => hk.2) (.slice Ao29 l0_3.length co29)) (fun _ hk => ⟨hk.1.1.1.1, ⟨hk.1.1.2, ⟨hk.1.1.1.2.2.1, hk.1.1.1.2.2.2⟩⟩⟩), by repeat (first | (with_reducible first | exact HB.out | apply below_alloc | apply pw_below_drewN | apply below_drew1 | refine below_set ?_ GE184.out | refine below_set ?_ GE185.out | refine below_set ?_ GE186.out) | exact HB.out), by repeat (first | (with_reducible first | exact HK.out | apply Kept.alloc | apply Kept.drewN | apply Kept.drew | refine Kept.setCell ?_ (.inr GW184.out) _ | refine Kept.setCell ?_ (.inr GW185.out) _ | refine Kept.setCell ?_ (.inr GW186.out) _) | exact HK.out)⟩
          · rw [if_neg c23] at H
            exact absurd H (by simp)
        · rw [if_neg c22] at H
          exact absurd H (by simp)
    · rw [if_neg c5] at H
      have c5b0 : decide (a1_0 ≤ 2) = false := decide_eq_false c5
      clear c5
      have HC46 := Aside0.mk H
      clear H
      obtain ⟨Ao47, co47, eo47⟩ := Kd.R_slice HO0_0.out
      subst eo47
      obtain ⟨Ao48, co48, eo48⟩ := Kd.R_slice HO0_1.out
      subst eo48
      obtain ⟨Ao49, co49, eo49⟩ := Kd.R_slice HO0_2.out
      subst eo49
      obtain ⟨Ao50, co50, eo50⟩ := Kd.R_slice HO0_3.out
      subst eo50
      go_enter Try.func40, Try.ntmps40
      go_upto_region 8 with (first | ((with_reducible refine gate_dst (N := 2) rfl ?_); (try (refine gate_guard (by rfl) ?_; dsimp only)); refine box_event ?hg (N := 2) ?hd (cs := #[.slice Ao47 l0_0.length co47, .slice Ao48 l0_1.length co48, .slice Ao49 l0_2.length co49, .slice Ao50 l0_3.length co50]) (t := 69) ?hr ?_; (case hd => rfl); (case hg => rfl); (case hr => first | (go_simp; done) | (go_simp; rfl)); intro gb184 hg w51 hbox hb; have n0_ := Aside0.mk (Kd.R_below (by (with_reducible repeat (first | apply Kd.R_alloc | apply Kd.R_drewN | apply Kd.R_drew)); exact HO0_0.out) hb); have n1_ := Aside0.mk (Kd.R_below (by (with_reducible repeat (first | apply Kd.R_alloc | apply Kd.R_drewN | apply Kd.R_drew)); exact HO0_1.out) hb); have n2_ := Aside0.mk (Kd.R_below (by (with_reducible repeat (first | apply Kd.R_alloc | apply Kd.R_drewN | apply Kd.R_drew)); exact HO0_2.out) hb); have n3_ := Aside0.mk (Kd.R_below (by (with_reducible repeat (first | apply Kd.R_alloc | apply Kd.R_drewN | apply Kd.R_drew)); exact HO0_3.out) hb); have n4_ := Aside0.mk (Kept.below (S := (fun k_ => P0_0_ k_ ∨ P0_1_ k_ ∨ P0_2_ k_ ∨ P0_3_ k_)) (by repeat (first | (with_reducible first | exact HK.out | apply Kept.alloc | apply Kept.drewN | apply Kept.drew) | exact HK.out)) hb); have n5_ := Aside0.mk (below_step (by repeat (first | (with_reducible first | exact HB.out | apply below_alloc | apply pw_below_drewN | apply below_drew1) | exact HB.out)) hb); have n6_ := Aside0.mk (hbox); have n7_ := Aside0.mk ((by rw [hg]; exact (by first | exact HK.out.1 | exact (show Kept w _ (fun k_ => P0_0_ k_ ∨ P0_1_ k_ ∨ P0_2_ k_ ∨ P0_3_ k_) from by repeat (first | (with_reducible first | exact HK.out | apply Kept.alloc | apply Kept.drewN | apply Kept.drew) | exact HK.out)).1) : w.heap.size ≤ gb184)); have n8_ := Aside0.mk ((by rw [hg]; exact (below_size (by repeat (first | (with_reducible first | exact HB.out | apply below_alloc | apply pw_below_drewN | apply below_drew1) | exact HB.out))) : w0.heap.size ≤ gb184)); clear HO0_0; clear HO0_1; clear HO0_2; clear HO0_3; clear HK; clear HB; have HO0_0 := n0_; have HO0_1 := n1_; have HO0_2 := n2_; have HO0_3 := n3_; have HK := n4_; have HB := n5_; have BK184 := n6_; have GW184 := n7_; have GE184 := n8_; clear n0_ n1_ n2_ n3_ n4_ n5_ n6_ n7_ n8_; clear hb hbox hg) | ((with_reducible refine gate_dst (N := 3) rfl ?_); (try (refine gate_guard (by rfl) ?_; dsimp only)); refine box_event ?hg (N := 3) ?hd (cs := #[.int .i64 a1_0, .int .i64 a1_1, .int .i64 a1_2]) (t := 73) ?hr ?_; (case hd => rfl); (case hg => rfl); (case hr => first | (go_simp; done) | (go_simp; rfl)); intro gb185 hg w52 hbox hb; have n0_ := Aside0.mk (Kd.R_below (by (with_reducible repeat (first | apply Kd.R_alloc | apply Kd.R_drewN | apply Kd.R_drew)); exact HO0_0.out) hb); have n1_ := Aside0.mk (Kd.R_below (by (with_reducible repeat (first | apply Kd.R_alloc | apply Kd.R_drewN | apply Kd.R_drew)); exact HO0_1.out) hb); have n2_ := Aside0.mk (Kd.R_below (by (with_reducible repeat (first | apply Kd.R_alloc | apply Kd.R_drewN | apply Kd.R_drew)); exact HO0_2.out) hb); have n3_ := Aside0.mk (Kd.R_below (by (with_reducible repeat (first | apply Kd.R_alloc | apply Kd.R_drewN | apply Kd.R_drew)); exact HO0_3.out) hb); have n4_ := Aside0.mk (blk_below (g := gb184) (o := .cells #[.slice Ao47 l0_0.length co47, .slice Ao48 l0_1.length co48, .slice Ao49 l0_2.length co49, .slice Ao50 l0_3.length co50] 69 (0, 0)) (by (with_reducible repeat (first | refine blk_drewN ?_ _ | refine blk_drew ?_ | refine blk_alloc ?_ _)); exact BK184.out) hb); have n5_ := Aside0.mk (Kept.below (S := (fun k_ => P0_0_ k_ ∨ P0_1_ k_ ∨ P0_2_ k_ ∨ P0_3_ k_)) (by repeat (first | (with_reducible first | exact HK.out | apply Kept.alloc | apply Kept.drewN | apply Kept.drew | refine Kept.setCell ?_ (.inr GW184.out) _) | exact HK.out)) hb); have n6_ := Aside0.mk (below_step (by repeat (first | (with_reducible first | exact HB.out | apply below_alloc | apply pw_below_drewN | apply below_drew1 | refine below_set ?_ GE184.out) | exact HB.out)) hb); have n7_ := Aside0.mk (hbox); have n8_ := Aside0.mk ((by rw [hg]; exact (by first | exact HK.out.1 | exact (show Kept w _ (fun k_ => P0_0_ k_ ∨ P0_1_ k_ ∨ P0_2_ k_ ∨ P0_3_ k_) from by repeat (first | (with_reducible first | exact HK.out | apply Kept.alloc | apply Kept.drewN | apply Kept.drew | refine Kept.setCell ?_ (.inr GW184.out) _) | exact HK.out)).1) : w.heap.size ≤ gb185)); have n9_ := Aside0.mk ((by rw [hg]; exact (below_size (by repeat (first | (with_reducible first | exact HB.out | apply below_alloc | apply pw_below_drewN | apply below_drew1 | refine below_set ?_ GE184.out) | exact HB.out))) : w0.heap.size ≤ gb185)); have n10_ := Aside0.mk ((by rw [hg]; exact Nat.ne_of_lt (blk_lt (g := gb184) (o := .cells #[.slice Ao47 l0_0.length co47, .slice Ao48 l0_1.length co48, .slice Ao49 l0_2.length co49, .slice Ao50 l0_3.length co50] 69 (0, 0)) (by (with_reducible repeat (first | refine blk_drewN ?_ _ | refine blk_drew ?_ | refine blk_alloc ?_ _)); exact BK184.out)) : gb184 ≠ gb185)); have n11_ := Aside0.mk ((by rw [hg]; exact Nat.ne_of_gt (blk_lt (g := gb184) (o := .cells #[.slice Ao47 l0_0.length co47, .slice Ao48 l0_1.length co48, .slice Ao49 l0_2.length co49, .slice Ao50 l0_3.length co50] 69 (0, 0)) (by (with_reducible repeat (first | refine blk_drewN ?_ _ | refine blk_drew ?_ | refine blk_alloc ?_ _)); exact BK184.out)) : gb185 ≠ gb184)); clear HO0_0; clear HO0_1; clear HO0_2; clear HO0_3; clear BK184; clear HK; clear HB; have HO0_0 := n0_; have HO0_1 := n1_; have HO0_2 := n2_; have HO0_3 := n3_; have BK184 := n4_; have HK := n5_; have HB := n6_; have BK185 := n7_; have GW185 := n8_; have GE185 := n9_; have NB184_185 := n10_; have NB185_184 := n11_; clear n0_ n1_ n2_ n3_ n4_ n5_ n6_ n7_ n8_ n9_ n10_ n11_; clear hb hbox hg) | ((with_reducible refine gate_dst (N := 4) rfl ?_); (try (refine gate_guard (by rfl) ?_; dsimp only)); refine box_event ?hg (N := 4) ?hd (cs := #[.slice none 0 0, .slice none 0 0, .slice none 0 0, .slice none 0 0]) (t := 69) ?hr ?_; (case hd => rfl); (case hg => rfl); (case hr => first | (go_simp; done) | (go_simp; rfl)); intro gb186 hg w53 hbox hb; have n0_ := Aside0.mk (Kd.R_below (by (with_reducible repeat (first | apply Kd.R_alloc | apply Kd.R_drewN | apply Kd.R_drew)); exact HO0_0.out) hb); have n1_ := Aside0.mk (Kd.R_below (by (with_reducible repeat (first | apply Kd.R_alloc | apply Kd.R_drewN | apply Kd.R_drew)); exact HO0_1.out) hb); have n2_ := Aside0.mk (Kd.R_below (by (with_reducible repeat (first | apply Kd.R_alloc | apply Kd.R_drewN | apply Kd.R_drew)); exact HO0_2.out) hb); have n3_ := Aside0.mk (Kd.R_below (by (with_reducible repeat (first | apply Kd.R_alloc | apply Kd.R_drewN | apply Kd.R_drew)); exact HO0_3.out) hb); have n4_ := Aside0.mk (blk_below (g := gb184) (o := .cells #[.slice Ao47 l0_0.length co47, .slice Ao48 l0_1.length co48, .slice Ao49 l0_2.length co49, .slice Ao50 l0_3.length co50] 69 (0, 0)) (by (with_reducible repeat (first | refine blk_drewN ?_ _ | refine blk_drew ?_ | refine blk_alloc ?_ _)); exact BK184.out) hb); have n5_ := Aside0.mk (blk_below (g := gb185) (o := .cells #[.int .i64 a1_0, .int .i64 a1_1, .int .i64 a1_2] 73 (0, 0)) (by (with_reducible repeat (first | refine blk_drewN ?_ _ | refine blk_drew ?_ | refine blk_alloc ?_ _)); exact BK185.out) hb); have n6_ := Aside0.mk (Kept.below (S := (fun k_ => P0_0_ k_ ∨ P0_1_ k_ ∨ P0_2_ k_ ∨ P0_3_ k_)) (by repeat (first | (with_reducible first | exact HK.out | apply Kept.alloc | apply Kept.drewN | apply Kept.drew | refine Kept.setCell ?_ (.inr GW184.out) _ | refine Kept.setCell ?_ (.inr GW185.out) _) | exact HK.out)) hb); have n7_ := Aside0.mk (below_step (by repeat (first | (with_reducible first | exact HB.out | apply below_alloc | apply pw_below_drewN | apply below_drew1 | refine below_set ?_ GE184.out | refine below_set ?_ GE185.out) | exact HB.out)) hb); have n8_ := Aside0.mk (hbox); have n9_ := Aside0.mk ((by rw [hg]; exact (by first | exact HK.out.1 | exact (show Kept w _ (fun k_ => P0_0_ k_ ∨ P0_1_ k_ ∨ P0_2_ k_ ∨ P0_3_ k_) from by repeat (first | (with_reducible first | exact HK.out | apply Kept.alloc | apply Kept.drewN | apply Kept.drew | refine Kept.setCell ?_ (.inr GW184.out) _ | refine Kept.setCell ?_ (.inr GW185.out) _) | exact HK.out)).1) : w.heap.size ≤ gb186)); have n10_ := Aside0.mk ((by rw [hg]; exact (below_size (by repeat (first | (with_reducible first | exact HB.out | apply below_alloc | apply pw_below_drewN | apply below_drew1 | refine below_set ?_ GE184.out | refine below_set ?_ GE185.out) | exact HB.out))) : w0.heap.size ≤ gb186)); have n11_ := Aside0.mk ((by rw [hg]; exact Nat.ne_of_lt (blk_lt (g := gb184) (o := .cells #[.slice Ao47 l0_0.length co47, .slice Ao48 l0_1.length co48, .slice Ao49 l0_2.length co49, .slice Ao50 l0_3.length co50] 69 (0, 0)) (by (with_reducible repeat (first | refine blk_drewN ?_ _ | refine blk_drew ?_ | refine blk_alloc ?_ _)); exact BK184.out)) : gb184 ≠ gb186)); have n12_ := Aside0.mk ((by rw [hg]; exact Nat.ne_of_gt (blk_lt (g := gb184) (o := .cells #[.slice Ao47 l0_0.length co47, .slice Ao48 l0_1.length co48, .slice Ao49 l0_2.length co49, .slice Ao50 l0_3.length co50] 69 (0, 0)) (by (with_reducible repeat (first | refine blk_drewN ?_ _ | refine blk_drew ?_ | refine blk_alloc ?_ _)); exact BK184.out)) : gb186 ≠ gb184)); have n13_ := Aside0.mk ((by rw [hg]; exact Nat.ne_of_lt (blk_lt (g := gb185) (o := .cells #[.int .i64 a1_0, .int .i64 a1_1, .int .i64 a1_2] 73 (0, 0)) (by (with_reducible repeat (first | refine blk_drewN ?_ _ | refine blk_drew ?_ | refine blk_alloc ?_ _)); exact BK185.out)) : gb185 ≠ gb186)); have n14_ := Aside0.mk ((by rw [hg]; exact Nat.ne_of_gt (blk_lt (g := gb185) (o := .cells #[.int .i64 a1_0, .int .i64 a1_1, .int .i64 a1_2] 73 (0, 0)) (by (with_reducible repeat (first | refine blk_drewN ?_ _ | refine blk_drew ?_ | refine blk_alloc ?_ _)); exact BK185.out)) : gb186 ≠ gb185)); clear HO0_0; clear HO0_1; clear HO0_2; clear HO0_3; clear BK184; clear BK185; clear HK; clear HB; have HO0_0 := n0_; have HO0_1 := n1_; have HO0_2 := n2_; have HO0_3 := n3_; have BK184 := n4_; have BK185 := n5_; have HK := n6_; have HB := n7_; have BK186 := n8_; have GW186 := n9_; have GE186 := n10_; have NB184_186 := n11_; have NB186_184 := n12_; have NB185_186 := n13_; have NB186_185 := n14_; clear n0_ n1_ n2_ n3_ n4_ n5_ n6_ n7_ n8_ n9_ n10_ n11_ n12_ n13_ n14_; clear hb hbox hg; have hnb54 := NB185_184.out; have hnc54 := NB184_185.out; have hnb55 := NB185_186.out; have hnc55 := NB186_185.out; have hcz56_0 : w53.cell? ⟨gb185, 0, none⟩ = some (.int .i64 a1_0) := (blk_cell BK185.out 0).trans rfl; have hcz56_1 : w53.cell? ⟨gb185, 1, none⟩ = some (.int .i64 a1_1) := (blk_cell BK185.out 1).trans rfl; have hcz56_2 : w53.cell? ⟨gb185, 2, none⟩ = some (.int .i64 a1_2) := (blk_cell BK185.out 2).trans rfl; have hfz56_0 := blk_frozen BK185.out 0; have hfz56_1 := blk_frozen BK185.out 1; have hfz56_2 := blk_frozen BK185.out 2) | ((with_reducible refine gate_callee (f := 66) rfl ?_); refine goesL_ (some 7) rfl rfl Try.func66 (by kernel_rfl) rfl #[.agg #[.int .i64 a1_0, .int .i64 a1_1, .int .i64 a1_2]] rfl (by (try simp only [List.map_toArray, List.map_cons, List.map_nil]); first | done | rfl | (simp only [List.length_drop, List.length_take]; rfl)) ?_; (with_reducible refine (deckleref11_May.calls k a1_0 a1_1 a1_2 true _ A3.out).mono ?_); rintro e w57 ⟨rfl, hb⟩; refine ⟨_, rfl, ?_⟩; have n0_ := Aside0.mk (Kd.R_below (by (with_reducible repeat (first | apply Kd.R_alloc | apply Kd.R_drewN | apply Kd.R_drew)); exact HO0_0.out) hb); have n1_ := Aside0.mk (Kd.R_below (by (with_reducible repeat (first | apply Kd.R_alloc | apply Kd.R_drewN | apply Kd.R_drew)); exact HO0_1.out) hb); have n2_ := Aside0.mk (Kd.R_below (by (with_reducible repeat (first | apply Kd.R_alloc | apply Kd.R_drewN | apply Kd.R_drew)); exact HO0_2.out) hb); have n3_ := Aside0.mk (Kd.R_below (by (with_reducible repeat (first | apply Kd.R_alloc | apply Kd.R_drewN | apply Kd.R_drew)); exact HO0_3.out) hb); have n4_ := Aside0.mk (blk_below (g := gb184) (o := .cells #[.slice Ao47 l0_0.length co47, .slice Ao48 l0_1.length co48, .slice Ao49 l0_2.length co49, .slice Ao50 l0_3.length co50] 69 (0, 0)) (by (with_reducible repeat (first | refine blk_drewN ?_ _ | refine blk_drew ?_ | refine blk_alloc ?_ _)); exact BK184.out) hb); have n5_ := Aside0.mk (blk_below (g := gb185) (o := .cells #[.int .i64 a1_0, .int .i64 a1_1, .int .i64 a1_2] 73 (0, 0)) (by (with_reducible repeat (first | refine blk_drewN ?_ _ | refine blk_drew ?_ | refine blk_alloc ?_ _)); exact BK185.out) hb); have n6_ := Aside0.mk (blk_below (g := gb186) (o := .cells #[.slice none 0 0, .slice none 0 0, .slice none 0 0, .slice none 0 0] 69 (0, 0)) (by (with_reducible repeat (first | refine blk_drewN ?_ _ | refine blk_drew ?_ | refine blk_alloc ?_ _)); exact BK186.out) hb); have n7_ := Aside0.mk (Kept.below (S := (fun k_ => P0_0_ k_ ∨ P0_1_ k_ ∨ P0_2_ k_ ∨ P0_3_ k_)) (by repeat (first | (with_reducible first | exact HK.out | apply Kept.alloc | apply Kept.drewN | apply Kept.drew | refine Kept.setCell ?_ (.inr GW184.out) _ | refine Kept.setCell ?_ (.inr GW185.out) _ | refine Kept.setCell ?_ (.inr GW186.out) _) | exact HK.out)) hb); have n8_ := Aside0.mk (below_step (by repeat (first | (with_reducible first | exact HB.out | apply below_alloc | apply pw_below_drewN | apply below_drew1 | refine below_set ?_ GE184.out | refine below_set ?_ GE185.out | refine below_set ?_ GE186.out) | exact HB.out)) hb); clear HO0_0; clear HO0_1; clear HO0_2; clear HO0_3; clear BK184; clear BK185; clear BK186; clear HK; clear HB; have HO0_0 := n0_; have HO0_1 := n1_; have HO0_2 := n2_; have HO0_3 := n3_; have BK184 := n4_; have BK185 := n5_; have BK186 := n6_; have HK := n7_; have HB := n8_; clear n0_ n1_ n2_ n3_ n4_ n5_ n6_ n7_ n8_; (try clear hb); (try clear hb2); (try clear hk); (try clear hi); have hcz58_0 : w57.cell? ⟨gb185, 0, none⟩ = some (.int .i64 a1_0) := (blk_cell BK185.out 0).trans rfl; have hcz58_1 : w57.cell? ⟨gb185, 1, none⟩ = some (.int .i64 a1_1) := (blk_cell BK185.out 1).trans rfl; have hcz58_2 : w57.cell? ⟨gb185, 2, none⟩ = some (.int .i64 a1_2) := (blk_cell BK185.out 2).trans rfl; have hfz58_0 := blk_frozen BK185.out 0; have hfz58_1 := blk_frozen BK185.out 1; have hfz58_2 := blk_frozen BK185.out 2))
      (try simp only [Act.put, List.setIfInBounds_toArray, List.set_cons_zero, List.set_cons_succ])
      go_cut [57] (fun v57 wc => ∃ (kq : Nat) (x57_45 : Bool), v57 = .bool x57_45 ∧ Aside0 (deckleref14_Apply.j0 kq x57_45 l0_0 l0_1 l0_2 l0_3 a1_0 a1_1 a1_2 = some (r1, r2, r3, r4, r5)) ∧ Aside0 (kq ≤ k) ∧ Aside0 (Kd.R (Kd.int .i64) 3 wc w0.heap.size (fun k_ => ((P0_0_ k_ ∨ P0_1_ k_ ∨ P0_2_ k_ ∨ P0_3_ k_) ∨ w.heap.size ≤ k_) ∧ some k_ ≠ ((.slice Ao48 l0_1.length co48) : Value).ownBlock ∧ some k_ ≠ ((.slice Ao49 l0_2.length co49) : Value).ownBlock ∧ some k_ ≠ ((.slice Ao50 l0_3.length co50) : Value).ownBlock) (.slice Ao47 l0_0.length co47) l0_0) ∧ Aside0 (Kd.R (Kd.int .i64) 3 wc w0.heap.size (fun k_ => ((P0_0_ k_ ∨ P0_1_ k_ ∨ P0_2_ k_ ∨ P0_3_ k_) ∨ w.heap.size ≤ k_) ∧ some k_ ≠ ((.slice Ao47 l0_0.length co47) : Value).ownBlock ∧ some k_ ≠ ((.slice Ao49 l0_2.length co49) : Value).ownBlock ∧ some k_ ≠ ((.slice Ao50 l0_3.length co50) : Value).ownBlock) (.slice Ao48 l0_1.length co48) l0_1) ∧ Aside0 (Kd.R (Kd.int .i64) 3 wc w0.heap.size (fun k_ => ((P0_0_ k_ ∨ P0_1_ k_ ∨ P0_2_ k_ ∨ P0_3_ k_) ∨ w.heap.size ≤ k_) ∧ some k_ ≠ ((.slice Ao47 l0_0.length co47) : Value).ownBlock ∧ some k_ ≠ ((.slice Ao48 l0_1.length co48) : Value).ownBlock ∧ some k_ ≠ ((.slice Ao50 l0_3.length co50) : Value).ownBlock) (.slice Ao49 l0_2.length co49) l0_2) ∧ Aside0 (Kd.R (Kd.int .i64) 3 wc w0.heap.size (fun k_ => ((P0_0_ k_ ∨ P0_1_ k_ ∨ P0_2_ k_ ∨ P0_3_ k_) ∨ w.heap.size ≤ k_) ∧ some k_ ≠ ((.slice Ao47 l0_0.length co47) : Value).ownBlock ∧ some k_ ≠ ((.slice Ao48 l0_1.length co48) : Value).ownBlock ∧ some k_ ≠ ((.slice Ao49 l0_2.length co49) : Value).ownBlock) (.slice Ao50 l0_3.length co50) l0_3) ∧ Aside0 (wc.heap[gb184]? = some (.cells #[(.slice Ao47 l0_0.length co47), (.slice Ao48 l0_1.length co48), (.slice Ao49 l0_2.length co49), (.slice Ao50 l0_3.length co50)] 69 (0, 0))) ∧ Aside0 (wc.heap[gb185]? = some (.cells #[.int .i64 a1_0, .int .i64 a1_1, .int .i64 a1_2] 73 (0, 0))) ∧ Aside0 (wc.heap[gb186]? = some (.cells #[(.slice none 0 0), (.slice none 0 0), (.slice none 0 0), (.slice none 0 0)] 69 (0, 0))) ∧ Aside0 (Kept w wc (fun k_ => P0_0_ k_ ∨ P0_1_ k_ ∨ P0_2_ k_ ∨ P0_3_ k_)) ∧ Aside0 (Below w0.heap.size w0 wc))
      case first =>
        have H := HC46.out
        clear HC46
        by_cases c59 : a1_1 ≥ (l0_1.length : Int)
        · rw [if_pos c59] at H
          have c59b0 : decide ((l0_1.length : Int) ≤ a1_1) = true := decide_eq_true c59
          clear c59
          (first | rw [c59b0] | (simp only [i64_w, i32_w]; rw [c59b0]) | skip)
          have H' := Aside0.mk H
          clear H
          have hnb60 := NB185_184.out
          have hnc60 := NB184_185.out
          have hnb61 := NB185_186.out
          have hnc61 := NB186_185.out
          have hcz62_0 : w57.cell? ⟨gb185, 0, none⟩ = some (.int .i64 a1_0) := (blk_cell BK185.out 0).trans rfl
          have hcz62_1 : w57.cell? ⟨gb185, 1, none⟩ = some (.int .i64 a1_1) := (blk_cell BK185.out 1).trans rfl
          have hcz62_2 : w57.cell? ⟨gb185, 2, none⟩ = some (.int .i64 a1_2) := (blk_cell BK185.out 2).trans rfl
          have hfz62_0 := blk_frozen BK185.out 0
          have hfz62_1 := blk_frozen BK185.out 1
          have hfz62_2 := blk_frozen BK185.out 2
          have hnb63 := NB184_186.out
          have hnc63 := NB186_184.out
          have hcz64_0 : w57.cell? ⟨gb184, 0, none⟩ = some (.slice Ao47 l0_0.length co47) := (blk_cell BK184.out 0).trans rfl
          have hcz64_1 : w57.cell? ⟨gb184, 1, none⟩ = some (.slice Ao48 l0_1.length co48) := (blk_cell BK184.out 1).trans rfl
          have hcz64_2 : w57.cell? ⟨gb184, 2, none⟩ = some (.slice Ao49 l0_2.length co49) := (blk_cell BK184.out 2).trans rfl
          have hcz64_3 : w57.cell? ⟨gb184, 3, none⟩ = some (.slice Ao50 l0_3.length co50) := (blk_cell BK184.out 3).trans rfl
          have hfz64_0 := blk_frozen BK184.out 0
          have hfz64_1 := blk_frozen BK184.out 1
          have hfz64_2 := blk_frozen BK184.out 2
          have hfz64_3 := blk_frozen BK184.out 3
          go_wp2
          go_meet
          case rel => exact ⟨_, (true), (by first | rfl | (simp; done) | (simp [*]; done)), H', ⟨by first | omega | exact Nat.le_refl _⟩, ⟨by (with_reducible repeat (first | apply Kd.R_alloc | apply Kd.R_drewN | apply Kd.R_drew)); exact HO0_0.out⟩, ⟨by (with_reducible repeat (first | apply Kd.R_alloc | apply Kd.R_drewN | apply Kd.R_drew)); exact HO0_1.out⟩, ⟨by (with_reducible repeat (first | apply Kd.R_alloc | apply Kd.R_drewN | apply Kd.R_drew)); exact HO0_2.out⟩, ⟨by (with_reducible repeat (first | apply Kd.R_alloc | apply Kd.R_drewN | apply Kd.R_drew)); exact HO0_3.out⟩, ⟨by (with_reducible repeat (first | refine blk_drewN ?_ _ | refine blk_drew ?_ | refine blk_alloc ?_ _)); exact BK184.out⟩, ⟨by (with_reducible repeat (first | refine blk_drewN ?_ _ | refine blk_drew ?_ | refine blk_alloc ?_ _)); exact BK185.out⟩, ⟨by (with_reducible repeat (first | refine blk_drewN ?_ _ | refine blk_drew ?_ | refine blk_alloc ?_ _)); exact BK186.out⟩, ⟨by repeat (first | (with_reducible first | exact HK.out | apply Kept.alloc | apply Kept.drewN | apply Kept.drew | refine Kept.setCell ?_ (.inr GW184.out) _ | refine Kept.setCell ?_ (.inr GW185.out) _ | refine Kept.setCell ?_ (.inr GW186.out) _) | exact HK.out)⟩, ⟨by repeat (first | (with_reducible first | exact HB.out | apply below_alloc | apply pw_below_drewN | apply below_drew1 | refine below_set ?_ GE184.out | refine below_set ?_ GE185.out | refine below_set ?_ GE186.out) | exact HB.out)⟩⟩
        · rw [if_neg c59] at H
          have c59b0 : decide ((l0_1.length : Int) ≤ a1_1) = false := decide_eq_false c59
          clear c59
          (first | rw [c59b0] | (simp only [i64_w, i32_w]; rw [c59b0]) | skip)
          by_cases c65 : a1_1 ≥ (l0_2.length : Int)
          · rw [if_pos c65] at H
            have c65b0 : decide ((l0_2.length : Int) ≤ a1_1) = true := decide_eq_true c65
            clear c65
            have H' := Aside0.mk H
            clear H
            have hnb66 := NB185_184.out
            have hnc66 := NB184_185.out
            have hnb67 := NB185_186.out
            have hnc67 := NB186_185.out
            have hcz68_0 : w57.cell? ⟨gb185, 0, none⟩ = some (.int .i64 a1_0) := (blk_cell BK185.out 0).trans rfl
            have hcz68_1 : w57.cell? ⟨gb185, 1, none⟩ = some (.int .i64 a1_1) := (blk_cell BK185.out 1).trans rfl
            have hcz68_2 : w57.cell? ⟨gb185, 2, none⟩ = some (.int .i64 a1_2) := (blk_cell BK185.out 2).trans rfl
            have hfz68_0 := blk_frozen BK185.out 0
            have hfz68_1 := blk_frozen BK185.out 1
            have hfz68_2 := blk_frozen BK185.out 2
            have hnb69 := NB184_186.out
            have hnc69 := NB186_184.out
            have hcz70_0 : w57.cell? ⟨gb184, 0, none⟩ = some (.slice Ao47 l0_0.length co47) := (blk_cell BK184.out 0).trans rfl
            have hcz70_1 : w57.cell? ⟨gb184, 1, none⟩ = some (.slice Ao48 l0_1.length co48) := (blk_cell BK184.out 1).trans rfl
            have hcz70_2 : w57.cell? ⟨gb184, 2, none⟩ = some (.slice Ao49 l0_2.length co49) := (blk_cell BK184.out 2).trans rfl
            have hcz70_3 : w57.cell? ⟨gb184, 3, none⟩ = some (.slice Ao50 l0_3.length co50) := (blk_cell BK184.out 3).trans rfl
            have hfz70_0 := blk_frozen BK184.out 0
            have hfz70_1 := blk_frozen BK184.out 1
            have hfz70_2 := blk_frozen BK184.out 2
            have hfz70_3 := blk_frozen BK184.out 3
            go_wp2
            go_meet
            case rel => exact ⟨_, (true), (by first | rfl | (simp; done) | (simp [*]; done)), H', ⟨by first | omega | exact Nat.le_refl _⟩, ⟨by (with_reducible repeat (first | apply Kd.R_alloc | apply Kd.R_drewN | apply Kd.R_drew)); exact HO0_0.out⟩, ⟨by (with_reducible repeat (first | apply Kd.R_alloc | apply Kd.R_drewN | apply Kd.R_drew)); exact HO0_1.out⟩, ⟨by (with_reducible repeat (first | apply Kd.R_alloc | apply Kd.R_drewN | apply Kd.R_drew)); exact HO0_2.out⟩, ⟨by (with_reducible repeat (first | apply Kd.R_alloc | apply Kd.R_drewN | apply Kd.R_drew)); exact HO0_3.out⟩, ⟨by (with_reducible repeat (first | refine blk_drewN ?_ _ | refine blk_drew ?_ | refine blk_alloc ?_ _)); exact BK184.out⟩, ⟨by (with_reducible repeat (first | refine blk_drewN ?_ _ | refine blk_drew ?_ | refine blk_alloc ?_ _)); exact BK185.out⟩, ⟨by (with_reducible repeat (first | refine blk_drewN ?_ _ | refine blk_drew ?_ | refine blk_alloc ?_ _)); exact BK186.out⟩, ⟨by repeat (first | (with_reducible first | exact HK.out | apply Kept.alloc | apply Kept.drewN | apply Kept.drew | refine Kept.setCell ?_ (.inr GW184.out) _ | refine Kept.setCell ?_ (.inr GW185.out) _ | refine Kept.setCell ?_ (.inr GW186.out) _) | exact HK.out)⟩, ⟨by repeat (first | (with_reducible first | exact HB.out | apply below_alloc | apply pw_below_drewN | apply below_drew1 | refine below_set ?_ GE184.out | refine below_set ?_ GE185.out | refine below_set ?_ GE186.out) | exact HB.out)⟩⟩
          · rw [if_neg c65] at H
            have c65b0 : decide ((l0_2.length : Int) ≤ a1_1) = false := decide_eq_false c65
            clear c65
            have H' := Aside0.mk H
            clear H
            have hnb71 := NB185_184.out
            have hnc71 := NB184_185.out
            have hnb72 := NB185_186.out
            have hnc72 := NB186_185.out
            have hcz73_0 : w57.cell? ⟨gb185, 0, none⟩ = some (.int .i64 a1_0) := (blk_cell BK185.out 0).trans rfl
            have hcz73_1 : w57.cell? ⟨gb185, 1, none⟩ = some (.int .i64 a1_1) := (blk_cell BK185.out 1).trans rfl
            have hcz73_2 : w57.cell? ⟨gb185, 2, none⟩ = some (.int .i64 a1_2) := (blk_cell BK185.out 2).trans rfl
            have hfz73_0 := blk_frozen BK185.out 0
            have hfz73_1 := blk_frozen BK185.out 1
            have hfz73_2 := blk_frozen BK185.out 2
            have hnb74 := NB184_186.out
            have hnc74 := NB186_184.out
            have hcz75_0 : w57.cell? ⟨gb184, 0, none⟩ = some (.slice Ao47 l0_0.length co47) := (blk_cell BK184.out 0).trans rfl
            have hcz75_1 : w57.cell? ⟨gb184, 1, none⟩ = some (.slice Ao48 l0_1.length co48) := (blk_cell BK184.out 1).trans rfl
            have hcz75_2 : w57.cell? ⟨gb184, 2, none⟩ = some (.slice Ao49 l0_2.length co49) := (blk_cell BK184.out 2).trans rfl
            have hcz75_3 : w57.cell? ⟨gb184, 3, none⟩ = some (.slice Ao50 l0_3.length co50) := (blk_cell BK184.out 3).trans rfl
            have hfz75_0 := blk_frozen BK184.out 0
            have hfz75_1 := blk_frozen BK184.out 1
            have hfz75_2 := blk_frozen BK184.out 2
            have hfz75_3 := blk_frozen BK184.out 3
            go_wp2
            go_meet
            case rel => exact ⟨_, (decide (a1_1 ≥ (l0_3.length : Int))), (by first | rfl | (simp; done) | (simp [*]; done)), H', ⟨by first | omega | exact Nat.le_refl _⟩, ⟨by (with_reducible repeat (first | apply Kd.R_alloc | apply Kd.R_drewN | apply Kd.R_drew)); exact HO0_0.out⟩, ⟨by (with_reducible repeat (first | apply Kd.R_alloc | apply Kd.R_drewN | apply Kd.R_drew)); exact HO0_1.out⟩, ⟨by (with_reducible repeat (first | apply Kd.R_alloc | apply Kd.R_drewN | apply Kd.R_drew)); exact HO0_2.out⟩, ⟨by (with_reducible repeat (first | apply Kd.R_alloc | apply Kd.R_drewN | apply Kd.R_drew)); exact HO0_3.out⟩, ⟨by (with_reducible repeat (first | refine blk_drewN ?_ _ | refine blk_drew ?_ | refine blk_alloc ?_ _)); exact BK184.out⟩, ⟨by (with_reducible repeat (first | refine blk_drewN ?_ _ | refine blk_drew ?_ | refine blk_alloc ?_ _)); exact BK185.out⟩, ⟨by (with_reducible repeat (first | refine blk_drewN ?_ _ | refine blk_drew ?_ | refine blk_alloc ?_ _)); exact BK186.out⟩, ⟨by repeat (first | (with_reducible first | exact HK.out | apply Kept.alloc | apply Kept.drewN | apply Kept.drew | refine Kept.setCell ?_ (.inr GW184.out) _ | refine Kept.setCell ?_ (.inr GW185.out) _ | refine Kept.setCell ?_ (.inr GW186.out) _) | exact HK.out)⟩, ⟨by repeat (first | (with_reducible first | exact HB.out | apply below_alloc | apply pw_below_drewN | apply below_drew1 | refine below_set ?_ GE184.out | refine below_set ?_ GE185.out | refine below_set ?_ GE186.out) | exact HB.out)⟩⟩
      case rest =>
        clear HC46
        try clear c1
        try clear p1
        try clear q1
        try clear hx1
        try clear c2
        try clear p2
        try clear c3
        try clear c4
        try clear c5
        try clear c5b0
        try clear c6
        try clear c6b0
        try clear c7
        try clear c14
        try clear c15
        try clear p18
        try clear q18
        try clear hx18
        try clear c19
        try clear c22
        try clear c22b0
        try clear c23
        try clear c23b0
        try clear c33
        try clear c34
        try clear c38
        try clear c40
        try clear c54
        try clear c55
        try clear c57
        try clear c59
        try clear c59b0
        try clear c60
        try clear c61
        try clear c63
        try clear c65
        try clear c65b0
        try clear c66
        try clear c67
        try clear c69
        try clear c71
        try clear c72
        try clear c74
        try clear hcz16_0
        try clear hcz16_1
        try clear hcz16_2
        try clear hcz18_0
        try clear hcz18_1
        try clear hcz18_2
        try clear hcz20_0
        try clear hcz20_1
        try clear hcz20_2
        try clear hcz20_3
        try clear hcz21_0
        try clear hcz21_1
        try clear hcz21_2
        try clear hcz21_3
        try clear hcz35_0
        try clear hcz35_1
        try clear hcz35_2
        try clear hcz37_0
        try clear hcz37_1
        try clear hcz37_2
        try clear hcz39_0
        try clear hcz39_1
        try clear hcz39_2
        try clear hcz39_3
        try clear hcz44_0
        try clear hcz44_1
        try clear hcz44_2
        try clear hcz44_3
        try clear hcz45_0
        try clear hcz45_1
        try clear hcz45_2
        try clear hcz45_3
        try clear hcz56_0
        try clear hcz56_1
        try clear hcz56_2
        try clear hcz58_0
        try clear hcz58_1
        try clear hcz58_2
        try clear hcz62_0
        try clear hcz62_1
        try clear hcz62_2
        try clear hcz64_0
        try clear hcz64_1
        try clear hcz64_2
        try clear hcz64_3
        try clear hcz68_0
        try clear hcz68_1
        try clear hcz68_2
        try clear hcz70_0
        try clear hcz70_1
        try clear hcz70_2
        try clear hcz70_3
        try clear hcz73_0
        try clear hcz73_1
        try clear hcz73_2
        try clear hcz75_0
        try clear hcz75_1
        try clear hcz75_2
        try clear hcz75_3
        try clear hfz16_0
        try clear hfz16_1
        try clear hfz16_2
        try clear hfz18_0
        try clear hfz18_1
        try clear hfz18_2
        try clear hfz20_0
        try clear hfz20_1
        try clear hfz20_2
        try clear hfz20_3
        try clear hfz21_0
        try clear hfz21_1
        try clear hfz21_2
        try clear hfz21_3
        try clear hfz35_0
        try clear hfz35_1
        try clear hfz35_2
        try clear hfz37_0
        try clear hfz37_1
        try clear hfz37_2
        try clear hfz39_0
        try clear hfz39_1
        try clear hfz39_2
        try clear hfz39_3
        try clear hfz44_0
        try clear hfz44_1
        try clear hfz44_2
        try clear hfz44_3
        try clear hfz45_0
        try clear hfz45_1
        try clear hfz45_2
        try clear hfz45_3
        try clear hfz56_0
        try clear hfz56_1
        try clear hfz56_2
        try clear hfz58_0
        try clear hfz58_1
        try clear hfz58_2
        try clear hfz62_0
        try clear hfz62_1
        try clear hfz62_2
        try clear hfz64_0
        try clear hfz64_1
        try clear hfz64_2
        try clear hfz64_3
        try clear hfz68_0
        try clear hfz68_1
        try clear hfz68_2
        try clear hfz70_0
        try clear hfz70_1
        try clear hfz70_2
        try clear hfz70_3
        try clear hfz73_0
        try clear hfz73_1
        try clear hfz73_2
        try clear hfz75_0
        try clear hfz75_1
        try clear hfz75_2
        try clear hfz75_3
        try clear hx188_0
        try clear p188
        try clear q188
        obtain ⟨kq, x57_45, rfl, HA, HJ45, HO_185000, HO_185001, HO_185002, HO_185003, BK184, BK185, BK186, HK, HB⟩ := hcut
        cases kq with
        | zero => exact absurd HA.out (by simp [deckleref14_Apply.j0])
        | succ kj45 =>
          have H := HA.out
          clear HA
          simp only [deckleref14_Apply.j0] at H
          by_cases c76 : x57_45 = true
          · subst c76
            have H1 : (some (l0_0, l0_1, l0_2, l0_3, 110)) = some (r1, r2, r3, r4, r5) := by rw [if_pos rfl] at H; exact H
            clear H
            have H := H1
            clear H1
            simp only [Option.some.injEq, Prod.mk.injEq] at H
            obtain ⟨rfl, rfl, rfl, rfl, rfl⟩ := H
            have hnb77 := NB184_185.out
            have hnc77 := NB185_184.out
            have hnb78 := NB184_186.out
            have hnc78 := NB186_184.out
            have hcz79_0 : wc.cell? ⟨gb184, 0, none⟩ = some (.slice Ao47 l0_0.length co47) := (blk_cell BK184.out 0).trans rfl
            have hcz79_1 : wc.cell? ⟨gb184, 1, none⟩ = some (.slice Ao48 l0_1.length co48) := (blk_cell BK184.out 1).trans rfl
            have hcz79_2 : wc.cell? ⟨gb184, 2, none⟩ = some (.slice Ao49 l0_2.length co49) := (blk_cell BK184.out 2).trans rfl
            have hcz79_3 : wc.cell? ⟨gb184, 3, none⟩ = some (.slice Ao50 l0_3.length co50) := (blk_cell BK184.out 3).trans rfl
            have hfz79_0 := blk_frozen BK184.out 0
            have hfz79_1 := blk_frozen BK184.out 1
            have hfz79_2 := blk_frozen BK184.out 2
            have hfz79_3 := blk_frozen BK184.out 3
            have hnb80 := NB186_185.out
            have hnc80 := NB185_186.out
            have hcz81_0 : wc.cell? ⟨gb186, 0, none⟩ = some (.slice none 0 0) := (blk_cell BK186.out 0).trans rfl
            have hcz81_1 : wc.cell? ⟨gb186, 1, none⟩ = some (.slice none 0 0) := (blk_cell BK186.out 1).trans rfl
            have hcz81_2 : wc.cell? ⟨gb186, 2, none⟩ = some (.slice none 0 0) := (blk_cell BK186.out 2).trans rfl
            have hcz81_3 : wc.cell? ⟨gb186, 3, none⟩ = some (.slice none 0 0) := (blk_cell BK186.out 3).trans rfl
            have hfz81_0 := blk_frozen BK186.out 0
            have hfz81_1 := blk_frozen BK186.out 1
            have hfz81_2 := blk_frozen BK186.out 2
            have hfz81_3 := blk_frozen BK186.out 3
            go_wp2
            refine bodyPost_ret (results_ct rfl _ _ gb186 69 #[.slice Ao47 l0_0.length co47, .slice Ao48 l0_1.length co48, .slice Ao49 l0_2.length co49, .slice Ao50 l0_3.length co50] (0, 0) _ rfl (by (with_reducible repeat (first | refine blk_drewN ?_ _ | refine blk_drew ?_ | refine blk_alloc ?_ _)); refine blk_put (cs := #[.slice Ao47 l0_0.length co47, .slice Ao48 l0_1.length co48, .slice Ao49 l0_2.length co49, .slice none 0 0]) ?_ 3 _ rfl; (with_reducible repeat (first | refine blk_drewN ?_ _ | refine blk_drew ?_ | refine blk_alloc ?_ _)); refine blk_put (cs := #[.slice Ao47 l0_0.length co47, .slice Ao48 l0_1.length co48, .slice none 0 0, .slice none 0 0]) ?_ 2 _ rfl; (with_reducible repeat (first | refine blk_drewN ?_ _ | refine blk_drew ?_ | refine blk_alloc ?_ _)); refine blk_put (cs := #[.slice Ao47 l0_0.length co47, .slice none 0 0, .slice none 0 0, .slice none 0 0]) ?_ 1 _ rfl; (with_reducible repeat (first | refine blk_drewN ?_ _ | refine blk_drew ?_ | refine blk_alloc ?_ _)); refine blk_put (cs := #[.slice none 0 0, .slice none 0 0, .slice none 0 0, .slice none 0 0]) ?_ 0 _ rfl; (with_reducible repeat (first | refine blk_drewN ?_ _ | refine blk_drew ?_ | refine blk_alloc ?_ _)); exact BK186.out) Try.underlying69 rfl (by kernel_rfl)) rfl ?_
            exact ⟨_, _, _, _, by first | rfl | (simp [errW_none, errW_some] <;> rfl) | (simp [*, errW_none, errW_some] <;> rfl), by (with_reducible repeat (first | apply Kd.R_alloc | apply Kd.R_drewN | apply Kd.R_drew)); exact Kd.R_mono (Kd.R_far (p := ⟨gb186, 3, none⟩) (Kd.R_far (p := ⟨gb186, 2, none⟩) (Kd.R_far (p := ⟨gb186, 1, none⟩) (Kd.R_far (p := ⟨gb186, 0, none⟩) (Kd.R_types HO_185000.out BK186.out (by decide)) (fun _ hk => hk.2) (.slice Ao47 l0_0.length co47)) (fun _ hk => hk.2) (.slice Ao48 l0_1.length co48)) (fun _ hk => hk.2) (.slice Ao49 l0_2.length co49)) (fun _ hk => hk.2) (.slice Ao50 l0_3.length co50)) (fun _ hk => ⟨hk.1.1, ⟨hk.1.2.1, ⟨hk.1.2.2.1, hk.1.2.2.2⟩⟩⟩), by (with_reducible repeat (first | apply Kd.R_alloc | apply Kd.R_drewN | apply Kd.R_drew)); exact Kd.R_mono (Kd.R_far (p := ⟨gb186, 3, none⟩) (Kd.R_far (p := ⟨gb186, 2, none⟩) (Kd.R_far (p := ⟨gb186, 1, none⟩) (Kd.R_far (p := ⟨gb186, 0, none⟩) (Kd.R_types HO_185001.out BK186.out (by decide)) (fun _ hk => hk.2) (.slice Ao47 l0_0.length co47)) (fun _ hk => hk.2) (.slice Ao48 l0_1.length co48)) (fun _ hk => hk.2) (.slice Ao49 l0_2.length co49)) (fun _ hk => hk.2) (.slice Ao50 l0_3.length co50)) (fun _ hk => ⟨hk.1.1, ⟨hk.1.2.1, ⟨hk.1.2.2.1, hk.1.2.2.2⟩⟩⟩), by (with_reducible repeat (first | apply Kd.R_alloc | apply Kd.R_drewN | apply Kd.R_drew)); exact Kd.R_mono (Kd.R_far (p := ⟨gb186, 3, none⟩) (Kd.R_far (p := ⟨gb186, 2, none⟩) (Kd.R_far (p := ⟨gb186, 1, none⟩) (Kd.R_far (p := ⟨gb186, 0, none⟩) (Kd.R_types HO_185002.out BK186.out (by decide)) (fun _ hk => hk.2) (.slice Ao47 l0_0.length co47)) (fun _ hk => hk.2) (.slice Ao48 l0_1.length co48)) (fun _ hk => hk.2) (.slice Ao49 l0_2.length co49)) (fun _ hk => hk.2) (.slice Ao50 l0_3.length co50)) (fun _ hk => ⟨hk.1.1, ⟨hk.1.2.1, ⟨hk.1.2.2.1, hk.1.2.2.2⟩⟩⟩), by (with_reducible repeat (first | apply Kd.R_alloc | apply Kd.R_drewN | apply Kd.R_drew)); exact Kd.R_mono (Kd.R_far (p := ⟨gb186, 3, none⟩) (Kd.R_far (p := ⟨gb186, 2, none⟩) (Kd.R_far (p := ⟨gb186, 1, none⟩) (Kd.R_far (p := ⟨gb186, 0, none⟩) (Kd.R_types HO_185003.out BK186.out (by decide)) (fun _ hk => hk.2) (.slice Ao47 l0_0.length co47)) (fun _ hk => hk.2) (.slice Ao48 l0_1.length co48)) (fun _ hk => hk.2) (.slice Ao49 l0_2.length co49)) (fun _ hk => hk.2) (.slice Ao50 l0_3.length co50)) (fun _ hk => ⟨hk.1.1, ⟨hk.1.2.1, ⟨hk.1.2.2.1, hk.1.2.2.2⟩⟩⟩), by repeat (first | (with_reducible first | exact HB.out | apply below_alloc | apply pw_below_drewN | apply below_drew1 | refine below_set ?_ GE184.out | refine below_set ?_ GE185.out | refine below_set ?_ GE186.out) | exact HB.out), by repeat (first | (with_reducible first | exact HK.out | apply Kept.alloc | apply Kept.drewN | apply Kept.drew | refine Kept.setCell ?_ (.inr GW184.out) _ | refine Kept.setCell ?_ (.inr GW185.out) _ | refine Kept.setCell ?_ (.inr GW186.out) _) | exact HK.out)⟩
          · replace c76 := Bool.eq_false_iff.mpr c76
            subst c76
            have H1 : (if a1_0 = 3 then ((deckleref14_Put.f kj45 l0_1 a1_1 a1_2).bind fun t192 => (some (l0_0, t192, l0_2, l0_3, 0))) else ((deckleref14_Put.f kj45 l0_1 a1_1 0).bind fun t195 => (if a1_2 = 1 then (if 0 ≤ a1_1 then (if a1_1 < (l0_2.length : Int) then ((deckleref14_Put.f kj45 l0_2 a1_1 (mn (wrap64 ((rd l0_2 a1_1) + 1)) 16777215)).bind fun t199 => (some (l0_0, t195, t199, l0_3, 0))) else (none)) else (none)) else (if 0 ≤ a1_1 then (if a1_1 < (l0_3.length : Int) then ((deckleref14_Put.f kj45 l0_3 a1_1 (mn (wrap64 ((rd l0_3 a1_1) + 1)) 16777215)).bind fun t203 => (some (l0_0, t195, l0_2, t203, 0))) else (none)) else (none))))) = some (r1, r2, r3, r4, r5) := by rw [if_neg (show ¬ (false = true) by decide)] at H; exact H
            clear H
            have H := H1
            clear H1
            by_cases c82 : a1_0 = 3
            · rw [if_pos c82] at H
              have c82b0 : (a1_0 == 3) = true := beq_iff_eq.mpr c82
              have c82b1 : (a1_0 != 3) = false := bne_eq_false_iff_eq.mpr c82
              clear c82
              replace H := Option.bind_eq_some_iff.mp H
              obtain ⟨t192, A830, H⟩ := H
              replace H : (some (l0_0, t192, l0_2, l0_3, 0)) = some (r1, r2, r3, r4, r5) := H
              have A83 := Aside0.mk A830
              clear A830
              simp only [Option.some.injEq, Prod.mk.injEq] at H
              obtain ⟨rfl, rfl, rfl, rfl, rfl⟩ := H
              have hnb84 := NB185_184.out
              have hnc84 := NB184_185.out
              have hnb85 := NB185_186.out
              have hnc85 := NB186_185.out
              have hcz86_0 : wc.cell? ⟨gb185, 0, none⟩ = some (.int .i64 a1_0) := (blk_cell BK185.out 0).trans rfl
              have hcz86_1 : wc.cell? ⟨gb185, 1, none⟩ = some (.int .i64 a1_1) := (blk_cell BK185.out 1).trans rfl
              have hcz86_2 : wc.cell? ⟨gb185, 2, none⟩ = some (.int .i64 a1_2) := (blk_cell BK185.out 2).trans rfl
              have hfz86_0 := blk_frozen BK185.out 0
              have hfz86_1 := blk_frozen BK185.out 1
              have hfz86_2 := blk_frozen BK185.out 2
              have hnb87 := NB184_186.out
              have hnc87 := NB186_184.out
              have hcz88_0 : wc.cell? ⟨gb184, 0, none⟩ = some (.slice Ao47 l0_0.length co47) := (blk_cell BK184.out 0).trans rfl
              have hcz88_1 : wc.cell? ⟨gb184, 1, none⟩ = some (.slice Ao48 l0_1.length co48) := (blk_cell BK184.out 1).trans rfl
              have hcz88_2 : wc.cell? ⟨gb184, 2, none⟩ = some (.slice Ao49 l0_2.length co49) := (blk_cell BK184.out 2).trans rfl
              have hcz88_3 : wc.cell? ⟨gb184, 3, none⟩ = some (.slice Ao50 l0_3.length co50) := (blk_cell BK184.out 3).trans rfl
              have hfz88_0 := blk_frozen BK184.out 0
              have hfz88_1 := blk_frozen BK184.out 1
              have hfz88_2 := blk_frozen BK184.out 2
              have hfz88_3 := blk_frozen BK184.out 3
              go_wp2_with (first | ((with_reducible refine gate_callee (f := 57) rfl ?_); refine goesL_ (some 68) rfl rfl Try.func57 (by kernel_rfl) rfl #[.slice Ao48 l0_1.length co48, .int .i64 a1_1, .int .i64 a1_2] rfl (by (try simp only [List.map_toArray, List.map_cons, List.map_nil]); first | done | rfl | (simp only [List.length_drop, List.length_take]; rfl)) ?_; (with_reducible refine (deckleref14_Put.calls kj45 _ _ l0_1 a1_1 a1_2 t192 _ ?side1 ?side2 A83.out).mono ?_); (case side1 => repeat (first | exact (Kd.R_reads' HO_185001.out).2.2 | (with_reducible refine Kd.C_alloc ?_ _) | (with_reducible refine Kd.C_drewN ?_ _) | (with_reducible refine Kd.C_drew ?_))); (case side2 => exact (Kd.R_reads' HO_185001.out).2.1); rintro e w89 ⟨v193, rfl, ho0, hb⟩; refine ⟨_, rfl, ?_⟩; have n0_ := Aside0.mk (Kd.R_elder' (by (with_reducible repeat (first | apply Kd.R_alloc | apply Kd.R_drewN | apply Kd.R_drew)); exact HO_185000.out) (Kd.R_base ho0) hb); have n1_ := Aside0.mk (Kd.R_elder' (by (with_reducible repeat (first | apply Kd.R_alloc | apply Kd.R_drewN | apply Kd.R_drew)); exact HO_185001.out) (Kd.R_base ho0) hb); have n2_ := Aside0.mk (Kd.R_elder' (by (with_reducible repeat (first | apply Kd.R_alloc | apply Kd.R_drewN | apply Kd.R_drew)); exact HO_185002.out) (Kd.R_base ho0) hb); have n3_ := Aside0.mk (Kd.R_elder' (by (with_reducible repeat (first | apply Kd.R_alloc | apply Kd.R_drewN | apply Kd.R_drew)); exact HO_185003.out) (Kd.R_base ho0) hb); have n4_ := Aside0.mk (Kd.R_lower (Kd.R_new' (Kd.R_new' (Kd.R_new' (Kd.R_new' (Kd.R_newM (M := fun k_ => ((P0_0_ k_ ∨ P0_1_ k_ ∨ P0_2_ k_ ∨ P0_3_ k_) ∨ w.heap.size ≤ k_)) ho0 (by first | exact HK.out.1 | exact (show Kept w _ (fun k_ => P0_0_ k_ ∨ P0_1_ k_ ∨ P0_2_ k_ ∨ P0_3_ k_) from by repeat (first | (with_reducible first | exact HK.out | apply Kept.alloc | apply Kept.drewN | apply Kept.drew | refine Kept.setCell ?_ (.inr GW184.out) _ | refine Kept.setCell ?_ (.inr GW185.out) _ | refine Kept.setCell ?_ (.inr GW186.out) _) | exact HK.out)).1) (fun k_ h_ => .inr h_)) (Kd.R_lt (by (with_reducible repeat (first | apply Kd.R_alloc | apply Kd.R_drewN | apply Kd.R_drew)); exact HO_185000.out))) (Kd.R_lt (by (with_reducible repeat (first | apply Kd.R_alloc | apply Kd.R_drewN | apply Kd.R_drew)); exact HO_185001.out))) (Kd.R_lt (by (with_reducible repeat (first | apply Kd.R_alloc | apply Kd.R_drewN | apply Kd.R_drew)); exact HO_185002.out))) (Kd.R_lt (by (with_reducible repeat (first | apply Kd.R_alloc | apply Kd.R_drewN | apply Kd.R_drew)); exact HO_185003.out))) (below_size (by repeat (first | (with_reducible first | exact HB.out | apply below_alloc | apply pw_below_drewN | apply below_drew1 | refine below_set ?_ GE184.out | refine below_set ?_ GE185.out | refine below_set ?_ GE186.out) | exact HB.out)))); have n5_ := Aside0.mk (blk_below (g := gb184) (o := .cells #[.slice Ao47 l0_0.length co47, .slice Ao48 l0_1.length co48, .slice Ao49 l0_2.length co49, .slice Ao50 l0_3.length co50] 69 (0, 0)) (by (with_reducible repeat (first | refine blk_drewN ?_ _ | refine blk_drew ?_ | refine blk_alloc ?_ _)); exact BK184.out) hb); have n6_ := Aside0.mk (blk_below (g := gb185) (o := .cells #[.int .i64 a1_0, .int .i64 a1_1, .int .i64 a1_2] 73 (0, 0)) (by (with_reducible repeat (first | refine blk_drewN ?_ _ | refine blk_drew ?_ | refine blk_alloc ?_ _)); exact BK185.out) hb); have n7_ := Aside0.mk (blk_below (g := gb186) (o := .cells #[.slice none 0 0, .slice none 0 0, .slice none 0 0, .slice none 0 0] 69 (0, 0)) (by (with_reducible repeat (first | refine blk_drewN ?_ _ | refine blk_drew ?_ | refine blk_alloc ?_ _)); exact BK186.out) hb); have n8_ := Aside0.mk (Kept.below (S := (fun k_ => P0_0_ k_ ∨ P0_1_ k_ ∨ P0_2_ k_ ∨ P0_3_ k_)) (by repeat (first | (with_reducible first | exact HK.out | apply Kept.alloc | apply Kept.drewN | apply Kept.drew | refine Kept.setCell ?_ (.inr GW184.out) _ | refine Kept.setCell ?_ (.inr GW185.out) _ | refine Kept.setCell ?_ (.inr GW186.out) _) | exact HK.out)) hb); have n9_ := Aside0.mk (below_step (by repeat (first | (with_reducible first | exact HB.out | apply below_alloc | apply pw_below_drewN | apply below_drew1 | refine below_set ?_ GE184.out | refine below_set ?_ GE185.out | refine below_set ?_ GE186.out) | exact HB.out)) hb); clear HO_185000; clear HO_185001; clear HO_185002; clear HO_185003; clear BK184; clear BK185; clear BK186; clear HK; clear HB; have HO_185000 := n0_; have HO_185001 := n1_; have HO_185002 := n2_; have HO_185003 := n3_; have HO194 := n4_; have BK184 := n5_; have BK185 := n6_; have BK186 := n7_; have HK := n8_; have HB := n9_; clear n0_ n1_ n2_ n3_ n4_ n5_ n6_ n7_ n8_ n9_; (try clear hb); (try clear hb2); (try clear hk); (try clear hi); (try clear ho0); obtain ⟨Ao90, co90, eo90⟩ := Kd.R_slice HO194.out; subst eo90; have hcz91_0 : w89.cell? ⟨gb184, 0, none⟩ = some (.slice Ao47 l0_0.length co47) := (blk_cell BK184.out 0).trans rfl; have hcz91_1 : w89.cell? ⟨gb184, 1, none⟩ = some (.slice Ao48 l0_1.length co48) := (blk_cell BK184.out 1).trans rfl; have hcz91_2 : w89.cell? ⟨gb184, 2, none⟩ = some (.slice Ao49 l0_2.length co49) := (blk_cell BK184.out 2).trans rfl; have hcz91_3 : w89.cell? ⟨gb184, 3, none⟩ = some (.slice Ao50 l0_3.length co50) := (blk_cell BK184.out 3).trans rfl; have hfz91_0 := blk_frozen BK184.out 0; have hfz91_1 := blk_frozen BK184.out 1; have hfz91_2 := blk_frozen BK184.out 2; have hfz91_3 := blk_frozen BK184.out 3; have hcz92_0 : w89.cell? ⟨gb186, 0, none⟩ = some (.slice none 0 0) := (blk_cell BK186.out 0).trans rfl; have hcz92_1 : w89.cell? ⟨gb186, 1, none⟩ = some (.slice none 0 0) := (blk_cell BK186.out 1).trans rfl; have hcz92_2 : w89.cell? ⟨gb186, 2, none⟩ = some (.slice none 0 0) := (blk_cell BK186.out 2).trans rfl; have hcz92_3 : w89.cell? ⟨gb186, 3, none⟩ = some (.slice none 0 0) := (blk_cell BK186.out 3).trans rfl; have hfz92_0 := blk_frozen BK186.out 0; have hfz92_1 := blk_frozen BK186.out 1; have hfz92_2 := blk_frozen BK186.out 2; have hfz92_3 := blk_frozen BK186.out 3))
              refine bodyPost_ret (results_ct rfl _ _ gb186 69 #[.slice Ao47 l0_0.length co47, .slice Ao90 t192.length co90, .slice Ao49 l0_2.length co49, .slice Ao50 l0_3.length co50] (0, 0) _ rfl (by (with_reducible repeat (first | refine blk_drewN ?_ _ | refine blk_drew ?_ | refine blk_alloc ?_ _)); refine blk_put (cs := #[.slice Ao47 l0_0.length co47, .slice Ao90 t192.length co90, .slice Ao49 l0_2.length co49, .slice none 0 0]) ?_ 3 _ rfl; (with_reducible repeat (first | refine blk_drewN ?_ _ | refine blk_drew ?_ | refine blk_alloc ?_ _)); refine blk_put (cs := #[.slice Ao47 l0_0.length co47, .slice Ao90 t192.length co90, .slice none 0 0, .slice none 0 0]) ?_ 2 _ rfl; (with_reducible repeat (first | refine blk_drewN ?_ _ | refine blk_drew ?_ | refine blk_alloc ?_ _)); refine blk_put (cs := #[.slice Ao47 l0_0.length co47, .slice none 0 0, .slice none 0 0, .slice none 0 0]) ?_ 1 _ rfl; (with_reducible repeat (first | refine blk_drewN ?_ _ | refine blk_drew ?_ | refine blk_alloc ?_ _)); refine blk_put (cs := #[.slice none 0 0, .slice none 0 0, .slice none 0 0, .slice none 0 0]) ?_ 0 _ rfl; (with_reducible repeat (first | refine blk_drewN ?_ _ | refine blk_drew ?_ | refine blk_alloc ?_ _)); refine blk_far ?_ NB186_184.out _; (with_reducible repeat (first | refine blk_drewN ?_ _ | refine blk_drew ?_ | refine blk_alloc ?_ _)); exact BK186.out) Try.underlying69 rfl (by kernel_rfl)) rfl ?_
              exact ⟨_, _, _, _, by first | rfl | (simp [errW_none, errW_some] <;> rfl) | (simp [*, errW_none, errW_some] <;> rfl), by (with_reducible repeat (first | apply Kd.R_alloc | apply Kd.R_drewN | apply Kd.R_drew)); exact Kd.R_mono (Kd.R_far (p := ⟨gb186, 3, none⟩) (Kd.R_far (p := ⟨gb186, 2, none⟩) (Kd.R_far (p := ⟨gb186, 1, none⟩) (Kd.R_far (p := ⟨gb186, 0, none⟩) (Kd.R_far (p := ⟨gb184, 1, none⟩) (Kd.R_types (Kd.R_types HO_185000.out BK184.out (by decide)) BK186.out (by decide)) (fun _ hk => hk.1.2) (.slice Ao90 t192.length co90)) (fun _ hk => hk.2) (.slice Ao47 l0_0.length co47)) (fun _ hk => hk.2) (.slice Ao90 t192.length co90)) (fun _ hk => hk.2) (.slice Ao49 l0_2.length co49)) (fun _ hk => hk.2) (.slice Ao50 l0_3.length co50)) (fun _ hk => ⟨hk.1.1.1.1, ⟨hk.1.1.2, ⟨hk.1.1.1.2.2.1, hk.1.1.1.2.2.2⟩⟩⟩), by (with_reducible repeat (first | apply Kd.R_alloc | apply Kd.R_drewN | apply Kd.R_drew)); exact Kd.R_mono (Kd.R_far (p := ⟨gb186, 3, none⟩) (Kd.R_far (p := ⟨gb186, 2, none⟩) (Kd.R_far (p := ⟨gb186, 1, none⟩) (Kd.R_far (p := ⟨gb186, 0, none⟩) (Kd.R_far (p := ⟨gb184, 1, none⟩) (Kd.R_types (Kd.R_types HO194.out BK184.out (by decide)) BK186.out (by decide)) (fun _ hk => hk.1.2) (.slice Ao90 t192.length co90)) (fun _ hk => hk.2) (.slice Ao47 l0_0.length co47)) (fun _ hk => hk.2) (.slice Ao90 t192.length co90)) (fun _ hk => hk.2) (.slice Ao49 l0_2.length co49)) (fun _ hk => hk.2) (.slice Ao50 l0_3.length co50)) (fun _ hk => ⟨hk.1.1.1.1.1.1.1, ⟨hk.1.1.1.1.1.2, ⟨hk.1.1.1.2, hk.1.1.2⟩⟩⟩), by (with_reducible repeat (first | apply Kd.R_alloc | apply Kd.R_drewN | apply Kd.R_drew)); exact Kd.R_mono (Kd.R_far (p := ⟨gb186, 3, none⟩) (Kd.R_far (p := ⟨gb186, 2, none⟩) (Kd.R_far (p := ⟨gb186, 1, none⟩) (Kd.R_far (p := ⟨gb186, 0, none⟩) (Kd.R_far (p := ⟨gb184, 1, none⟩) (Kd.R_types (Kd.R_types HO_185002.out BK184.out (by decide)) BK186.out (by decide)) (fun _ hk => hk.1.2) (.slice Ao90 t192.length co90)) (fun _ hk => hk.2) (.slice Ao47 l0_0.length co47)) (fun _ hk => hk.2) (.slice Ao90 t192.length co90)) (fun _ hk => hk.2) (.slice Ao49 l0_2.length co49)) (fun _ hk => hk.2) (.slice Ao50 l0_3.length co50)) (fun _ hk => ⟨hk.1.1.1.1, ⟨hk.1.1.1.2.1, ⟨hk.1.1.2, hk.1.1.1.2.2.2⟩⟩⟩), by (with_reducible repeat (first | apply Kd.R_alloc | apply Kd.R_drewN | apply Kd.R_drew)); exact Kd.R_mono (Kd.R_far (p := ⟨gb186, 3, none⟩) (Kd.R_far (p := ⟨gb186, 2, none⟩) (Kd.R_far (p := ⟨gb186, 1, none⟩) (Kd.R_far (p := ⟨gb186, 0, none⟩) (Kd.R_far (p := ⟨gb184, 1, none⟩) (Kd.R_types (Kd.R_types HO_185003.out BK184.out (by decide)) BK186.out (by decide)) (fun _ hk => hk.1.2) (.slice Ao90 t192.length co90)) (fun _ hk => hk.2) (.slice Ao47 l0_0.length co47)) (fun _ hk => hk.2) (.slice Ao90 t192.length co90)) (fun _ hk => hk.2) (.slice Ao49 l0_2.length co49)) (fun _ hk => hk.2) (.slice Ao50 l0_3.length co50)) (fun _ hk => ⟨hk.1.1.1.1, ⟨hk.1.1.1.2.1, ⟨hk.1.1.2, hk.1.1.1.2.2.2⟩⟩⟩), by repeat (first | (with_reducible first | exact HB.out | apply below_alloc | apply pw_below_drewN | apply below_drew1 | refine below_set ?_ GE184.out | refine below_set ?_ GE185.out | refine below_set ?_ GE186.out) | exact HB.out), by repeat (first | (with_reducible first | exact HK.out | apply Kept.alloc | apply Kept.drewN | apply Kept.drew | refine Kept.setCell ?_ (.inr GW184.out) _ | refine Kept.setCell ?_ (.inr GW185.out) _ | refine Kept.setCell ?_ (.inr GW186.out) _) | exact HK.out)⟩
            · rw [if_neg c82] at H
              have c82b0 : (a1_0 == 3) = false := beq_eq_false_iff_ne.mpr c82
              have c82b1 : (a1_0 != 3) = true := bne_iff_ne.mpr c82
              replace H := Option.bind_eq_some_iff.mp H
              obtain ⟨t195, A930, H⟩ := H
              replace H : (if a1_2 = 1 then (if 0 ≤ a1_1 then (if a1_1 < (l0_2.length : Int) then ((deckleref14_Put.f kj45 l0_2 a1_1 (mn (wrap64 ((rd l0_2 a1_1) + 1)) 16777215)).bind fun t199 => (some (l0_0, t195, t199, l0_3, 0))) else (none)) else (none)) else (if 0 ≤ a1_1 then (if a1_1 < (l0_3.length : Int) then ((deckleref14_Put.f kj45 l0_3 a1_1 (mn (wrap64 ((rd l0_3 a1_1) + 1)) 16777215)).bind fun t203 => (some (l0_0, t195, l0_2, t203, 0))) else (none)) else (none))) = some (r1, r2, r3, r4, r5) := H
              have A93 := Aside0.mk A930
              clear A930
              by_cases c94 : a1_2 = 1
              · rw [if_pos c94] at H
                have c94b0 : (a1_2 == 1) = true := beq_iff_eq.mpr c94
                have c94b1 : (a1_2 != 1) = false := bne_eq_false_iff_eq.mpr c94
                clear c94
                by_cases c95 : 0 ≤ a1_1
                · rw [if_pos c95] at H
                  have c95b0 : decide (0 ≤ a1_1) = true := decide_eq_true c95
                  clear c95
                  by_cases c96 : a1_1 < (l0_2.length : Int)
                  · rw [if_pos c96] at H
                    have c96b0 : decide (a1_1 < (l0_2.length : Int)) = true := decide_eq_true c96
                    clear c96
                    obtain ⟨ji97, hji97⟩ : ∃ j_ : Int, (mn (wrap64 ((rd l0_2 a1_1) + 1)) 16777215) = j_ := ⟨_, rfl⟩
                    replace H : ((deckleref14_Put.f kj45 l0_2 a1_1 (ji97)).bind fun t199 => (some (l0_0, t195, t199, l0_3, 0))) = some (r1, r2, r3, r4, r5) := by first | (rw [hji97] at H; exact H) | (simp only [hji97] at H ⊢; exact H)
                    (try rw [hji97] at A93)
                    have hji97_ : (if 16777215 < (wrap64 ((rd l0_2 a1_1) + 1)) then 16777215 else (wrap64 ((rd l0_2 a1_1) + 1))) = ji97 := hji97
                    replace H := Option.bind_eq_some_iff.mp H
                    obtain ⟨t199, A980, H⟩ := H
                    replace H : (some (l0_0, t195, t199, l0_3, 0)) = some (r1, r2, r3, r4, r5) := H
                    have A98 := Aside0.mk A980
                    clear A980
                    simp only [Option.some.injEq, Prod.mk.injEq] at H
                    obtain ⟨rfl, rfl, rfl, rfl, rfl⟩ := H
                    have hnb99 := NB185_184.out
                    have hnc99 := NB184_185.out
                    have hnb100 := NB185_186.out
                    have hnc100 := NB186_185.out
                    have hcz101_0 : wc.cell? ⟨gb185, 0, none⟩ = some (.int .i64 a1_0) := (blk_cell BK185.out 0).trans rfl
                    have hcz101_1 : wc.cell? ⟨gb185, 1, none⟩ = some (.int .i64 a1_1) := (blk_cell BK185.out 1).trans rfl
                    have hcz101_2 : wc.cell? ⟨gb185, 2, none⟩ = some (.int .i64 a1_2) := (blk_cell BK185.out 2).trans rfl
                    have hfz101_0 := blk_frozen BK185.out 0
                    have hfz101_1 := blk_frozen BK185.out 1
                    have hfz101_2 := blk_frozen BK185.out 2
                    have hnb102 := NB184_186.out
                    have hnc102 := NB186_184.out
                    have hcz103_0 : wc.cell? ⟨gb184, 0, none⟩ = some (.slice Ao47 l0_0.length co47) := (blk_cell BK184.out 0).trans rfl
                    have hcz103_1 : wc.cell? ⟨gb184, 1, none⟩ = some (.slice Ao48 l0_1.length co48) := (blk_cell BK184.out 1).trans rfl
                    have hcz103_2 : wc.cell? ⟨gb184, 2, none⟩ = some (.slice Ao49 l0_2.length co49) := (blk_cell BK184.out 2).trans rfl
                    have hcz103_3 : wc.cell? ⟨gb184, 3, none⟩ = some (.slice Ao50 l0_3.length co50) := (blk_cell BK184.out 3).trans rfl
                    have hfz103_0 := blk_frozen BK184.out 0
                    have hfz103_1 := blk_frozen BK184.out 1
                    have hfz103_2 := blk_frozen BK184.out 2
                    have hfz103_3 := blk_frozen BK184.out 3
                    try go_wp2_with (first | ((with_reducible refine gate_callee (f := 57) rfl ?_); refine goesL_ (some 75) rfl rfl Try.func57 (by kernel_rfl) rfl #[.slice Ao48 l0_1.length co48, .int .i64 a1_1, .int .i64 0] rfl (by (try simp only [List.map_toArray, List.map_cons, List.map_nil]); first | done | rfl | (simp only [List.length_drop, List.length_take]; rfl)) ?_; (with_reducible refine (deckleref14_Put.calls kj45 _ _ l0_1 a1_1 0 t195 _ ?side1 ?side2 A93.out).mono ?_); (case side1 => repeat (first | exact (Kd.R_reads' HO_185001.out).2.2 | (with_reducible refine Kd.C_alloc ?_ _) | (with_reducible refine Kd.C_drewN ?_ _) | (with_reducible refine Kd.C_drew ?_))); (case side2 => exact (Kd.R_reads' HO_185001.out).2.1); rintro e w104 ⟨v196, rfl, ho0, hb⟩; refine ⟨_, rfl, ?_⟩; have n0_ := Aside0.mk (Kd.R_elder' (by (with_reducible repeat (first | apply Kd.R_alloc | apply Kd.R_drewN | apply Kd.R_drew)); exact HO_185000.out) (Kd.R_base ho0) hb); have n1_ := Aside0.mk (Kd.R_elder' (by (with_reducible repeat (first | apply Kd.R_alloc | apply Kd.R_drewN | apply Kd.R_drew)); exact HO_185001.out) (Kd.R_base ho0) hb); have n2_ := Aside0.mk (Kd.R_elder' (by (with_reducible repeat (first | apply Kd.R_alloc | apply Kd.R_drewN | apply Kd.R_drew)); exact HO_185002.out) (Kd.R_base ho0) hb); have n3_ := Aside0.mk (Kd.R_elder' (by (with_reducible repeat (first | apply Kd.R_alloc | apply Kd.R_drewN | apply Kd.R_drew)); exact HO_185003.out) (Kd.R_base ho0) hb); have n4_ := Aside0.mk (Kd.R_lower (Kd.R_new' (Kd.R_new' (Kd.R_new' (Kd.R_new' (Kd.R_newM (M := fun k_ => ((P0_0_ k_ ∨ P0_1_ k_ ∨ P0_2_ k_ ∨ P0_3_ k_) ∨ w.heap.size ≤ k_)) ho0 (by first | exact HK.out.1 | exact (show Kept w _ (fun k_ => P0_0_ k_ ∨ P0_1_ k_ ∨ P0_2_ k_ ∨ P0_3_ k_) from by repeat (first | (with_reducible first | exact HK.out | apply Kept.alloc | apply Kept.drewN | apply Kept.drew | refine Kept.setCell ?_ (.inr GW184.out) _ | refine Kept.setCell ?_ (.inr GW185.out) _ | refine Kept.setCell ?_ (.inr GW186.out) _) | exact HK.out)).1) (fun k_ h_ => .inr h_)) (Kd.R_lt (by (with_reducible repeat (first | apply Kd.R_alloc | apply Kd.R_drewN | apply Kd.R_drew)); exact HO_185000.out))) (Kd.R_lt (by (with_reducible repeat (first | apply Kd.R_alloc | apply Kd.R_drewN | apply Kd.R_drew)); exact HO_185001.out))) (Kd.R_lt (by (with_reducible repeat (first | apply Kd.R_alloc | apply Kd.R_drewN | apply Kd.R_drew)); exact HO_185002.out))) (Kd.R_lt (by (with_reducible repeat (first | apply Kd.R_alloc | apply Kd.R_drewN | apply Kd.R_drew)); exact HO_185003.out))) (below_size (by repeat (first | (with_reducible first | exact HB.out | apply below_alloc | apply pw_below_drewN | apply below_drew1 | refine below_set ?_ GE184.out | refine below_set ?_ GE185.out | refine below_set ?_ GE186.out) | exact HB.out)))); have n5_ := Aside0.mk (blk_below (g := gb184) (o := .cells #[.slice Ao47 l0_0.length co47, .slice Ao48 l0_1.length co48, .slice Ao49 l0_2.length co49, .slice Ao50 l0_3.length co50] 69 (0, 0)) (by (with_reducible repeat (first | refine blk_drewN ?_ _ | refine blk_drew ?_ | refine blk_alloc ?_ _)); exact BK184.out) hb); have n6_ := Aside0.mk (blk_below (g := gb185) (o := .cells #[.int .i64 a1_0, .int .i64 a1_1, .int .i64 a1_2] 73 (0, 0)) (by (with_reducible repeat (first | refine blk_drewN ?_ _ | refine blk_drew ?_ | refine blk_alloc ?_ _)); exact BK185.out) hb); have n7_ := Aside0.mk (blk_below (g := gb186) (o := .cells #[.slice none 0 0, .slice none 0 0, .slice none 0 0, .slice none 0 0] 69 (0, 0)) (by (with_reducible repeat (first | refine blk_drewN ?_ _ | refine blk_drew ?_ | refine blk_alloc ?_ _)); exact BK186.out) hb); have n8_ := Aside0.mk (Kept.below (S := (fun k_ => P0_0_ k_ ∨ P0_1_ k_ ∨ P0_2_ k_ ∨ P0_3_ k_)) (by repeat (first | (with_reducible first | exact HK.out | apply Kept.alloc | apply Kept.drewN | apply Kept.drew | refine Kept.setCell ?_ (.inr GW184.out) _ | refine Kept.setCell ?_ (.inr GW185.out) _ | refine Kept.setCell ?_ (.inr GW186.out) _) | exact HK.out)) hb); have n9_ := Aside0.mk (below_step (by repeat (first | (with_reducible first | exact HB.out | apply below_alloc | apply pw_below_drewN | apply below_drew1 | refine below_set ?_ GE184.out | refine below_set ?_ GE185.out | refine below_set ?_ GE186.out) | exact HB.out)) hb); clear HO_185000; clear HO_185001; clear HO_185002; clear HO_185003; clear BK184; clear BK185; clear BK186; clear HK; clear HB; have HO_185000 := n0_; have HO_185001 := n1_; have HO_185002 := n2_; have HO_185003 := n3_; have HO197 := n4_; have BK184 := n5_; have BK185 := n6_; have BK186 := n7_; have HK := n8_; have HB := n9_; clear n0_ n1_ n2_ n3_ n4_ n5_ n6_ n7_ n8_ n9_; (try clear hb); (try clear hb2); (try clear hk); (try clear hi); (try clear ho0); obtain ⟨Ao105, co105, eo105⟩ := Kd.R_slice HO197.out; subst eo105; have hcz106_0 : w104.cell? ⟨gb184, 0, none⟩ = some (.slice Ao47 l0_0.length co47) := (blk_cell BK184.out 0).trans rfl; have hcz106_1 : w104.cell? ⟨gb184, 1, none⟩ = some (.slice Ao48 l0_1.length co48) := (blk_cell BK184.out 1).trans rfl; have hcz106_2 : w104.cell? ⟨gb184, 2, none⟩ = some (.slice Ao49 l0_2.length co49) := (blk_cell BK184.out 2).trans rfl; have hcz106_3 : w104.cell? ⟨gb184, 3, none⟩ = some (.slice Ao50 l0_3.length co50) := (blk_cell BK184.out 3).trans rfl; have hfz106_0 := blk_frozen BK184.out 0; have hfz106_1 := blk_frozen BK184.out 1; have hfz106_2 := blk_frozen BK184.out 2; have hfz106_3 := blk_frozen BK184.out 3; have hcz107_0 : w104.cell? ⟨gb185, 0, none⟩ = some (.int .i64 a1_0) := (blk_cell BK185.out 0).trans rfl; have hcz107_1 : w104.cell? ⟨gb185, 1, none⟩ = some (.int .i64 a1_1) := (blk_cell BK185.out 1).trans rfl; have hcz107_2 : w104.cell? ⟨gb185, 2, none⟩ = some (.int .i64 a1_2) := (blk_cell BK185.out 2).trans rfl; have hfz107_0 := blk_frozen BK185.out 0; have hfz107_1 := blk_frozen BK185.out 1; have hfz107_2 := blk_frozen BK185.out 2))
                    have n0_ : Aside0 (Kd.R (Kd.int .i64) 3 (w104.setCell ⟨gb184, 1, none⟩ (.slice Ao105 t195.length co105)) w0.heap.size (fun k_ => ((P0_0_ k_ ∨ P0_1_ k_ ∨ P0_2_ k_ ∨ P0_3_ k_) ∨ w.heap.size ≤ k_) ∧ some k_ ≠ (.slice Ao48 l0_1.length co48 : Value).ownBlock ∧ some k_ ≠ (.slice Ao49 l0_2.length co49 : Value).ownBlock ∧ some k_ ≠ (.slice Ao50 l0_3.length co50 : Value).ownBlock ∧ some k_ ≠ (.slice Ao105 t195.length co105 : Value).ownBlock) (.slice Ao47 l0_0.length co47) l0_0) := ⟨by (with_reducible repeat (first | apply Kd.R_alloc | apply Kd.R_drewN | apply Kd.R_drew)); exact Kd.R_mono (Kd.R_far (p := ⟨gb184, 1, none⟩) (Kd.R_types HO_185000.out BK184.out (by decide)) (fun _ hk => hk.2) (.slice Ao105 t195.length co105)) (fun _ hk => ⟨hk.1.1.1, ⟨hk.1.1.2.1, ⟨hk.1.1.2.2.1, ⟨hk.1.1.2.2.2, hk.1.2⟩⟩⟩⟩)⟩
                    have n1_ : Aside0 (Kd.R (Kd.int .i64) 3 (w104.setCell ⟨gb184, 1, none⟩ (.slice Ao105 t195.length co105)) w0.heap.size (fun k_ => ((P0_0_ k_ ∨ P0_1_ k_ ∨ P0_2_ k_ ∨ P0_3_ k_) ∨ w.heap.size ≤ k_) ∧ some k_ ≠ (.slice Ao47 l0_0.length co47 : Value).ownBlock ∧ some k_ ≠ (.slice Ao49 l0_2.length co49 : Value).ownBlock ∧ some k_ ≠ (.slice Ao50 l0_3.length co50 : Value).ownBlock ∧ some k_ ≠ (.slice Ao105 t195.length co105 : Value).ownBlock) (.slice Ao48 l0_1.length co48) l0_1) := ⟨by (with_reducible repeat (first | apply Kd.R_alloc | apply Kd.R_drewN | apply Kd.R_drew)); exact Kd.R_mono (Kd.R_far (p := ⟨gb184, 1, none⟩) (Kd.R_types HO_185001.out BK184.out (by decide)) (fun _ hk => hk.2) (.slice Ao105 t195.length co105)) (fun _ hk => ⟨hk.1.1.1, ⟨hk.1.1.2.1, ⟨hk.1.1.2.2.1, ⟨hk.1.1.2.2.2, hk.1.2⟩⟩⟩⟩)⟩
                    have n2_ : Aside0 (Kd.R (Kd.int .i64) 3 (w104.setCell ⟨gb184, 1, none⟩ (.slice Ao105 t195.length co105)) w0.heap.size (fun k_ => ((P0_0_ k_ ∨ P0_1_ k_ ∨ P0_2_ k_ ∨ P0_3_ k_) ∨ w.heap.size ≤ k_) ∧ some k_ ≠ (.slice Ao47 l0_0.length co47 : Value).ownBlock ∧ some k_ ≠ (.slice Ao48 l0_1.length co48 : Value).ownBlock ∧ some k_ ≠ (.slice Ao50 l0_3.length co50 : Value).ownBlock ∧ some k_ ≠ (.slice Ao105 t195.length co105 : Value).ownBlock) (.slice Ao49 l0_2.length co49) l0_2) := ⟨by (with_reducible repeat (first | apply Kd.R_alloc | apply Kd.R_drewN | apply Kd.R_drew)); exact Kd.R_mono (Kd.R_far (p := ⟨gb184, 1, none⟩) (Kd.R_types HO_185002.out BK184.out (by decide)) (fun _ hk => hk.2) (.slice Ao105 t195.length co105)) (fun _ hk => ⟨hk.1.1.1, ⟨hk.1.1.2.1, ⟨hk.1.1.2.2.1, ⟨hk.1.1.2.2.2, hk.1.2⟩⟩⟩⟩)⟩
                    have n3_ : Aside0 (Kd.R (Kd.int .i64) 3 (w104.setCell ⟨gb184, 1, none⟩ (.slice Ao105 t195.length co105)) w0.heap.size (fun k_ => ((P0_0_ k_ ∨ P0_1_ k_ ∨ P0_2_ k_ ∨ P0_3_ k_) ∨ w.heap.size ≤ k_) ∧ some k_ ≠ (.slice Ao47 l0_0.length co47 : Value).ownBlock ∧ some k_ ≠ (.slice Ao48 l0_1.length co48 : Value).ownBlock ∧ some k_ ≠ (.slice Ao49 l0_2.length co49 : Value).ownBlock ∧ some k_ ≠ (.slice Ao105 t195.length co105 : Value).ownBlock) (.slice Ao50 l0_3.length co50) l0_3) := ⟨by (with_reducible repeat (first | apply Kd.R_alloc | apply Kd.R_drewN | apply Kd.R_drew)); exact Kd.R_mono (Kd.R_far (p := ⟨gb184, 1, none⟩) (Kd.R_types HO_185003.out BK184.out (by decide)) (fun _ hk => hk.2) (.slice Ao105 t195.length co105)) (fun _ hk => ⟨hk.1.1.1, ⟨hk.1.1.2.1, ⟨hk.1.1.2.2.1, ⟨hk.1.1.2.2.2, hk.1.2⟩⟩⟩⟩)⟩
                    have n4_ : Aside0 (Kd.R (Kd.int .i64) 3 (w104.setCell ⟨gb184, 1, none⟩ (.slice Ao105 t195.length co105)) w0.heap.size (fun k_ => ((P0_0_ k_ ∨ P0_1_ k_ ∨ P0_2_ k_ ∨ P0_3_ k_) ∨ w.heap.size ≤ k_) ∧ some k_ ≠ (.slice Ao47 l0_0.length co47 : Value).ownBlock ∧ some k_ ≠ (.slice Ao48 l0_1.length co48 : Value).ownBlock ∧ some k_ ≠ (.slice Ao49 l0_2.length co49 : Value).ownBlock ∧ some k_ ≠ (.slice Ao50 l0_3.length co50 : Value).ownBlock) (.slice Ao105 t195.length co105) t195) := ⟨by (with_reducible repeat (first | apply Kd.R_alloc | apply Kd.R_drewN | apply Kd.R_drew)); exact Kd.R_mono (Kd.R_far (p := ⟨gb184, 1, none⟩) (Kd.R_types HO197.out BK184.out (by decide)) (fun _ hk => hk.2) (.slice Ao105 t195.length co105)) (fun _ hk => ⟨hk.1.1.1.1.1.1, ⟨hk.1.1.1.1.2, ⟨hk.1.1.1.2, ⟨hk.1.1.2, hk.1.2⟩⟩⟩⟩)⟩
                    have n5_ : Aside0 ((w104.setCell ⟨gb184, 1, none⟩ (.slice Ao105 t195.length co105)).heap[gb184]? = some (.cells #[.slice Ao47 l0_0.length co47, .slice Ao105 t195.length co105, .slice Ao49 l0_2.length co49, .slice Ao50 l0_3.length co50] 69 (0, 0))) := ⟨by (with_reducible repeat (first | refine blk_drewN ?_ _ | refine blk_drew ?_ | refine blk_alloc ?_ _)); refine blk_put (cs := #[.slice Ao47 l0_0.length co47, .slice Ao48 l0_1.length co48, .slice Ao49 l0_2.length co49, .slice Ao50 l0_3.length co50]) ?_ 1 _ rfl; (with_reducible repeat (first | refine blk_drewN ?_ _ | refine blk_drew ?_ | refine blk_alloc ?_ _)); exact BK184.out⟩
                    have n6_ : Aside0 ((w104.setCell ⟨gb184, 1, none⟩ (.slice Ao105 t195.length co105)).heap[gb185]? = some (.cells #[.int .i64 a1_0, .int .i64 a1_1, .int .i64 a1_2] 73 (0, 0))) := ⟨by (with_reducible repeat (first | refine blk_drewN ?_ _ | refine blk_drew ?_ | refine blk_alloc ?_ _)); refine blk_far ?_ NB185_184.out _; (with_reducible repeat (first | refine blk_drewN ?_ _ | refine blk_drew ?_ | refine blk_alloc ?_ _)); exact BK185.out⟩
                    have n7_ : Aside0 ((w104.setCell ⟨gb184, 1, none⟩ (.slice Ao105 t195.length co105)).heap[gb186]? = some (.cells #[.slice none 0 0, .slice none 0 0, .slice none 0 0, .slice none 0 0] 69 (0, 0))) := ⟨by (with_reducible repeat (first | refine blk_drewN ?_ _ | refine blk_drew ?_ | refine blk_alloc ?_ _)); refine blk_far ?_ NB186_184.out _; (with_reducible repeat (first | refine blk_drewN ?_ _ | refine blk_drew ?_ | refine blk_alloc ?_ _)); exact BK186.out⟩
                    have n8_ : Aside0 (Kept w (w104.setCell ⟨gb184, 1, none⟩ (.slice Ao105 t195.length co105)) (fun k_ => P0_0_ k_ ∨ P0_1_ k_ ∨ P0_2_ k_ ∨ P0_3_ k_)) := ⟨by repeat (first | (with_reducible first | exact HK.out | apply Kept.alloc | apply Kept.drewN | apply Kept.drew | refine Kept.setCell ?_ (.inr GW184.out) _ | refine Kept.setCell ?_ (.inr GW185.out) _ | refine Kept.setCell ?_ (.inr GW186.out) _) | exact HK.out)⟩
                    have n9_ : Aside0 (Below w0.heap.size w0 (w104.setCell ⟨gb184, 1, none⟩ (.slice Ao105 t195.length co105))) := ⟨by repeat (first | (with_reducible first | exact HB.out | apply below_alloc | apply pw_below_drewN | apply below_drew1 | refine below_set ?_ GE184.out | refine below_set ?_ GE185.out | refine below_set ?_ GE186.out) | exact HB.out)⟩
                    (try clear HO_185000)
                    (try clear HO_185001)
                    (try clear HO_185002)
                    (try clear HO_185003)
                    (try clear HO197)
                    (try clear BK184)
                    (try clear BK185)
                    (try clear BK186)
                    (try clear HK)
                    (try clear HB)
                    generalize (w104.setCell ⟨gb184, 1, none⟩ (.slice Ao105 t195.length co105)) = w108 at n0_ n1_ n2_ n3_ n4_ n5_ n6_ n7_ n8_ n9_ ⊢
                    have HO_185000 := n0_
                    have HO_185001 := n1_
                    have HO_185002 := n2_
                    have HO_185003 := n3_
                    have HO197 := n4_
                    have BK184 := n5_
                    have BK185 := n6_
                    have BK186 := n7_
                    have HK := n8_
                    have HB := n9_
                    clear n0_ n1_ n2_ n3_ n4_ n5_ n6_ n7_ n8_ n9_
                    have n0_ := Aside0.mk (Kd.R_drew HO_185000.out)
                    have n1_ := Aside0.mk (Kd.R_drew HO_185001.out)
                    have n2_ := Aside0.mk (Kd.R_drew HO_185002.out)
                    have n3_ := Aside0.mk (Kd.R_drew HO_185003.out)
                    have n4_ := Aside0.mk (Kd.R_drew HO197.out)
                    have n5_ := Aside0.mk (blk_drew BK184.out)
                    have n6_ := Aside0.mk (blk_drew BK185.out)
                    have n7_ := Aside0.mk (blk_drew BK186.out)
                    have n8_ := Aside0.mk (Kept.drew HK.out)
                    have n9_ := Aside0.mk (below_drew1 HB.out)
                    clear HO_185000
                    clear HO_185001
                    clear HO_185002
                    clear HO_185003
                    clear HO197
                    clear BK184
                    clear BK185
                    clear BK186
                    clear HK
                    clear HB
                    have HO_185000 := n0_
                    have HO_185001 := n1_
                    have HO_185002 := n2_
                    have HO_185003 := n3_
                    have HO197 := n4_
                    have BK184 := n5_
                    have BK185 := n6_
                    have BK186 := n7_
                    have HK := n8_
                    have HB := n9_
                    clear n0_ n1_ n2_ n3_ n4_ n5_ n6_ n7_ n8_ n9_
                    have p198 : 0 ≤ (a1_1 : Int) := of_decide_eq_true (by first | (with_reducible assumption) | assumption)
                    have q198 : a1_1 < (l0_2.length : Int) := of_decide_eq_true (by first | (with_reducible assumption) | assumption)
                    obtain ⟨ad198, e198, hx198_0⟩ := Kd.at_int (Kd.R_reads' HO_185002.out).2.2 a1_1 p198 q198
                    cases e198
                    replace p198 := eq_true p198
                    replace q198 := eq_true q198
                    refine start_ (n := 15) (S := fun w' => w'.cell? ⟨gb184, 0, none⟩ = some (.slice Ao47 l0_0.length co47) ∧ w'.cell? ⟨gb184, 1, none⟩ = some (.slice Ao105 t195.length co105) ∧ w'.cell? ⟨gb184, 2, none⟩ = some (.slice (some ad198) l0_2.length co49) ∧ w'.cell? ⟨gb184, 3, none⟩ = some (.slice Ao50 l0_3.length co50) ∧ w'.cell? ⟨gb185, 0, none⟩ = some (.int .i64 a1_0) ∧ w'.cell? ⟨gb185, 1, none⟩ = some (.int .i64 a1_1) ∧ w'.cell? ⟨gb185, 2, none⟩ = some (.int .i64 a1_2) ∧ w'.cell? (ad198.add (a1_1).toNat) = some (.int .i64 (rd l0_2 a1_1))) (ds := [14]) (tfA 0 15) (by kernel_rfl) rfl rfl ⟨(blk_cell BK184.out 0).trans rfl, (blk_cell BK184.out 1).trans rfl, (blk_cell BK184.out 2).trans rfl, (blk_cell BK184.out 3).trans rfl, (blk_cell BK185.out 0).trans rfl, (blk_cell BK185.out 1).trans rfl, (blk_cell BK185.out 2).trans rfl, hx198_0⟩ (fun hHeld => ?_); refine with_tabW deckleref14_Apply.tab15 deckleref14_Apply.bits15 (fun HT_ HW_ => ?_)
                    generalize w108.drew = w109 at HO_185000 HO_185001 HO_185002 HO_185003 HO197 BK184 BK185 BK186 HK HB hx198_0 hHeld ⊢
                    refine pure_ (i := 0) (N := some 80) (v := ?_) (a' := ?_) (tfA 1 15) rfl rfl (any_of HT_.out (by kernel_rfl)) (fun _ _ _ h => h) (Or.inl ⟨by rfl, ?_⟩) ?_ ?_
                    rotate_left; (· intro w'; go_simp; with_reducible rfl); rotate_left; (· simp only [Act.put, sib, sc0, sc1, i64_w, i32_w]; rfl); refine pure_ (i := 2) (N := some 82) (v := ?_) (a' := ?_) #[true, false, true, false, false, false, false, false, false, false, false, false, false, false, false] rfl rfl (any_of HT_.out (by kernel_rfl)) (fun _ _ _ h => h) (Or.inl ⟨by rfl, ?_⟩) ?_ ?_
                    rotate_left; (· intro w'; go_simp; with_reducible rfl); rotate_left; (· simp only [Act.put, sib, sc0, sc1, i64_w, i32_w]; rfl); refine pure_ (i := 4) (N := some 84) (v := ?_) (a' := ?_) #[true, false, true, false, true, false, false, false, false, false, false, false, false, false, false] rfl rfl (any_of HT_.out (by kernel_rfl)) (fun _ _ _ h => h) (Or.inl ⟨by rfl, ?_⟩) ?_ ?_
                    rotate_left; (· intro w'; go_simp; with_reducible rfl); rotate_left; (· simp only [Act.put, sib, sc0, sc1, i64_w, i32_w]; rfl); refine pure_ (i := 6) (N := some 86) (v := ?_) (a' := ?_) #[true, false, true, false, true, false, true, false, false, false, false, false, false, false, false] rfl rfl (any_of HT_.out (by kernel_rfl)) (fun _ _ _ h => h) (Or.inl ⟨by rfl, ?_⟩) ?_ ?_
                    rotate_left; (· intro w'; go_simp; with_reducible rfl); rotate_left; (· simp only [Act.put, sib, sc0, sc1, i64_w, i32_w]; rfl); refine take_ (i := 1) (N := some 81) (v := ?_) (a' := ?_) #[true, true, true, false, true, false, true, false, false, false, false, false, false, false, false] rfl rfl (take_ofW HT_.out HW_.out (by kernel_rfl)) (fun _ _ _ h => h) (Or.inl ⟨by rfl, ?_⟩) hHeld ?_ ?_
                    rotate_left
                    · rintro w' ⟨s0, s1, s2, s3, s4, s5, s6, s7⟩
                      go_simp
                      with_reducible rfl
                    rotate_left
                    · simp only [Act.put, sib, sc0, sc1, i64_w, i32_w]
                      rfl
                    refine take_ (i := 3) (N := some 83) (v := ?_) (a' := ?_) #[true, true, true, true, true, false, true, false, false, false, false, false, false, false, false] rfl rfl (take_ofW HT_.out HW_.out (by kernel_rfl)) (fun _ _ _ h => h) (Or.inl ⟨by rfl, ?_⟩) hHeld ?_ ?_
                    rotate_left
                    · rintro w' ⟨s0, s1, s2, s3, s4, s5, s6, s7⟩
                      go_simp
                      with_reducible rfl
                    rotate_left
                    · simp only [Act.put, sib, sc0, sc1, i64_w, i32_w]
                      rfl
                    refine take_ (i := 5) (N := some 85) (v := ?_) (a' := ?_) (tfA 7 15) rfl rfl (take_ofW HT_.out HW_.out (by kernel_rfl)) (fun _ _ _ h => h) (Or.inl ⟨by rfl, ?_⟩) hHeld ?_ ?_
                    rotate_left
                    · rintro w' ⟨s0, s1, s2, s3, s4, s5, s6, s7⟩
                      go_simp
                      with_reducible rfl
                    rotate_left
                    · simp only [Act.put, sib, sc0, sc1, i64_w, i32_w]
                      rfl
                    refine take_ (i := 7) (N := some 87) (v := ?_) (a' := ?_) (tfA 8 15) rfl rfl (take_ofW HT_.out HW_.out (by kernel_rfl)) (fun _ _ _ h => h) (Or.inl ⟨by rfl, ?_⟩) hHeld ?_ ?_
                    rotate_left
                    · rintro w' ⟨s0, s1, s2, s3, s4, s5, s6, s7⟩
                      go_simp
                      with_reducible rfl
                    rotate_left
                    · simp only [Act.put, sib, sc0, sc1, i64_w, i32_w]
                      rfl
                    refine pure_ (i := 8) (N := some 88) (v := ?_) (a' := ?_) (tfA 9 15) rfl rfl (any_of HT_.out (by kernel_rfl)) (fun _ _ _ h => h) (Or.inl ⟨by rfl, ?_⟩) ?_ ?_
                    rotate_left; (· intro w'; go_simp; with_reducible rfl); rotate_left; (· simp only [Act.put, sib, sc0, sc1, i64_w, i32_w]; rfl); refine take_ (i := 9) (N := some 89) (v := ?_) (a' := ?_) (tfA 10 15) rfl rfl (take_ofW HT_.out HW_.out (by kernel_rfl)) (fun _ _ _ h => h) (Or.inl ⟨by rfl, ?_⟩) hHeld ?_ ?_
                    rotate_left
                    · rintro w' ⟨s0, s1, s2, s3, s4, s5, s6, s7⟩
                      go_simp
                      with_reducible rfl
                    rotate_left
                    · simp only [Act.put, sib, sc0, sc1, i64_w, i32_w]
                      rfl
                    refine pure_ (i := 10) (N := some 90) (v := ?_) (a' := ?_) (tfA 11 15) rfl rfl (any_of HT_.out (by kernel_rfl)) (fun _ _ _ h => h) (Or.inl ⟨by rfl, ?_⟩) ?_ ?_
                    rotate_left; (· intro w'; go_simp; with_reducible rfl); rotate_left; (· simp only [Act.put, sib, sc0, sc1, i64_w, i32_w]; rfl); refine pure_ (i := 11) (N := some 91) (v := ?_) (a' := ?_) (tfA 12 15) rfl rfl (any_of HT_.out (by kernel_rfl)) (fun _ _ _ h => h) (Or.inl ⟨by rfl, ?_⟩) ?_ ?_
                    rotate_left; (· intro w'; go_simp; with_reducible rfl); rotate_left; (· simp only [Act.put, sib, sc0, sc1, i64_w, i32_w]; rfl); refine one_ (i := 12) (N := some 92) (tfA 13 15) rfl rfl (one_of HT_.out (by kernel_rfl)) (by decide) (fun K hK => ?_); refine goes_ Try.func57 (by kernel_rfl) rfl #[.slice (some ad198) l0_2.length co49, .int .i64 a1_1, .int .i64 ji97] (by rfl) rfl rfl (by (try simp only [List.map_toArray, List.map_cons, List.map_nil]); first | done | (simp only [hji97]; rfl) | rfl | (simp only [List.length_drop, List.length_take]; rfl)) ?_
                    with_reducible refine (deckleref14_Put.calls kj45 _ _ l0_2 a1_1 ji97 t199 _ ?side1 ?side2 A98.out).mono ?_
                    (case side1 => repeat (first | exact (Kd.R_reads' HO_185002.out).2.2 | (with_reducible refine Kd.C_alloc ?_ _) | (with_reducible refine Kd.C_drewN ?_ _) | (with_reducible refine Kd.C_drew ?_)))
                    (case side2 => exact (Kd.R_reads' HO_185002.out).2.1)
                    rintro e w110 ⟨v200, rfl, ho0, hb⟩
                    have HS7_ := (hb.cell (World.block_lt_of_cell? _ _ (hHeld.2.2.2.2.2.2.2))).trans (hHeld.2.2.2.2.2.2.2)
                    refine ⟨_, rfl, ?_⟩
                    have n0_ := Aside0.mk (Kd.R_elder' (by (with_reducible repeat (first | apply Kd.R_alloc | apply Kd.R_drewN | apply Kd.R_drew)); exact HO_185000.out) (Kd.R_base ho0) hb)
                    have n1_ := Aside0.mk (Kd.R_elder' (by (with_reducible repeat (first | apply Kd.R_alloc | apply Kd.R_drewN | apply Kd.R_drew)); exact HO_185001.out) (Kd.R_base ho0) hb)
                    have n2_ := Aside0.mk (Kd.R_elder' (by (with_reducible repeat (first | apply Kd.R_alloc | apply Kd.R_drewN | apply Kd.R_drew)); exact HO_185002.out) (Kd.R_base ho0) hb)
                    have n3_ := Aside0.mk (Kd.R_elder' (by (with_reducible repeat (first | apply Kd.R_alloc | apply Kd.R_drewN | apply Kd.R_drew)); exact HO_185003.out) (Kd.R_base ho0) hb)
                    have n4_ := Aside0.mk (Kd.R_elder' (by (with_reducible repeat (first | apply Kd.R_alloc | apply Kd.R_drewN | apply Kd.R_drew)); exact HO197.out) (Kd.R_base ho0) hb)
                    have n5_ := Aside0.mk (Kd.R_lower (Kd.R_new' (Kd.R_new' (Kd.R_new' (Kd.R_new' (Kd.R_new' (Kd.R_newM (M := fun k_ => ((P0_0_ k_ ∨ P0_1_ k_ ∨ P0_2_ k_ ∨ P0_3_ k_) ∨ w.heap.size ≤ k_)) ho0 (by first | exact HK.out.1 | exact (show Kept w _ (fun k_ => P0_0_ k_ ∨ P0_1_ k_ ∨ P0_2_ k_ ∨ P0_3_ k_) from by repeat (first | (with_reducible first | exact HK.out | apply Kept.alloc | apply Kept.drewN | apply Kept.drew | refine Kept.setCell ?_ (.inr GW184.out) _ | refine Kept.setCell ?_ (.inr GW185.out) _ | refine Kept.setCell ?_ (.inr GW186.out) _) | exact HK.out)).1) (fun k_ h_ => .inr h_)) (Kd.R_lt (by (with_reducible repeat (first | apply Kd.R_alloc | apply Kd.R_drewN | apply Kd.R_drew)); exact HO_185000.out))) (Kd.R_lt (by (with_reducible repeat (first | apply Kd.R_alloc | apply Kd.R_drewN | apply Kd.R_drew)); exact HO_185001.out))) (Kd.R_lt (by (with_reducible repeat (first | apply Kd.R_alloc | apply Kd.R_drewN | apply Kd.R_drew)); exact HO_185002.out))) (Kd.R_lt (by (with_reducible repeat (first | apply Kd.R_alloc | apply Kd.R_drewN | apply Kd.R_drew)); exact HO_185003.out))) (Kd.R_lt (by (with_reducible repeat (first | apply Kd.R_alloc | apply Kd.R_drewN | apply Kd.R_drew)); exact HO197.out))) (below_size (by repeat (first | (with_reducible first | exact HB.out | apply below_alloc | apply pw_below_drewN | apply below_drew1 | refine below_set ?_ GE184.out | refine below_set ?_ GE185.out | refine below_set ?_ GE186.out) | exact HB.out))))
                    have n6_ := Aside0.mk (blk_below (g := gb184) (o := .cells #[.slice Ao47 l0_0.length co47, .slice Ao105 t195.length co105, .slice (some ad198) l0_2.length co49, .slice Ao50 l0_3.length co50] 69 (0, 0)) (by (with_reducible repeat (first | refine blk_drewN ?_ _ | refine blk_drew ?_ | refine blk_alloc ?_ _)); exact BK184.out) hb)
                    have n7_ := Aside0.mk (blk_below (g := gb185) (o := .cells #[.int .i64 a1_0, .int .i64 a1_1, .int .i64 a1_2] 73 (0, 0)) (by (with_reducible repeat (first | refine blk_drewN ?_ _ | refine blk_drew ?_ | refine blk_alloc ?_ _)); exact BK185.out) hb)
                    have n8_ := Aside0.mk (blk_below (g := gb186) (o := .cells #[.slice none 0 0, .slice none 0 0, .slice none 0 0, .slice none 0 0] 69 (0, 0)) (by (with_reducible repeat (first | refine blk_drewN ?_ _ | refine blk_drew ?_ | refine blk_alloc ?_ _)); exact BK186.out) hb)
                    have n9_ := Aside0.mk (Kept.below (S := (fun k_ => P0_0_ k_ ∨ P0_1_ k_ ∨ P0_2_ k_ ∨ P0_3_ k_)) (by repeat (first | (with_reducible first | exact HK.out | apply Kept.alloc | apply Kept.drewN | apply Kept.drew | refine Kept.setCell ?_ (.inr GW184.out) _ | refine Kept.setCell ?_ (.inr GW185.out) _ | refine Kept.setCell ?_ (.inr GW186.out) _) | exact HK.out)) hb)
                    have n10_ := Aside0.mk (below_step (by repeat (first | (with_reducible first | exact HB.out | apply below_alloc | apply pw_below_drewN | apply below_drew1 | refine below_set ?_ GE184.out | refine below_set ?_ GE185.out | refine below_set ?_ GE186.out) | exact HB.out)) hb)
                    clear HO_185000
                    clear HO_185001
                    clear HO_185002
                    clear HO_185003
                    clear HO197
                    clear BK184
                    clear BK185
                    clear BK186
                    clear HK
                    clear HB
                    have HO_185000 := n0_
                    have HO_185001 := n1_
                    have HO_185002 := n2_
                    have HO_185003 := n3_
                    have HO197 := n4_
                    have HO201 := n5_
                    have BK184 := n6_
                    have BK185 := n7_
                    have BK186 := n8_
                    have HK := n9_
                    have HB := n10_
                    clear n0_ n1_ n2_ n3_ n4_ n5_ n6_ n7_ n8_ n9_ n10_
                    (try clear hb)
                    (try clear hb2)
                    (try clear hk)
                    (try clear hi)
                    (try clear ho0)
                    obtain ⟨Ao111, co111, eo111⟩ := Kd.R_slice HO201.out
                    (first | subst eo111 | (injection eo111 with f1_ f2_ f3_; have f4_ := f1_.symm; have f5_ := f3_.symm; clear f1_ f2_ f3_; subst f4_; subst f5_))
                    refine hK.out _ _ ⟨(blk_cell BK184.out 0).trans rfl, (blk_cell BK184.out 1).trans rfl, (blk_cell BK184.out 2).trans rfl, (blk_cell BK184.out 3).trans rfl, (blk_cell BK185.out 0).trans rfl, (blk_cell BK185.out 1).trans rfl, (blk_cell BK185.out 2).trans rfl, HS7_⟩ (fun hHeld => ?_)
                    clear hK K
                    refine norm_ (a' := ?_) ?_ ?_
                    rotate_left
                    · show Act.put _ (some 92) _ = _
                      simp only [Act.put, sib, sc0, sc1, i64_w, i32_w]
                      rfl
                    refine pure_ (i := 13) (N := some 93) (v := ?_) (a' := ?_) (tfA 14 15) rfl rfl (any_of HT_.out (by kernel_rfl)) (fun _ _ _ h => h) (Or.inl ⟨by rfl, ?_⟩) ?_ ?_
                    rotate_left; (· intro w'; go_simp; with_reducible rfl); rotate_left; (· simp only [Act.put, sib, sc0, sc1, i64_w, i32_w]; rfl); refine last_ (i := 14) (N := none) (tfA 15 15) rfl rfl (one_of HT_.out (by kernel_rfl)) (by decide) (fun K hK => ?_)
                    have hs112 : w110.cell? ⟨gb184, 2, none⟩ = some (.slice (some ad198) l0_2.length co49) := (blk_cell BK184.out 2).trans rfl
                    have hfs112 := blk_frozen BK184.out 2
                    have hns112_1 := NB185_184.out
                    have hns112_2 := NB186_184.out
                    have hms112_1 := NB184_185.out
                    have hms112_2 := NB184_186.out
                    refine skip_ (w1 := ?_) (by rfl) rfl ?_ ?_
                    rotate_left
                    · go_simp
                      rfl
                    refine hK.out _ _ ?_
                    clear hK K
                    refine done_ (done_of HT_.out (by kernel_rfl)) ?_
                    have hcz113_0 : w110.cell? ⟨gb184, 0, none⟩ = some (.slice Ao47 l0_0.length co47) := (blk_cell BK184.out 0).trans rfl
                    have hcz113_1 : w110.cell? ⟨gb184, 1, none⟩ = some (.slice Ao105 t195.length co105) := (blk_cell BK184.out 1).trans rfl
                    have hcz113_2 : w110.cell? ⟨gb184, 2, none⟩ = some (.slice (some ad198) l0_2.length co49) := (blk_cell BK184.out 2).trans rfl
                    have hcz113_3 : w110.cell? ⟨gb184, 3, none⟩ = some (.slice Ao50 l0_3.length co50) := (blk_cell BK184.out 3).trans rfl
                    have hfz113_0 := blk_frozen BK184.out 0
                    have hfz113_1 := blk_frozen BK184.out 1
                    have hfz113_2 := blk_frozen BK184.out 2
                    have hfz113_3 := blk_frozen BK184.out 3
                    have hcz114_0 : w110.cell? ⟨gb186, 0, none⟩ = some (.slice none 0 0) := (blk_cell BK186.out 0).trans rfl
                    have hcz114_1 : w110.cell? ⟨gb186, 1, none⟩ = some (.slice none 0 0) := (blk_cell BK186.out 1).trans rfl
                    have hcz114_2 : w110.cell? ⟨gb186, 2, none⟩ = some (.slice none 0 0) := (blk_cell BK186.out 2).trans rfl
                    have hcz114_3 : w110.cell? ⟨gb186, 3, none⟩ = some (.slice none 0 0) := (blk_cell BK186.out 3).trans rfl
                    have hfz114_0 := blk_frozen BK186.out 0
                    have hfz114_1 := blk_frozen BK186.out 1
                    have hfz114_2 := blk_frozen BK186.out 2
                    have hfz114_3 := blk_frozen BK186.out 3
                    try go_wp2
                    refine bodyPost_ret (results_ct rfl _ _ gb186 69 #[.slice Ao47 l0_0.length co47, .slice Ao105 t195.length co105, .slice Ao111 t199.length co111, .slice Ao50 l0_3.length co50] (0, 0) _ rfl (by (with_reducible repeat (first | refine blk_drewN ?_ _ | refine blk_drew ?_ | refine blk_alloc ?_ _)); refine blk_put (cs := #[.slice Ao47 l0_0.length co47, .slice Ao105 t195.length co105, .slice Ao111 t199.length co111, .slice none 0 0]) ?_ 3 _ rfl; (with_reducible repeat (first | refine blk_drewN ?_ _ | refine blk_drew ?_ | refine blk_alloc ?_ _)); refine blk_put (cs := #[.slice Ao47 l0_0.length co47, .slice Ao105 t195.length co105, .slice none 0 0, .slice none 0 0]) ?_ 2 _ rfl; (with_reducible repeat (first | refine blk_drewN ?_ _ | refine blk_drew ?_ | refine blk_alloc ?_ _)); refine blk_put (cs := #[.slice Ao47 l0_0.length co47, .slice none 0 0, .slice none 0 0, .slice none 0 0]) ?_ 1 _ rfl; (with_reducible repeat (first | refine blk_drewN ?_ _ | refine blk_drew ?_ | refine blk_alloc ?_ _)); refine blk_put (cs := #[.slice none 0 0, .slice none 0 0, .slice none 0 0, .slice none 0 0]) ?_ 0 _ rfl; (with_reducible repeat (first | refine blk_drewN ?_ _ | refine blk_drew ?_ | refine blk_alloc ?_ _)); refine blk_far ?_ NB186_184.out _; (with_reducible repeat (first | refine blk_drewN ?_ _ | refine blk_drew ?_ | refine blk_alloc ?_ _)); exact BK186.out) Try.underlying69 rfl (by kernel_rfl)) rfl ?_
                    exact ⟨_, _, _, _, by first | rfl | (simp [errW_none, errW_some] <;> rfl) | (simp only [← hji97]; first | rfl | (simp [errW_none, errW_some] <;> rfl)) | (simp [*, errW_none, errW_some] <;> rfl), by (with_reducible repeat (first | apply Kd.R_alloc | apply Kd.R_drewN | apply Kd.R_drew)); exact Kd.R_mono (Kd.R_far (p := ⟨gb186, 3, none⟩) (Kd.R_far (p := ⟨gb186, 2, none⟩) (Kd.R_far (p := ⟨gb186, 1, none⟩) (Kd.R_far (p := ⟨gb186, 0, none⟩) (Kd.R_far (p := ⟨gb184, 2, none⟩) (Kd.R_types (Kd.R_types HO_185000.out BK184.out (by decide)) BK186.out (by decide)) (fun _ hk => hk.1.2) (.slice Ao111 t199.length co111)) (fun _ hk => hk.2) (.slice Ao47 l0_0.length co47)) (fun _ hk => hk.2) (.slice Ao105 t195.length co105)) (fun _ hk => hk.2) (.slice Ao111 t199.length co111)) (fun _ hk => hk.2) (.slice Ao50 l0_3.length co50)) (fun _ hk => ⟨hk.1.1.1.1, ⟨hk.1.1.1.2.2.2.2, ⟨hk.1.1.2, hk.1.1.1.2.2.2.1⟩⟩⟩), by (with_reducible repeat (first | apply Kd.R_alloc | apply Kd.R_drewN | apply Kd.R_drew)); exact Kd.R_mono (Kd.R_far (p := ⟨gb186, 3, none⟩) (Kd.R_far (p := ⟨gb186, 2, none⟩) (Kd.R_far (p := ⟨gb186, 1, none⟩) (Kd.R_far (p := ⟨gb186, 0, none⟩) (Kd.R_far (p := ⟨gb184, 2, none⟩) (Kd.R_types (Kd.R_types HO197.out BK184.out (by decide)) BK186.out (by decide)) (fun _ hk => hk.1.2) (.slice Ao111 t199.length co111)) (fun _ hk => hk.2) (.slice Ao47 l0_0.length co47)) (fun _ hk => hk.2) (.slice Ao105 t195.length co105)) (fun _ hk => hk.2) (.slice Ao111 t199.length co111)) (fun _ hk => hk.2) (.slice Ao50 l0_3.length co50)) (fun _ hk => ⟨hk.1.1.1.1, ⟨hk.1.1.1.2.1, ⟨hk.1.1.2, hk.1.1.1.2.2.2.2⟩⟩⟩), by (with_reducible repeat (first | apply Kd.R_alloc | apply Kd.R_drewN | apply Kd.R_drew)); exact Kd.R_mono (Kd.R_far (p := ⟨gb186, 3, none⟩) (Kd.R_far (p := ⟨gb186, 2, none⟩) (Kd.R_far (p := ⟨gb186, 1, none⟩) (Kd.R_far (p := ⟨gb186, 0, none⟩) (Kd.R_far (p := ⟨gb184, 2, none⟩) (Kd.R_types (Kd.R_types HO201.out BK184.out (by decide)) BK186.out (by decide)) (fun _ hk => hk.1.2) (.slice Ao111 t199.length co111)) (fun _ hk => hk.2) (.slice Ao47 l0_0.length co47)) (fun _ hk => hk.2) (.slice Ao105 t195.length co105)) (fun _ hk => hk.2) (.slice Ao111 t199.length co111)) (fun _ hk => hk.2) (.slice Ao50 l0_3.length co50)) (fun _ hk => ⟨hk.1.1.1.1.1.1.1.1, ⟨hk.1.1.1.1.1.1.2, ⟨hk.1.1.2, hk.1.1.1.2⟩⟩⟩), by (with_reducible repeat (first | apply Kd.R_alloc | apply Kd.R_drewN | apply Kd.R_drew)); exact Kd.R_mono (Kd.R_far (p := ⟨gb186, 3, none⟩) (Kd.R_far (p := ⟨gb186, 2, none⟩) (Kd.R_far (p := ⟨gb186, 1, none⟩) (Kd.R_far (p := ⟨gb186, 0, none⟩) (Kd.R_far (p := ⟨gb184, 2, none⟩) (Kd.R_types (Kd.R_types HO_185003.out BK184.out (by decide)) BK186.out (by decide)) (fun _ hk => hk.1.2) (.slice Ao111 t199.length co111)) (fun _ hk => hk.2) (.slice Ao47 l0_0.length co47)) (fun _ hk => hk.2) (.slice Ao105 t195.length co105)) (fun _ hk => hk.2) (.slice Ao111 t199.length co111)) (fun _ hk => hk.2) (.slice Ao50 l0_3.length co50)) (fun _ hk => ⟨hk.1.1.1.1, ⟨hk.1.1.1.2.1, ⟨hk.1.1.1.2.2.2.2, hk.1.1.2⟩⟩⟩), by repeat (first | (with_reducible first | exact HB.out | apply below_alloc | apply pw_below_drewN | apply below_drew1 | refine below_set ?_ GE184.out | refine below_set ?_ GE185.out | refine below_set ?_ GE186.out) | exact HB.out), by repeat (first | (with_reducible first | exact HK.out | apply Kept.alloc | apply Kept.drewN | apply Kept.drew | refine Kept.setCell ?_ (.inr GW184.out) _ | refine Kept.setCell ?_ (.inr GW185.out) _ | refine Kept.setCell ?_ (.inr GW186.out) _) | exact HK.out)⟩
                  · rw [if_neg c96] at H
                    exact absurd H (by simp)
                · rw [if_neg c95] at H
                  exact absurd H (by simp)
              · rw [if_neg c94] at H
                have c94b0 : (a1_2 == 1) = false := beq_eq_false_iff_ne.mpr c94
                have c94b1 : (a1_2 != 1) = true := bne_iff_ne.mpr c94
                by_cases c115 : 0 ≤ a1_1
                · rw [if_pos c115] at H
                  have c115b0 : decide (0 ≤ a1_1) = true := decide_eq_true c115
                  clear c115
                  by_cases c116 : a1_1 < (l0_3.length : Int)
                  · rw [if_pos c116] at H
                    have c116b0 : decide (a1_1 < (l0_3.length : Int)) = true := decide_eq_true c116
                    clear c116
                    obtain ⟨ji117, hji117⟩ : ∃ j_ : Int, (mn (wrap64 ((rd l0_3 a1_1) + 1)) 16777215) = j_ := ⟨_, rfl⟩
                    replace H : ((deckleref14_Put.f kj45 l0_3 a1_1 (ji117)).bind fun t203 => (some (l0_0, t195, l0_2, t203, 0))) = some (r1, r2, r3, r4, r5) := by first | (rw [hji117] at H; exact H) | (simp only [hji117] at H ⊢; exact H)
                    (try rw [hji117] at A93)
                    have hji117_ : (if 16777215 < (wrap64 ((rd l0_3 a1_1) + 1)) then 16777215 else (wrap64 ((rd l0_3 a1_1) + 1))) = ji117 := hji117
                    replace H := Option.bind_eq_some_iff.mp H
                    obtain ⟨t203, A1180, H⟩ := H
                    replace H : (some (l0_0, t195, l0_2, t203, 0)) = some (r1, r2, r3, r4, r5) := H
                    have A118 := Aside0.mk A1180
                    clear A1180
                    simp only [Option.some.injEq, Prod.mk.injEq] at H
                    obtain ⟨rfl, rfl, rfl, rfl, rfl⟩ := H
                    have hnb119 := NB185_184.out
                    have hnc119 := NB184_185.out
                    have hnb120 := NB185_186.out
                    have hnc120 := NB186_185.out
                    have hcz121_0 : wc.cell? ⟨gb185, 0, none⟩ = some (.int .i64 a1_0) := (blk_cell BK185.out 0).trans rfl
                    have hcz121_1 : wc.cell? ⟨gb185, 1, none⟩ = some (.int .i64 a1_1) := (blk_cell BK185.out 1).trans rfl
                    have hcz121_2 : wc.cell? ⟨gb185, 2, none⟩ = some (.int .i64 a1_2) := (blk_cell BK185.out 2).trans rfl
                    have hfz121_0 := blk_frozen BK185.out 0
                    have hfz121_1 := blk_frozen BK185.out 1
                    have hfz121_2 := blk_frozen BK185.out 2
                    have hnb122 := NB184_186.out
                    have hnc122 := NB186_184.out
                    have hcz123_0 : wc.cell? ⟨gb184, 0, none⟩ = some (.slice Ao47 l0_0.length co47) := (blk_cell BK184.out 0).trans rfl
                    have hcz123_1 : wc.cell? ⟨gb184, 1, none⟩ = some (.slice Ao48 l0_1.length co48) := (blk_cell BK184.out 1).trans rfl
                    have hcz123_2 : wc.cell? ⟨gb184, 2, none⟩ = some (.slice Ao49 l0_2.length co49) := (blk_cell BK184.out 2).trans rfl
                    have hcz123_3 : wc.cell? ⟨gb184, 3, none⟩ = some (.slice Ao50 l0_3.length co50) := (blk_cell BK184.out 3).trans rfl
                    have hfz123_0 := blk_frozen BK184.out 0
                    have hfz123_1 := blk_frozen BK184.out 1
                    have hfz123_2 := blk_frozen BK184.out 2
                    have hfz123_3 := blk_frozen BK184.out 3
                    try go_wp2_with (first | ((with_reducible refine gate_callee (f := 57) rfl ?_); refine goesL_ (some 75) rfl rfl Try.func57 (by kernel_rfl) rfl #[.slice Ao48 l0_1.length co48, .int .i64 a1_1, .int .i64 0] rfl (by (try simp only [List.map_toArray, List.map_cons, List.map_nil]); first | done | rfl | (simp only [List.length_drop, List.length_take]; rfl)) ?_; (with_reducible refine (deckleref14_Put.calls kj45 _ _ l0_1 a1_1 0 t195 _ ?side1 ?side2 A93.out).mono ?_); (case side1 => repeat (first | exact (Kd.R_reads' HO_185001.out).2.2 | (with_reducible refine Kd.C_alloc ?_ _) | (with_reducible refine Kd.C_drewN ?_ _) | (with_reducible refine Kd.C_drew ?_))); (case side2 => exact (Kd.R_reads' HO_185001.out).2.1); rintro e w124 ⟨v196, rfl, ho0, hb⟩; refine ⟨_, rfl, ?_⟩; have n0_ := Aside0.mk (Kd.R_elder' (by (with_reducible repeat (first | apply Kd.R_alloc | apply Kd.R_drewN | apply Kd.R_drew)); exact HO_185000.out) (Kd.R_base ho0) hb); have n1_ := Aside0.mk (Kd.R_elder' (by (with_reducible repeat (first | apply Kd.R_alloc | apply Kd.R_drewN | apply Kd.R_drew)); exact HO_185001.out) (Kd.R_base ho0) hb); have n2_ := Aside0.mk (Kd.R_elder' (by (with_reducible repeat (first | apply Kd.R_alloc | apply Kd.R_drewN | apply Kd.R_drew)); exact HO_185002.out) (Kd.R_base ho0) hb); have n3_ := Aside0.mk (Kd.R_elder' (by (with_reducible repeat (first | apply Kd.R_alloc | apply Kd.R_drewN | apply Kd.R_drew)); exact HO_185003.out) (Kd.R_base ho0) hb); have n4_ := Aside0.mk (Kd.R_lower (Kd.R_new' (Kd.R_new' (Kd.R_new' (Kd.R_new' (Kd.R_newM (M := fun k_ => ((P0_0_ k_ ∨ P0_1_ k_ ∨ P0_2_ k_ ∨ P0_3_ k_) ∨ w.heap.size ≤ k_)) ho0 (by first | exact HK.out.1 | exact (show Kept w _ (fun k_ => P0_0_ k_ ∨ P0_1_ k_ ∨ P0_2_ k_ ∨ P0_3_ k_) from by repeat (first | (with_reducible first | exact HK.out | apply Kept.alloc | apply Kept.drewN | apply Kept.drew | refine Kept.setCell ?_ (.inr GW184.out) _ | refine Kept.setCell ?_ (.inr GW185.out) _ | refine Kept.setCell ?_ (.inr GW186.out) _) | exact HK.out)).1) (fun k_ h_ => .inr h_)) (Kd.R_lt (by (with_reducible repeat (first | apply Kd.R_alloc | apply Kd.R_drewN | apply Kd.R_drew)); exact HO_185000.out))) (Kd.R_lt (by (with_reducible repeat (first | apply Kd.R_alloc | apply Kd.R_drewN | apply Kd.R_drew)); exact HO_185001.out))) (Kd.R_lt (by (with_reducible repeat (first | apply Kd.R_alloc | apply Kd.R_drewN | apply Kd.R_drew)); exact HO_185002.out))) (Kd.R_lt (by (with_reducible repeat (first | apply Kd.R_alloc | apply Kd.R_drewN | apply Kd.R_drew)); exact HO_185003.out))) (below_size (by repeat (first | (with_reducible first | exact HB.out | apply below_alloc | apply pw_below_drewN | apply below_drew1 | refine below_set ?_ GE184.out | refine below_set ?_ GE185.out | refine below_set ?_ GE186.out) | exact HB.out)))); have n5_ := Aside0.mk (blk_below (g := gb184) (o := .cells #[.slice Ao47 l0_0.length co47, .slice Ao48 l0_1.length co48, .slice Ao49 l0_2.length co49, .slice Ao50 l0_3.length co50] 69 (0, 0)) (by (with_reducible repeat (first | refine blk_drewN ?_ _ | refine blk_drew ?_ | refine blk_alloc ?_ _)); exact BK184.out) hb); have n6_ := Aside0.mk (blk_below (g := gb185) (o := .cells #[.int .i64 a1_0, .int .i64 a1_1, .int .i64 a1_2] 73 (0, 0)) (by (with_reducible repeat (first | refine blk_drewN ?_ _ | refine blk_drew ?_ | refine blk_alloc ?_ _)); exact BK185.out) hb); have n7_ := Aside0.mk (blk_below (g := gb186) (o := .cells #[.slice none 0 0, .slice none 0 0, .slice none 0 0, .slice none 0 0] 69 (0, 0)) (by (with_reducible repeat (first | refine blk_drewN ?_ _ | refine blk_drew ?_ | refine blk_alloc ?_ _)); exact BK186.out) hb); have n8_ := Aside0.mk (Kept.below (S := (fun k_ => P0_0_ k_ ∨ P0_1_ k_ ∨ P0_2_ k_ ∨ P0_3_ k_)) (by repeat (first | (with_reducible first | exact HK.out | apply Kept.alloc | apply Kept.drewN | apply Kept.drew | refine Kept.setCell ?_ (.inr GW184.out) _ | refine Kept.setCell ?_ (.inr GW185.out) _ | refine Kept.setCell ?_ (.inr GW186.out) _) | exact HK.out)) hb); have n9_ := Aside0.mk (below_step (by repeat (first | (with_reducible first | exact HB.out | apply below_alloc | apply pw_below_drewN | apply below_drew1 | refine below_set ?_ GE184.out | refine below_set ?_ GE185.out | refine below_set ?_ GE186.out) | exact HB.out)) hb); clear HO_185000; clear HO_185001; clear HO_185002; clear HO_185003; clear BK184; clear BK185; clear BK186; clear HK; clear HB; have HO_185000 := n0_; have HO_185001 := n1_; have HO_185002 := n2_; have HO_185003 := n3_; have HO197 := n4_; have BK184 := n5_; have BK185 := n6_; have BK186 := n7_; have HK := n8_; have HB := n9_; clear n0_ n1_ n2_ n3_ n4_ n5_ n6_ n7_ n8_ n9_; (try clear hb); (try clear hb2); (try clear hk); (try clear hi); (try clear ho0); obtain ⟨Ao125, co125, eo125⟩ := Kd.R_slice HO197.out; subst eo125; have hcz126_0 : w124.cell? ⟨gb184, 0, none⟩ = some (.slice Ao47 l0_0.length co47) := (blk_cell BK184.out 0).trans rfl; have hcz126_1 : w124.cell? ⟨gb184, 1, none⟩ = some (.slice Ao48 l0_1.length co48) := (blk_cell BK184.out 1).trans rfl; have hcz126_2 : w124.cell? ⟨gb184, 2, none⟩ = some (.slice Ao49 l0_2.length co49) := (blk_cell BK184.out 2).trans rfl; have hcz126_3 : w124.cell? ⟨gb184, 3, none⟩ = some (.slice Ao50 l0_3.length co50) := (blk_cell BK184.out 3).trans rfl; have hfz126_0 := blk_frozen BK184.out 0; have hfz126_1 := blk_frozen BK184.out 1; have hfz126_2 := blk_frozen BK184.out 2; have hfz126_3 := blk_frozen BK184.out 3; have hcz127_0 : w124.cell? ⟨gb185, 0, none⟩ = some (.int .i64 a1_0) := (blk_cell BK185.out 0).trans rfl; have hcz127_1 : w124.cell? ⟨gb185, 1, none⟩ = some (.int .i64 a1_1) := (blk_cell BK185.out 1).trans rfl; have hcz127_2 : w124.cell? ⟨gb185, 2, none⟩ = some (.int .i64 a1_2) := (blk_cell BK185.out 2).trans rfl; have hfz127_0 := blk_frozen BK185.out 0; have hfz127_1 := blk_frozen BK185.out 1; have hfz127_2 := blk_frozen BK185.out 2))
                    have n0_ : Aside0 (Kd.R (Kd.int .i64) 3 (w124.setCell ⟨gb184, 1, none⟩ (.slice Ao125 t195.length co125)) w0.heap.size (fun k_ => ((P0_0_ k_ ∨ P0_1_ k_ ∨ P0_2_ k_ ∨ P0_3_ k_) ∨ w.heap.size ≤ k_) ∧ some k_ ≠ (.slice Ao48 l0_1.length co48 : Value).ownBlock ∧ some k_ ≠ (.slice Ao49 l0_2.length co49 : Value).ownBlock ∧ some k_ ≠ (.slice Ao50 l0_3.length co50 : Value).ownBlock ∧ some k_ ≠ (.slice Ao125 t195.length co125 : Value).ownBlock) (.slice Ao47 l0_0.length co47) l0_0) := ⟨by (with_reducible repeat (first | apply Kd.R_alloc | apply Kd.R_drewN | apply Kd.R_drew)); exact Kd.R_mono (Kd.R_far (p := ⟨gb184, 1, none⟩) (Kd.R_types HO_185000.out BK184.out (by decide)) (fun _ hk => hk.2) (.slice Ao125 t195.length co125)) (fun _ hk => ⟨hk.1.1.1, ⟨hk.1.1.2.1, ⟨hk.1.1.2.2.1, ⟨hk.1.1.2.2.2, hk.1.2⟩⟩⟩⟩)⟩
                    have n1_ : Aside0 (Kd.R (Kd.int .i64) 3 (w124.setCell ⟨gb184, 1, none⟩ (.slice Ao125 t195.length co125)) w0.heap.size (fun k_ => ((P0_0_ k_ ∨ P0_1_ k_ ∨ P0_2_ k_ ∨ P0_3_ k_) ∨ w.heap.size ≤ k_) ∧ some k_ ≠ (.slice Ao47 l0_0.length co47 : Value).ownBlock ∧ some k_ ≠ (.slice Ao49 l0_2.length co49 : Value).ownBlock ∧ some k_ ≠ (.slice Ao50 l0_3.length co50 : Value).ownBlock ∧ some k_ ≠ (.slice Ao125 t195.length co125 : Value).ownBlock) (.slice Ao48 l0_1.length co48) l0_1) := ⟨by (with_reducible repeat (first | apply Kd.R_alloc | apply Kd.R_drewN | apply Kd.R_drew)); exact Kd.R_mono (Kd.R_far (p := ⟨gb184, 1, none⟩) (Kd.R_types HO_185001.out BK184.out (by decide)) (fun _ hk => hk.2) (.slice Ao125 t195.length co125)) (fun _ hk => ⟨hk.1.1.1, ⟨hk.1.1.2.1, ⟨hk.1.1.2.2.1, ⟨hk.1.1.2.2.2, hk.1.2⟩⟩⟩⟩)⟩
                    have n2_ : Aside0 (Kd.R (Kd.int .i64) 3 (w124.setCell ⟨gb184, 1, none⟩ (.slice Ao125 t195.length co125)) w0.heap.size (fun k_ => ((P0_0_ k_ ∨ P0_1_ k_ ∨ P0_2_ k_ ∨ P0_3_ k_) ∨ w.heap.size ≤ k_) ∧ some k_ ≠ (.slice Ao47 l0_0.length co47 : Value).ownBlock ∧ some k_ ≠ (.slice Ao48 l0_1.length co48 : Value).ownBlock ∧ some k_ ≠ (.slice Ao50 l0_3.length co50 : Value).ownBlock ∧ some k_ ≠ (.slice Ao125 t195.length co125 : Value).ownBlock) (.slice Ao49 l0_2.length co49) l0_2) := ⟨by (with_reducible repeat (first | apply Kd.R_alloc | apply Kd.R_drewN | apply Kd.R_drew)); exact Kd.R_mono (Kd.R_far (p := ⟨gb184, 1, none⟩) (Kd.R_types HO_185002.out BK184.out (by decide)) (fun _ hk => hk.2) (.slice Ao125 t195.length co125)) (fun _ hk => ⟨hk.1.1.1, ⟨hk.1.1.2.1, ⟨hk.1.1.2.2.1, ⟨hk.1.1.2.2.2, hk.1.2⟩⟩⟩⟩)⟩
                    have n3_ : Aside0 (Kd.R (Kd.int .i64) 3 (w124.setCell ⟨gb184, 1, none⟩ (.slice Ao125 t195.length co125)) w0.heap.size (fun k_ => ((P0_0_ k_ ∨ P0_1_ k_ ∨ P0_2_ k_ ∨ P0_3_ k_) ∨ w.heap.size ≤ k_) ∧ some k_ ≠ (.slice Ao47 l0_0.length co47 : Value).ownBlock ∧ some k_ ≠ (.slice Ao48 l0_1.length co48 : Value).ownBlock ∧ some k_ ≠ (.slice Ao49 l0_2.length co49 : Value).ownBlock ∧ some k_ ≠ (.slice Ao125 t195.length co125 : Value).ownBlock) (.slice Ao50 l0_3.length co50) l0_3) := ⟨by (with_reducible repeat (first | apply Kd.R_alloc | apply Kd.R_drewN | apply Kd.R_drew)); exact Kd.R_mono (Kd.R_far (p := ⟨gb184, 1, none⟩) (Kd.R_types HO_185003.out BK184.out (by decide)) (fun _ hk => hk.2) (.slice Ao125 t195.length co125)) (fun _ hk => ⟨hk.1.1.1, ⟨hk.1.1.2.1, ⟨hk.1.1.2.2.1, ⟨hk.1.1.2.2.2, hk.1.2⟩⟩⟩⟩)⟩
                    have n4_ : Aside0 (Kd.R (Kd.int .i64) 3 (w124.setCell ⟨gb184, 1, none⟩ (.slice Ao125 t195.length co125)) w0.heap.size (fun k_ => ((P0_0_ k_ ∨ P0_1_ k_ ∨ P0_2_ k_ ∨ P0_3_ k_) ∨ w.heap.size ≤ k_) ∧ some k_ ≠ (.slice Ao47 l0_0.length co47 : Value).ownBlock ∧ some k_ ≠ (.slice Ao48 l0_1.length co48 : Value).ownBlock ∧ some k_ ≠ (.slice Ao49 l0_2.length co49 : Value).ownBlock ∧ some k_ ≠ (.slice Ao50 l0_3.length co50 : Value).ownBlock) (.slice Ao125 t195.length co125) t195) := ⟨by (with_reducible repeat (first | apply Kd.R_alloc | apply Kd.R_drewN | apply Kd.R_drew)); exact Kd.R_mono (Kd.R_far (p := ⟨gb184, 1, none⟩) (Kd.R_types HO197.out BK184.out (by decide)) (fun _ hk => hk.2) (.slice Ao125 t195.length co125)) (fun _ hk => ⟨hk.1.1.1.1.1.1, ⟨hk.1.1.1.1.2, ⟨hk.1.1.1.2, ⟨hk.1.1.2, hk.1.2⟩⟩⟩⟩)⟩
                    have n5_ : Aside0 ((w124.setCell ⟨gb184, 1, none⟩ (.slice Ao125 t195.length co125)).heap[gb184]? = some (.cells #[.slice Ao47 l0_0.length co47, .slice Ao125 t195.length co125, .slice Ao49 l0_2.length co49, .slice Ao50 l0_3.length co50] 69 (0, 0))) := ⟨by (with_reducible repeat (first | refine blk_drewN ?_ _ | refine blk_drew ?_ | refine blk_alloc ?_ _)); refine blk_put (cs := #[.slice Ao47 l0_0.length co47, .slice Ao48 l0_1.length co48, .slice Ao49 l0_2.length co49, .slice Ao50 l0_3.length co50]) ?_ 1 _ rfl; (with_reducible repeat (first | refine blk_drewN ?_ _ | refine blk_drew ?_ | refine blk_alloc ?_ _)); exact BK184.out⟩
                    have n6_ : Aside0 ((w124.setCell ⟨gb184, 1, none⟩ (.slice Ao125 t195.length co125)).heap[gb185]? = some (.cells #[.int .i64 a1_0, .int .i64 a1_1, .int .i64 a1_2] 73 (0, 0))) := ⟨by (with_reducible repeat (first | refine blk_drewN ?_ _ | refine blk_drew ?_ | refine blk_alloc ?_ _)); refine blk_far ?_ NB185_184.out _; (with_reducible repeat (first | refine blk_drewN ?_ _ | refine blk_drew ?_ | refine blk_alloc ?_ _)); exact BK185.out⟩
                    have n7_ : Aside0 ((w124.setCell ⟨gb184, 1, none⟩ (.slice Ao125 t195.length co125)).heap[gb186]? = some (.cells #[.slice none 0 0, .slice none 0 0, .slice none 0 0, .slice none 0 0] 69 (0, 0))) := ⟨by (with_reducible repeat (first | refine blk_drewN ?_ _ | refine blk_drew ?_ | refine blk_alloc ?_ _)); refine blk_far ?_ NB186_184.out _; (with_reducible repeat (first | refine blk_drewN ?_ _ | refine blk_drew ?_ | refine blk_alloc ?_ _)); exact BK186.out⟩
                    have n8_ : Aside0 (Kept w (w124.setCell ⟨gb184, 1, none⟩ (.slice Ao125 t195.length co125)) (fun k_ => P0_0_ k_ ∨ P0_1_ k_ ∨ P0_2_ k_ ∨ P0_3_ k_)) := ⟨by repeat (first | (with_reducible first | exact HK.out | apply Kept.alloc | apply Kept.drewN | apply Kept.drew | refine Kept.setCell ?_ (.inr GW184.out) _ | refine Kept.setCell ?_ (.inr GW185.out) _ | refine Kept.setCell ?_ (.inr GW186.out) _) | exact HK.out)⟩
                    have n9_ : Aside0 (Below w0.heap.size w0 (w124.setCell ⟨gb184, 1, none⟩ (.slice Ao125 t195.length co125))) := ⟨by repeat (first | (with_reducible first | exact HB.out | apply below_alloc | apply pw_below_drewN | apply below_drew1 | refine below_set ?_ GE184.out | refine below_set ?_ GE185.out | refine below_set ?_ GE186.out) | exact HB.out)⟩
                    (try clear HO_185000)
                    (try clear HO_185001)
                    (try clear HO_185002)
                    (try clear HO_185003)
                    (try clear HO197)
                    (try clear BK184)
                    (try clear BK185)
                    (try clear BK186)
                    (try clear HK)
                    (try clear HB)
                    generalize (w124.setCell ⟨gb184, 1, none⟩ (.slice Ao125 t195.length co125)) = w128 at n0_ n1_ n2_ n3_ n4_ n5_ n6_ n7_ n8_ n9_ ⊢
                    have HO_185000 := n0_
                    have HO_185001 := n1_
                    have HO_185002 := n2_
                    have HO_185003 := n3_
                    have HO197 := n4_
                    have BK184 := n5_
                    have BK185 := n6_
                    have BK186 := n7_
                    have HK := n8_
                    have HB := n9_
                    clear n0_ n1_ n2_ n3_ n4_ n5_ n6_ n7_ n8_ n9_
                    have n0_ := Aside0.mk (Kd.R_drew HO_185000.out)
                    have n1_ := Aside0.mk (Kd.R_drew HO_185001.out)
                    have n2_ := Aside0.mk (Kd.R_drew HO_185002.out)
                    have n3_ := Aside0.mk (Kd.R_drew HO_185003.out)
                    have n4_ := Aside0.mk (Kd.R_drew HO197.out)
                    have n5_ := Aside0.mk (blk_drew BK184.out)
                    have n6_ := Aside0.mk (blk_drew BK185.out)
                    have n7_ := Aside0.mk (blk_drew BK186.out)
                    have n8_ := Aside0.mk (Kept.drew HK.out)
                    have n9_ := Aside0.mk (below_drew1 HB.out)
                    clear HO_185000
                    clear HO_185001
                    clear HO_185002
                    clear HO_185003
                    clear HO197
                    clear BK184
                    clear BK185
                    clear BK186
                    clear HK
                    clear HB
                    have HO_185000 := n0_
                    have HO_185001 := n1_
                    have HO_185002 := n2_
                    have HO_185003 := n3_
                    have HO197 := n4_
                    have BK184 := n5_
                    have BK185 := n6_
                    have BK186 := n7_
                    have HK := n8_
                    have HB := n9_
                    clear n0_ n1_ n2_ n3_ n4_ n5_ n6_ n7_ n8_ n9_
                    have p202 : 0 ≤ (a1_1 : Int) := of_decide_eq_true (by first | (with_reducible assumption) | assumption)
                    have q202 : a1_1 < (l0_3.length : Int) := of_decide_eq_true (by first | (with_reducible assumption) | assumption)
                    obtain ⟨ad202, e202, hx202_0⟩ := Kd.at_int (Kd.R_reads' HO_185003.out).2.2 a1_1 p202 q202
                    cases e202
                    replace p202 := eq_true p202
                    replace q202 := eq_true q202
                    refine start_ (n := 15) (S := fun w' => w'.cell? ⟨gb184, 0, none⟩ = some (.slice Ao47 l0_0.length co47) ∧ w'.cell? ⟨gb184, 1, none⟩ = some (.slice Ao125 t195.length co125) ∧ w'.cell? ⟨gb184, 2, none⟩ = some (.slice Ao49 l0_2.length co49) ∧ w'.cell? ⟨gb184, 3, none⟩ = some (.slice (some ad202) l0_3.length co50) ∧ w'.cell? ⟨gb185, 0, none⟩ = some (.int .i64 a1_0) ∧ w'.cell? ⟨gb185, 1, none⟩ = some (.int .i64 a1_1) ∧ w'.cell? ⟨gb185, 2, none⟩ = some (.int .i64 a1_2) ∧ w'.cell? (ad202.add (a1_1).toNat) = some (.int .i64 (rd l0_3 a1_1))) (ds := [14]) (tfA 0 15) (by kernel_rfl) rfl rfl ⟨(blk_cell BK184.out 0).trans rfl, (blk_cell BK184.out 1).trans rfl, (blk_cell BK184.out 2).trans rfl, (blk_cell BK184.out 3).trans rfl, (blk_cell BK185.out 0).trans rfl, (blk_cell BK185.out 1).trans rfl, (blk_cell BK185.out 2).trans rfl, hx202_0⟩ (fun hHeld => ?_); refine with_tabW deckleref14_Apply.tab16 deckleref14_Apply.bits16 (fun HT_ HW_ => ?_)
                    generalize w128.drew = w129 at HO_185000 HO_185001 HO_185002 HO_185003 HO197 BK184 BK185 BK186 HK HB hx202_0 hHeld ⊢
                    refine pure_ (i := 0) (N := some 94) (v := ?_) (a' := ?_) (tfA 1 15) rfl rfl (any_of HT_.out (by kernel_rfl)) (fun _ _ _ h => h) (Or.inl ⟨by rfl, ?_⟩) ?_ ?_
                    rotate_left; (· intro w'; go_simp; with_reducible rfl); rotate_left; (· simp only [Act.put, sib, sc0, sc1, i64_w, i32_w]; rfl); refine pure_ (i := 2) (N := some 96) (v := ?_) (a' := ?_) #[true, false, true, false, false, false, false, false, false, false, false, false, false, false, false] rfl rfl (any_of HT_.out (by kernel_rfl)) (fun _ _ _ h => h) (Or.inl ⟨by rfl, ?_⟩) ?_ ?_
                    rotate_left; (· intro w'; go_simp; with_reducible rfl); rotate_left; (· simp only [Act.put, sib, sc0, sc1, i64_w, i32_w]; rfl); refine pure_ (i := 4) (N := some 98) (v := ?_) (a' := ?_) #[true, false, true, false, true, false, false, false, false, false, false, false, false, false, false] rfl rfl (any_of HT_.out (by kernel_rfl)) (fun _ _ _ h => h) (Or.inl ⟨by rfl, ?_⟩) ?_ ?_
                    rotate_left; (· intro w'; go_simp; with_reducible rfl); rotate_left; (· simp only [Act.put, sib, sc0, sc1, i64_w, i32_w]; rfl); refine pure_ (i := 6) (N := some 100) (v := ?_) (a' := ?_) #[true, false, true, false, true, false, true, false, false, false, false, false, false, false, false] rfl rfl (any_of HT_.out (by kernel_rfl)) (fun _ _ _ h => h) (Or.inl ⟨by rfl, ?_⟩) ?_ ?_
                    rotate_left; (· intro w'; go_simp; with_reducible rfl); rotate_left; (· simp only [Act.put, sib, sc0, sc1, i64_w, i32_w]; rfl); refine take_ (i := 1) (N := some 95) (v := ?_) (a' := ?_) #[true, true, true, false, true, false, true, false, false, false, false, false, false, false, false] rfl rfl (take_ofW HT_.out HW_.out (by kernel_rfl)) (fun _ _ _ h => h) (Or.inl ⟨by rfl, ?_⟩) hHeld ?_ ?_
                    rotate_left
                    · rintro w' ⟨s0, s1, s2, s3, s4, s5, s6, s7⟩
                      go_simp
                      with_reducible rfl
                    rotate_left
                    · simp only [Act.put, sib, sc0, sc1, i64_w, i32_w]
                      rfl
                    refine take_ (i := 3) (N := some 97) (v := ?_) (a' := ?_) #[true, true, true, true, true, false, true, false, false, false, false, false, false, false, false] rfl rfl (take_ofW HT_.out HW_.out (by kernel_rfl)) (fun _ _ _ h => h) (Or.inl ⟨by rfl, ?_⟩) hHeld ?_ ?_
                    rotate_left
                    · rintro w' ⟨s0, s1, s2, s3, s4, s5, s6, s7⟩
                      go_simp
                      with_reducible rfl
                    rotate_left
                    · simp only [Act.put, sib, sc0, sc1, i64_w, i32_w]
                      rfl
                    refine take_ (i := 5) (N := some 99) (v := ?_) (a' := ?_) (tfA 7 15) rfl rfl (take_ofW HT_.out HW_.out (by kernel_rfl)) (fun _ _ _ h => h) (Or.inl ⟨by rfl, ?_⟩) hHeld ?_ ?_
                    rotate_left
                    · rintro w' ⟨s0, s1, s2, s3, s4, s5, s6, s7⟩
                      go_simp
                      with_reducible rfl
                    rotate_left
                    · simp only [Act.put, sib, sc0, sc1, i64_w, i32_w]
                      rfl
                    refine take_ (i := 7) (N := some 101) (v := ?_) (a' := ?_) (tfA 8 15) rfl rfl (take_ofW HT_.out HW_.out (by kernel_rfl)) (fun _ _ _ h => h) (Or.inl ⟨by rfl, ?_⟩) hHeld ?_ ?_
                    rotate_left
                    · rintro w' ⟨s0, s1, s2, s3, s4, s5, s6, s7⟩
                      go_simp
                      with_reducible rfl
                    rotate_left
                    · simp only [Act.put, sib, sc0, sc1, i64_w, i32_w]
                      rfl
                    refine pure_ (i := 8) (N := some 102) (v := ?_) (a' := ?_) (tfA 9 15) rfl rfl (any_of HT_.out (by kernel_rfl)) (fun _ _ _ h => h) (Or.inl ⟨by rfl, ?_⟩) ?_ ?_
                    rotate_left; (· intro w'; go_simp; with_reducible rfl); rotate_left; (· simp only [Act.put, sib, sc0, sc1, i64_w, i32_w]; rfl); refine take_ (i := 9) (N := some 103) (v := ?_) (a' := ?_) (tfA 10 15) rfl rfl (take_ofW HT_.out HW_.out (by kernel_rfl)) (fun _ _ _ h => h) (Or.inl ⟨by rfl, ?_⟩) hHeld ?_ ?_
                    rotate_left
                    · rintro w' ⟨s0, s1, s2, s3, s4, s5, s6, s7⟩
                      go_simp
                      with_reducible rfl
                    rotate_left
                    · simp only [Act.put, sib, sc0, sc1, i64_w, i32_w]
                      rfl
                    refine pure_ (i := 10) (N := some 104) (v := ?_) (a' := ?_) (tfA 11 15) rfl rfl (any_of HT_.out (by kernel_rfl)) (fun _ _ _ h => h) (Or.inl ⟨by rfl, ?_⟩) ?_ ?_
                    rotate_left; (· intro w'; go_simp; with_reducible rfl); rotate_left; (· simp only [Act.put, sib, sc0, sc1, i64_w, i32_w]; rfl); refine pure_ (i := 11) (N := some 105) (v := ?_) (a' := ?_) (tfA 12 15) rfl rfl (any_of HT_.out (by kernel_rfl)) (fun _ _ _ h => h) (Or.inl ⟨by rfl, ?_⟩) ?_ ?_
                    rotate_left; (· intro w'; go_simp; with_reducible rfl); rotate_left; (· simp only [Act.put, sib, sc0, sc1, i64_w, i32_w]; rfl); refine one_ (i := 12) (N := some 106) (tfA 13 15) rfl rfl (one_of HT_.out (by kernel_rfl)) (by decide) (fun K hK => ?_); refine goes_ Try.func57 (by kernel_rfl) rfl #[.slice (some ad202) l0_3.length co50, .int .i64 a1_1, .int .i64 ji117] (by rfl) rfl rfl (by (try simp only [List.map_toArray, List.map_cons, List.map_nil]); first | done | (simp only [hji117]; rfl) | rfl | (simp only [List.length_drop, List.length_take]; rfl)) ?_
                    with_reducible refine (deckleref14_Put.calls kj45 _ _ l0_3 a1_1 ji117 t203 _ ?side1 ?side2 A118.out).mono ?_
                    (case side1 => repeat (first | exact (Kd.R_reads' HO_185003.out).2.2 | (with_reducible refine Kd.C_alloc ?_ _) | (with_reducible refine Kd.C_drewN ?_ _) | (with_reducible refine Kd.C_drew ?_)))
                    (case side2 => exact (Kd.R_reads' HO_185003.out).2.1)
                    rintro e w130 ⟨v204, rfl, ho0, hb⟩
                    have HS7_ := (hb.cell (World.block_lt_of_cell? _ _ (hHeld.2.2.2.2.2.2.2))).trans (hHeld.2.2.2.2.2.2.2)
                    refine ⟨_, rfl, ?_⟩
                    have n0_ := Aside0.mk (Kd.R_elder' (by (with_reducible repeat (first | apply Kd.R_alloc | apply Kd.R_drewN | apply Kd.R_drew)); exact HO_185000.out) (Kd.R_base ho0) hb)
                    have n1_ := Aside0.mk (Kd.R_elder' (by (with_reducible repeat (first | apply Kd.R_alloc | apply Kd.R_drewN | apply Kd.R_drew)); exact HO_185001.out) (Kd.R_base ho0) hb)
                    have n2_ := Aside0.mk (Kd.R_elder' (by (with_reducible repeat (first | apply Kd.R_alloc | apply Kd.R_drewN | apply Kd.R_drew)); exact HO_185002.out) (Kd.R_base ho0) hb)
                    have n3_ := Aside0.mk (Kd.R_elder' (by (with_reducible repeat (first | apply Kd.R_alloc | apply Kd.R_drewN | apply Kd.R_drew)); exact HO_185003.out) (Kd.R_base ho0) hb)
                    have n4_ := Aside0.mk (Kd.R_elder' (by (with_reducible repeat (first | apply Kd.R_alloc | apply Kd.R_drewN | apply Kd.R_drew)); exact HO197.out) (Kd.R_base ho0) hb)
                    have n5_ := Aside0.mk (Kd.R_lower (Kd.R_new' (Kd.R_new' (Kd.R_new' (Kd.R_new' (Kd.R_new' (Kd.R_newM (M := fun k_ => ((P0_0_ k_ ∨ P0_1_ k_ ∨ P0_2_ k_ ∨ P0_3_ k_) ∨ w.heap.size ≤ k_)) ho0 (by first | exact HK.out.1 | exact (show Kept w _ (fun k_ => P0_0_ k_ ∨ P0_1_ k_ ∨ P0_2_ k_ ∨ P0_3_ k_) from by repeat (first | (with_reducible first | exact HK.out | apply Kept.alloc | apply Kept.drewN | apply Kept.drew | refine Kept.setCell ?_ (.inr GW184.out) _ | refine Kept.setCell ?_ (.inr GW185.out) _ | refine Kept.setCell ?_ (.inr GW186.out) _) | exact HK.out)).1) (fun k_ h_ => .inr h_)) (Kd.R_lt (by (with_reducible repeat (first | apply Kd.R_alloc | apply Kd.R_drewN | apply Kd.R_drew)); exact HO_185000.out))) (Kd.R_lt (by (with_reducible repeat (first | apply Kd.R_alloc | apply Kd.R_drewN | apply Kd.R_drew)); exact HO_185001.out))) (Kd.R_lt (by (with_reducible repeat (first | apply Kd.R_alloc | apply Kd.R_drewN | apply Kd.R_drew)); exact HO_185002.out))) (Kd.R_lt (by (with_reducible repeat (first | apply Kd.R_alloc | apply Kd.R_drewN | apply Kd.R_drew)); exact HO_185003.out))) (Kd.R_lt (by (with_reducible repeat (first | apply Kd.R_alloc | apply Kd.R_drewN | apply Kd.R_drew)); exact HO197.out))) (below_size (by repeat (first | (with_reducible first | exact HB.out | apply below_alloc | apply pw_below_drewN | apply below_drew1 | refine below_set ?_ GE184.out | refine below_set ?_ GE185.out | refine below_set ?_ GE186.out) | exact HB.out))))
                    have n6_ := Aside0.mk (blk_below (g := gb184) (o := .cells #[.slice Ao47 l0_0.length co47, .slice Ao125 t195.length co125, .slice Ao49 l0_2.length co49, .slice (some ad202) l0_3.length co50] 69 (0, 0)) (by (with_reducible repeat (first | refine blk_drewN ?_ _ | refine blk_drew ?_ | refine blk_alloc ?_ _)); exact BK184.out) hb)
                    have n7_ := Aside0.mk (blk_below (g := gb185) (o := .cells #[.int .i64 a1_0, .int .i64 a1_1, .int .i64 a1_2] 73 (0, 0)) (by (with_reducible repeat (first | refine blk_drewN ?_ _ | refine blk_drew ?_ | refine blk_alloc ?_ _)); exact BK185.out) hb)
                    have n8_ := Aside0.mk (blk_below (g := gb186) (o := .cells #[.slice none 0 0, .slice none 0 0, .slice none 0 0, .slice none 0 0] 69 (0, 0)) (by (with_reducible repeat (first | refine blk_drewN ?_ _ | refine blk_drew ?_ | refine blk_alloc ?_ _)); exact BK186.out) hb)
                    have n9_ := Aside0.mk (Kept.below (S := (fun k_ => P0_0_ k_ ∨ P0_1_ k_ ∨ P0_2_ k_ ∨ P0_3_ k_)) (by repeat (first | (with_reducible first | exact HK.out | apply Kept.alloc | apply Kept.drewN | apply Kept.drew | refine Kept.setCell ?_ (.inr GW184.out) _ | refine Kept.setCell ?_ (.inr GW185.out) _ | refine Kept.setCell ?_ (.inr GW186.out) _) | exact HK.out)) hb)
                    have n10_ := Aside0.mk (below_step (by repeat (first | (with_reducible first | exact HB.out | apply below_alloc | apply pw_below_drewN | apply below_drew1 | refine below_set ?_ GE184.out | refine below_set ?_ GE185.out | refine below_set ?_ GE186.out) | exact HB.out)) hb)
                    clear HO_185000
                    clear HO_185001
                    clear HO_185002
                    clear HO_185003
                    clear HO197
                    clear BK184
                    clear BK185
                    clear BK186
                    clear HK
                    clear HB
                    have HO_185000 := n0_
                    have HO_185001 := n1_
                    have HO_185002 := n2_
                    have HO_185003 := n3_
                    have HO197 := n4_
                    have HO205 := n5_
                    have BK184 := n6_
                    have BK185 := n7_
                    have BK186 := n8_
                    have HK := n9_
                    have HB := n10_
                    clear n0_ n1_ n2_ n3_ n4_ n5_ n6_ n7_ n8_ n9_ n10_
                    (try clear hb)
                    (try clear hb2)
                    (try clear hk)
                    (try clear hi)
                    (try clear ho0)
                    obtain ⟨Ao131, co131, eo131⟩ := Kd.R_slice HO205.out
                    (first | subst eo131 | (injection eo131 with f1_ f2_ f3_; have f4_ := f1_.symm; have f5_ := f3_.symm; clear f1_ f2_ f3_; subst f4_; subst f5_))
                    refine hK.out _ _ ⟨(blk_cell BK184.out 0).trans rfl, (blk_cell BK184.out 1).trans rfl, (blk_cell BK184.out 2).trans rfl, (blk_cell BK184.out 3).trans rfl, (blk_cell BK185.out 0).trans rfl, (blk_cell BK185.out 1).trans rfl, (blk_cell BK185.out 2).trans rfl, HS7_⟩ (fun hHeld => ?_)
                    clear hK K
                    refine norm_ (a' := ?_) ?_ ?_
                    rotate_left
                    · show Act.put _ (some 106) _ = _
                      simp only [Act.put, sib, sc0, sc1, i64_w, i32_w]
                      rfl
                    refine pure_ (i := 13) (N := some 107) (v := ?_) (a' := ?_) (tfA 14 15) rfl rfl (any_of HT_.out (by kernel_rfl)) (fun _ _ _ h => h) (Or.inl ⟨by rfl, ?_⟩) ?_ ?_
                    rotate_left; (· intro w'; go_simp; with_reducible rfl); rotate_left; (· simp only [Act.put, sib, sc0, sc1, i64_w, i32_w]; rfl); refine last_ (i := 14) (N := none) (tfA 15 15) rfl rfl (one_of HT_.out (by kernel_rfl)) (by decide) (fun K hK => ?_)
                    have hs132 : w130.cell? ⟨gb184, 3, none⟩ = some (.slice (some ad202) l0_3.length co50) := (blk_cell BK184.out 3).trans rfl
                    have hfs132 := blk_frozen BK184.out 3
                    have hns132_1 := NB185_184.out
                    have hns132_2 := NB186_184.out
                    have hms132_1 := NB184_185.out
                    have hms132_2 := NB184_186.out
                    refine skip_ (w1 := ?_) (by rfl) rfl ?_ ?_
                    rotate_left
                    · go_simp
                      rfl
                    refine hK.out _ _ ?_
                    clear hK K
                    refine done_ (done_of HT_.out (by kernel_rfl)) ?_
                    have hcz133_0 : w130.cell? ⟨gb184, 0, none⟩ = some (.slice Ao47 l0_0.length co47) := (blk_cell BK184.out 0).trans rfl
                    have hcz133_1 : w130.cell? ⟨gb184, 1, none⟩ = some (.slice Ao125 t195.length co125) := (blk_cell BK184.out 1).trans rfl
                    have hcz133_2 : w130.cell? ⟨gb184, 2, none⟩ = some (.slice Ao49 l0_2.length co49) := (blk_cell BK184.out 2).trans rfl
                    have hcz133_3 : w130.cell? ⟨gb184, 3, none⟩ = some (.slice (some ad202) l0_3.length co50) := (blk_cell BK184.out 3).trans rfl
                    have hfz133_0 := blk_frozen BK184.out 0
                    have hfz133_1 := blk_frozen BK184.out 1
                    have hfz133_2 := blk_frozen BK184.out 2
                    have hfz133_3 := blk_frozen BK184.out 3
                    have hcz134_0 : w130.cell? ⟨gb186, 0, none⟩ = some (.slice none 0 0) := (blk_cell BK186.out 0).trans rfl
                    have hcz134_1 : w130.cell? ⟨gb186, 1, none⟩ = some (.slice none 0 0) := (blk_cell BK186.out 1).trans rfl
                    have hcz134_2 : w130.cell? ⟨gb186, 2, none⟩ = some (.slice none 0 0) := (blk_cell BK186.out 2).trans rfl
                    have hcz134_3 : w130.cell? ⟨gb186, 3, none⟩ = some (.slice none 0 0) := (blk_cell BK186.out 3).trans rfl
                    have hfz134_0 := blk_frozen BK186.out 0
                    have hfz134_1 := blk_frozen BK186.out 1
                    have hfz134_2 := blk_frozen BK186.out 2
                    have hfz134_3 := blk_frozen BK186.out 3
                    try go_wp2
                    refine bodyPost_ret (results_ct rfl _ _ gb186 69 #[.slice Ao47 l0_0.length co47, .slice Ao125 t195.length co125, .slice Ao49 l0_2.length co49, .slice Ao131 t203.length co131] (0, 0) _ rfl (by (with_reducible repeat (first | refine blk_drewN ?_ _ | refine blk_drew ?_ | refine blk_alloc ?_ _)); refine blk_put (cs := #[.slice Ao47 l0_0.length co47, .slice Ao125 t195.length co125, .slice Ao49 l0_2.length co49, .slice none 0 0]) ?_ 3 _ rfl; (with_reducible repeat (first | refine blk_drewN ?_ _ | refine blk_drew ?_ | refine blk_alloc ?_ _)); refine blk_put (cs := #[.slice Ao47 l0_0.length co47, .slice Ao125 t195.length co125, .slice none 0 0, .slice none 0 0]) ?_ 2 _ rfl; (with_reducible repeat (first | refine blk_drewN ?_ _ | refine blk_drew ?_ | refine blk_alloc ?_ _)); refine blk_put (cs := #[.slice Ao47 l0_0.length co47, .slice none 0 0, .slice none 0 0, .slice none 0 0]) ?_ 1 _ rfl; (with_reducible repeat (first | refine blk_drewN ?_ _ | refine blk_drew ?_ | refine blk_alloc ?_ _)); refine blk_put (cs := #[.slice none 0 0, .slice none 0 0, .slice none 0 0, .slice none 0 0]) ?_ 0 _ rfl; (with_reducible repeat (first | refine blk_drewN ?_ _ | refine blk_drew ?_ | refine blk_alloc ?_ _)); refine blk_far ?_ NB186_184.out _; (with_reducible repeat (first | refine blk_drewN ?_ _ | refine blk_drew ?_ | refine blk_alloc ?_ _)); exact BK186.out) Try.underlying69 rfl (by kernel_rfl)) rfl ?_
                    exact ⟨_, _, _, _, by first | rfl | (simp [errW_none, errW_some] <;> rfl) | (simp only [← hji117]; first | rfl | (simp [errW_none, errW_some] <;> rfl)) | (simp [*, errW_none, errW_some] <;> rfl), by (with_reducible repeat (first | apply Kd.R_alloc | apply Kd.R_drewN | apply Kd.R_drew)); exact Kd.R_mono (Kd.R_far (p := ⟨gb186, 3, none⟩) (Kd.R_far (p := ⟨gb186, 2, none⟩) (Kd.R_far (p := ⟨gb186, 1, none⟩) (Kd.R_far (p := ⟨gb186, 0, none⟩) (Kd.R_far (p := ⟨gb184, 3, none⟩) (Kd.R_types (Kd.R_types HO_185000.out BK184.out (by decide)) BK186.out (by decide)) (fun _ hk => hk.1.2) (.slice Ao131 t203.length co131)) (fun _ hk => hk.2) (.slice Ao47 l0_0.length co47)) (fun _ hk => hk.2) (.slice Ao125 t195.length co125)) (fun _ hk => hk.2) (.slice Ao49 l0_2.length co49)) (fun _ hk => hk.2) (.slice Ao131 t203.length co131)) (fun _ hk => ⟨hk.1.1.1.1, ⟨hk.1.1.1.2.2.2.2, ⟨hk.1.1.1.2.2.1, hk.1.1.2⟩⟩⟩), by (with_reducible repeat (first | apply Kd.R_alloc | apply Kd.R_drewN | apply Kd.R_drew)); exact Kd.R_mono (Kd.R_far (p := ⟨gb186, 3, none⟩) (Kd.R_far (p := ⟨gb186, 2, none⟩) (Kd.R_far (p := ⟨gb186, 1, none⟩) (Kd.R_far (p := ⟨gb186, 0, none⟩) (Kd.R_far (p := ⟨gb184, 3, none⟩) (Kd.R_types (Kd.R_types HO197.out BK184.out (by decide)) BK186.out (by decide)) (fun _ hk => hk.1.2) (.slice Ao131 t203.length co131)) (fun _ hk => hk.2) (.slice Ao47 l0_0.length co47)) (fun _ hk => hk.2) (.slice Ao125 t195.length co125)) (fun _ hk => hk.2) (.slice Ao49 l0_2.length co49)) (fun _ hk => hk.2) (.slice Ao131 t203.length co131)) (fun _ hk => ⟨hk.1.1.1.1, ⟨hk.1.1.1.2.1, ⟨hk.1.1.1.2.2.2.1, hk.1.1.2⟩⟩⟩), by (with_reducible repeat (first | apply Kd.R_alloc | apply Kd.R_drewN | apply Kd.R_drew)); exact Kd.R_mono (Kd.R_far (p := ⟨gb186, 3, none⟩) (Kd.R_far (p := ⟨gb186, 2, none⟩) (Kd.R_far (p := ⟨gb186, 1, none⟩) (Kd.R_far (p := ⟨gb186, 0, none⟩) (Kd.R_far (p := ⟨gb184, 3, none⟩) (Kd.R_types (Kd.R_types HO_185002.out BK184.out (by decide)) BK186.out (by decide)) (fun _ hk => hk.1.2) (.slice Ao131 t203.length co131)) (fun _ hk => hk.2) (.slice Ao47 l0_0.length co47)) (fun _ hk => hk.2) (.slice Ao125 t195.length co125)) (fun _ hk => hk.2) (.slice Ao49 l0_2.length co49)) (fun _ hk => hk.2) (.slice Ao131 t203.length co131)) (fun _ hk => ⟨hk.1.1.1.1, ⟨hk.1.1.1.2.1, ⟨hk.1.1.1.2.2.2.2, hk.1.1.2⟩⟩⟩), by (with_reducible repeat (first | apply Kd.R_alloc | apply Kd.R_drewN | apply Kd.R_drew)); exact Kd.R_mono (Kd.R_far (p := ⟨gb186, 3, none⟩) (Kd.R_far (p := ⟨gb186, 2, none⟩) (Kd.R_far (p := ⟨gb186, 1, none⟩) (Kd.R_far (p := ⟨gb186, 0, none⟩) (Kd.R_far (p := ⟨gb184, 3, none⟩) (Kd.R_types (Kd.R_types HO205.out BK184.out (by decide)) BK186.out (by decide)) (fun _ hk => hk.1.2) (.slice Ao131 t203.length co131)) (fun _ hk => hk.2) (.slice Ao47 l0_0.length co47)) (fun _ hk => hk.2) (.slice Ao125 t195.length co125)) (fun _ hk => hk.2) (.slice Ao49 l0_2.length co49)) (fun _ hk => hk.2) (.slice Ao131 t203.length co131)) (fun _ hk => ⟨hk.1.1.1.1.1.1.1.1, ⟨hk.1.1.1.1.1.1.2, ⟨hk.1.1.2, hk.1.1.1.1.2⟩⟩⟩), by repeat (first | (with_reducible first | exact HB.out | apply below_alloc | apply pw_below_drewN | apply below_drew1 | refine below_set ?_ GE184.out | refine below_set ?_ GE185.out | refine below_set ?_ GE186.out) | exact HB.out), by repeat (first | (with_reducible first | exact HK.out | apply Kept.alloc | apply Kept.drewN | apply Kept.drew | refine Kept.setCell ?_ (.inr GW184.out) _ | refine Kept.setCell ?_ (.inr GW185.out) _ | refine Kept.setCell ?_ (.inr GW186.out) _) | exact HK.out)⟩
                  · rw [if_neg c116] at H
                    exact absurd H (by simp)
                · rw [if_neg c115] at H
                  exact absurd H (by simp)
  · replace c4 := Bool.eq_false_iff.mpr c4
    subst c4
    have H1 : (some (l0_0, l0_1, l0_2, l0_3, 110)) = some (r1, r2, r3, r4, r5) := by rw [if_neg (show ¬ (false = true) by decide)] at H; exact H
    clear H
    have H := H1
    clear H1
    simp only [Option.some.injEq, Prod.mk.injEq] at H
    obtain ⟨rfl, rfl, rfl, rfl, rfl⟩ := H
    obtain ⟨Ao135, co135, eo135⟩ := Kd.R_slice HO0_0.out
    subst eo135
    obtain ⟨Ao136, co136, eo136⟩ := Kd.R_slice HO0_1.out
    subst eo136
    obtain ⟨Ao137, co137, eo137⟩ := Kd.R_slice HO0_2.out
    subst eo137
    obtain ⟨Ao138, co138, eo138⟩ := Kd.R_slice HO0_3.out
    subst eo138
    go_enter Try.func40, Try.ntmps40
    go_wp2_with (first | ((with_reducible refine gate_dst (N := 2) rfl ?_); (try (refine gate_guard (by rfl) ?_; dsimp only)); refine box_event ?hg (N := 2) ?hd (cs := #[.slice Ao135 l0_0.length co135, .slice Ao136 l0_1.length co136, .slice Ao137 l0_2.length co137, .slice Ao138 l0_3.length co138]) (t := 69) ?hr ?_; (case hd => rfl); (case hg => rfl); (case hr => first | (go_simp; done) | (go_simp; rfl)); intro gb184 hg w139 hbox hb; have n0_ := Aside0.mk (Kd.R_below (by (with_reducible repeat (first | apply Kd.R_alloc | apply Kd.R_drewN | apply Kd.R_drew)); exact HO0_0.out) hb); have n1_ := Aside0.mk (Kd.R_below (by (with_reducible repeat (first | apply Kd.R_alloc | apply Kd.R_drewN | apply Kd.R_drew)); exact HO0_1.out) hb); have n2_ := Aside0.mk (Kd.R_below (by (with_reducible repeat (first | apply Kd.R_alloc | apply Kd.R_drewN | apply Kd.R_drew)); exact HO0_2.out) hb); have n3_ := Aside0.mk (Kd.R_below (by (with_reducible repeat (first | apply Kd.R_alloc | apply Kd.R_drewN | apply Kd.R_drew)); exact HO0_3.out) hb); have n4_ := Aside0.mk (Kept.below (S := (fun k_ => P0_0_ k_ ∨ P0_1_ k_ ∨ P0_2_ k_ ∨ P0_3_ k_)) (by repeat (first | (with_reducible first | exact HK.out | apply Kept.alloc | apply Kept.drewN | apply Kept.drew) | exact HK.out)) hb); have n5_ := Aside0.mk (below_step (by repeat (first | (with_reducible first | exact HB.out | apply below_alloc | apply pw_below_drewN | apply below_drew1) | exact HB.out)) hb); have n6_ := Aside0.mk (hbox); have n7_ := Aside0.mk ((by rw [hg]; exact (by first | exact HK.out.1 | exact (show Kept w _ (fun k_ => P0_0_ k_ ∨ P0_1_ k_ ∨ P0_2_ k_ ∨ P0_3_ k_) from by repeat (first | (with_reducible first | exact HK.out | apply Kept.alloc | apply Kept.drewN | apply Kept.drew) | exact HK.out)).1) : w.heap.size ≤ gb184)); have n8_ := Aside0.mk ((by rw [hg]; exact (below_size (by repeat (first | (with_reducible first | exact HB.out | apply below_alloc | apply pw_below_drewN | apply below_drew1) | exact HB.out))) : w0.heap.size ≤ gb184)); clear HO0_0; clear HO0_1; clear HO0_2; clear HO0_3; clear HK; clear HB; have HO0_0 := n0_; have HO0_1 := n1_; have HO0_2 := n2_; have HO0_3 := n3_; have HK := n4_; have HB := n5_; have BK184 := n6_; have GW184 := n7_; have GE184 := n8_; clear n0_ n1_ n2_ n3_ n4_ n5_ n6_ n7_ n8_; clear hb hbox hg) | ((with_reducible refine gate_dst (N := 3) rfl ?_); (try (refine gate_guard (by rfl) ?_; dsimp only)); refine box_event ?hg (N := 3) ?hd (cs := #[.int .i64 a1_0, .int .i64 a1_1, .int .i64 a1_2]) (t := 73) ?hr ?_; (case hd => rfl); (case hg => rfl); (case hr => first | (go_simp; done) | (go_simp; rfl)); intro gb185 hg w140 hbox hb; have n0_ := Aside0.mk (Kd.R_below (by (with_reducible repeat (first | apply Kd.R_alloc | apply Kd.R_drewN | apply Kd.R_drew)); exact HO0_0.out) hb); have n1_ := Aside0.mk (Kd.R_below (by (with_reducible repeat (first | apply Kd.R_alloc | apply Kd.R_drewN | apply Kd.R_drew)); exact HO0_1.out) hb); have n2_ := Aside0.mk (Kd.R_below (by (with_reducible repeat (first | apply Kd.R_alloc | apply Kd.R_drewN | apply Kd.R_drew)); exact HO0_2.out) hb); have n3_ := Aside0.mk (Kd.R_below (by (with_reducible repeat (first | apply Kd.R_alloc | apply Kd.R_drewN | apply Kd.R_drew)); exact HO0_3.out) hb); have n4_ := Aside0.mk (blk_below (g := gb184) (o := .cells #[.slice Ao135 l0_0.length co135, .slice Ao136 l0_1.length co136, .slice Ao137 l0_2.length co137, .slice Ao138 l0_3.length co138] 69 (0, 0)) (by (with_reducible repeat (first | refine blk_drewN ?_ _ | refine blk_drew ?_ | refine blk_alloc ?_ _)); exact BK184.out) hb); have n5_ := Aside0.mk (Kept.below (S := (fun k_ => P0_0_ k_ ∨ P0_1_ k_ ∨ P0_2_ k_ ∨ P0_3_ k_)) (by repeat (first | (with_reducible first | exact HK.out | apply Kept.alloc | apply Kept.drewN | apply Kept.drew | refine Kept.setCell ?_ (.inr GW184.out) _) | exact HK.out)) hb); have n6_ := Aside0.mk (below_step (by repeat (first | (with_reducible first | exact HB.out | apply below_alloc | apply pw_below_drewN | apply below_drew1 | refine below_set ?_ GE184.out) | exact HB.out)) hb); have n7_ := Aside0.mk (hbox); have n8_ := Aside0.mk ((by rw [hg]; exact (by first | exact HK.out.1 | exact (show Kept w _ (fun k_ => P0_0_ k_ ∨ P0_1_ k_ ∨ P0_2_ k_ ∨ P0_3_ k_) from by repeat (first | (with_reducible first | exact HK.out | apply Kept.alloc | apply Kept.drewN | apply Kept.drew | refine Kept.setCell ?_ (.inr GW184.out) _) | exact HK.out)).1) : w.heap.size ≤ gb185)); have n9_ := Aside0.mk ((by rw [hg]; exact (below_size (by repeat (first | (with_reducible first | exact HB.out | apply below_alloc | apply pw_below_drewN | apply below_drew1 | refine below_set ?_ GE184.out) | exact HB.out))) : w0.heap.size ≤ gb185)); have n10_ := Aside0.mk ((by rw [hg]; exact Nat.ne_of_lt (blk_lt (g := gb184) (o := .cells #[.slice Ao135 l0_0.length co135, .slice Ao136 l0_1.length co136, .slice Ao137 l0_2.length co137, .slice Ao138 l0_3.length co138] 69 (0, 0)) (by (with_reducible repeat (first | refine blk_drewN ?_ _ | refine blk_drew ?_ | refine blk_alloc ?_ _)); exact BK184.out)) : gb184 ≠ gb185)); have n11_ := Aside0.mk ((by rw [hg]; exact Nat.ne_of_gt (blk_lt (g := gb184) (o := .cells #[.slice Ao135 l0_0.length co135, .slice Ao136 l0_1.length co136, .slice Ao137 l0_2.length co137, .slice Ao138 l0_3.length co138] 69 (0, 0)) (by (with_reducible repeat (first | refine blk_drewN ?_ _ | refine blk_drew ?_ | refine blk_alloc ?_ _)); exact BK184.out)) : gb185 ≠ gb184)); clear HO0_0; clear HO0_1; clear HO0_2; clear HO0_3; clear BK184; clear HK; clear HB; have HO0_0 := n0_; have HO0_1 := n1_; have HO0_2 := n2_; have HO0_3 := n3_; have BK184 := n4_; have HK := n5_; have HB := n6_; have BK185 := n7_; have GW185 := n8_; have GE185 := n9_; have NB184_185 := n10_; have NB185_184 := n11_; clear n0_ n1_ n2_ n3_ n4_ n5_ n6_ n7_ n8_ n9_ n10_ n11_; clear hb hbox hg) | ((with_reducible refine gate_dst (N := 4) rfl ?_); (try (refine gate_guard (by rfl) ?_; dsimp only)); refine box_event ?hg (N := 4) ?hd (cs := #[.slice none 0 0, .slice none 0 0, .slice none 0 0, .slice none 0 0]) (t := 69) ?hr ?_; (case hd => rfl); (case hg => rfl); (case hr => first | (go_simp; done) | (go_simp; rfl)); intro gb186 hg w141 hbox hb; have n0_ := Aside0.mk (Kd.R_below (by (with_reducible repeat (first | apply Kd.R_alloc | apply Kd.R_drewN | apply Kd.R_drew)); exact HO0_0.out) hb); have n1_ := Aside0.mk (Kd.R_below (by (with_reducible repeat (first | apply Kd.R_alloc | apply Kd.R_drewN | apply Kd.R_drew)); exact HO0_1.out) hb); have n2_ := Aside0.mk (Kd.R_below (by (with_reducible repeat (first | apply Kd.R_alloc | apply Kd.R_drewN | apply Kd.R_drew)); exact HO0_2.out) hb); have n3_ := Aside0.mk (Kd.R_below (by (with_reducible repeat (first | apply Kd.R_alloc | apply Kd.R_drewN | apply Kd.R_drew)); exact HO0_3.out) hb); have n4_ := Aside0.mk (blk_below (g := gb184) (o := .cells #[.slice Ao135 l0_0.length co135, .slice Ao136 l0_1.length co136, .slice Ao137 l0_2.length co137, .slice Ao138 l0_3.length co138] 69 (0, 0)) (by (with_reducible repeat (first | refine blk_drewN ?_ _ | refine blk_drew ?_ | refine blk_alloc ?_ _)); exact BK184.out) hb); have n5_ := Aside0.mk (blk_below (g := gb185) (o := .cells #[.int .i64 a1_0, .int .i64 a1_1, .int .i64 a1_2] 73 (0, 0)) (by (with_reducible repeat (first | refine blk_drewN ?_ _ | refine blk_drew ?_ | refine blk_alloc ?_ _)); exact BK185.out) hb); have n6_ := Aside0.mk (Kept.below (S := (fun k_ => P0_0_ k_ ∨ P0_1_ k_ ∨ P0_2_ k_ ∨ P0_3_ k_)) (by repeat (first | (with_reducible first | exact HK.out | apply Kept.alloc | apply Kept.drewN | apply Kept.drew | refine Kept.setCell ?_ (.inr GW184.out) _ | refine Kept.setCell ?_ (.inr GW185.out) _) | exact HK.out)) hb); have n7_ := Aside0.mk (below_step (by repeat (first | (with_reducible first | exact HB.out | apply below_alloc | apply pw_below_drewN | apply below_drew1 | refine below_set ?_ GE184.out | refine below_set ?_ GE185.out) | exact HB.out)) hb); have n8_ := Aside0.mk (hbox); have n9_ := Aside0.mk ((by rw [hg]; exact (by first | exact HK.out.1 | exact (show Kept w _ (fun k_ => P0_0_ k_ ∨ P0_1_ k_ ∨ P0_2_ k_ ∨ P0_3_ k_) from by repeat (first | (with_reducible first | exact HK.out | apply Kept.alloc | apply Kept.drewN | apply Kept.drew | refine Kept.setCell ?_ (.inr GW184.out) _ | refine Kept.setCell ?_ (.inr GW185.out) _) | exact HK.out)).1) : w.heap.size ≤ gb186)); have n10_ := Aside0.mk ((by rw [hg]; exact (below_size (by repeat (first | (with_reducible first | exact HB.out | apply below_alloc | apply pw_below_drewN | apply below_drew1 | refine below_set ?_ GE184.out | refine below_set ?_ GE185.out) | exact HB.out))) : w0.heap.size ≤ gb186)); have n11_ := Aside0.mk ((by rw [hg]; exact Nat.ne_of_lt (blk_lt (g := gb184) (o := .cells #[.slice Ao135 l0_0.length co135, .slice Ao136 l0_1.length co136, .slice Ao137 l0_2.length co137, .slice Ao138 l0_3.length co138] 69 (0, 0)) (by (with_reducible repeat (first | refine blk_drewN ?_ _ | refine blk_drew ?_ | refine blk_alloc ?_ _)); exact BK184.out)) : gb184 ≠ gb186)); have n12_ := Aside0.mk ((by rw [hg]; exact Nat.ne_of_gt (blk_lt (g := gb184) (o := .cells #[.slice Ao135 l0_0.length co135, .slice Ao136 l0_1.length co136, .slice Ao137 l0_2.length co137, .slice Ao138 l0_3.length co138] 69 (0, 0)) (by (with_reducible repeat (first | refine blk_drewN ?_ _ | refine blk_drew ?_ | refine blk_alloc ?_ _)); exact BK184.out)) : gb186 ≠ gb184)); have n13_ := Aside0.mk ((by rw [hg]; exact Nat.ne_of_lt (blk_lt (g := gb185) (o := .cells #[.int .i64 a1_0, .int .i64 a1_1, .int .i64 a1_2] 73 (0, 0)) (by (with_reducible repeat (first | refine blk_drewN ?_ _ | refine blk_drew ?_ | refine blk_alloc ?_ _)); exact BK185.out)) : gb185 ≠ gb186)); have n14_ := Aside0.mk ((by rw [hg]; exact Nat.ne_of_gt (blk_lt (g := gb185) (o := .cells #[.int .i64 a1_0, .int .i64 a1_1, .int .i64 a1_2] 73 (0, 0)) (by (with_reducible repeat (first | refine blk_drewN ?_ _ | refine blk_drew ?_ | refine blk_alloc ?_ _)); exact BK185.out)) : gb186 ≠ gb185)); clear HO0_0; clear HO0_1; clear HO0_2; clear HO0_3; clear BK184; clear BK185; clear HK; clear HB; have HO0_0 := n0_; have HO0_1 := n1_; have HO0_2 := n2_; have HO0_3 := n3_; have BK184 := n4_; have BK185 := n5_; have HK := n6_; have HB := n7_; have BK186 := n8_; have GW186 := n9_; have GE186 := n10_; have NB184_186 := n11_; have NB186_184 := n12_; have NB185_186 := n13_; have NB186_185 := n14_; clear n0_ n1_ n2_ n3_ n4_ n5_ n6_ n7_ n8_ n9_ n10_ n11_ n12_ n13_ n14_; clear hb hbox hg; have hnb142 := NB185_184.out; have hnc142 := NB184_185.out; have hnb143 := NB185_186.out; have hnc143 := NB186_185.out; have hcz144_0 : w141.cell? ⟨gb185, 0, none⟩ = some (.int .i64 a1_0) := (blk_cell BK185.out 0).trans rfl; have hcz144_1 : w141.cell? ⟨gb185, 1, none⟩ = some (.int .i64 a1_1) := (blk_cell BK185.out 1).trans rfl; have hcz144_2 : w141.cell? ⟨gb185, 2, none⟩ = some (.int .i64 a1_2) := (blk_cell BK185.out 2).trans rfl; have hfz144_0 := blk_frozen BK185.out 0; have hfz144_1 := blk_frozen BK185.out 1; have hfz144_2 := blk_frozen BK185.out 2) | ((with_reducible refine gate_callee (f := 66) rfl ?_); refine goesL_ (some 7) rfl rfl Try.func66 (by kernel_rfl) rfl #[.agg #[.int .i64 a1_0, .int .i64 a1_1, .int .i64 a1_2]] rfl (by (try simp only [List.map_toArray, List.map_cons, List.map_nil]); first | done | rfl | (simp only [List.length_drop, List.length_take]; rfl)) ?_; (with_reducible refine (deckleref11_May.calls k a1_0 a1_1 a1_2 false _ A3.out).mono ?_); rintro e w145 ⟨rfl, hb⟩; refine ⟨_, rfl, ?_⟩; have n0_ := Aside0.mk (Kd.R_below (by (with_reducible repeat (first | apply Kd.R_alloc | apply Kd.R_drewN | apply Kd.R_drew)); exact HO0_0.out) hb); have n1_ := Aside0.mk (Kd.R_below (by (with_reducible repeat (first | apply Kd.R_alloc | apply Kd.R_drewN | apply Kd.R_drew)); exact HO0_1.out) hb); have n2_ := Aside0.mk (Kd.R_below (by (with_reducible repeat (first | apply Kd.R_alloc | apply Kd.R_drewN | apply Kd.R_drew)); exact HO0_2.out) hb); have n3_ := Aside0.mk (Kd.R_below (by (with_reducible repeat (first | apply Kd.R_alloc | apply Kd.R_drewN | apply Kd.R_drew)); exact HO0_3.out) hb); have n4_ := Aside0.mk (blk_below (g := gb184) (o := .cells #[.slice Ao135 l0_0.length co135, .slice Ao136 l0_1.length co136, .slice Ao137 l0_2.length co137, .slice Ao138 l0_3.length co138] 69 (0, 0)) (by (with_reducible repeat (first | refine blk_drewN ?_ _ | refine blk_drew ?_ | refine blk_alloc ?_ _)); exact BK184.out) hb); have n5_ := Aside0.mk (blk_below (g := gb185) (o := .cells #[.int .i64 a1_0, .int .i64 a1_1, .int .i64 a1_2] 73 (0, 0)) (by (with_reducible repeat (first | refine blk_drewN ?_ _ | refine blk_drew ?_ | refine blk_alloc ?_ _)); exact BK185.out) hb); have n6_ := Aside0.mk (blk_below (g := gb186) (o := .cells #[.slice none 0 0, .slice none 0 0, .slice none 0 0, .slice none 0 0] 69 (0, 0)) (by (with_reducible repeat (first | refine blk_drewN ?_ _ | refine blk_drew ?_ | refine blk_alloc ?_ _)); exact BK186.out) hb); have n7_ := Aside0.mk (Kept.below (S := (fun k_ => P0_0_ k_ ∨ P0_1_ k_ ∨ P0_2_ k_ ∨ P0_3_ k_)) (by repeat (first | (with_reducible first | exact HK.out | apply Kept.alloc | apply Kept.drewN | apply Kept.drew | refine Kept.setCell ?_ (.inr GW184.out) _ | refine Kept.setCell ?_ (.inr GW185.out) _ | refine Kept.setCell ?_ (.inr GW186.out) _) | exact HK.out)) hb); have n8_ := Aside0.mk (below_step (by repeat (first | (with_reducible first | exact HB.out | apply below_alloc | apply pw_below_drewN | apply below_drew1 | refine below_set ?_ GE184.out | refine below_set ?_ GE185.out | refine below_set ?_ GE186.out) | exact HB.out)) hb); clear HO0_0; clear HO0_1; clear HO0_2; clear HO0_3; clear BK184; clear BK185; clear BK186; clear HK; clear HB; have HO0_0 := n0_; have HO0_1 := n1_; have HO0_2 := n2_; have HO0_3 := n3_; have BK184 := n4_; have BK185 := n5_; have BK186 := n6_; have HK := n7_; have HB := n8_; clear n0_ n1_ n2_ n3_ n4_ n5_ n6_ n7_ n8_; (try clear hb); (try clear hb2); (try clear hk); (try clear hi); have hnb146 := NB184_186.out; have hnc146 := NB186_184.out; have hcz147_0 : w145.cell? ⟨gb184, 0, none⟩ = some (.slice Ao135 l0_0.length co135) := (blk_cell BK184.out 0).trans rfl; have hcz147_1 : w145.cell? ⟨gb184, 1, none⟩ = some (.slice Ao136 l0_1.length co136) := (blk_cell BK184.out 1).trans rfl; have hcz147_2 : w145.cell? ⟨gb184, 2, none⟩ = some (.slice Ao137 l0_2.length co137) := (blk_cell BK184.out 2).trans rfl; have hcz147_3 : w145.cell? ⟨gb184, 3, none⟩ = some (.slice Ao138 l0_3.length co138) := (blk_cell BK184.out 3).trans rfl; have hfz147_0 := blk_frozen BK184.out 0; have hfz147_1 := blk_frozen BK184.out 1; have hfz147_2 := blk_frozen BK184.out 2; have hfz147_3 := blk_frozen BK184.out 3; have hcz148_0 : w145.cell? ⟨gb186, 0, none⟩ = some (.slice none 0 0) := (blk_cell BK186.out 0).trans rfl; have hcz148_1 : w145.cell? ⟨gb186, 1, none⟩ = some (.slice none 0 0) := (blk_cell BK186.out 1).trans rfl; have hcz148_2 : w145.cell? ⟨gb186, 2, none⟩ = some (.slice none 0 0) := (blk_cell BK186.out 2).trans rfl; have hcz148_3 : w145.cell? ⟨gb186, 3, none⟩ = some (.slice none 0 0) := (blk_cell BK186.out 3).trans rfl; have hfz148_0 := blk_frozen BK186.out 0; have hfz148_1 := blk_frozen BK186.out 1; have hfz148_2 := blk_frozen BK186.out 2; have hfz148_3 := blk_frozen BK186.out 3))
    refine bodyPost_ret (results_ct rfl _ _ gb186 69 #[.slice Ao135 l0_0.length co135, .slice Ao136 l0_1.length co136, .slice Ao137 l0_2.length co137, .slice Ao138 l0_3.length co138] (0, 0) _ rfl (by (with_reducible repeat (first | refine blk_drewN ?_ _ | refine blk_drew ?_ | refine blk_alloc ?_ _)); refine blk_put (cs := #[.slice Ao135 l0_0.length co135, .slice Ao136 l0_1.length co136, .slice Ao137 l0_2.length co137, .slice none 0 0]) ?_ 3 _ rfl; (with_reducible repeat (first | refine blk_drewN ?_ _ | refine blk_drew ?_ | refine blk_alloc ?_ _)); refine blk_put (cs := #[.slice Ao135 l0_0.length co135, .slice Ao136 l0_1.length co136, .slice none 0 0, .slice none 0 0]) ?_ 2 _ rfl; (with_reducible repeat (first | refine blk_drewN ?_ _ | refine blk_drew ?_ | refine blk_alloc ?_ _)); refine blk_put (cs := #[.slice Ao135 l0_0.length co135, .slice none 0 0, .slice none 0 0, .slice none 0 0]) ?_ 1 _ rfl; (with_reducible repeat (first | refine blk_drewN ?_ _ | refine blk_drew ?_ | refine blk_alloc ?_ _)); refine blk_put (cs := #[.slice none 0 0, .slice none 0 0, .slice none 0 0, .slice none 0 0]) ?_ 0 _ rfl; (with_reducible repeat (first | refine blk_drewN ?_ _ | refine blk_drew ?_ | refine blk_alloc ?_ _)); exact BK186.out) Try.underlying69 rfl (by kernel_rfl)) rfl ?_
    exact ⟨_, _, _, _, by first | rfl | (simp [errW_none, errW_some] <;> rfl) | (simp [*, errW_none, errW_some] <;> rfl), by (with_reducible repeat (first | apply Kd.R_alloc | apply Kd.R_drewN | apply Kd.R_drew)); exact Kd.R_mono (Kd.R_far (p := ⟨gb186, 3, none⟩) (Kd.R_far (p := ⟨gb186, 2, none⟩) (Kd.R_far (p := ⟨gb186, 1, none⟩) (Kd.R_far (p := ⟨gb186, 0, none⟩) (Kd.R_types HO0_0.out BK186.out (by decide)) (fun _ hk => hk.2) (.slice Ao135 l0_0.length co135)) (fun _ hk => hk.2) (.slice Ao136 l0_1.length co136)) (fun _ hk => hk.2) (.slice Ao137 l0_2.length co137)) (fun _ hk => hk.2) (.slice Ao138 l0_3.length co138)) (fun _ hk => ⟨hk.1.1, ⟨hk.1.2.1, ⟨hk.1.2.2.1, hk.1.2.2.2⟩⟩⟩), by (with_reducible repeat (first | apply Kd.R_alloc | apply Kd.R_drewN | apply Kd.R_drew)); exact Kd.R_mono (Kd.R_far (p := ⟨gb186, 3, none⟩) (Kd.R_far (p := ⟨gb186, 2, none⟩) (Kd.R_far (p := ⟨gb186, 1, none⟩) (Kd.R_far (p := ⟨gb186, 0, none⟩) (Kd.R_types HO0_1.out BK186.out (by decide)) (fun _ hk => hk.2) (.slice Ao135 l0_0.length co135)) (fun _ hk => hk.2) (.slice Ao136 l0_1.length co136)) (fun _ hk => hk.2) (.slice Ao137 l0_2.length co137)) (fun _ hk => hk.2) (.slice Ao138 l0_3.length co138)) (fun _ hk => ⟨hk.1.1, ⟨hk.1.2.1, ⟨hk.1.2.2.1, hk.1.2.2.2⟩⟩⟩), by (with_reducible repeat (first | apply Kd.R_alloc | apply Kd.R_drewN | apply Kd.R_drew)); exact Kd.R_mono (Kd.R_far (p := ⟨gb186, 3, none⟩) (Kd.R_far (p := ⟨gb186, 2, none⟩) (Kd.R_far (p := ⟨gb186, 1, none⟩) (Kd.R_far (p := ⟨gb186, 0, none⟩) (Kd.R_types HO0_2.out BK186.out (by decide)) (fun _ hk => hk.2) (.slice Ao135 l0_0.length co135)) (fun _ hk => hk.2) (.slice Ao136 l0_1.length co136)) (fun _ hk => hk.2) (.slice Ao137 l0_2.length co137)) (fun _ hk => hk.2) (.slice Ao138 l0_3.length co138)) (fun _ hk => ⟨hk.1.1, ⟨hk.1.2.1, ⟨hk.1.2.2.1, hk.1.2.2.2⟩⟩⟩), by (with_reducible repeat (first | apply Kd.R_alloc | apply Kd.R_drewN | apply Kd.R_drew)); exact Kd.R_mono (Kd.R_far (p := ⟨gb186, 3, none⟩) (Kd.R_far (p := ⟨gb186, 2, none⟩) (Kd.R_far (p := ⟨gb186, 1, none⟩) (Kd.R_far (p := ⟨gb186, 0, none⟩) (Kd.R_types HO0_3.out BK186.out (by decide)) (fun _ hk => hk.2) (.slice Ao135 l0_0.length co135)) (fun _ hk => hk.2) (.slice Ao136 l0_1.length co136)) (fun _ hk => hk.2) (.slice Ao137 l0_2.length co137)) (fun _ hk => hk.2) (.slice Ao138 l0_3.length co138)) (fun _ hk => ⟨hk.1.1, ⟨hk.1.2.1, ⟨hk.1.2.2.1, hk.1.2.2.2⟩⟩⟩), by repeat (first | (with_reducible first | exact HB.out | apply below_alloc | apply pw_below_drewN | apply below_drew1 | refine below_set ?_ GE184.out | refine below_set ?_ GE185.out | refine below_set ?_ GE186.out) | exact HB.out), by repeat (first | (with_reducible first | exact HK.out | apply Kept.alloc | apply Kept.drewN | apply Kept.drew | refine Kept.setCell ?_ (.inr GW184.out) _ | refine Kept.setCell ?_ (.inr GW185.out) _ | refine Kept.setCell ?_ (.inr GW186.out) _) | exact HK.out)⟩

end Go.Proofs.Ytiblpienmkjmgaa.PS
