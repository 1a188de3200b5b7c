-- Written by a program (the kit's print.py, called by wip/bin/prseat.sh, mended by wip/bin/mend.py).
import Derived.Test.YtcfonmbojkolfaaPLx0
import Derived.Test.YtcfonmbojkolfaaPLx5
import Derived.Test.YtcfonmbojkolfaaPLx6
namespace Go.Proofs.Ytcfonmbojkolfaa.PL
open Go.RowKit Go.Proofs.YtcfonmbojkolfaaW.PrintWords Go.Proofs.YtcfonmbojkolfaaW.PrintLast Go.Proofs.YtcfonmbojkolfaaW.PrintMore
attribute [local go_sem] max2_int min2_int max_two min_two max_three min_three max_four min_four   -- for this text's walks alone
set_option linter.unusedVariables false
set_option linter.unusedSimpArgs false

/-! ### deckleref41_Next: function 28 -/
def deckleref41_Next.f (k : Nat) (a0 : Int) : Option (Int) := (deckleref41_shift.f k a0 13).bind fun t108 => ((deckleref41_xor.f k a0 t108).bind fun t109 => ((deckleref41_shift.f k t109 (-7)).bind fun t110 => ((deckleref41_xor.f k t109 t110).bind fun t111 => ((deckleref41_shift.f k t111 17).bind fun t112 => ((deckleref41_xor.f k t111 t112).bind fun t113 => (some t113))))))
theorem deckleref41_Next.mono : ∀ a0 k, LeO (deckleref41_Next.f k a0) (deckleref41_Next.f (k + 1) a0) := by
  intro a0 k
  unfold deckleref41_Next.f
  repeat' first
      | (with_reducible exact deckleref41_shift.mono _ _ _)
      | (with_reducible exact deckleref41_xor.mono _ _ _)
      | (with_reducible exact LeO.refl _)
      | (with_reducible exact LeO.none _)
      | (with_reducible refine LeO.ite ?_ ?_)
      | (with_reducible refine LeO.bind ?_ (fun _ => ?_))
      | exact deckleref41_shift.mono _ _ _
      | exact deckleref41_xor.mono _ _ _
      | exact LeO.none _
      | refine LeO.ite ?_ ?_
      | refine LeO.bind ?_ (fun _ => ?_)
set_option maxHeartbeats 8000000 in
set_option maxRecDepth 100000 in
theorem deckleref41_Next.calls (k : Nat) (a0 : Int) (r : Int) (w : World) (h : deckleref41_Next.f k a0 = some r) :
    Calls Try.prog 28 #[.int .u64 a0] w fun e w' => e = .returned (.int .u64 r) ∧ Drawn0 w w' := by
  have H : ((deckleref41_shift.f k a0 13).bind fun t108 => ((deckleref41_xor.f k a0 t108).bind fun t109 => ((deckleref41_shift.f k t109 (-7)).bind fun t110 => ((deckleref41_xor.f k t109 t110).bind fun t111 => ((deckleref41_shift.f k t111 17).bind fun t112 => ((deckleref41_xor.f k t111 t112).bind fun t113 => (some t113))))))) = some r := h
  clear h
  replace H := Option.bind_eq_some_iff.mp H
  obtain ⟨t108, A20, H⟩ := H
  replace H : ((deckleref41_xor.f k a0 t108).bind fun t109 => ((deckleref41_shift.f k t109 (-7)).bind fun t110 => ((deckleref41_xor.f k t109 t110).bind fun t111 => ((deckleref41_shift.f k t111 17).bind fun t112 => ((deckleref41_xor.f k t111 t112).bind fun t113 => (some t113)))))) = some r := H
  have A2 := Aside0.mk A20
  clear A20
  replace H := Option.bind_eq_some_iff.mp H
  obtain ⟨t109, A30, H⟩ := H
  replace H : ((deckleref41_shift.f k t109 (-7)).bind fun t110 => ((deckleref41_xor.f k t109 t110).bind fun t111 => ((deckleref41_shift.f k t111 17).bind fun t112 => ((deckleref41_xor.f k t111 t112).bind fun t113 => (some t113))))) = some r := H
  have A3 := Aside0.mk A30
  clear A30
  replace H := Option.bind_eq_some_iff.mp H
  obtain ⟨t110, A40, H⟩ := H
  replace H : ((deckleref41_xor.f k t109 t110).bind fun t111 => ((deckleref41_shift.f k t111 17).bind fun t112 => ((deckleref41_xor.f k t111 t112).bind fun t113 => (some t113)))) = some r := H
  have A4 := Aside0.mk A40
  clear A40
  replace H := Option.bind_eq_some_iff.mp H
  obtain ⟨t111, A50, H⟩ := H
  replace H : ((deckleref41_shift.f k t111 17).bind fun t112 => ((deckleref41_xor.f k t111 t112).bind fun t113 => (some t113))) = some r := H
  have A5 := Aside0.mk A50
  clear A50
  replace H := Option.bind_eq_some_iff.mp H
  obtain ⟨t112, A60, H⟩ := H
  replace H : ((deckleref41_xor.f k t111 t112).bind fun t113 => (some t113)) = some r := H
  have A6 := Aside0.mk A60
  clear A60
  replace H := Option.bind_eq_some_iff.mp H
  obtain ⟨t113, A70, H⟩ := H
  replace H : (some t113) = some r := H
  have A7 := Aside0.mk A70
  clear A70
  obtain rfl := Option.some.inj H
  go_enter Try.func28, Try.ntmps28
  go_wp2_with (first | ((with_reducible refine gate_callee (f := 47) rfl ?_); refine goesL_ (some 5) rfl rfl Try.func47 (by kernel_rfl) rfl #[.int .u64 a0, .int .i64 13] rfl (by (try simp only [List.map_toArray, List.map_cons, List.map_nil]); first | done | rfl | (simp only [List.length_drop, List.length_take]; rfl)) ?_; (with_reducible refine (deckleref41_shift.calls k a0 13 t108 _ A2.out).mono ?_); rintro e w' ⟨rfl, ⟨nd, rfl⟩⟩; refine ⟨_, rfl, ?_⟩) | ((with_reducible refine gate_callee (f := 46) rfl ?_); refine goesL_ (some 6) rfl rfl Try.func46 (by kernel_rfl) rfl #[.int .u64 a0, .int .u64 t108] rfl (by (try simp only [List.map_toArray, List.map_cons, List.map_nil]); first | done | rfl | (simp only [List.length_drop, List.length_take]; rfl)) ?_; (with_reducible refine (deckleref41_xor.calls k a0 t108 t109 _ A3.out).mono ?_); rintro e w' ⟨rfl, ⟨nd, rfl⟩⟩; refine ⟨_, rfl, ?_⟩) | ((with_reducible refine gate_callee (f := 47) rfl ?_); refine goesL_ (some 9) rfl rfl Try.func47 (by kernel_rfl) rfl #[.int .u64 t109, .int .i64 (-7)] rfl (by (try simp only [List.map_toArray, List.map_cons, List.map_nil]); first | done | rfl | (simp only [List.length_drop, List.length_take]; rfl)) ?_; (with_reducible refine (deckleref41_shift.calls k t109 (-7) t110 _ A4.out).mono ?_); rintro e w' ⟨rfl, ⟨nd, rfl⟩⟩; refine ⟨_, rfl, ?_⟩) | ((with_reducible refine gate_callee (f := 46) rfl ?_); refine goesL_ (some 10) rfl rfl Try.func46 (by kernel_rfl) rfl #[.int .u64 t109, .int .u64 t110] rfl (by (try simp only [List.map_toArray, List.map_cons, List.map_nil]); first | done | rfl | (simp only [List.length_drop, List.length_take]; rfl)) ?_; (with_reducible refine (deckleref41_xor.calls k t109 t110 t111 _ A5.out).mono ?_); rintro e w' ⟨rfl, ⟨nd, rfl⟩⟩; refine ⟨_, rfl, ?_⟩) | ((with_reducible refine gate_callee (f := 47) rfl ?_); refine goesL_ (some 13) rfl rfl Try.func47 (by kernel_rfl) rfl #[.int .u64 t111, .int .i64 17] rfl (by (try simp only [List.map_toArray, List.map_cons, List.map_nil]); first | done | rfl | (simp only [List.length_drop, List.length_take]; rfl)) ?_; (with_reducible refine (deckleref41_shift.calls k t111 17 t112 _ A6.out).mono ?_); rintro e w' ⟨rfl, ⟨nd, rfl⟩⟩; refine ⟨_, rfl, ?_⟩) | ((with_reducible refine gate_callee (f := 46) rfl ?_); refine goesL_ (some 14) rfl rfl Try.func46 (by kernel_rfl) rfl #[.int .u64 t111, .int .u64 t112] rfl (by (try simp only [List.map_toArray, List.map_cons, List.map_nil]); first | done | rfl | (simp only [List.length_drop, List.length_take]; rfl)) ?_; (with_reducible refine (deckleref41_xor.calls k t111 t112 t113 _ A7.out).mono ?_); rintro e w' ⟨rfl, ⟨nd, rfl⟩⟩; refine ⟨_, rfl, ?_⟩))
  go_ret
  exact ⟨by first | rfl | (simp; done) | (simp [*]; done), by repeat (first | exact Drawn0.refl _ | apply Drawn0.step)⟩

end Go.Proofs.Ytcfonmbojkolfaa.PL
