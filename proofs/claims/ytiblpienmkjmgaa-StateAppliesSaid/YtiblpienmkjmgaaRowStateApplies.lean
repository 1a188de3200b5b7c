/- The law deckle/decklelaw14.StateApplies: for every input that reads as data the call returns true, and each argument reads as it read before. -/
import Derived.Test.YtiblpienmkjmgaaStmStateApplies
import Derived.Test.YtiblpienmkjmgaaPureStateApplies
namespace Go.Proofs.Ytiblpienmkjmgaa.stateApplies
open Go.ChangeShapes Go.WideShapes Go.ChangeAt Go.RowKit Go.Proofs.Ytiblpienmkjmgaa.Opening Go.Proofs.YtiblpienmkjmgaaW.PrintWords Go.Proofs.Ytiblpienmkjmgaa.StateA Go.Proofs.Ytiblpienmkjmgaa.PS
open Go.ChangeMaps (open_string shut_string)
set_option linter.unusedVariables false
set_option linter.unusedSimpArgs false
section
variable {H : Type} {enc : TypeId × Value → H} {w : World} {base : Nat} {spare : Nat → Bool} {held : Bool}
theorem opens3 : Opens enc Try.prog w base spare held 3 (Kd.int .i64) wf3 := opens_int Try.underlying3
end
section
variable {H : Type} {enc : TypeId × Value → H} {w : World} {base : Nat} {spare : Nat → Bool} {held : Bool}
theorem opens73 : Opens enc Try.prog w base spare held 73 k73 wf73 := opens_struct (f := fun x : S73 => (x.f0, (x.f1, x.f2))) (fun a => ⟨a.1, a.2.1, a.2.2⟩) (fun _ => rfl) Try.underlying73 (by kernel_rfl) (fields_cons rfl (by kernel_rfl) (opens3) rfl (fields_cons rfl (by kernel_rfl) (opens3) rfl (fields_one rfl (by kernel_rfl) (opens3))))
end
theorem walk (P : Pure) (a0_0 : Int) (a0_1 : Int) (a0_2 : Int) (a0_3 : Int) (a0_4 : Int) (a0_5 : Int) (A1 : Option Addr) (c1 : Nat) (l1 : (List S73)) (A2 : Option Addr) (c2 : Nat) (l2 : (List S73)) (w : World) (hr1 : Kd.C k73 w A1 l1.length l1) (hc1 : l1.length ≤ c1) (hr2 : Kd.C k73 w A2 l2.length l2) (hc2 : l2.length ≤ c2) (wf0_0 : (Lit.int .i64 a0_0).wf = true) (wf0_1 : (Lit.int .i64 a0_1).wf = true) (wf0_2 : (Lit.int .i64 a0_2).wf = true) (wf0_3 : (Lit.int .i64 a0_3).wf = true) (wf0_4 : (Lit.int .i64 a0_4).wf = true) (wf0_5 : (Lit.int .i64 a0_5).wf = true) (wf1 : (l1.length ≤ maxLen ∧ l1.length * 24 ≤ 140737488351232 ∧ ∀ y ∈ l1, wf73 y)) (wf2 : (l2.length ≤ maxLen ∧ l2.length * 24 ≤ 140737488351232 ∧ ∀ y ∈ l2, wf73 y)) :
    Calls Try.prog 8 #[.agg #[.int .i64 a0_0, .int .i64 a0_1, .int .i64 a0_2, .int .i64 a0_3, .int .i64 a0_4, .int .i64 a0_5], .slice A1 l1.length c1, .slice A2 l2.length c2] w fun e w' => e = .returned (.bool true) ∧ Below w.heap.size w w' := by
  have h := P a0_0 a0_1 a0_2 a0_3 a0_4 a0_5 l1 l2 wf0_0 wf0_1 wf0_2 wf0_3 wf0_4 wf0_5 wf1 wf2
  refine (decklelaw14_StateApplies.calls a0_0 a0_1 a0_2 a0_3 a0_4 a0_5 A1 c1 l1 A2 c2 l2 true w hr1 hc1 hr2 hc2 h).mono ?_
  rintro e w' ⟨rfl, hd⟩
  exact ⟨rfl, hd⟩
theorem own : ownKnob Try.prog.godebug = none := by kernel_rfl
theorem laidOut : laidOutB Try.prog = true := by kernel_rfl
set_option maxRecDepth 100000 in
theorem lifted (os : Os) (started : os.Started) (H : Type) (enc : TypeId × Value → H) :
    ReturnsInHanded {} Try.checked os 8 .any (Rows.stateAppliesSpec.pre6 enc Try.prog Try.f8 Rows.stateAppliesRow.domain false) (Rows.stateAppliesSpec.post enc Try.prog Try.f8 false true false false) := by
  refine returnsInHanded_of_change_sized (C := Try.checked) own started (by kernel_rfl) Try.func8
    (ChangeSpec.witness6 (enc := enc) (C := Try.checked) false ⟨#[], #[.agg #[.int .i64 0, .int .i64 0, .int .i64 0, .int .i64 0, .int .i64 0, .int .i64 0], .slice none 0 0, .slice none 0 0], []⟩ 8 (by kernel_rfl) (by kernel_rfl) (by kernel_rfl) (by kernel_rfl)) ?_
  intro W base args ds gs before hval0 hW hcnd hsz0 _
  have hsz : (DataW.weightsEach Try.prog (Try.f8.params.toList ++ Rows.stateAppliesSpec.plain.varTypes Try.prog) (ds ++ gs)).all (· ≤ reachBytes) = true := hsz0
  have hval : ∀ (j : Nat) t v, Try.f8.params[j]? = some t → args[j]? = some v → Value.okWide Try.prog W .any base t v := hval0
  have hW' := hW
  obtain ⟨p, q, hA0, hV, rfl, hfz, hnd⟩ := hW
  have hA : DataW.TrodAll enc Try.prog W 0 (fun _ => true) true Try.f8.params.toList args.toList ds p := hA0
  rw [Try.params8] at hA hval hsz
  obtain ⟨v0, vs0, d0, ds0, p0, q0, hargs, rfl, rfl, h0, r0⟩ := trodAll_cons hA
  obtain ⟨v1, vs1, d1, ds1, p1, q1, rfl, rfl, rfl, h1, r1⟩ := trodAll_cons r0
  obtain ⟨v2, vs2, d2, ds2, p2, q2, rfl, rfl, rfl, h2, r2⟩ := trodAll_cons r1
  obtain ⟨rfl, rfl, rfl⟩ := trodAll_nil r2
  obtain rfl : args = #[v0, v1, v2] := by cases args; simp_all
  obtain ⟨rfl, rfl⟩ := trodVars_none hV
  have k0 := h0
  have lt0 : ∀ x ∈ p0, x.block < W.heap.size := by obtain ⟨m, hm⟩ := k0; exact DataW.trod_lt m _ _ _ hm
  obtain ⟨⟨a0_0, a0_1, a0_2, a0_3, a0_4, a0_5⟩, K0, ⟨wf0_0, wf0_1, wf0_2, wf0_3, wf0_4, wf0_5⟩⟩ := opens_arg (j := 0) (opens_struct (f := id) id (fun _ => rfl) Try.underlying37 (by kernel_rfl) (fields_cons rfl (by kernel_rfl) (opens_int Try.underlying3) rfl (fields_cons rfl (by kernel_rfl) (opens_int Try.underlying3) rfl (fields_cons rfl (by kernel_rfl) (opens_int Try.underlying3) rfl (fields_cons rfl (by kernel_rfl) (opens_int Try.underlying3) rfl (fields_cons rfl (by kernel_rfl) (opens_int Try.underlying3) rfl (fields_one rfl (by kernel_rfl) (opens_int Try.underlying3)))))))) hsz rfl rfl h0
  obtain ⟨cs0, rfl, _⟩ := okWide_struct Try.underlying37 (hval 0 37 v0 rfl rfl)
  obtain ⟨ls0, els0⟩ : ∃ ls, ls = (Value.agg cs0).cells.toList := ⟨_, rfl⟩
  rw [← els0] at K0
  obtain ⟨_, _, rfl, rfl, ⟨_, _, rfl, rfl, ⟨_, _, rfl, rfl, ⟨_, _, rfl, rfl, ⟨_, _, rfl, rfl, rfl⟩⟩⟩⟩⟩ := K0
  obtain rfl : cs0 = #[.int .i64 a0_0, .int .i64 a0_1, .int .i64 a0_2, .int .i64 a0_3, .int .i64 a0_4, .int .i64 a0_5] := by
    have e : cs0.toList = _ := els0.symm
    cases cs0; simpa using e
  have k1 := h1
  have lt1 : ∀ x ∈ p1, x.block < W.heap.size := by obtain ⟨m, hm⟩ := k1; exact DataW.trod_lt m _ _ _ hm
  obtain ⟨l1, K1, wf1⟩ := opens_arg (j := 1) (opens_slice (B := 24) Try.underlying63 (by kernel_rfl) (by kernel_rfl) (opens73)) hsz rfl rfl h1
  obtain ⟨A1, len1, c1, rfl⟩ := okWide_slice Try.underlying63 (hval 1 63 v1 rfl rfl)
  obtain ⟨B1, e1_, e1, hc1, hr1⟩ := K1
  simp [Value.cells] at e1
  obtain ⟨rfl, rfl, rfl⟩ := e1
  have k2 := h2
  have lt2 : ∀ x ∈ p2, x.block < W.heap.size := by obtain ⟨m, hm⟩ := k2; exact DataW.trod_lt m _ _ _ hm
  obtain ⟨l2, K2, wf2⟩ := opens_arg (j := 2) (opens_slice (B := 24) Try.underlying63 (by kernel_rfl) (by kernel_rfl) (opens73)) hsz rfl rfl h2
  obtain ⟨A2, len2, c2, rfl⟩ := okWide_slice Try.underlying63 (hval 2 63 v2 rfl rfl)
  obtain ⟨B2, e2_, e2, hc2, hr2⟩ := K2
  simp [Value.cells] at e2
  obtain ⟨rfl, rfl, rfl⟩ := e2
  clear hA0 hval0 hsz0 hsz
  refine (walk pure a0_0 a0_1 a0_2 a0_3 a0_4 a0_5 A1 c1 l1 A2 c2 l2 W hr1 hc1 hr2 hc2 wf0_0 wf0_1 wf0_2 wf0_3 wf0_4 wf0_5 wf1 wf2).mono fun e W' ⟨he, bel⟩ => ?_
  subst he
  exact ⟨_, rfl, _, _, _, [], _, [], hW', trodAll_mk1 (shut_bool Try.underlying4 _), (trodAll_cons_mk (Below.trod laidOut (by kernel_rfl) (of_decide_eq_true (by kernel_rfl)) k0 bel lt0) (trodAll_cons_mk (Below.trod laidOut (by kernel_rfl) (of_decide_eq_true (by kernel_rfl)) k1 bel lt1) (trodAll_cons_mk (Below.trod laidOut (by kernel_rfl) (of_decide_eq_true (by kernel_rfl)) k2 bel lt2) trodAll_mk0))), rfl, bel.frame _, fun h => by cases h⟩
theorem over : Rows.stateAppliesRow.holds Try.pinned (OpenSpec.ofChange Rows.stateAppliesSpec) :=
  OpenClaim.holds_of_wide 8 Try.f8 rfl rfl rfl rfl rfl rfl rfl ⟨rfl, rfl, rfl, rfl, rfl⟩ rfl rfl rfl rfl rfl (by kernel_rfl) Try.func8 (by kernel_rfl)
    (of_decide_eq_true (by kernel_rfl)) (by unfold Func.isWrapper; first | (rw [if_pos (by decide +kernel)]; kernel_rfl) | (rw [if_neg (by decide +kernel)]; exact ⟨rfl, rfl⟩))
    (fun os started H enc _ => lifted os started H enc)
theorem proved : Rows.StateAppliesSaid := over
#print axioms proved
end Go.Proofs.Ytiblpienmkjmgaa.stateApplies
namespace Go.Proofs.Ytiblpienmkjmgaa
/-- The row, under a short name, for the claim. -/
theorem stateApplies_holds : Rows.StateAppliesSaid := stateApplies.proved
end Go.Proofs.Ytiblpienmkjmgaa
