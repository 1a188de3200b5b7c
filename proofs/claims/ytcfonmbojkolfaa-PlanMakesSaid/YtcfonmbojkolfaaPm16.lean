/- The law's proof: words, contracts of the functions that it reaches, plain lemmas, and the statement's row. -/
import Derived.Test.YtcfonmbojkolfaaRows
import Derived.Test.YtcfonmbojkolfaaPm15
import Derived.Test.YtcfonmbojkolfaaPm7
import Derived.WalkKit
import Derived.ProofKit
import Derived.OpenShut
import Derived.ShutString
import Derived.ChangeOld
import Derived.Below
import Derived.SizedLaws
section
/- What is to be shown of deckle/decklelaw25.PlanMakes, without memory. -/
namespace Go.Proofs.Ytcfonmbojkolfaa.planMakes
open Go.ChangeShapes Go.WideShapes Go.ChangeAt Go.RowKit Go.Proofs.Ytcfonmbojkolfaa.Opening Go.Proofs.YtcfonmbojkolfaaW.PrintWords Go.Proofs.Ytcfonmbojkolfaa.Plan Go.Proofs.Ytcfonmbojkolfaa.PN
open Go.ChangeMaps (open_string shut_string)
set_option linter.unusedVariables false
set_option linter.unusedSimpArgs false
def wf3 (x : Int) : Prop := (Lit.int .i64 x).wf = true
def wf27 (x : S27) : Prop := ((Lit.int .i64 x.f0).wf = true) ∧ ((Lit.int .i64 x.f1).wf = true) ∧ ((Lit.int .i64 x.f2).wf = true)
/-- The one statement over numbers and lists alone. -/
def Pure : Prop := ∀ (a0_0 : Int) (a0_1 : Int) (a0_2 : Int) (a0_3 : Int) (a0_4 : Int) (a0_5 : Int) (l1 : (List S27)) (a2_0 : Int) (a2_1 : Int) (a2_2_0 : Int) (a2_2_1 : Int) (a2_2_2 : Int), (Lit.int .i64 a0_0).wf = true → (Lit.int .i64 a0_1).wf = true → (Lit.int .i64 a0_2).wf = true → (Lit.int .i64 a0_3).wf = true → (Lit.int .i64 a0_4).wf = true → (Lit.int .i64 a0_5).wf = true → (l1.length ≤ maxLen ∧ l1.length * 24 ≤ 140737488351232 ∧ ∀ y ∈ l1, wf27 y) → (Lit.int .i64 a2_0).wf = true → (Lit.int .i64 a2_1).wf = true → (Lit.int .i64 a2_2_0).wf = true → (Lit.int .i64 a2_2_1).wf = true → (Lit.int .i64 a2_2_2).wf = true → decklelaw25_PlanMakes.f a0_0 a0_1 a0_2 a0_3 a0_4 a0_5 l1 a2_0 a2_1 a2_2_0 a2_2_1 a2_2_2 = some true
end Go.Proofs.Ytcfonmbojkolfaa.planMakes
end

section
/- PlanMakes in plain Lean: its contract speaks of every geometry whose numbers are numbers. -/
namespace Go.Proofs.Ytcfonmbojkolfaa.planMakes
open Go.RowKit Go.Proofs.YtcfonmbojkolfaaW.PrintWords Go.Proofs.Ytcfonmbojkolfaa.Plan Go.Proofs.Ytcfonmbojkolfaa.PN

theorem pure : Pure := by
  unfold Pure
  intro a0 a1 a2 a3 a4 a5 l k0 k1 k2 k3 k4 h0 h1
  intros
  exact if_pos ⟨h0, h1⟩

end Go.Proofs.Ytcfonmbojkolfaa.planMakes
end

section
/- The law deckle/decklelaw25.PlanMakes: for every input that reads as data the call returns true, and each argument reads as it read before. -/
namespace Go.Proofs.Ytcfonmbojkolfaa.planMakes
open Go.ChangeShapes Go.WideShapes Go.ChangeAt Go.RowKit Go.Proofs.Ytcfonmbojkolfaa.Opening Go.Proofs.YtcfonmbojkolfaaW.PrintWords Go.Proofs.Ytcfonmbojkolfaa.Plan Go.Proofs.Ytcfonmbojkolfaa.PN
open Go.ChangeMaps (open_string shut_string)
set_option linter.unusedVariables false
set_option linter.unusedSimpArgs false
section
variable {H : Type} {enc : TypeId × Value → H} {w : World} {base : Nat} {spare : Nat → Bool} {held : Bool}
theorem opens3 : Opens enc Try.prog w base spare held 3 (Kd.int .i64) wf3 := opens_int Try.underlying3
end
section
variable {H : Type} {enc : TypeId × Value → H} {w : World} {base : Nat} {spare : Nat → Bool} {held : Bool}
theorem opens27 : Opens enc Try.prog w base spare held 27 k27 wf27 := opens_struct (f := fun x : S27 => (x.f0, (x.f1, x.f2))) (fun a => ⟨a.1, a.2.1, a.2.2⟩) (fun _ => rfl) Try.underlying27 (by kernel_rfl) (fields_cons rfl (by kernel_rfl) (opens3) rfl (fields_cons rfl (by kernel_rfl) (opens3) rfl (fields_one rfl (by kernel_rfl) (opens3))))
end
theorem walk (P : Pure) (a0_0 : Int) (a0_1 : Int) (a0_2 : Int) (a0_3 : Int) (a0_4 : Int) (a0_5 : Int) (A1 : Option Addr) (c1 : Nat) (l1 : (List S27)) (a2_0 : Int) (a2_1 : Int) (a2_2_0 : Int) (a2_2_1 : Int) (a2_2_2 : Int) (w : World) (hr1 : Kd.C k27 w A1 l1.length l1) (hc1 : l1.length ≤ c1) (wf0_0 : (Lit.int .i64 a0_0).wf = true) (wf0_1 : (Lit.int .i64 a0_1).wf = true) (wf0_2 : (Lit.int .i64 a0_2).wf = true) (wf0_3 : (Lit.int .i64 a0_3).wf = true) (wf0_4 : (Lit.int .i64 a0_4).wf = true) (wf0_5 : (Lit.int .i64 a0_5).wf = true) (wf1 : (l1.length ≤ maxLen ∧ l1.length * 24 ≤ 140737488351232 ∧ ∀ y ∈ l1, wf27 y)) (wf2_0 : (Lit.int .i64 a2_0).wf = true) (wf2_1 : (Lit.int .i64 a2_1).wf = true) (wf2_2_0 : (Lit.int .i64 a2_2_0).wf = true) (wf2_2_1 : (Lit.int .i64 a2_2_1).wf = true) (wf2_2_2 : (Lit.int .i64 a2_2_2).wf = true) :
    Calls Try.prog 5 #[.agg #[.int .i64 a0_0, .int .i64 a0_1, .int .i64 a0_2, .int .i64 a0_3, .int .i64 a0_4, .int .i64 a0_5], .slice A1 l1.length c1, .agg #[.int .i64 a2_0, .int .i64 a2_1, .int .i64 a2_2_0, .int .i64 a2_2_1, .int .i64 a2_2_2]] w fun e w' => e = .returned (.bool true) ∧ Below w.heap.size w w' := by
  have h := P a0_0 a0_1 a0_2 a0_3 a0_4 a0_5 l1 a2_0 a2_1 a2_2_0 a2_2_1 a2_2_2 wf0_0 wf0_1 wf0_2 wf0_3 wf0_4 wf0_5 wf1 wf2_0 wf2_1 wf2_2_0 wf2_2_1 wf2_2_2
  refine (decklelaw25_PlanMakes.calls a0_0 a0_1 a0_2 a0_3 a0_4 a0_5 A1 c1 l1 a2_0 a2_1 a2_2_0 a2_2_1 a2_2_2 true w hr1 hc1 h).mono ?_
  rintro e w' ⟨rfl, hd⟩
  exact ⟨rfl, hd⟩
theorem own : ownKnob Try.prog.godebug = none := by kernel_rfl
theorem laidOut : laidOutB Try.prog = true := by kernel_rfl
set_option maxRecDepth 100000 in
theorem lifted (os : Os) (started : os.Started) (H : Type) (enc : TypeId × Value → H) :
    ReturnsInHanded {} Try.checked os 5 .any (Rows.planMakesSpec.pre6 enc Try.prog Try.f5 Rows.planMakesRow.domain false) (Rows.planMakesSpec.post enc Try.prog Try.f5 false true false false) := by
  refine returnsInHanded_of_change_sized (C := Try.checked) own started (by kernel_rfl) Try.func5
    (ChangeSpec.witness6 (enc := enc) (C := Try.checked) false ⟨#[], #[.agg #[.int .i64 0, .int .i64 0, .int .i64 0, .int .i64 0, .int .i64 0, .int .i64 0], .slice none 0 0, .agg #[.int .i64 0, .int .i64 0, .int .i64 0, .int .i64 0, .int .i64 0]], []⟩ 8 (by kernel_rfl) (by kernel_rfl) (by kernel_rfl) (by kernel_rfl)) ?_
  intro W base args ds gs before hval0 hW hcnd hsz0 _
  have hsz : (DataW.weightsEach Try.prog (Try.f5.params.toList ++ Rows.planMakesSpec.plain.varTypes Try.prog) (ds ++ gs)).all (· ≤ reachBytes) = true := hsz0
  have hval : ∀ (j : Nat) t v, Try.f5.params[j]? = some t → args[j]? = some v → Value.okWide Try.prog W .any base t v := hval0
  have hW' := hW
  obtain ⟨p, q, hA0, hV, rfl, hfz, hnd⟩ := hW
  have hA : DataW.TrodAll enc Try.prog W 0 (fun _ => true) true Try.f5.params.toList args.toList ds p := hA0
  rw [Try.params5] at hA hval hsz
  obtain ⟨v0, vs0, d0, ds0, p0, q0, hargs, rfl, rfl, h0, r0⟩ := trodAll_cons hA
  obtain ⟨v1, vs1, d1, ds1, p1, q1, rfl, rfl, rfl, h1, r1⟩ := trodAll_cons r0
  obtain ⟨v2, vs2, d2, ds2, p2, q2, rfl, rfl, rfl, h2, r2⟩ := trodAll_cons r1
  obtain ⟨rfl, rfl, rfl⟩ := trodAll_nil r2
  obtain rfl : args = #[v0, v1, v2] := by cases args; simp_all
  obtain ⟨rfl, rfl⟩ := trodVars_none hV
  have k0 := h0
  have lt0 : ∀ x ∈ p0, x.block < W.heap.size := by obtain ⟨m, hm⟩ := k0; exact DataW.trod_lt m _ _ _ hm
  obtain ⟨⟨a0_0, a0_1, a0_2, a0_3, a0_4, a0_5⟩, K0, ⟨wf0_0, wf0_1, wf0_2, wf0_3, wf0_4, wf0_5⟩⟩ := opens_arg (j := 0) (opens_struct (f := id) id (fun _ => rfl) Try.underlying33 (by kernel_rfl) (fields_cons rfl (by kernel_rfl) (opens_int Try.underlying3) rfl (fields_cons rfl (by kernel_rfl) (opens_int Try.underlying3) rfl (fields_cons rfl (by kernel_rfl) (opens_int Try.underlying3) rfl (fields_cons rfl (by kernel_rfl) (opens_int Try.underlying3) rfl (fields_cons rfl (by kernel_rfl) (opens_int Try.underlying3) rfl (fields_one rfl (by kernel_rfl) (opens_int Try.underlying3)))))))) hsz rfl rfl h0
  obtain ⟨cs0, rfl, _⟩ := okWide_struct Try.underlying33 (hval 0 33 v0 rfl rfl)
  obtain ⟨ls0, els0⟩ : ∃ ls, ls = (Value.agg cs0).cells.toList := ⟨_, rfl⟩
  rw [← els0] at K0
  obtain ⟨_, _, rfl, rfl, ⟨_, _, rfl, rfl, ⟨_, _, rfl, rfl, ⟨_, _, rfl, rfl, ⟨_, _, rfl, rfl, rfl⟩⟩⟩⟩⟩ := K0
  obtain rfl : cs0 = #[.int .i64 a0_0, .int .i64 a0_1, .int .i64 a0_2, .int .i64 a0_3, .int .i64 a0_4, .int .i64 a0_5] := by
    have e : cs0.toList = _ := els0.symm
    cases cs0; simpa using e
  have k1 := h1
  have lt1 : ∀ x ∈ p1, x.block < W.heap.size := by obtain ⟨m, hm⟩ := k1; exact DataW.trod_lt m _ _ _ hm
  obtain ⟨l1, K1, wf1⟩ := opens_arg (j := 1) (opens_slice (B := 24) Try.underlying25 (by kernel_rfl) (by kernel_rfl) (opens27)) hsz rfl rfl h1
  obtain ⟨A1, len1, c1, rfl⟩ := okWide_slice Try.underlying25 (hval 1 25 v1 rfl rfl)
  obtain ⟨B1, e1_, e1, hc1, hr1⟩ := K1
  simp [Value.cells] at e1
  obtain ⟨rfl, rfl, rfl⟩ := e1
  have k2 := h2
  have lt2 : ∀ x ∈ p2, x.block < W.heap.size := by obtain ⟨m, hm⟩ := k2; exact DataW.trod_lt m _ _ _ hm
  obtain ⟨⟨a2_0, a2_1, ⟨a2_2_0, a2_2_1, a2_2_2⟩⟩, K2, ⟨wf2_0, wf2_1, ⟨wf2_2_0, wf2_2_1, wf2_2_2⟩⟩⟩ := opens_arg (j := 2) (opens_struct (f := id) id (fun _ => rfl) Try.underlying51 (by kernel_rfl) (fields_cons rfl (by kernel_rfl) (opens_int Try.underlying3) rfl (fields_cons rfl (by kernel_rfl) (opens_int Try.underlying3) rfl (fields_one rfl (by kernel_rfl) (opens_struct (f := id) id (fun _ => rfl) Try.underlying27 (by kernel_rfl) (fields_cons rfl (by kernel_rfl) (opens_int Try.underlying3) rfl (fields_cons rfl (by kernel_rfl) (opens_int Try.underlying3) rfl (fields_one rfl (by kernel_rfl) (opens_int Try.underlying3))))))))) hsz rfl rfl h2
  obtain ⟨cs2, rfl, _⟩ := okWide_struct Try.underlying51 (hval 2 51 v2 rfl rfl)
  obtain ⟨ls2, els2⟩ : ∃ ls, ls = (Value.agg cs2).cells.toList := ⟨_, rfl⟩
  rw [← els2] at K2
  obtain ⟨_, _, rfl, rfl, ⟨_, _, rfl, rfl, ⟨_, _, rfl, rfl, ⟨_, _, rfl, rfl, rfl⟩⟩⟩⟩ := K2
  obtain rfl : cs2 = #[.int .i64 a2_0, .int .i64 a2_1, .int .i64 a2_2_0, .int .i64 a2_2_1, .int .i64 a2_2_2] := by
    have e : cs2.toList = _ := els2.symm
    cases cs2; simpa using e
  clear hA0 hval0 hsz0 hsz
  refine (walk pure a0_0 a0_1 a0_2 a0_3 a0_4 a0_5 A1 c1 l1 a2_0 a2_1 a2_2_0 a2_2_1 a2_2_2 W hr1 hc1 wf0_0 wf0_1 wf0_2 wf0_3 wf0_4 wf0_5 wf1 wf2_0 wf2_1 wf2_2_0 wf2_2_1 wf2_2_2).mono fun e W' ⟨he, bel⟩ => ?_
  subst he
  exact ⟨_, rfl, _, _, _, [], _, [], hW', trodAll_mk1 (shut_bool Try.underlying4 _), (trodAll_cons_mk (Below.trod laidOut (by kernel_rfl) (of_decide_eq_true (by kernel_rfl)) k0 bel lt0) (trodAll_cons_mk (Below.trod laidOut (by kernel_rfl) (of_decide_eq_true (by kernel_rfl)) k1 bel lt1) (trodAll_cons_mk (Below.trod laidOut (by kernel_rfl) (of_decide_eq_true (by kernel_rfl)) k2 bel lt2) trodAll_mk0))), rfl, bel.frame _, fun h => by cases h⟩
theorem over : Rows.planMakesRow.holds Try.pinned (OpenSpec.ofChange Rows.planMakesSpec) :=
  OpenClaim.holds_of_wide 5 Try.f5 rfl rfl rfl rfl rfl rfl rfl ⟨rfl, rfl, rfl, rfl, rfl⟩ rfl rfl rfl rfl rfl (by kernel_rfl) Try.func5 (by kernel_rfl)
    (of_decide_eq_true (by kernel_rfl)) (by unfold Func.isWrapper; first | (rw [if_pos (by decide +kernel)]; kernel_rfl) | (rw [if_neg (by decide +kernel)]; exact ⟨rfl, rfl⟩))
    (fun os started H enc _ => lifted os started H enc)
theorem proved : Rows.PlanMakesSaid := over
#print axioms proved
end Go.Proofs.Ytcfonmbojkolfaa.planMakes
namespace Go.Proofs.Ytcfonmbojkolfaa
/-- The row, under a short name, for the claim. -/
theorem planMakes_holds : Rows.PlanMakesSaid := planMakes.proved
end Go.Proofs.Ytcfonmbojkolfaa
end
