/- The law's proof: words, contracts of the functions that it reaches, plain lemmas, and the statement's row. -/
import Derived.Test.YteofihmeiikhbaaDoorSb21
import Derived.Test.YteofihmeiikhbaaDoorCards
import Derived.Test.YteofihmeiikhbaaDoorTie
import Derived.Test.YteofihmeiikhbaaDoorSb3
import Derived.Lay
import Derived.LaidMore
import Derived.Stop.Joined
import Derived.SevenTiedAt
section
/- The law deckle/decklelaw13.SnapBack: for every input that reads as data the call returns true, and each argument reads as it read before. -/
namespace Go.Proofs.YteofihmeiikhbaaDoor.snapBack
open Go.ChangeShapes Go.WideShapes Go.ChangeAt Go.RowKit Go.Proofs.YteofihmeiikhbaaDoor.Opening Go.Proofs.YteofihmeiikhbaaDoorW.PrintWords Go.Proofs.YteofihmeiikhbaaDoor.PG
open Go.ChangeMaps (open_string shut_string)
set_option linter.unusedVariables false
set_option linter.unusedSimpArgs false
section
variable {H : Type} {enc : TypeId × Value → H} {w : World} {base : Nat} {spare : Nat → Bool} {held : Bool}
theorem opens3 : Opens enc Tryd.prog w base spare held 3 (Kd.int .i64) wf3 := opens_int Tryd.underlying3
end
section
variable {H : Type} {enc : TypeId × Value → H} {w : World} {base : Nat} {spare : Nat → Bool} {held : Bool}
theorem opens9 : Opens enc Tryd.prog w base spare held 9 Kd.string wf9 := opens_string Tryd.underlying9
end
theorem walk (P : Pure) (a0_0 : Int) (a0_1 : Int) (a0_2 : Int) (a0_3 : Int) (a0_4 : Int) (a0_5 : Int) (A1_0 : Option Addr) (c1_0 : Nat) (l1_0 : (List Int)) (A1_1 : Option Addr) (c1_1 : Nat) (l1_1 : (List Int)) (A1_2 : Option Addr) (c1_2 : Nat) (l1_2 : (List Int)) (A1_3 : Option Addr) (c1_3 : Nat) (l1_3 : (List Int)) (A2 : Option Addr) (c2 : Nat) (l2 : (List ByteArray)) (w : World) (HL : Aside0 (Hu.Laid w)) (hr1_0 : Kd.C (Kd.int .i64) w A1_0 l1_0.length l1_0) (hc1_0 : l1_0.length ≤ c1_0) (hr1_1 : Kd.C (Kd.int .i64) w A1_1 l1_1.length l1_1) (hc1_1 : l1_1.length ≤ c1_1) (hr1_2 : Kd.C (Kd.int .i64) w A1_2 l1_2.length l1_2) (hc1_2 : l1_2.length ≤ c1_2) (hr1_3 : Kd.C (Kd.int .i64) w A1_3 l1_3.length l1_3) (hc1_3 : l1_3.length ≤ c1_3) (hr2 : Kd.C Kd.string w A2 l2.length l2) (hc2 : l2.length ≤ c2) (wf0_0 : (Lit.int .i64 a0_0).wf = true) (wf0_1 : (Lit.int .i64 a0_1).wf = true) (wf0_2 : (Lit.int .i64 a0_2).wf = true) (wf0_3 : (Lit.int .i64 a0_3).wf = true) (wf0_4 : (Lit.int .i64 a0_4).wf = true) (wf0_5 : (Lit.int .i64 a0_5).wf = true) (wf1_0 : (l1_0.length ≤ maxLen ∧ l1_0.length * 8 ≤ 140737488351232 ∧ ∀ y ∈ l1_0, wf3 y)) (wf1_1 : (l1_1.length ≤ maxLen ∧ l1_1.length * 8 ≤ 140737488351232 ∧ ∀ y ∈ l1_1, wf3 y)) (wf1_2 : (l1_2.length ≤ maxLen ∧ l1_2.length * 8 ≤ 140737488351232 ∧ ∀ y ∈ l1_2, wf3 y)) (wf1_3 : (l1_3.length ≤ maxLen ∧ l1_3.length * 8 ≤ 140737488351232 ∧ ∀ y ∈ l1_3, wf3 y)) (wf2 : (l2.length ≤ maxLen ∧ l2.length * 16 ≤ 140737488351232 ∧ ∀ y ∈ l2, wf9 y)) :
    Calls Tryd.prog 4 #[.agg #[.int .i64 a0_0, .int .i64 a0_1, .int .i64 a0_2, .int .i64 a0_3, .int .i64 a0_4, .int .i64 a0_5], .agg #[.slice A1_0 l1_0.length c1_0, .slice A1_1 l1_1.length c1_1, .slice A1_2 l1_2.length c1_2, .slice A1_3 l1_3.length c1_3], .slice A2 l2.length c2] w fun e w' => e = .returned (.bool true) ∧ Below w.heap.size w w' := by
  have h := P a0_0 a0_1 a0_2 a0_3 a0_4 a0_5 l1_0 l1_1 l1_2 l1_3 l2 wf0_0 wf0_1 wf0_2 wf0_3 wf0_4 wf0_5 wf1_0 wf1_1 wf1_2 wf1_3 wf2
  refine (decklelaw13_SnapBack.calls a0_0 a0_1 a0_2 a0_3 a0_4 a0_5 A1_0 c1_0 l1_0 A1_1 c1_1 l1_1 A1_2 c1_2 l1_2 A1_3 c1_3 l1_3 A2 c2 l2 w hr1_0 hc1_0 hr1_1 hc1_1 hr1_2 hc1_2 hr1_3 hc1_3 hr2 hc2 h HL).mono ?_
  rintro e w' ⟨rfl, hd⟩
  exact ⟨rfl, hd⟩
theorem own : ownKnob Tryd.prog.godebug = none := by kernel_rfl
theorem laidOut : laidOutB Tryd.prog = true := by kernel_rfl
set_option maxRecDepth 100000 in
theorem lifted (os : Os) (started : os.Started) (H : Type) (enc : TypeId × Value → H) :
    ReturnsInHanded {} Tryd.checked os 4 .any (fun w args => (Rows.snapBackSpec.pre enc Tryd.prog Tryd.f4 [] false w args ∧ laidMetH Tryd.prog Hu.laid3 w) ∧ sizedMet enc Tryd.prog Tryd.f4 (OpenSpec.ofChange Rows.snapBackSpec) false w args) (Rows.snapBackSpec.post enc Tryd.prog Tryd.f4 false true false false) := by
  refine returnsInHanded_of_change_and (C := Tryd.checked) (X := fun w _ => laidMetH Tryd.prog Hu.laid3 w) (fun _ _ _ hh h => h.of_heap hh) own started (by kernel_rfl) Tryd.func4
    (ChangeSpec.witness_shaped (enc := enc) (C := Tryd.checked) (os := os) (X := fun w _ => laidMetH Tryd.prog Hu.laid3 w) false (World.laidAll Tryd.prog os Hu.laid3) #[.agg #[.int .i64 0, .int .i64 0, .int .i64 0, .int .i64 0, .int .i64 0, .int .i64 0], .agg #[.slice none 0 0, .slice none 0 0, .slice none 0 0, .slice none 0 0], .slice none 0 0] 8 (World.laidAll_os _ _ _) (World.shaped_of_ZipB (by kernel_rfl) (by kernel_rfl)) (by kernel_rfl) (by kernel_rfl) (by kernel_rfl) (by rw [MakeChecks.laidMetH_plain _ _ _ (by kernel_rfl)]; exact laidMet_laidAll _ (by kernel_rfl) (by kernel_rfl))) ?_
  intro W base args ds gs before hval0 hW hcnd hsz0 hL _
  have HL := Go.Proofs.YteofihmeiikhbaaDoorW.PrintWords.Aside0.mk (Hu.of_laid hL)
  have hsz : (DataW.weightsEach Tryd.prog (Tryd.f4.params.toList ++ Rows.snapBackSpec.plain.varTypes Tryd.prog) (ds ++ gs)).all (· ≤ reachBytes) = true := hsz0
  have hval : ∀ (j : Nat) t v, Tryd.f4.params[j]? = some t → args[j]? = some v → Value.okWide Tryd.prog W .any base t v := hval0
  have hW' := hW
  obtain ⟨p, q, hA0, hV, rfl, hfz, hnd⟩ := hW
  have hA : DataW.TrodAll enc Tryd.prog W 0 (fun _ => true) true Tryd.f4.params.toList args.toList ds p := hA0
  rw [Tryd.params4] at hA hval hsz
  obtain ⟨v0, vs0, d0, ds0, p0, q0, hargs, rfl, rfl, h0, r0⟩ := trodAll_cons hA
  obtain ⟨v1, vs1, d1, ds1, p1, q1, rfl, rfl, rfl, h1, r1⟩ := trodAll_cons r0
  obtain ⟨v2, vs2, d2, ds2, p2, q2, rfl, rfl, rfl, h2, r2⟩ := trodAll_cons r1
  obtain ⟨rfl, rfl, rfl⟩ := trodAll_nil r2
  obtain rfl : args = #[v0, v1, v2] := by cases args; simp_all
  obtain ⟨rfl, rfl⟩ := trodVars_none hV
  have k0 := h0
  have lt0 : ∀ x ∈ p0, x.block < W.heap.size := by obtain ⟨m, hm⟩ := k0; exact DataW.trod_lt m _ _ _ hm
  obtain ⟨⟨a0_0, a0_1, a0_2, a0_3, a0_4, a0_5⟩, K0, ⟨wf0_0, wf0_1, wf0_2, wf0_3, wf0_4, wf0_5⟩⟩ := opens_arg (j := 0) (opens_struct (f := id) id (fun _ => rfl) Tryd.underlying23 (by kernel_rfl) (fields_cons rfl (by kernel_rfl) (opens_int Tryd.underlying3) rfl (fields_cons rfl (by kernel_rfl) (opens_int Tryd.underlying3) rfl (fields_cons rfl (by kernel_rfl) (opens_int Tryd.underlying3) rfl (fields_cons rfl (by kernel_rfl) (opens_int Tryd.underlying3) rfl (fields_cons rfl (by kernel_rfl) (opens_int Tryd.underlying3) rfl (fields_one rfl (by kernel_rfl) (opens_int Tryd.underlying3)))))))) hsz rfl rfl h0
  obtain ⟨cs0, rfl, _⟩ := okWide_struct Tryd.underlying23 (hval 0 23 v0 rfl rfl)
  obtain ⟨ls0, els0⟩ : ∃ ls, ls = (Value.agg cs0).cells.toList := ⟨_, rfl⟩
  rw [← els0] at K0
  obtain ⟨_, _, rfl, rfl, ⟨_, _, rfl, rfl, ⟨_, _, rfl, rfl, ⟨_, _, rfl, rfl, ⟨_, _, rfl, rfl, rfl⟩⟩⟩⟩⟩ := K0
  obtain rfl : cs0 = #[.int .i64 a0_0, .int .i64 a0_1, .int .i64 a0_2, .int .i64 a0_3, .int .i64 a0_4, .int .i64 a0_5] := by
    have e : cs0.toList = _ := els0.symm
    cases cs0; simpa using e
  have k1 := h1
  have lt1 : ∀ x ∈ p1, x.block < W.heap.size := by obtain ⟨m, hm⟩ := k1; exact DataW.trod_lt m _ _ _ hm
  obtain ⟨⟨l1_0, l1_1, l1_2, l1_3⟩, K1, ⟨wf1_0, wf1_1, wf1_2, wf1_3⟩⟩ := opens_arg (j := 1) (opens_struct (f := id) id (fun _ => rfl) Tryd.underlying26 (by kernel_rfl) (fields_cons rfl (by kernel_rfl) (opens_slice (B := 8) Tryd.underlying24 (by kernel_rfl) (by kernel_rfl) (opens3)) rfl (fields_cons rfl (by kernel_rfl) (opens_slice (B := 8) Tryd.underlying24 (by kernel_rfl) (by kernel_rfl) (opens3)) rfl (fields_cons rfl (by kernel_rfl) (opens_slice (B := 8) Tryd.underlying24 (by kernel_rfl) (by kernel_rfl) (opens3)) rfl (fields_one rfl (by kernel_rfl) (opens_slice (B := 8) Tryd.underlying24 (by kernel_rfl) (by kernel_rfl) (opens3))))))) hsz rfl rfl h1
  obtain ⟨cs1, rfl, _⟩ := okWide_struct Tryd.underlying26 (hval 1 26 v1 rfl rfl)
  obtain ⟨ls1, els1⟩ : ∃ ls, ls = (Value.agg cs1).cells.toList := ⟨_, rfl⟩
  rw [← els1] at K1
  obtain ⟨_, _, rfl, ⟨A1_0, c1_0, rfl, hc1_0, hr1_0⟩, ⟨_, _, rfl, ⟨A1_1, c1_1, rfl, hc1_1, hr1_1⟩, ⟨_, _, rfl, ⟨A1_2, c1_2, rfl, hc1_2, hr1_2⟩, ⟨A1_3, c1_3, rfl, hc1_3, hr1_3⟩⟩⟩⟩ := K1
  obtain rfl : cs1 = #[.slice A1_0 l1_0.length c1_0, .slice A1_1 l1_1.length c1_1, .slice A1_2 l1_2.length c1_2, .slice A1_3 l1_3.length c1_3] := by
    have e : cs1.toList = _ := els1.symm
    cases cs1; simpa using e
  have k2 := h2
  have lt2 : ∀ x ∈ p2, x.block < W.heap.size := by obtain ⟨m, hm⟩ := k2; exact DataW.trod_lt m _ _ _ hm
  obtain ⟨l2, K2, wf2⟩ := opens_arg (j := 2) (opens_slice (B := 16) Tryd.underlying27 (by kernel_rfl) (by kernel_rfl) (opens9)) hsz rfl rfl h2
  obtain ⟨A2, len2, c2, rfl⟩ := okWide_slice Tryd.underlying27 (hval 2 27 v2 rfl rfl)
  obtain ⟨B2, e2_, e2, hc2, hr2⟩ := K2
  simp [Value.cells] at e2
  obtain ⟨rfl, rfl, rfl⟩ := e2
  clear hA0 hval0 hsz0 hsz
  refine (walk pure a0_0 a0_1 a0_2 a0_3 a0_4 a0_5 A1_0 c1_0 l1_0 A1_1 c1_1 l1_1 A1_2 c1_2 l1_2 A1_3 c1_3 l1_3 A2 c2 l2 W HL hr1_0 hc1_0 hr1_1 hc1_1 hr1_2 hc1_2 hr1_3 hc1_3 hr2 hc2 wf0_0 wf0_1 wf0_2 wf0_3 wf0_4 wf0_5 wf1_0 wf1_1 wf1_2 wf1_3 wf2).mono fun e W' ⟨he, bel⟩ => ?_
  subst he
  exact ⟨_, rfl, _, _, _, [], _, [], hW', trodAll_mk1 (shut_bool Tryd.underlying4 _), (trodAll_cons_mk (Below.trod laidOut (by kernel_rfl) (of_decide_eq_true (by kernel_rfl)) k0 bel lt0) (trodAll_cons_mk (Below.trod laidOut (by kernel_rfl) (of_decide_eq_true (by kernel_rfl)) k1 bel lt1) (trodAll_cons_mk (Below.trod laidOut (by kernel_rfl) (of_decide_eq_true (by kernel_rfl)) k2 bel lt2) trodAll_mk0))), rfl, bel.frame _, fun h => by cases h⟩
theorem over : Rows.snapBackRow.holds Tryd.pinned (OpenSpec.ofChange Rows.snapBackSpec) :=
  OpenClaim.holds_of_wide 4 Tryd.f4 rfl rfl rfl rfl rfl rfl rfl ⟨rfl, rfl, rfl, rfl, rfl⟩ rfl rfl rfl rfl rfl (by kernel_rfl) Tryd.func4 (by kernel_rfl)
    (of_decide_eq_true (by kernel_rfl)) (by unfold Func.isWrapper; first | (rw [if_pos (by decide +kernel)]; kernel_rfl) | (rw [if_neg (by decide +kernel)]; exact ⟨rfl, rfl⟩))
    (fun os started H enc _ => lifted os started H enc)
theorem row_holds : Rows.SnapBackSaid := over
theorem card_holds : Rows.SnapBackCardSaid :=
  Claim7.holds_tied_plain_at .later [] [.data, .pinned] true Rows.snapBackCard.stood.harness true
    row_holds (fun _ h => by cases h) (by kernel_rfl) (fun _ h => by cases h) snapBack_row_tie rfl ⟨rfl, rfl⟩ (by kernel_rfl) rfl
    (fun f fn hf hfn => by
      obtain rfl : f = 4 := Option.some.inj ((show Tryd.prog.funcNamed Rows.snapBackRow.func = some 4 by kernel_rfl).symm.trans hf) |>.symm
      obtain rfl : fn = Tryd.f4 := (Option.some.inj (Tryd.func4.symm.trans hfn)).symm
      exact ⟨by kernel_rfl, fun j t ht => by
        rw [Tryd.params4] at ht
        have hm : t ∈ Tryd.f4.params.toList := by rw [Tryd.params4]; simpa using Array.mem_of_getElem? ht
        have hall : (Tryd.f4.params.toList.all fun u => !Tryd.prog.wantsStandIn u) = true := by kernel_rfl
        exact (show Tryd.prog.wantsStandIn t = false by simpa using List.all_eq_true.1 hall t hm)⟩)
    (by kernel_rfl)
end Go.Proofs.YteofihmeiikhbaaDoor.snapBack
namespace Go.Proofs.YteofihmeiikhbaaDoor
/-- The card, under a short name, for the claim. -/
theorem snapBack_holds : Rows.SnapBackCardSaid := snapBack.card_holds
#print axioms snapBack_holds
end Go.Proofs.YteofihmeiikhbaaDoor
end
