/- The law's proof: words, contracts of the functions that it reaches, plain lemmas, and the statement's row. -/
import Derived.Test.YtdohaocbhcniaaaRows
import Derived.Test.YtdohaocbhcniaaaSp11
import Derived.Test.YtdohaocbhcniaaaSp5
import Derived.WalkKit
import Derived.ProofKit
import Derived.OpenShut
import Derived.ShutString
import Derived.ChangeOld
import Derived.Below
import Derived.SizedLaws
section
/- What is to be shown of deckle/decklelaw12.SheetPacks, without memory. -/
namespace Go.Proofs.Ytdohaocbhcniaaa.sheetPacks
open Go.ChangeShapes Go.WideShapes Go.ChangeAt Go.RowKit Go.Proofs.Ytdohaocbhcniaaa.Opening Go.Proofs.YtdohaocbhcniaaaW.PrintWords Go.Proofs.Ytdohaocbhcniaaa.PG
open Go.ChangeMaps (open_string shut_string)
set_option linter.unusedVariables false
set_option linter.unusedSimpArgs false
def wf3 (x : Int) : Prop := (Lit.int .i64 x).wf = true
def wf33 (x : S33) : Prop := ((Lit.int .i64 x.f0).wf = true) ∧ ((Lit.int .i64 x.f1).wf = true) ∧ ((Lit.int .i64 x.f2).wf = true)
/-- The one statement over numbers and lists alone. -/
def Pure : Prop := ∀ (l0 : (List S33)) (a1 : Int), (l0.length ≤ maxLen ∧ l0.length * 24 ≤ 140737488351232 ∧ ∀ y ∈ l0, wf33 y) → (Lit.int .i64 a1).wf = true → decklelaw12_SheetPacks.f l0 a1 = some true
end Go.Proofs.Ytdohaocbhcniaaa.sheetPacks
end

section
/- SheetPacks in plain Lean. -/
namespace Go.Proofs.Ytdohaocbhcniaaa.sheetPacks
open Go.RowKit Go.Proofs.YtdohaocbhcniaaaW.PrintWords Go.Proofs.Ytdohaocbhcniaaa.PG

theorem pure : Pure := by
  unfold Pure
  intros
  exact rfl
end Go.Proofs.Ytdohaocbhcniaaa.sheetPacks
end

section
/- The law deckle/decklelaw12.SheetPacks: for every input that reads as data the call returns true, and each argument reads as it read before. -/
namespace Go.Proofs.Ytdohaocbhcniaaa.sheetPacks
open Go.ChangeShapes Go.WideShapes Go.ChangeAt Go.RowKit Go.Proofs.Ytdohaocbhcniaaa.Opening Go.Proofs.YtdohaocbhcniaaaW.PrintWords Go.Proofs.Ytdohaocbhcniaaa.PG
open Go.ChangeMaps (open_string shut_string)
set_option linter.unusedVariables false
set_option linter.unusedSimpArgs false
section
variable {H : Type} {enc : TypeId × Value → H} {w : World} {base : Nat} {spare : Nat → Bool} {held : Bool}
theorem opens3 : Opens enc Try.prog w base spare held 3 (Kd.int .i64) wf3 := opens_int Try.underlying3
end
section
variable {H : Type} {enc : TypeId × Value → H} {w : World} {base : Nat} {spare : Nat → Bool} {held : Bool}
theorem opens33 : Opens enc Try.prog w base spare held 33 k33 wf33 := opens_struct (f := fun x : S33 => (x.f0, (x.f1, x.f2))) (fun a => ⟨a.1, a.2.1, a.2.2⟩) (fun _ => rfl) Try.underlying33 (by kernel_rfl) (fields_cons rfl (by kernel_rfl) (opens3) rfl (fields_cons rfl (by kernel_rfl) (opens3) rfl (fields_one rfl (by kernel_rfl) (opens3))))
end
theorem walk (P : Pure) (A0 : Option Addr) (c0 : Nat) (l0 : (List S33)) (a1 : Int) (w : World) (hr0 : Kd.C k33 w A0 l0.length l0) (hc0 : l0.length ≤ c0) (wf0 : (l0.length ≤ maxLen ∧ l0.length * 24 ≤ 140737488351232 ∧ ∀ y ∈ l0, wf33 y)) (wf1 : (Lit.int .i64 a1).wf = true) :
    Calls Try.prog 3 #[.slice A0 l0.length c0, .int .i64 a1] w fun e w' => e = .returned (.bool true) ∧ Below w.heap.size w w' := by
  have h := P l0 a1 wf0 wf1
  refine (decklelaw12_SheetPacks.calls A0 c0 l0 a1 w hr0 hc0 h).mono ?_
  rintro e w' ⟨rfl, hd⟩
  exact ⟨rfl, hd⟩
theorem own : ownKnob Try.prog.godebug = none := by kernel_rfl
theorem laidOut : laidOutB Try.prog = true := by kernel_rfl
set_option maxRecDepth 100000 in
theorem lifted (os : Os) (started : os.Started) (H : Type) (enc : TypeId × Value → H) :
    ReturnsInHanded {} Try.checked os 3 .any (Rows.sheetPacksSpec.pre6 enc Try.prog Try.f3 Rows.sheetPacksRow.domain false) (Rows.sheetPacksSpec.post enc Try.prog Try.f3 false true false false) := by
  refine returnsInHanded_of_change_sized (C := Try.checked) own started (by kernel_rfl) Try.func3
    (ChangeSpec.witness6 (enc := enc) (C := Try.checked) false ⟨#[], #[.slice none 0 0, .int .i64 0], []⟩ 8 (by kernel_rfl) (by kernel_rfl) (by kernel_rfl) (by kernel_rfl)) ?_
  intro W base args ds gs before hval0 hW hcnd hsz0 _
  have hsz : (DataW.weightsEach Try.prog (Try.f3.params.toList ++ Rows.sheetPacksSpec.plain.varTypes Try.prog) (ds ++ gs)).all (· ≤ reachBytes) = true := hsz0
  have hval : ∀ (j : Nat) t v, Try.f3.params[j]? = some t → args[j]? = some v → Value.okWide Try.prog W .any base t v := hval0
  have hW' := hW
  obtain ⟨p, q, hA0, hV, rfl, hfz, hnd⟩ := hW
  have hA : DataW.TrodAll enc Try.prog W 0 (fun _ => true) true Try.f3.params.toList args.toList ds p := hA0
  rw [Try.params3] at hA hval hsz
  obtain ⟨v0, vs0, d0, ds0, p0, q0, hargs, rfl, rfl, h0, r0⟩ := trodAll_cons hA
  obtain ⟨v1, vs1, d1, ds1, p1, q1, rfl, rfl, rfl, h1, r1⟩ := trodAll_cons r0
  obtain ⟨rfl, rfl, rfl⟩ := trodAll_nil r1
  obtain rfl : args = #[v0, v1] := by cases args; simp_all
  obtain ⟨rfl, rfl⟩ := trodVars_none hV
  have k0 := h0
  have lt0 : ∀ x ∈ p0, x.block < W.heap.size := by obtain ⟨m, hm⟩ := k0; exact DataW.trod_lt m _ _ _ hm
  obtain ⟨l0, K0, wf0⟩ := opens_arg (j := 0) (opens_slice (B := 24) Try.underlying22 (by kernel_rfl) (by kernel_rfl) (opens33)) hsz rfl rfl h0
  obtain ⟨A0, len0, c0, rfl⟩ := okWide_slice Try.underlying22 (hval 0 22 v0 rfl rfl)
  obtain ⟨B0, e0_, e0, hc0, hr0⟩ := K0
  simp [Value.cells] at e0
  obtain ⟨rfl, rfl, rfl⟩ := e0
  have k1 := h1
  have lt1 : ∀ x ∈ p1, x.block < W.heap.size := by obtain ⟨m, hm⟩ := k1; exact DataW.trod_lt m _ _ _ hm
  obtain ⟨a1, K1, wf1⟩ := opens_arg (j := 1) (opens_int Try.underlying3) hsz rfl rfl h1
  obtain ⟨b1, rfl, _⟩ := open_int Try.underlying3 (hval 1 3 v1 rfl rfl) h1
  obtain rfl : a1 = b1 := by have e : (Value.cells _).toList = [_] := K1; simp [Value.cells] at e; exact e.symm
  clear hA0 hval0 hsz0 hsz
  refine (walk pure A0 c0 l0 a1 W hr0 hc0 wf0 wf1).mono fun e W' ⟨he, bel⟩ => ?_
  subst he
  exact ⟨_, rfl, _, _, _, [], _, [], hW', trodAll_mk1 (shut_bool Try.underlying4 _), (trodAll_cons_mk (Below.trod laidOut (by kernel_rfl) (of_decide_eq_true (by kernel_rfl)) k0 bel lt0) (trodAll_cons_mk (Below.trod laidOut (by kernel_rfl) (of_decide_eq_true (by kernel_rfl)) k1 bel lt1) trodAll_mk0)), rfl, bel.frame _, fun h => by cases h⟩
theorem over : Rows.sheetPacksRow.holds Try.pinned (OpenSpec.ofChange Rows.sheetPacksSpec) :=
  OpenClaim.holds_of_wide 3 Try.f3 rfl rfl rfl rfl rfl rfl rfl ⟨rfl, rfl, rfl, rfl, rfl⟩ rfl rfl rfl rfl rfl (by kernel_rfl) Try.func3 (by kernel_rfl)
    (of_decide_eq_true (by kernel_rfl)) (by unfold Func.isWrapper; first | (rw [if_pos (by decide +kernel)]; kernel_rfl) | (rw [if_neg (by decide +kernel)]; exact ⟨rfl, rfl⟩))
    (fun os started H enc _ => lifted os started H enc)
theorem proved : Rows.SheetPacksSaid := over
#print axioms proved
end Go.Proofs.Ytdohaocbhcniaaa.sheetPacks
namespace Go.Proofs.Ytdohaocbhcniaaa
/-- The row, under a short name, for the claim. -/
theorem sheetPacks_holds : Rows.SheetPacksSaid := sheetPacks.proved
end Go.Proofs.Ytdohaocbhcniaaa
end
