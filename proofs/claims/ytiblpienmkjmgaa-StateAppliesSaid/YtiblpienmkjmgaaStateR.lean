/- The contract of StateApplies. -/
import Derived.Test.YtiblpienmkjmgaaProg
import Derived.Below
import Derived.Deep.Draws
import Derived.Deep.AppendLies
import Derived.Maps.AppendAt
import Derived.OwnWalk
import Derived.Laws.BytesArg
import Derived.Laws.MakeOwn
import Derived.Laws.OwnMore
import Derived.Deep.OwnRows
import Derived.Tactics
import Derived.Lib.ConvBytes
import Derived.Laws.Slices
import Derived.WalkKit
import Derived.KernelRfl
import Derived.RowKit3
import Derived.Deep.LoopGhost
import Derived.Deep.QuietTactic
import Derived.BigQuiet
import Derived.WideLaws
import Derived.Deep.DeepCutAuto
import Derived.Deep.CutBlock
import Derived.Deep.RegionHeld3
import Derived.Deep.RegionWith
import Derived.Laws.Rows
import Derived.Lib.AppendStr
import Derived.ArgAppend
import Derived.Laws.IdiomCopy
import Derived.OrdersHeld
import Derived.Laws.BitsLemmas
import Derived.Outline
import Derived.RegionTactic
import Derived.Lib.Hide
import Derived.StillTailTactics
import Derived.Deep.RegionWith
import Derived.OpenShut
import Derived.Test.YtiblpienmkjmgaaWWords
import Derived.Test.YtiblpienmkjmgaaStateQ
import Derived.Test.YtiblpienmkjmgaaStateM
set_option linter.unusedVariables false
namespace Go.Proofs.Ytiblpienmkjmgaa.StateA
open Go.RowKit Go.Proofs.YtiblpienmkjmgaaW.PrintWords Go.Proofs.Ytiblpienmkjmgaa.Mem Go.Proofs.Ytiblpienmkjmgaa.PS Go.Proofs.Ytiblpienmkjmgaa.Own

abbrev geoV (b ln y s p we : Int) : Value := .agg #[.int .i64 b, .int .i64 ln, .int .i64 y, .int .i64 s, .int .i64 p, .int .i64 we]
abbrev geoC (b ln y s p we : Int) : Obj := .cells #[.int .i64 b, .int .i64 ln, .int .i64 y, .int .i64 s, .int .i64 p, .int .i64 we] 37 (0, 0)

set_option maxHeartbeats 2000000 in
set_option maxRecDepth 100000 in
theorem applies_small (b ln y s p we : Int) (A1 : Option Addr) (c1 : Nat) (l1 : List S73) (A2 : Option Addr) (c2 : Nat) (l2 : List S73) (w : World) (h : 300 < s ∨ 100 < l1.length ∨ 100 < l2.length) :
    Calls Try.prog 8 #[geoV b ln y s p we, .slice A1 l1.length c1, .slice A2 l2.length c2] w fun e w' => e = .returned (.bool true) ∧ Below w.heap.size w w' := by
  have HO := Aside0.mk ((Own.new w).alloc' (geoC b ln y s p we))
  by_cases h1 : 300 < s
  · have t1 : decide (300 < s) = true := decide_eq_true h1
    clear h
    go_enter Try.func8, Try.ntmps8
    go_wp2_with fail
    refine (works_any _).mono ?_
    rintro e v0 ⟨rfl, hb⟩
    have HO := Aside0.mk (HO.out.move hb)
    clear hb
    go_wp2_with fail
    go_ret
    exact ⟨rfl, HO.out.below⟩
  · have t1 : decide (300 < s) = false := decide_eq_false h1
    by_cases h2 : 100 < l1.length
    · have t2 : decide ((100 : Int) < (l1.length : Nat)) = true := decide_eq_true (by omega)
      clear h
      go_enter Try.func8, Try.ntmps8
      go_wp2_with fail
      refine (works_any _).mono ?_
      rintro e v0 ⟨rfl, hb⟩
      have HO := Aside0.mk (HO.out.move hb)
      clear hb
      go_wp2_with fail
      go_ret
      exact ⟨rfl, HO.out.below⟩
    · have t2 : decide ((100 : Int) < (l1.length : Nat)) = false := decide_eq_false (by omega)
      have t3 : decide ((100 : Int) < (l2.length : Nat)) = true := decide_eq_true (by omega)
      clear h
      go_enter Try.func8, Try.ntmps8
      go_wp2_with fail
      refine (works_any _).mono ?_
      rintro e v0 ⟨rfl, hb⟩
      have HO := Aside0.mk (HO.out.move hb)
      clear hb
      go_wp2_with fail
      go_ret
      exact ⟨rfl, HO.out.below⟩

theorem cells6' {w : World} {g : Nat} {a b c d e f : Value} {T : TypeId} (k : w.heap[g]? = some (.cells #[a, b, c, d, e, f] T (0, 0))) : w.cell? ⟨g, 0, none⟩ = some a ∧ w.cell? ⟨g, 1, none⟩ = some b ∧ w.cell? ⟨g, 2, none⟩ = some c ∧ w.cell? ⟨g, 3, none⟩ = some d ∧ w.cell? ⟨g, 4, none⟩ = some e ∧ w.cell? ⟨g, 5, none⟩ = some f := ⟨blk_cell k 0, blk_cell k 1, blk_cell k 2, blk_cell k 3, blk_cell k 4, blk_cell k 5⟩

set_option maxHeartbeats 2000000 in
set_option maxRecDepth 100000 in
theorem applies_bad (b ln y s p we : Int) (A1 : Option Addr) (c1 : Nat) (l1 : List S73) (A2 : Option Addr) (c2 : Nat) (l2 : List S73) (w : World) (h1 : s ≤ 300) (h2 : l1.length ≤ 100) (h3 : l2.length ≤ 100)
    (hb : (Lit.int .i64 b).wf = true) (hln : (Lit.int .i64 ln).wf = true) (hg : ¬ GeoOk b ln y s p we) :
    Calls Try.prog 8 #[geoV b ln y s p we, .slice A1 l1.length c1, .slice A2 l2.length c2] w fun e w' => e = .returned (.bool true) ∧ Below w.heap.size w w' := by
  have HO := Aside0.mk ((Own.new w).alloc (geoC b ln y s p we))
  have t1 : decide (300 < s) = false := decide_eq_false (by omega)
  have t2 : decide ((100 : Int) < (l1.length : Nat)) = false := decide_eq_false (by omega)
  have t3 : decide ((100 : Int) < (l2.length : Nat)) = false := decide_eq_false (by omega)
  have HG := Lib.hid hg
  have H1 := Lib.hid hb
  have H2 := Lib.hid hln
  clear hg h1 hb hln
  go_enter Try.func8, Try.ntmps8
  go_wp2_with fail
  refine (new_bad b ln y s p we H1.out H2.out HG.out _).mono ?_
  rintro e v1 ⟨rfl, hb⟩
  have HO := Aside0.mk (HO.out.move hb)
  obtain ⟨x0, x1, x2, x3, x4, x5⟩ := cells6' HO.out.pt
  clear hb
  go_wp2_with fail
  refine (refNew_bad b ln y s p we H1.out H2.out HG.out _).mono ?_
  rintro e v2 ⟨B1, B2, B3, B4, d1, d2, d3, d4, rfl, hb⟩
  have HO := Aside0.mk (HO.out.move hb)
  clear hb x0 x1 x2 x3 x4 x5
  go_wp2_with fail
  refine (works_any _).mono ?_
  rintro e v3 ⟨rfl, hb⟩
  have HO := Aside0.mk ((HO.out.alloc' _).move hb)
  clear hb
  go_wp2_with fail
  go_ret
  exact ⟨rfl, HO.out.below⟩
end Go.Proofs.Ytiblpienmkjmgaa.StateA
