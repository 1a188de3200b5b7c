/- StateRises: every list. -/
import Derived.Test.YtiblpienmkjmgaaProg
import Derived.Below
import Derived.Deep.Draws
import Derived.Deep.AppendLies
import Derived.Maps.AppendAt
import Derived.OwnWalk
import Derived.Laws.BytesArg
import Derived.Laws.MakeOwn
import Derived.Laws.OwnMore
import Derived.Deep.OwnRows
import Derived.Tactics
import Derived.Lib.ConvBytes
import Derived.Laws.Slices
import Derived.WalkKit
import Derived.KernelRfl
import Derived.RowKit3
import Derived.Deep.LoopGhost
import Derived.Deep.QuietTactic
import Derived.BigQuiet
import Derived.WideLaws
import Derived.Deep.DeepCutAuto
import Derived.Deep.CutBlock
import Derived.Deep.RegionHeld3
import Derived.Deep.RegionWith
import Derived.Laws.Rows
import Derived.Lib.AppendStr
import Derived.ArgAppend
import Derived.Laws.IdiomCopy
import Derived.OrdersHeld
import Derived.Laws.BitsLemmas
import Derived.Outline
import Derived.RegionTactic
import Derived.Lib.Hide
import Derived.StillTailTactics
import Derived.Deep.RegionWith
import Derived.OpenShut
import Derived.Test.YtiblpienmkjmgaaWWords
import Derived.Test.YtiblpienmkjmgaaWKept
import Derived.Test.YtiblpienmkjmgaaStateI
import Derived.Test.YtiblpienmkjmgaaPSx7
import Derived.Test.YtiblpienmkjmgaaPSx0
import Derived.Test.YtiblpienmkjmgaaPSGeomLemmas
import Derived.WalkSpells
import Derived.Deep.RegionHeld3
set_option linter.unusedVariables false
namespace Go.Proofs.Ytiblpienmkjmgaa.StateA
open Go.RowKit Go.Proofs.YtiblpienmkjmgaaW.PrintWords Go.Proofs.Ytiblpienmkjmgaa.Mem Go.Proofs.Ytiblpienmkjmgaa.PS

set_option maxHeartbeats 2000000 in
set_option maxRecDepth 100000 in
theorem rises_long (A0 : Option Addr) (c0 : Nat) (l0 : List S73) (w : World) (hc0 : l0.length ≤ c0) (hlen : 100 < l0.length) :
    Calls Try.prog 6 #[.slice A0 l0.length c0] w fun e w' => e = .returned (.bool true) ∧ Below w.heap.size w w' := by
  have HB := Aside0.mk (Below.refl w.heap.size w)
  have d1 : decide ((100 : Int) < (l0.length : Nat)) = true := decide_eq_true (by omega)
  go_enter Try.func6, Try.ntmps6
  go_wp2_with (first | (go_at_call 31; refine (works_any _).mono ?_; rintro e v0 ⟨rfl, hb1⟩; have HB' := Aside0.mk (HB.out.trans (hb1.mono HB.out.size)); clear HB hb1; have HB := HB'; clear HB') | (go_at_call 33; refine (decklelaw14_geo.calls 8 6 64 4 0 4 _ rfl).mono ?_; rintro e v1 ⟨rfl, hb1⟩; have HB' := Aside0.mk (HB.out.trans (hb1.mono HB.out.size)); clear HB hb1; have HB := HB'; clear HB') | (go_at_call 32; refine (new_ok 8 4 6 64 0 4 _ geo_ok (by omega) (by omega)).mono ?_; rintro e v2 ⟨L, rfl, hk, hl, hB, hb2⟩; have HB' := Aside0.mk (HB.out.trans (hb2.mono HB.out.size)); clear HB hb2 hl hB hk; have HB := HB'; clear HB'))
  go_ret
  exact ⟨rfl, HB.out⟩

def decklelaw14_StateRises.f (_l0 : List S73) : Option Bool := some true
theorem decklelaw14_StateRises.calls (A0 : Option Addr) (c0 : Nat) (l0 : List S73) (r : Bool) (w : World) (hr0 : Kd.C k73 w A0 l0.length l0) (hc0 : l0.length ≤ c0) (h : decklelaw14_StateRises.f l0 = some r) :
    Calls Try.prog 6 #[.slice A0 l0.length c0] w fun e w' => e = .returned (.bool r) ∧ Below w.heap.size w w' := by
  obtain rfl : true = r := Option.some.inj h
  by_cases c : l0.length ≤ 100
  · exact rises A0 c0 l0 w hr0 hc0 c
  · exact rises_long A0 c0 l0 w hc0 (by omega)
end Go.Proofs.Ytiblpienmkjmgaa.StateA
