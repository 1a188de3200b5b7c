/- Package pmap, by hand: the chapter's example; what was played. -/
import Derived.Test.YtiblpienmkjmgaaProg
import Derived.Below
import Derived.Carry
import Derived.Deep.Draws
import Derived.Deep.AppendLies
import Derived.Maps.AppendAt
import Derived.OwnWalk
import Derived.Laws.BytesArg
import Derived.Laws.MakeOwn
import Derived.Laws.OwnMore
import Derived.Deep.OwnRows
import Derived.Tactics
import Derived.Lib.ConvBytes
import Derived.Laws.Slices
import Derived.WalkKit
import Derived.KernelRfl
import Derived.RowKit3
import Derived.Deep.LoopGhost
import Derived.Deep.QuietTactic
import Derived.BigQuiet
import Derived.WideLaws
import Derived.Deep.DeepCutAuto
import Derived.Deep.CutBlock
import Derived.Deep.RegionHeld3
import Derived.Deep.RegionWith
import Derived.Laws.Rows
import Derived.Lib.AppendStr
import Derived.ArgAppend
import Derived.Laws.IdiomCopy
import Derived.OrdersHeld
import Derived.Laws.BitsLemmas
import Derived.Outline
import Derived.RegionTactic
import Derived.Lib.Hide
import Derived.StillTailTactics
import Derived.Deep.RegionWith
import Derived.OpenShut
import Derived.Test.YtiblpienmkjmgaaWWords
import Derived.Test.YtiblpienmkjmgaaPmapJ
import Derived.Test.YtiblpienmkjmgaaPMx6
set_option linter.unusedVariables false
namespace Go.Proofs.Ytiblpienmkjmgaa.Pmap
open Go.RowKit Go.Proofs.YtiblpienmkjmgaaW.PrintWords Go.Proofs.Ytiblpienmkjmgaa.Mem Go.Proofs.Ytiblpienmkjmgaa.Own Go.Proofs.Ytiblpienmkjmgaa.Maps Go.Proofs.Ytiblpienmkjmgaa.PM

def G0 : G6 := ⟨8, 6, 64, 4, 0, 4⟩
theorem g0_ok : G0.Ok := by
  show GeoOk 8 6 64 4 0 4
  decide
def X0 : PS := newP G0
def X1 : PS := ⟨[(3, (2, 0, 0))], [((2, 0, 0), 3)], [0, 0, 1, 0, 0, 0, 0, 0]⟩
def X2 : PS := ⟨[(3, (5, 1, 0))], [((5, 1, 0), 3)], [0, 0, 0, 0, 0, 1, 0, 0]⟩
theorem x1_is : setR G0 X0 3 (2, 0, 0) = (X1, 0) := by kernel_rfl
theorem x2_is : setR G0 X1 3 (5, 1, 0) = (X2, 0) := by kernel_rfl
section
variable {w0 w : World} {L : List Asn}
theorem new_g0 (HO : Own w0 w L) : Calls Try.prog 16 #[.agg #[.int .i64 8, .int .i64 6, .int .i64 64, .int .i64 4, .int .i64 0, .int .i64 4]] w fun e w' => ∃ g m1 m2 v c, e = .returned (.tuple #[.pointer (some ⟨g, 0, none⟩), .int .i64 0]) ∧ Own w0 w' (PMs G0 g m1 m2 v c G0.b.toNat X0 L) :=
  new_yes (G := G0) g0_ok HO
set_option maxHeartbeats 4000000 in
set_option maxRecDepth 100000 in
theorem works_own (HO : Own w0 w L) : Calls Try.prog 10 #[] w fun e w' => e = .returned (.bool true) ∧ Own w0 w' L := by
  have HO := Aside0.mk HO
  go_enter Try.func10, Try.ntmps10
  go_wp2_with fail
  refine (decklelaw19_geo.calls 8 6 64 4 0 4 _ rfl).mono ?_
  rintro e w1 ⟨rfl, hb⟩
  have H1 := Aside0.mk (HO.out.move hb)
  clear hb HO
  go_wp2_with fail
  refine (new_g0 H1.out).mono ?_
  rintro e w2 ⟨g, m1, m2, v, c, rfl, ho⟩
  have H2 := Aside0.mk ho
  clear ho H1
  go_wp2_with fail
  have hs := set_any 3 (2, 0, 0) g0_ok (newP_inv G0 g0_ok) H2.out
  rw [show newP G0 = X0 from rfl, x1_is] at hs
  refine hs.mono ?_
  rintro e w3 ⟨rfl, ho⟩
  have H3 := Aside0.mk ho
  clear ho H2 hs
  go_wp2_with fail
  refine (valid_own (n := G0.b.toNat) 2 rfl H3.out).mono ?_
  rintro e w4 ⟨rfl, rfl⟩
  rw [show (if (0 : Int) ≤ 2 ∧ (2 : Int) < (G0.b.toNat : Int) then X1.v.getD (2 : Int).toNat 0 else 0) = 1 by decide]
  go_wp2_with fail
  have i1 : Inv G0 X1 := by have := setR_inv (newP_inv G0 g0_ok) 3 (2, 0, 0); rw [show newP G0 = X0 from rfl, x1_is] at this; exact this
  have hs := set_any 3 (5, 1, 0) g0_ok i1 H3.out
  rw [x2_is] at hs
  refine hs.mono ?_
  rintro e w5 ⟨rfl, ho⟩
  have H4 := Aside0.mk ho
  clear ho H3 hs
  go_wp2_with fail
  refine (valid_own (n := G0.b.toNat) 2 rfl H4.out).mono ?_
  rintro e w6 ⟨rfl, rfl⟩
  rw [show (if (0 : Int) ≤ 2 ∧ (2 : Int) < (G0.b.toNat : Int) then X2.v.getD (2 : Int).toNat 0 else 0) = 0 by decide]
  go_wp2_with fail
  refine (valid_own (n := G0.b.toNat) 5 rfl H4.out).mono ?_
  rintro e w7 ⟨rfl, rfl⟩
  rw [show (if (0 : Int) ≤ 5 ∧ (5 : Int) < (G0.b.toNat : Int) then X2.v.getD (5 : Int).toNat 0 else 0) = 1 by decide]
  go_wp2_with fail
  refine (total_own H4.out).mono ?_
  rintro e w8 ⟨rfl, rfl⟩
  rw [show X2.l1.length = 1 from rfl]
  go_wp2_with fail
  go_ret
  exact ⟨rfl, H4.out.drop.drop.drop.drop⟩
end
end Go.Proofs.Ytiblpienmkjmgaa.Pmap
