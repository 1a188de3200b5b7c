/- Package pmap: whatever is played, where nothing is said; the law. -/
import Derived.Test.YtiblpienmkjmgaaProg
import Derived.Below
import Derived.Carry
import Derived.Deep.Draws
import Derived.Deep.AppendLies
import Derived.Maps.AppendAt
import Derived.OwnWalk
import Derived.Laws.BytesArg
import Derived.Laws.MakeOwn
import Derived.Laws.OwnMore
import Derived.Deep.OwnRows
import Derived.Tactics
import Derived.Lib.ConvBytes
import Derived.Laws.Slices
import Derived.WalkKit
import Derived.KernelRfl
import Derived.RowKit3
import Derived.Deep.LoopGhost
import Derived.Deep.QuietTactic
import Derived.BigQuiet
import Derived.WideLaws
import Derived.Deep.DeepCutAuto
import Derived.Deep.CutBlock
import Derived.Deep.RegionHeld3
import Derived.Deep.RegionWith
import Derived.Laws.Rows
import Derived.Lib.AppendStr
import Derived.ArgAppend
import Derived.Laws.IdiomCopy
import Derived.OrdersHeld
import Derived.Laws.BitsLemmas
import Derived.Outline
import Derived.RegionTactic
import Derived.Lib.Hide
import Derived.StillTailTactics
import Derived.Deep.RegionWith
import Derived.OpenShut
import Derived.Test.YtiblpienmkjmgaaWWords
import Derived.Test.YtiblpienmkjmgaaPmapS
set_option linter.unusedVariables false
namespace Go.Proofs.Ytiblpienmkjmgaa.Pmap
open Go.RowKit Go.Proofs.YtiblpienmkjmgaaW.PrintWords Go.Proofs.Ytiblpienmkjmgaa.Mem Go.Proofs.Ytiblpienmkjmgaa.Own Go.Proofs.Ytiblpienmkjmgaa.Maps Go.Proofs.Ytiblpienmkjmgaa.PM

set_option maxHeartbeats 8000000 in
set_option maxRecDepth 100000 in
theorem plays_big (G : G6) (A : Option Addr) (cc : Nat) (l : List S46) (w : World) (hok : G.Ok) (hbig : 100 < G.s ∨ 20 < G.b) :
    Calls Try.prog 4 #[geoV G, .slice A l.length cc] w fun e w' => e = .returned (.bool true) ∧ Below w.heap.size w w' := by
  have HO := Aside0.mk ((Own.new w).alloc (geoC G))
  have HOK := Lib.hid hok
  obtain ⟨B2, hB2⟩ : ∃ B2, B2 = w.heap.size := ⟨_, rfl⟩
  have HB2 := Lib.hid hB2
  rw [← hB2] at HO
  clear hok hB2
  go_enter Try.func4, Try.ntmps4
  go_wp2_with fail
  rw [← HB2.out]
  refine (new_yes HOK.out HO.out).mono ?_
  rintro e w1 ⟨g, m1, m2, v, c, rfl, ho⟩
  have HN := Aside0.mk ho
  obtain ⟨x0, x1, x2, x3, x4, x5⟩ := cells6 ho.drop.drop.drop.drop.pt
  clear ho HO
  go_wp2_with fail
  refine (rnew_own HOK.out HN.out).mono ?_
  rintro e w2 ⟨u, xs, rfl, href, ho⟩
  obtain ⟨Au, cu, rfl, _, _⟩ := ho.reads
  have HD := Aside0.mk (ho.alloc' (dC G (.slice Au xs.length cu)))
  clear x0 x1 x2 x3 x4 x5 HN href
  obtain ⟨x0, x1, x2, x3, x4, x5⟩ := cells6 HD.out.drop.drop.drop.drop.drop.pt
  clear ho
  delta dV
  by_cases h1 : 100 < G.s
  · have t1 : decide (100 < G.s) = true := decide_eq_true h1
    go_wp2_with fail
    refine (works_own HD.out).mono ?_
    rintro e z1 ⟨rfl, ho⟩
    have HE := Aside0.mk ho.below
    clear ho HD
    go_wp2_with fail
    go_ret
    exact ⟨rfl, HE.out⟩
  · have t1 : decide (100 < G.s) = false := decide_eq_false h1
    have t2 : decide (20 < G.b) = true := decide_eq_true (by omega)
    go_wp2_with fail
    refine (works_own HD.out).mono ?_
    rintro e z1 ⟨rfl, ho⟩
    have HE := Aside0.mk ho.below
    clear ho HD
    go_wp2_with fail
    go_ret
    exact ⟨rfl, HE.out⟩
set_option maxHeartbeats 8000000 in
set_option maxRecDepth 100000 in
theorem plays_bad (G : G6) (A : Option Addr) (cc : Nat) (l : List S46) (w : World) (hok : ¬ G.Ok) (hb : (Lit.int .i64 G.b).wf = true) (hl : (Lit.int .i64 G.l).wf = true) :
    Calls Try.prog 4 #[geoV G, .slice A l.length cc] w fun e w' => e = .returned (.bool true) ∧ Below w.heap.size w w' := by
  have HO := Aside0.mk ((Own.new w).alloc (geoC G))
  have HOK := Lib.hid hok
  have HWB := Lib.hid hb
  have HWL := Lib.hid hl
  obtain ⟨B2, hB2⟩ : ∃ B2, B2 = w.heap.size := ⟨_, rfl⟩
  have HB2 := Lib.hid hB2
  rw [← hB2] at HO
  clear hok hB2 hb hl
  go_enter Try.func4, Try.ntmps4
  go_wp2_with fail
  rw [← HB2.out]
  refine (new_no HOK.out HWB.out HWL.out HO.out).mono ?_
  rintro e w1 ⟨rfl, ho⟩
  have HN := Aside0.mk ho
  obtain ⟨x0, x1, x2, x3, x4, x5⟩ := cells6 ho.pt
  clear ho HO
  go_wp2_with fail
  have hcl := deckleref19_New.calls 26002 _ _ _ _ _ _ _ _ _ _ _ _ _ _ w1 (ref_new_no HOK.out HWB.out HWL.out)
  refine hcl.mono ?_
  clear hcl
  rintro e w2 ⟨u, rfl, hr, hb⟩
  obtain ⟨Au, cu, rfl, _, _⟩ := Kd.R_reads hr
  have HD := Aside0.mk ((HN.out.move hb).alloc' (.cells #[.int .i64 0, .int .i64 0, .int .i64 0, .int .i64 0, .int .i64 0, .int .i64 0, .slice Au ([] : List Int).length cu] 42 (0, 0)))
  clear x0 x1 x2 x3 x4 x5 HN hr hb
  go_wp2_with fail
  refine (works_own HD.out).mono ?_
  rintro e z1 ⟨rfl, ho⟩
  have HE := Aside0.mk ho.below
  clear ho HD
  go_wp2_with fail
  go_ret
  exact ⟨rfl, HE.out⟩

def decklelaw19_PmapPlays.f (b ln _y _s _p _we : Int) (_l1 : List S46) : Option Bool := if (Lit.int .i64 b).wf = true ∧ (Lit.int .i64 ln).wf = true then some true else none
theorem decklelaw19_PmapPlays.calls (a0_0 : Int) (a0_1 : Int) (a0_2 : Int) (a0_3 : Int) (a0_4 : Int) (a0_5 : Int) (A1 : Option Addr) (c1 : Nat) (l1 : List S46) (r : Bool) (w : World) (hr1 : Kd.C k46 w A1 l1.length l1) (hc1 : l1.length ≤ c1) (h : decklelaw19_PmapPlays.f a0_0 a0_1 a0_2 a0_3 a0_4 a0_5 l1 = some r) :
    Calls Try.prog 4 #[.agg #[.int .i64 a0_0, .int .i64 a0_1, .int .i64 a0_2, .int .i64 a0_3, .int .i64 a0_4, .int .i64 a0_5], .slice A1 l1.length c1] w fun e w' => e = .returned (.bool r) ∧ Below w.heap.size w w' := by
  unfold decklelaw19_PmapPlays.f at h
  by_cases c : (Lit.int .i64 a0_0).wf = true ∧ (Lit.int .i64 a0_1).wf = true
  · rw [if_pos c] at h
    obtain rfl := Option.some.inj h
    by_cases hg : (G6.mk a0_0 a0_1 a0_2 a0_3 a0_4 a0_5).Ok
    · by_cases hs : 100 < a0_3 ∨ 20 < a0_0
      · exact plays_big ⟨a0_0, a0_1, a0_2, a0_3, a0_4, a0_5⟩ A1 c1 l1 w hg hs
      · exact plays_ok ⟨a0_0, a0_1, a0_2, a0_3, a0_4, a0_5⟩ A1 c1 l1 w hg (by show a0_3 ≤ 100; omega) (by show a0_0 ≤ 20; omega) hr1 hc1
    · exact plays_bad ⟨a0_0, a0_1, a0_2, a0_3, a0_4, a0_5⟩ A1 c1 l1 w hg c.1 c.2
  · rw [if_neg c] at h
    cases h
end Go.Proofs.Ytiblpienmkjmgaa.Pmap
