/- The chapter's example. -/
import Derived.Test.YtiblpienmkjmgaaProg
import Derived.Below
import Derived.Deep.Draws
import Derived.Deep.AppendLies
import Derived.Maps.AppendAt
import Derived.OwnWalk
import Derived.Laws.BytesArg
import Derived.Laws.MakeOwn
import Derived.Laws.OwnMore
import Derived.Deep.OwnRows
import Derived.Tactics
import Derived.Lib.ConvBytes
import Derived.Laws.Slices
import Derived.WalkKit
import Derived.KernelRfl
import Derived.RowKit3
import Derived.Deep.LoopGhost
import Derived.Deep.QuietTactic
import Derived.BigQuiet
import Derived.WideLaws
import Derived.Deep.DeepCutAuto
import Derived.Deep.CutBlock
import Derived.Deep.RegionHeld3
import Derived.Deep.RegionWith
import Derived.Laws.Rows
import Derived.Lib.AppendStr
import Derived.ArgAppend
import Derived.Laws.IdiomCopy
import Derived.OrdersHeld
import Derived.Laws.BitsLemmas
import Derived.Outline
import Derived.RegionTactic
import Derived.Lib.Hide
import Derived.StillTailTactics
import Derived.Deep.RegionWith
import Derived.OpenShut
import Derived.Test.YtiblpienmkjmgaaWWords
import Derived.Test.YtiblpienmkjmgaaWKept
import Derived.Test.YtiblpienmkjmgaaStateE
import Derived.Test.YtiblpienmkjmgaaPSx7
import Derived.Test.YtiblpienmkjmgaaPSGeomLemmas
import Derived.WalkSpells
import Derived.Deep.RegionHeld3
import Derived.Lib.BufferMore
set_option linter.unusedVariables false
namespace Go.Proofs.Ytiblpienmkjmgaa.StateA
open Go.RowKit Go.Proofs.YtiblpienmkjmgaaW.PrintWords Go.Proofs.Ytiblpienmkjmgaa.Mem Go.Proofs.Ytiblpienmkjmgaa.PS

theorem zeros_getD (n i : Nat) : (zeros n).getD i 0 = 0 := by
  unfold zeros; rw [List.getD_eq_getElem?_getD, List.getElem?_replicate]; split <;> rfl
theorem newK_fine (b s : Nat) (hb0 : 0 < b) (hb : b ≤ 1000000) (hs0 : 0 < s) (hs : s ≤ 1000000) : (newK b s).Fine := by
  refine ⟨⟨?_, ?_, ?_, ?_, ?_, ?_, ?_, ?_⟩, ?_, ?_, ?_, ?_⟩ <;> simp only [newK, zeros_len] <;> first | assumption | (intro x hx; obtain rfl := (List.mem_replicate.1 hx).2; omega) | rfl
theorem apply_to (l : Loc) (B : Nat) (K K' : Kp) (c k a b : Int) (w : World) (ha : applyK K k a b = (K', c)) (h : KeepAt w l K) (hl : l.Apart) (hB : l.From B) (fine : K.Fine) :
    Calls Try.prog 36 #[.pointer (some ⟨l.g, 0, none⟩), recV k a b] w fun e w' => e = .returned (.int .i64 c) ∧ KeepAt w' l K' ∧ Mod B l.Of w w' := by
  have := apply_any l B K k a b w h hl hB fine
  rw [ha] at this
  exact this
theorem Loc.From.mono {l : Loc} {B B' : Nat} (h : l.From B) (hb : B' ≤ B) : l.From B' := by
  obtain ⟨h1, h2, h3, h4, h5⟩ := h
  exact ⟨by omega, by omega, by omega, by omega, by omega⟩

def exK : Kp := ⟨(zeros 4).set 1 5, zeros 8, zeros 8, zeros 8⟩
def exK2 : Kp := ⟨(zeros 4).set 1 5, (zeros 8).set 1 3, zeros 8, zeros 8⟩
theorem ex1 : applyK (newK 8 4) 1 1 5 = (exK, 0) := by
  simp [applyK, MayRec, roomK, newK, zeros_len, exK]; rfl
theorem ex2 : applyK exK 2 1 3 = (exK, 0) := by
  simp [applyK, MayRec, roomK, zeros_len, exK]; rfl
theorem ex3 : applyK exK 1 4 5 = (exK, 110) := by
  simp [applyK, MayRec, roomK, zeros_len, exK]
theorem ex4 : atI exK.F 1 = 5 := by rfl
theorem exK_fine : exK.Fine := by
  have h := newK_fine 8 4 (by omega) (by omega) (by omega) (by omega)
  have := (apply_fine (newK 8 4) 1 1 5 h).1
  rwa [ex1] at this
theorem geo_ok : geom_Check.f 8 ((8 : Nat) : Int) 6 64 ((4 : Nat) : Int) 0 4 = some 0 := by
  rw [check_some _ _ _ _ _ _ (by decide) (by decide) 8 (by omega), if_pos (by decide)]

set_option maxHeartbeats 4000000 in
theorem works_any (w : World) : Calls Try.prog 31 #[] w fun e w' => e = .returned (.bool true) ∧ Below w.heap.size w w' := by
  have HB := Aside0.mk (Below.refl w.heap.size w)
  have t1 : True := trivial
  have t2 : True := trivial
  have t3 : True := trivial
  go_enter Try.func31, Try.ntmps31
  go_wp2_with (first | (go_at_call 33; refine (decklelaw14_geo.calls 8 6 64 4 0 4 _ rfl).mono ?_; rintro e v1 ⟨rfl, hb1⟩; have HB' := Aside0.mk (HB.out.trans (hb1.mono HB.out.size)); clear HB hb1; have HB := HB'; clear HB') | (go_at_call 32; refine (new_ok 8 4 6 64 0 4 _ geo_ok (by omega) (by omega)).mono ?_; rintro e v2 ⟨l, rfl, hk, hl, hB, hb2⟩; have HL := Aside0.mk hl; have HF := Aside0.mk (hB.mono HB.out.size); have HB' := Aside0.mk (HB.out.trans (hb2.mono HB.out.size)); have HK := Aside0.mk hk; clear HB hb2 hl hB hk; have HB := HB'; clear HB') | (go_at_call 45; refine (floor_any l exK 1 _ HK.out).mono ?_; rintro e v4 ⟨rfl, rfl⟩; rw [ex4]) | (go_at_call 36; have _t := t1; refine (apply_to l w.heap.size _ _ _ 1 1 5 _ ex1 HK.out HL.out HF.out (newK_fine 8 4 (by omega) (by omega) (by omega) (by omega))).mono ?_; rintro e v3 ⟨rfl, hk, hm⟩; have HB' := Aside0.mk (HB.out.trans hm.below); have HK' := Aside0.mk hk; clear HB HK hm hk; have HB := HB'; have HK := HK'; clear HB' HK' t1 _t) | (go_at_call 36; have _t := t2; refine (apply_to l w.heap.size _ _ _ 2 1 3 _ ex2 HK.out HL.out HF.out exK_fine).mono ?_; rintro e v3 ⟨rfl, hk, hm⟩; have HB' := Aside0.mk (HB.out.trans hm.below); have HK' := Aside0.mk hk; clear HB HK hm hk; have HB := HB'; have HK := HK'; clear HB' HK' t2 _t) | (go_at_call 36; have _t := t3; refine (apply_to l w.heap.size _ _ _ 1 4 5 _ ex3 HK.out HL.out HF.out exK_fine).mono ?_; rintro e v3 ⟨rfl, hk, hm⟩; have HB' := Aside0.mk (HB.out.trans hm.below); have HK' := Aside0.mk hk; clear HB HK hm hk; have HB := HB'; have HK := HK'; clear HB' HK' t3 _t))
  go_ret
  exact ⟨rfl, HB.out⟩
end Go.Proofs.Ytiblpienmkjmgaa.StateA
