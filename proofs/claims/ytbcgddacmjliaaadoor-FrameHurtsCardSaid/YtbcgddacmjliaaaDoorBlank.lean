/- Package frame, by hand: Blank: a page on which nothing stands. -/
import Derived.ArgAppend
import Derived.Below
import Derived.BigQuiet
import Derived.Carry
import Derived.Deep.AppendLies
import Derived.Deep.CutBlock
import Derived.Deep.DeepCutAuto
import Derived.Deep.Draws
import Derived.Deep.LoopGhost
import Derived.Deep.OwnRows
import Derived.Deep.QuietTactic
import Derived.Deep.RegionHeld3
import Derived.Deep.RegionWith
import Derived.KernelRfl
import Derived.Laws.BitsLemmas
import Derived.Laws.BytesArg
import Derived.Laws.IdiomCopy
import Derived.Laws.MakeOwn
import Derived.Laws.OwnMore
import Derived.Laws.Rows
import Derived.Laws.Slices
import Derived.Lib.AppendStr
import Derived.Lib.BufferMore
import Derived.Lib.ConvBytes
import Derived.Lib.Hide
import Derived.Lib.LazyBuf
import Derived.Maps.AppendAt
import Derived.OpenShut
import Derived.OrdersHeld
import Derived.Outline
import Derived.OwnWalk
import Derived.OwnWalkIn
import Derived.RegionTactic
import Derived.RowKit3
import Derived.StillTailTactics
import Derived.Tactics
import Derived.WalkKit
import Derived.WideLaws
import Derived.Test.YtbcgddacmjliaaaDoorProg
import Derived.Test.YtbcgddacmjliaaaDoorShelf
import Derived.Test.YtbcgddacmjliaaaDoorPFy1
set_option linter.unusedVariables false
set_option linter.unusedSimpArgs false
namespace Go.Proofs.YtbcgddacmjliaaaDoor.PF
open Go.RowKit Go.Shelf Go.Proofs.YtbcgddacmjliaaaDoorW.PrintWords Go.Proofs.YtbcgddacmjliaaaDoor.Hw

/-- May a page have so many bytes of data? -/
def mayB (n : Int) : Bool := decide (8 ≤ n ∧ n ≤ 256 ∧ n % 8 = 0)
theorem may_is (n : Int) : frame_may.f n = some (mayB n) := by
  unfold frame_may.f mayB
  by_cases h1 : 8 ≤ n
  · rw [if_pos (show n ≥ 8 from h1)]
    by_cases h2 : n ≤ 256
    · rw [if_pos h2, Int.tmod_eq_emod_of_nonneg (by omega)]
      congr 1
      rw [Bool.eq_iff_iff]
      simp
      omega
    · rw [if_neg h2, decide_eq_false (by omega)]
  · rw [if_neg (show ¬ n ≥ 8 from h1), decide_eq_false (by omega)]
def ffs (n : Nat) : ByteArray := ⟨(List.replicate n (255 : UInt8)).toArray⟩
theorem repeat_ff (n : Nat) : (⟨(Lib.repeatL [255] n).toArray⟩ : ByteArray) = ffs n := by
  have h : ∀ n : Nat, Lib.repeatL [255] n = List.replicate n (255 : UInt8) := by
    intro n
    induction n with
    | zero => rfl
    | succ n ih => show [255] ++ Lib.repeatL [255] n = _; rw [ih]; rfl
  unfold ffs
  rw [h]
def frame_Blank.f (n : Int) : Option ByteArray := some (if mayB n = true then ffs ((n.toNat + 24) / 8 * 9) else ⟨#[]⟩)
set_option maxHeartbeats 2000000 in
set_option maxRecDepth 100000 in
theorem frame_Blank.calls (n : Int) (r : ByteArray) (w : World) (h : frame_Blank.f n = some r) :
    Calls Tryd.prog 14 #[.int .i64 n] w fun e w' => e = .returned (.string r) ∧ Below w.heap.size w w' := by
  unfold frame_Blank.f at h
  obtain rfl := Option.some.inj h
  have hm := may_is n
  cases hb : mayB n with
  | true =>
    rw [hb] at hm
    have hb' : 8 ≤ n ∧ n ≤ 256 ∧ n % 8 = 0 := by unfold mayB at hb; exact of_decide_eq_true hb
    obtain ⟨b1, b2, b3⟩ := hb'
    obtain ⟨m, rfl⟩ : ∃ m : Nat, n = m := ⟨n.toNat, by omega⟩
    have HM := Aside0.mk hm
    obtain ⟨c, hc⟩ : ∃ c, c = (m + 24) / 8 * 9 := ⟨_, rfl⟩
    have hce : ((m : Int) + 16 + 8) / 8 * 9 = (c : Nat) := by omega
    have HR := Aside0.mk (fun (w1 : World) => Any.strings_Repeat lays105 extra105 ⟨#[255]⟩ c w1 (by omega) (by show 1 * c ≤ _; omega))
    have HC := Lib.hid hc
    clear hm hb b3 hc
    go_enter Tryd.func14, Tryd.ntmps14
    go_wp2_with fail
    refine (frame_may.calls _ _ _ HM.out).mono ?_
    rintro e w1 ⟨rfl, hb⟩
    have HB := Aside0.mk hb.below
    clear hb
    go_wp2_with fail
    refine (HR.out _).mono ?_
    rintro e w2 ⟨rfl, hb2⟩
    rw [repeat_ff]
    have HB2 := Aside0.mk (below_then HB.out HB.out.size hb2)
    clear hb2 HB
    go_wp2_with fail
    go_ret
    refine ⟨?_, HB2.out⟩
    show Ending.returned (.string (ffs c)) = _
    rw [HC.out]
  | false =>
    rw [hb] at hm
    have HM := Aside0.mk hm
    clear hm hb
    go_enter Tryd.func14, Tryd.ntmps14
    go_wp2_with fail
    refine (frame_may.calls _ _ _ HM.out).mono ?_
    rintro e w1 ⟨rfl, hb⟩
    have HB := Aside0.mk hb
    clear hb
    go_wp2_with fail
    go_ret
    exact ⟨rfl, by have := HB.out.below; exact this⟩
end Go.Proofs.YtbcgddacmjliaaaDoor.PF
