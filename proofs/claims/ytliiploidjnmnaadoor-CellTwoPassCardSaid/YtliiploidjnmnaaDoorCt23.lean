/- The law's proof: words, contracts of the functions that it reaches, plain lemmas. -/
import Derived.ArgAppend
import Derived.Below
import Derived.BigQuiet
import Derived.Carry
import Derived.Deep.AppendLies
import Derived.Deep.CutBlock
import Derived.Deep.DeepCutAuto
import Derived.Deep.Draws
import Derived.Deep.LoopGhost
import Derived.Deep.OwnRows
import Derived.Deep.QuietTactic
import Derived.Deep.RegionHeld3
import Derived.Deep.RegionWith
import Derived.KernelRfl
import Derived.Laws.BitsLemmas
import Derived.Laws.BytesArg
import Derived.Laws.IdiomCopy
import Derived.Laws.MakeOwn
import Derived.Laws.OwnMore
import Derived.Laws.Rows
import Derived.Laws.Slices
import Derived.Lib.AppendStr
import Derived.Lib.BufferMore
import Derived.Lib.ConvBytes
import Derived.Lib.Hide
import Derived.Lib.LazyBuf
import Derived.Maps.AppendAt
import Derived.OpenShut
import Derived.OrdersHeld
import Derived.Outline
import Derived.OwnWalk
import Derived.OwnWalkIn
import Derived.RegionTactic
import Derived.RowKit3
import Derived.StillTailTactics
import Derived.Tactics
import Derived.WalkKit
import Derived.WideLaws
import Derived.RegionIn
import Derived.ControlIn
import Derived.Sort.CutIn
import Derived.Test.YtliiploidjnmnaaDoorCt3
import Derived.Test.YtliiploidjnmnaaDoorCt1
import Derived.Test.YtliiploidjnmnaaDoorCt9
import Derived.Test.YtliiploidjnmnaaDoorCt22
import Derived.Test.YtliiploidjnmnaaDoorCt14
section
/- frame.erased: has no chunk more than one bit that is 0? -/
set_option linter.unusedVariables false
set_option linter.unusedSimpArgs false
namespace Go.Proofs.YtliiploidjnmnaaDoor.PF
open Go.RowKit Go.Shelf Go.Proofs.YtliiploidjnmnaaDoorW.PrintWords Go.Proofs.YtliiploidjnmnaaDoor.Mem Go.Proofs.YtliiploidjnmnaaDoor.Own Go.Proofs.YtliiploidjnmnaaDoor.Rng Go.Proofs.YtliiploidjnmnaaDoor.Hw

attribute [local go_sem] Oper.semAt_some
/-- Of the first j chunks. -/
def eraAt (s : ByteArray) : Nat → Option Bool
  | 0 => some true
  | j + 1 => (eraAt s j).bind fun b => if b = true then (bits_Zeros.f (chk s j)).bind fun z => some (decide (z ≤ 1)) else some false
theorem eraAt_le {s : ByteArray} (i : Nat) : ∀ (n : Nat) (r : Bool), eraAt s n = some r → i ≤ n → ∃ q, eraAt s i = some q ∧ (q = false → r = false)
  | 0, r, h, hi => ⟨r, by rw [Nat.le_zero.1 hi]; exact h, id⟩
  | n + 1, r, h, hi => by
    rcases Nat.lt_or_ge n i with h1 | h1
    · have : i = n + 1 := by omega
      exact ⟨r, by rw [this]; exact h, id⟩
    · obtain ⟨b, hb, h⟩ := Option.bind_eq_some_iff.mp h
      obtain ⟨q, hq, hr⟩ := eraAt_le i n b hb h1
      refine ⟨q, hq, fun e => ?_⟩
      rw [hr e, if_neg (by decide)] at h
      exact (Option.some.inj h).symm
theorem eraAt_step {s : ByteArray} {k n : Nat} {r : Bool} (h : eraAt s n = some r) (hk : k < n) (hI : eraAt s k = some true) : ∃ z, bits_Zeros.f (chk s k) = some z ∧ (z ≤ 1 → eraAt s (k + 1) = some true) ∧ (¬ z ≤ 1 → r = false) := by
  obtain ⟨q, hq, hr⟩ := eraAt_le (k + 1) n r h hk
  have hq0 := hq
  obtain ⟨b, hb, hq⟩ := Option.bind_eq_some_iff.mp hq
  obtain rfl : true = b := Option.some.inj (hI.symm.trans hb)
  rw [if_pos rfl] at hq
  obtain ⟨z, hz, hq⟩ := Option.bind_eq_some_iff.mp hq
  have hq := Option.some.inj hq
  refine ⟨z, hz, fun h1 => ?_, fun h1 => hr ?_⟩
  · rw [hq0, ← hq, decide_eq_true h1]
  · rw [← hq, decide_eq_false h1]
def frame_erased.f (s : ByteArray) : Option Bool := if s.size ≤ 1000000 then eraAt s (s.size / 9) else none
abbrev BoxR (g : Nat) (b : Bool) : Asn := Pt g (.cells #[.bool b] 4)
set_option maxHeartbeats 4000000 in
set_option maxRecDepth 100000 in
theorem frame_erased.calls (s : ByteArray) (r : Bool) (w : World) (h : frame_erased.f s = some r) (HL : Aside0 (Laid w) := by first | exact HL | exact Hw.laid_at HL (by repeat (first | (with_reducible first | exact HB.out | apply below_alloc | apply pw_below_drewN | apply below_drew1) | exact HB.out | exact Below.refl _ _ | refine below_set ?_ (by apply Aside0.out; assumption)))) :
    Calls Tryd.prog 53 #[.string s] w fun e w' => e = .returned (.bool r) ∧ Below w.heap.size w w' := by
  unfold frame_erased.f at h
  by_cases hs : s.size ≤ 1000000
  · rw [if_pos hs] at h
    have HR := Aside0.mk h
    have HS := Lib.hid hs
    have HO := Aside0.mk ((Own.Own.new w).alloc (.cells #[.bool false] 4))
    obtain ⟨B2, hB2⟩ : ∃ B2, B2 = w.heap.size := ⟨_, rfl⟩
    rw [← hB2] at HO
    have HB2 := Lib.hid hB2
    clear h hs hB2
    refine (callsIn_wide (n := 3)).1 ?_
    refine callsIn_of_wp_marks Tryd.func53 rfl trivial ?_ rfl
    simp only [Tryd.ntmps53, List.size_toArray, List.length_cons, List.length_nil, Nat.reduceAdd, Nat.reduceSub, Array.replicate_succ, Array.replicate_zero, List.push_toArray, List.append_toArray, List.nil_append, List.cons_append]
    refine wpIn_wide.2 ?_
    go_wp2_with fail
    rw [← HB2.out]
    refine (chunks_own s HO.out).mono ?_
    rintro e w1 ⟨b, rfl, ho⟩
    have HF := Aside0.mk (show Own.Own w w1 (ChL b s (fun _ => [BoxR B2 false]) 0) from ho)
    clear ho HO
    go_wp2_with fail
    refine (wpIn_wide (n := 3)).1 ?_
    refine wp_range_box (n := 3) (by omega) (gf := 71) (lb := #[.pointer (some ⟨b, 0, none⟩)]) rfl (enters_of Tryd.func71 (by kernel_rfl) rfl) (fun _ => rfl)
      (chunks_iter w b s HS.out (fun _ => [BoxR B2 false]) (fun k => eraAt s k = some true) rfl) HF.out (fun c L => c = .ret ∧ r = false ∧ L = ChL b s (fun _ => [BoxR B2 false]) 0) ?round ?done ?stop
    case round =>
      rintro l D o k c Lk W ⟨hk, hc, rfl, hI⟩ hO
      subst hc
      obtain ⟨z, hz, hz1, hz2⟩ := eraAt_step HR.out hk hI
      have HZ := Aside0.mk hz
      have HZ1 := Aside0.mk hz1
      have HZ2 := Aside0.mk hz2
      clear hz hz1 hz2 hI
      gi_wp2_with (fail)
      refine ⟨_, hO, ?_⟩
      intro o2 W2 h2
      gi_wp2_with (fail)
      refine ⟨trivial, ?_⟩
      gi_at_call 70
      refine (CallsIn.inRound l (callsIn_wide.2 (bits_Zeros.calls _ _ _ HZ.out (Hw.laid_at HL h2.below)))).mono ?_
      rintro e w5 ⟨rfl, hb⟩
      have HC := Aside0.mk (h2.move hb)
      clear h2 hb hO
      by_cases hz : z ≤ 1
      · have d1 : decide (1 < z) = false := decide_eq_false (by omega)
        have d2 : decide (z > 1) = false := decide_eq_false (by omega)
        gi_wp2_with (fail)
        exact ⟨_, ⟨rfl, HZ1.out hz⟩, HC.out⟩
      · have d1 : decide (1 < z) = true := decide_eq_true (by omega)
        have d2 : decide (z > 1) = true := decide_eq_true (by omega)
        have y0 := blk_cell HC.out.drop.drop.drop.pt 0
        have y1 := blk_frozen HC.out.drop.drop.drop.pt 0
        simp only [List.getElem?_toArray, List.getElem?_cons_zero] at y0
        gi_wp2_with (fail)
        have hq := (own_swap [_] [_, _, _] ((own_swap [_, _, _] [_] HC.out).set (i := 0) (.bool false)))
        exact ⟨_, ⟨rfl, HZ2.out hz, rfl⟩, hq⟩
    case done =>
      rintro D L W ⟨rfl, hI⟩ hO
      obtain rfl : r = true := Option.some.inj (HR.out.symm.trans hI)
      have HC := Aside0.mk hO
      clear hO
      have y0 := blk_cell HC.out.drop.drop.pt 0
      have y1 := blk_frozen HC.out.drop.drop.pt 0
      simp only [List.getElem?_toArray, List.getElem?_cons_zero] at y0
      go_wp2_with fail
      have H4 := (own_swap [_, _] [_] HC.out).set (i := 0) (.bool true)
      have H5 := own_putObj (own_swap [_] [_] H4) (.deferred none)
      have hK := (own_swap [_] [_] H4).pt
      have hc : (World.putObj _ D (.deferred none)).cell? ⟨B2, 0, none⟩ = some (.bool true) := blk_cell H5.drop.pt 0
      refine ⟨by simp, .inl ⟨_, _, rfl, run_takeDeferred hK, ?_⟩⟩
      exact ⟨.bool true, by simp [results, Tryd.results53, go_sem, hc], rfl, H5.below⟩
    case stop =>
      rintro D c L W ⟨rfl, rfl, rfl⟩ hO
      have HC := Aside0.mk hO
      clear hO
      refine wpIn_wide.2 ?_
      go_wp2_with fail
      have H4 := own_swap [_, _] [_] HC.out
      have H5 := own_putObj (own_swap [_] [_] H4) (.deferred none)
      have hK := (own_swap [_] [_] H4).pt
      have hc : (World.putObj _ D (.deferred none)).cell? ⟨B2, 0, none⟩ = some (.bool false) := blk_cell H5.drop.pt 0
      refine ⟨by simp, .inl ⟨_, _, rfl, run_takeDeferred hK, ?_⟩⟩
      exact ⟨.bool false, by simp [results, Tryd.results53, go_sem, hc], rfl, H5.below⟩
  · rw [if_neg hs] at h
    cases h
end Go.Proofs.YtliiploidjnmnaaDoor.PF
end
