/- frame.Encode: the pages' bytes, chunk by chunk. -/
import Derived.ArgAppend
import Derived.Below
import Derived.BigQuiet
import Derived.Carry
import Derived.Deep.AppendLies
import Derived.Deep.CutBlock
import Derived.Deep.DeepCutAuto
import Derived.Deep.Draws
import Derived.Deep.LoopGhost
import Derived.Deep.OwnRows
import Derived.Deep.QuietTactic
import Derived.Deep.RegionHeld3
import Derived.Deep.RegionWith
import Derived.KernelRfl
import Derived.Laws.BitsLemmas
import Derived.Laws.BytesArg
import Derived.Laws.IdiomCopy
import Derived.Laws.MakeOwn
import Derived.Laws.OwnMore
import Derived.Laws.Rows
import Derived.Laws.Slices
import Derived.Lib.AppendStr
import Derived.Lib.BufferMore
import Derived.Lib.ConvBytes
import Derived.Lib.Hide
import Derived.Lib.LazyBuf
import Derived.Maps.AppendAt
import Derived.OpenShut
import Derived.OrdersHeld
import Derived.Outline
import Derived.OwnWalk
import Derived.OwnWalkIn
import Derived.RegionTactic
import Derived.RowKit3
import Derived.StillTailTactics
import Derived.Tactics
import Derived.WalkKit
import Derived.WideLaws
import Derived.Test.YtbcgddacmjliaaaDoorWWords
import Derived.Test.YtbcgddacmjliaaaDoorLaid
import Derived.Test.YtbcgddacmjliaaaDoorBld
import Derived.Test.YtbcgddacmjliaaaDoorTagEnc
import Derived.Test.YtbcgddacmjliaaaDoorPFy1
import Derived.Test.YtbcgddacmjliaaaDoorPFx16
import Derived.Test.YtbcgddacmjliaaaDoorPFx13
set_option linter.unusedVariables false
set_option linter.unusedSimpArgs false
namespace Go.Proofs.YtbcgddacmjliaaaDoor.PF
open Go.RowKit Go.Shelf Go.Proofs.YtbcgddacmjliaaaDoorW.PrintWords Go.Proofs.YtbcgddacmjliaaaDoor.Mem Go.Proofs.YtbcgddacmjliaaaDoor.Own Go.Proofs.YtbcgddacmjliaaaDoor.Hw

/-- The first j chunks, with their checks. -/
def encAt (all : ByteArray) : Nat → Option ByteArray
  | 0 => some ⟨#[]⟩
  | j + 1 => (encAt all j).bind fun s => (ham_Encode.f (all.extract (8 * j) (8 * j + 8))).bind fun c => if s.size + c.1.size ≤ 140737488355328 then some (s ++ c.1) else none
theorem encAt_prev {all : ByteArray} {j : Nat} {r : ByteArray} (h : encAt all (j + 1) = some r) :
    ∃ s c d, encAt all j = some s ∧ ham_Encode.f (all.extract (8 * j) (8 * j + 8)) = some (c, d) ∧ s.size + c.size ≤ 140737488355328 ∧ r = s ++ c := by
  obtain ⟨s, hs, h⟩ := Option.bind_eq_some_iff.mp h
  obtain ⟨⟨c, d⟩, hc, h⟩ := Option.bind_eq_some_iff.mp h
  by_cases hl : s.size + c.size ≤ 140737488355328
  · rw [if_pos hl] at h
    exact ⟨s, c, d, hs, hc, hl, (Option.some.inj h).symm⟩
  · rw [if_neg hl] at h
    cases h
theorem encAt_le {all : ByteArray} (i : Nat) : ∀ (n : Nat) (r : ByteArray), encAt all n = some r → i ≤ n → ∃ s, encAt all i = some s
  | 0, r, h, hi => ⟨r, by rw [Nat.le_zero.1 hi]; exact h⟩
  | n + 1, r, h, hi => by
    rcases Nat.lt_or_ge n i with h1 | h1
    · have : i = n + 1 := by omega
      exact ⟨r, by rw [this]; exact h⟩
    · obtain ⟨s, _, _, hs, _⟩ := encAt_prev h
      exact encAt_le i n s hs h1
/-- Four noughts. -/
abbrev zero4 : ByteArray := ⟨#[0, 0, 0, 0]⟩
def frame_Encode.f (k l s e : Int) (a1 : ByteArray) : Option (ByteArray × Int) :=
  (frame_may.f (a1.size : Int)).bind fun m => if m = true then (tag_Encode.f k l s e).bind fun hd => if hd.2 = 0 then
    (if hd.1.size + a1.size ≤ 9223372036854775807 then (crc_Seal.f (hd.1 ++ a1)).bind fun sl => if sl.size ≤ 100000 ∧ (sl.size + 4) % 8 = 0 then (encAt (sl ++ zero4) ((sl.size + 4) / 8)).bind fun r => some (r, 0) else none else none)
    else some (⟨#[]⟩, hd.2) else some (⟨#[]⟩, 2)
theorem below_up {w w1 w2 : World} (h : Below w.heap.size w w1) (h2 : Below w1.heap.size w1 w2) : Below w.heap.size w w2 := below_step h h2
set_option maxHeartbeats 4000000 in
set_option maxRecDepth 100000 in
theorem frame_Encode.calls (k l s e : Int) (a1 : ByteArray) (r1 : ByteArray) (r2 : Int) (w : World) (h : frame_Encode.f k l s e a1 = some (r1, r2)) (HL : Aside0 (Laid w) := by first | exact HL | exact Hw.laid_at HL (by repeat (first | (with_reducible first | exact HB.out | apply below_alloc | apply pw_below_drewN | apply below_drew1) | exact HB.out | exact Below.refl _ _ | refine below_set ?_ (by apply Aside0.out; assumption)))) :
    Calls Tryd.prog 10 #[.agg #[.int .i64 k, .int .i64 l, .int .i64 s, .int .i64 e], .string a1] w fun ee w' => ee = .returned (.tuple #[.string r1, .int .i64 r2]) ∧ Below w.heap.size w w' := by
  unfold frame_Encode.f at h
  obtain ⟨m, hm, h⟩ := Option.bind_eq_some_iff.mp h
  have HM := Aside0.mk hm
  have HO := Aside0.mk ((Own.Own.new w).alloc (.cells #[.int .i64 k, .int .i64 l, .int .i64 s, .int .i64 e] 23))
  obtain ⟨BT, hBT⟩ : ∃ BT, BT = w.heap.size := ⟨_, rfl⟩
  rw [← hBT] at HO
  have HBT := Lib.hid hBT
  clear hBT hm
  cases m with
  | false =>
    simp only [Option.some.injEq, Prod.mk.injEq, Bool.false_eq_true, if_false] at h
    obtain ⟨rfl, rfl⟩ := h
    go_enter Tryd.func10, Tryd.ntmps10
    go_wp2_with fail
    refine (frame_may.calls _ _ _ HM.out).mono ?_
    rintro ee w1 ⟨rfl, hb⟩
    have HB := Aside0.mk (HO.out.move hb.below)
    clear hb
    go_wp2_with fail
    go_ret2
    exact ⟨rfl, HB.out.below⟩
  | true =>
    rw [if_pos rfl] at h
    obtain ⟨⟨hd, c⟩, ht, h⟩ := Option.bind_eq_some_iff.mp h
    have HT := Aside0.mk ht
    clear ht
    by_cases hc : c = 0
    · subst hc
      simp only [if_true] at h
      by_cases hs : hd.size + a1.size ≤ 9223372036854775807
      · rw [if_pos hs] at h
        obtain ⟨sl, hsl, h⟩ := Option.bind_eq_some_iff.mp h
        by_cases hn : sl.size ≤ 100000 ∧ (sl.size + 4) % 8 = 0
        · rw [if_pos hn] at h
          obtain ⟨r, hr, h⟩ := Option.bind_eq_some_iff.mp h
          simp only [Option.some.injEq, Prod.mk.injEq] at h
          obtain ⟨rfl, rfl⟩ := h
          obtain ⟨n, hn8⟩ : ∃ n, n = (sl.size + 4) / 8 := ⟨_, rfl⟩
          rw [← hn8] at hr
          obtain ⟨hn1, hn2⟩ := hn
          have hsz : sl.size + 4 = 8 * n := by omega
          have HN := Lib.hid hsz
          have HS := Aside0.mk hsl
          have HR := Aside0.mk hr
          have q1 : sl.size + 4 ≤ 9223372036854775807 := by omega
          have q2 : (9223372036854775807 < sl.size + 4) = False := eq_false (by omega)
          have q3 : (9223372036854775807 < hd.size + a1.size) = False := eq_false (by omega)
          have hn9 : n ≤ 20000 := by omega
          clear hsl hr hn1 hn2 hn8 hsz
          go_enter Tryd.func10, Tryd.ntmps10
          go_wp2_with fail
          rw [← HBT.out]
          refine (frame_may.calls _ _ _ HM.out).mono ?_
          rintro ee w1 ⟨rfl, hb⟩
          have HB := Aside0.mk (HO.out.move hb.below)
          clear hb
          obtain ⟨x0, x1, x2, x3, _, _, _, _⟩ := cells4 HB.out.pt
          go_wp2_with fail
          refine (tag_Encode.calls _ _ _ _ _ _ _ HT.out).mono ?_
          rintro ee w2 ⟨rfl, hb⟩
          have HB2 := Aside0.mk (HB.out.move hb).below
          clear hb x0 x1 x2 x3 HB HO
          have HB := HB2
          clear HB2
          go_wp2_with fail
          refine (crc_Seal.calls _ _ _ HS.out).mono ?_
          rintro ee w3 ⟨rfl, hb⟩
          have HB2 := Aside0.mk (below_up HB.out hb)
          clear hb HB
          have HB := HB2
          clear HB2
          have HBN := Aside0.mk (Bld.new (B := w.heap.size) (w := w3) HB.out.size)
          have hsa : (sl ++ zero4).size = 8 * n := by rw [ByteArray.size_append]; exact HN.out
          have hr2 := HR.out
          clear HR
          obtain ⟨al, hal⟩ : ∃ al, al = sl ++ zero4 := ⟨_, rfl⟩
          rw [← hal] at hsa hr2
          have HR := Aside0.mk hr2
          have HSA := Lib.hid hsa
          clear hsa hr2
          go_wp2_with fail
          change Code.wp _ _ _ _ (World.alloc _ _)
          simp only [← hal]
          clear hal
          go_loopw [10] (fun v10 wr => ∃ (i : Nat) (a : Int), i ≤ n ∧ a = 8 * (i : Int) ∧ ∃ x, v10 = .int .i64 a ∧ Aside0 (encAt al i = some x) ∧ Aside0 (Bld w.heap.size w3.heap.size x wr) ∧ Aside0 (Below w.heap.size w wr)) (fun v10 _ => 8 * n - (intOf v10).toNat)
          case atStart => exact ⟨0, 0, by omega, by omega, _, rfl, ⟨rfl⟩, HBN, ⟨HB.out.alloc HB.out.size _⟩⟩
          case round =>
            clear HBN HB
            obtain ⟨i, a, hi, ha, x, rfl, HX, HBN, HB⟩ := hrel
            by_cases hlt : i < n
            · obtain ⟨y, hy⟩ := encAt_le (i + 1) n r HR.out hlt
              obtain ⟨x', c, d, e1, e2, e3, e4⟩ := encAt_prev hy
              obtain rfl : x' = x := Option.some.inj (e1.symm.trans HX.out)
              subst e4
              have E2 := Aside0.mk e2
              have E3 := Lib.hid e3
              have HY := Aside0.mk hy
              have dl : decide (a < (al.size : Int)) = true := decide_eq_true (by have := HSA.out; omega)
              have dl2 : (a < (al.size : Int)) = True := eq_true (by have := HSA.out; omega)
              obtain ⟨b8, hb8⟩ : ∃ b8, b8 = a + 8 := ⟨_, rfl⟩
              have w8 : wrap64 (a + 8) = b8 := by rw [hb8]; unfold wrap64; have := HSA.out; omega
              have w9 : IntKind.i64.wrap (a + 8) = b8 := (Go.Proofs.YtbcgddacmjliaaaDoorW.PrintLast.i64_w _).trans w8
              have f1 : (0 ≤ a) = True := eq_true (by omega)
              have f2 : (a ≤ b8) = True := eq_true (by omega)
              have f3 : (b8 ≤ (al.size : Int)) = True := eq_true (by have := HSA.out; omega)
              have g1 : a.toNat = 8 * i := by omega
              have g2 : b8.toNat = 8 * i + 8 := by omega
              have HA := Lib.hid ha
              have HB8 := Lib.hid hb8
              clear ha hb8 hy e1 e2 e3
              go_wp2_with fail
              refine (ham_Encode.calls _ _ _ _ E2.out).mono ?_
              rintro ee w5 ⟨rfl, hb⟩
              have HBN2 := Aside0.mk (HBN.out.below hb)
              have HB2 := Aside0.mk (below_up HB.out hb)
              clear hb HBN HB
              go_wp2_with fail
              refine (bld_str HBN2.out E3.out).mono ?_
              rintro ee w6 ⟨rfl, hb, hw⟩
              have HBN := Aside0.mk hb
              have HB := Aside0.mk (HB2.out.trans hw)
              clear hb hw HBN2 HB2
              go_wp2_with fail
              go_roundw
              case rel => exact ⟨i + 1, b8, by omega, by have := HA.out; have := HB8.out; omega, _, rfl, HY, HBN, HB⟩
              case measure => have := HA.out; have := HB8.out; simp [intOf]; omega
            · obtain rfl : i = n := by omega
              obtain rfl : x = r := Option.some.inj (HX.out.symm.trans HR.out)
              have dl : decide (a < (al.size : Int)) = false := decide_eq_false (by have := HSA.out; omega)
              have dl2 : (a < (al.size : Int)) = False := eq_false (by have := HSA.out; omega)
              have HA := Lib.hid ha
              clear ha
              go_wp2_with fail
              refine (bld_string HBN.out).mono ?_
              rintro ee w6 ⟨rfl, hw⟩
              have HY := Aside0.mk (HB.out.trans hw)
              clear hw
              go_wp2_with fail
              go_ret2
              exact ⟨rfl, HY.out⟩
        · rw [if_neg hn] at h
          cases h
      · rw [if_neg hs] at h
        cases h
    · rw [if_neg hc] at h
      simp only [Option.some.injEq, Prod.mk.injEq] at h
      obtain ⟨rfl, rfl⟩ := h
      have hcb : (c == 0) = false := by simpa using hc
      have hcb2 : (c != 0) = true := by simpa using hc
      go_enter Tryd.func10, Tryd.ntmps10
      go_wp2_with fail
      rw [← HBT.out]
      refine (frame_may.calls _ _ _ HM.out).mono ?_
      rintro ee w1 ⟨rfl, hb⟩
      have HB := Aside0.mk (HO.out.move hb.below)
      clear hb
      obtain ⟨x0, x1, x2, x3, _, _, _, _⟩ := cells4 HB.out.pt
      go_wp2_with fail
      refine (tag_Encode.calls _ _ _ _ _ _ _ HT.out).mono ?_
      rintro ee w2 ⟨rfl, hb⟩
      have HB2 := Aside0.mk (HB.out.move hb)
      clear hb x0 x1 x2 x3 HB
      go_wp2_with fail
      go_ret2
      exact ⟨rfl, HB2.out.below⟩
end Go.Proofs.YtbcgddacmjliaaaDoor.PF
