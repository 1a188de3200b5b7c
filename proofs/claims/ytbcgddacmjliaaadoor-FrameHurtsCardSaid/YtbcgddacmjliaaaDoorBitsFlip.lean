/- Package bits, by hand: Flip: one bit turned. -/
import Derived.ArgAppend
import Derived.Below
import Derived.BigQuiet
import Derived.Carry
import Derived.Deep.AppendLies
import Derived.Deep.CutBlock
import Derived.Deep.DeepCutAuto
import Derived.Deep.Draws
import Derived.Deep.LoopGhost
import Derived.Deep.OwnRows
import Derived.Deep.QuietTactic
import Derived.Deep.RegionHeld3
import Derived.Deep.RegionWith
import Derived.KernelRfl
import Derived.Laws.BitsLemmas
import Derived.Laws.BytesArg
import Derived.Laws.IdiomCopy
import Derived.Laws.MakeOwn
import Derived.Laws.OwnMore
import Derived.Laws.Rows
import Derived.Laws.Slices
import Derived.Lib.AppendStr
import Derived.Lib.BufferMore
import Derived.Lib.ConvBytes
import Derived.Lib.Hide
import Derived.Lib.LazyBuf
import Derived.Maps.AppendAt
import Derived.OpenShut
import Derived.OrdersHeld
import Derived.Outline
import Derived.OwnWalk
import Derived.OwnWalkIn
import Derived.RegionTactic
import Derived.RowKit3
import Derived.StillTailTactics
import Derived.Tactics
import Derived.WalkKit
import Derived.WideLaws
import Derived.Test.YtbcgddacmjliaaaDoorProg
import Derived.Test.YtbcgddacmjliaaaDoorRefFlip
import Derived.IntWalk
import Derived.Test.YtbcgddacmjliaaaDoorMem
set_option linter.unusedVariables false
set_option linter.unusedSimpArgs false
namespace Go.Proofs.YtbcgddacmjliaaaDoor.PF
open Go.RowKit Go.Shelf Go.Proofs.YtbcgddacmjliaaaDoorW.PrintWords Go.Proofs.YtbcgddacmjliaaaDoor.Mem Go.Proofs.YtbcgddacmjliaaaDoor.Hw

theorem reads_one (W : World) (x : Int) : ReadsInt (W.alloc (.cells #[.int .u8 x] 5)) .u8 (some ⟨W.heap.size, 0, none⟩) 1 [x] := by
  refine ⟨rfl, by omega, fun _ => ⟨_, rfl, fun j hj => ?_⟩⟩
  obtain rfl : j = 0 := by omega
  rw [add0]
  exact blk_cell (blk_new W _) 0
theorem flip_str (s : ByteArray) (q : Nat) (hq : q < s.size) (x : Int) : (s.extract 0 q ++ strOfNums [x]) ++ s.extract (q + 1) s.size = strOfNums ((bytesOf s).set q x) := by
  apply ByteArray.ext
  apply Array.ext'
  have h1 : ((s.extract 0 q ++ strOfNums [x]) ++ s.extract (q + 1) s.size).data.toList = s.data.toList.take q ++ [UInt8.ofNat x.toNat] ++ s.data.toList.drop (q + 1) := by
    simp only [ByteArray.data_append, Array.toList_append, ByteArray.data_extract, Array.toList_extract]
    simp [strOfNums, List.extract, List.take_of_length_le, data_length]
  have h2 : (strOfNums ((bytesOf s).set q x)).data.toList = s.data.toList.set q (UInt8.ofNat x.toNat) := by
    simp [strOfNums, bytesOf, List.map_set]
    rw [List.map_congr_left (g := id) (fun a _ => by simp)]
    simp
  rw [h1, h2, List.set_eq_take_append_cons_drop, if_pos (by rw [data_length]; exact hq)]
  simp
set_option maxHeartbeats 4000000 in
set_option maxRecDepth 100000 in
theorem bitsFlip_yes (s : ByteArray) (k : Nat) (w : World) (hs : s.size ≤ 140737488355328) (hlt : k / 8 < s.size) :
    Calls Tryd.prog 40 #[.string s, .int .i64 k] w fun e w' => e = .returned (.tuple #[.string (flipAt s k), .int .i64 0]) ∧ Below w.heap.size w w' := by
  have hF := flipAt_is s k
  obtain ⟨p0, p1⟩ := pow8 ⟨k % 8, by omega⟩
  have hxr := u8_xor (bn s (k / 8)) (2 ^ (k % 8)) (bn_lt _ _) (by simp only at p1; omega)
  simp only at p0 p1
  obtain ⟨p, hp⟩ : ∃ p, p = 2 ^ (k % 8) := ⟨_, rfl⟩
  have hpw0 : ((2 : Int) ^ (k % 8)) % 256 = ((p : Nat) : Int) := by
    have : ((2 : Int) ^ (k % 8)) = ((2 ^ (k % 8) : Nat) : Int) := by simp
    rw [this, ← hp]; omega
  rw [← hp] at p0 p1 hxr hF
  have hb : ∀ (i : Nat) (h : i < s.size), ((s[i]'h).toNat : Int) = (bn s i : Nat) := fun i h => by
    have h1 := bt_at s (i : Int) (by rw [Int.toNat_natCast]; exact h)
    rw [← bn_bt, ← h1]; rfl
  obtain ⟨q, hq⟩ : ∃ q, q = k / 8 := ⟨_, rfl⟩
  have hfs := flip_str s (k / 8) hlt ((bn s (k / 8) ^^^ p : Nat) : Int)
  have kx : (k : Int) / 8 = (q : Nat) := by omega
  obtain ⟨c, hc⟩ : ∃ c, c = bn s (k / 8) := ⟨_, rfl⟩
  rw [← hc] at hxr hF hfs
  rw [← hq] at hc
  have hlq : q < s.size := hq ▸ hlt
  have hb2 := hb q hlq
  rw [← hc] at hb2
  simp only [← hq] at hF hfs
  clear hlt
  obtain ⟨x, hx⟩ : ∃ x, ((c ^^^ p : Nat) : Int) = x := ⟨_, rfl⟩
  rw [hx] at hxr hF hfs
  rw [← hF] at hfs
  have HFS := Lib.hid hfs
  have hc1 := fun (W : World) => string_of_reads (P := Tryd.prog) (dst := 9) (c := 1) Tryd.underlying46 Tryd.underlying5 Tryd.underlying9 (reads_one W x)
  have hc2 := fun (W : World) => string_of_reads (P := Tryd.prog) (dst := 9) (c := 1) (w := (W.alloc (.cells #[.int .u8 x] 5)).drew) Tryd.underlying46 Tryd.underlying5 Tryd.underlying9 (ReadsInt.below (reads_one W x) ⟨rfl, rfl, rfl, Nat.le_refl _, fun _ _ => rfl⟩)
  have y1 : (strOfNums [x]).size = 1 := rfl
  have y2 : (s.extract 0 q).size = q := by rw [ByteArray.size_extract]; omega
  have y3 : (s.extract (q + 1) s.size).size = s.size - (q + 1) := by rw [ByteArray.size_extract]; omega
  have z1 : (s.extract 0 q).size + (strOfNums [x]).size ≤ 9223372036854775807 := by rw [y1, y2]; omega
  have z2 : (s.extract 0 q ++ strOfNums [x]).size + (s.extract (q + 1) s.size).size ≤ 9223372036854775807 := by rw [ByteArray.size_append, y1, y2, y3]; omega
  clear y1 y2 y3
  have d1 : decide ((k : Int) < 0) = false := decide_eq_false (by omega)
  have d2 : decide ((s.size : Int) ≤ (q : Int)) = false := decide_eq_false (by omega)
  have j0 : (0 : Int) ≤ (q : Int) := by omega
  have j1 : (q : Int) < (s.size : Int) := by omega
  have j2 : (q : Int) ≤ (s.size : Int) := by omega
  have j3 : (q : Int) + 1 ≤ (s.size : Int) := by omega
  have hk0 : (k : Int) ≤ 9223372036854775807 := by omega
  have hpw := hpw0
  clear hpw0
  clear hF hfs hx hb
  clear hc hp hq
  go_enter Tryd.func40, Tryd.ntmps40
  go_wp2_with fail
  go_region
  all_goals go_wp2_with fail
  all_goals go_ret2
  all_goals exact ⟨by rw [← HFS.out]; rfl, below_drew1 ((Below.refl _ _).alloc (Nat.le_refl _) _)⟩
def bits_Flip.f (s : ByteArray) (k : Int) : Option (ByteArray × Int) := if s.size ≤ 140737488355328 ∧ k ≤ 9223372036854775807 then some (if k < 0 ∨ (s.size : Int) ≤ k / 8 then (⟨#[]⟩, 1) else (flipAt s k.toNat, 0)) else none
set_option maxHeartbeats 2000000 in
set_option maxRecDepth 100000 in
theorem bits_Flip.calls (s : ByteArray) (k : Int) (r1 : ByteArray) (r2 : Int) (w : World) (h : bits_Flip.f s k = some (r1, r2)) :
    Calls Tryd.prog 40 #[.string s, .int .i64 k] w fun e w' => e = .returned (.tuple #[.string r1, .int .i64 r2]) ∧ Below w.heap.size w w' := by
  unfold bits_Flip.f at h
  by_cases hs : s.size ≤ 140737488355328 ∧ k ≤ 9223372036854775807
  · rw [if_pos hs] at h
    obtain ⟨hs, hk63⟩ := hs
    by_cases hk : k < 0 ∨ (s.size : Int) ≤ k / 8
    · rw [if_pos hk] at h
      simp only [Option.some.injEq, Prod.mk.injEq] at h
      obtain ⟨rfl, rfl⟩ := h
      by_cases h0 : k < 0
      · have d1 : decide (k < 0) = true := decide_eq_true h0
        clear hk
        go_enter Tryd.func40, Tryd.ntmps40
        go_wp2_with fail
        go_ret2
        exact ⟨rfl, Below.refl _ _⟩
      · have d1 : decide (k < 0) = false := decide_eq_false h0
        have h1 : (s.size : Int) ≤ k / 8 := hk.resolve_left h0
        have h2 : 0 ≤ k := by omega
        have d2 : decide ((s.size : Int) ≤ k / 8) = true := decide_eq_true h1
        clear hk
        go_enter Tryd.func40, Tryd.ntmps40
        go_wp2_with fail
        go_ret2
        exact ⟨rfl, Below.refl _ _⟩
    · rw [if_neg hk] at h
      simp only [Option.some.injEq, Prod.mk.injEq] at h
      obtain ⟨rfl, rfl⟩ := h
      obtain ⟨n, rfl⟩ : ∃ n : Nat, k = n := ⟨k.toNat, by omega⟩
      rw [Int.toNat_natCast]
      exact bitsFlip_yes s n w hs (by omega)
  · rw [if_neg hs] at h; cases h
end Go.Proofs.YtbcgddacmjliaaaDoor.PF
