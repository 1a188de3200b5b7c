/- The law's proof: words, contracts of the functions that it reaches, plain lemmas. -/
import Derived.ArgAppend
import Derived.Below
import Derived.BigQuiet
import Derived.Carry
import Derived.Deep.AppendLies
import Derived.Deep.CutBlock
import Derived.Deep.DeepCutAuto
import Derived.Deep.Draws
import Derived.Deep.LoopGhost
import Derived.Deep.OwnRows
import Derived.Deep.QuietTactic
import Derived.Deep.RegionHeld3
import Derived.Deep.RegionWith
import Derived.KernelRfl
import Derived.Laws.BitsLemmas
import Derived.Laws.BytesArg
import Derived.Laws.IdiomCopy
import Derived.Laws.MakeOwn
import Derived.Laws.OwnMore
import Derived.Laws.Rows
import Derived.Laws.Slices
import Derived.Lib.AppendStr
import Derived.Lib.BufferMore
import Derived.Lib.ConvBytes
import Derived.Lib.Hide
import Derived.Lib.LazyBuf
import Derived.Maps.AppendAt
import Derived.OpenShut
import Derived.OrdersHeld
import Derived.Outline
import Derived.OwnWalk
import Derived.OwnWalkIn
import Derived.RegionTactic
import Derived.RowKit3
import Derived.StillTailTactics
import Derived.Tactics
import Derived.WalkKit
import Derived.WideLaws
import Derived.Test.YtbcgddacmjliaaaDoorProg
import Derived.Test.YtbcgddacmjliaaaDoorFd14
import Derived.IntWalk
import Derived.Test.YtbcgddacmjliaaaDoorFd10
import Derived.Test.YtbcgddacmjliaaaDoorFd7
import Derived.Test.YtbcgddacmjliaaaDoorFd5
import Derived.Test.YtbcgddacmjliaaaDoorFd15
import Derived.Test.YtbcgddacmjliaaaDoorFd0
import Derived.Test.YtbcgddacmjliaaaDoorFd8
import Derived.Test.YtbcgddacmjliaaaDoorFd16
section
/- The document's Flip, by hand. -/
set_option linter.unusedVariables false
set_option linter.unusedSimpArgs false
namespace Go.Proofs.YtbcgddacmjliaaaDoor.PF
open Go.RowKit Go.Shelf Go.Proofs.YtbcgddacmjliaaaDoorW.PrintWords Go.Proofs.YtbcgddacmjliaaaDoor.Hw

theorem power8 : ∀ m : Fin 8, deckleref01_Power.f 16 ((m.val : Nat) : Int) = some (((2 ^ m.val : Nat) : Int)) := by decide +kernel
theorem bit8 : ∀ (m : Fin 8) (b : Fin 256), deckleref01_Bit.f 16 ((b.val : Nat) : Int) ((m.val : Nat) : Int) = some (((b.val / 2 ^ m.val % 2 : Nat) : Int)) := by decide +kernel
theorem xor8 : ∀ (m : Fin 8) (b : Fin 256), b.val ^^^ 2 ^ m.val = if b.val / 2 ^ m.val % 2 = 1 then b.val - 2 ^ m.val else b.val + 2 ^ m.val := by decide +kernel
theorem le8 : ∀ (m : Fin 8) (b : Fin 256), (b.val / 2 ^ m.val % 2 = 1 → 2 ^ m.val ≤ b.val) ∧ (b.val / 2 ^ m.val % 2 ≠ 1 → b.val + 2 ^ m.val ≤ 255) := by decide +kernel
theorem pow8 : ∀ m : Fin 8, 1 ≤ 2 ^ m.val ∧ 2 ^ m.val ≤ 128 := by decide
theorem cell_bn (s : ByteArray) (j : Nat) (hj : j < s.size) : ((s.data.toList.getD j 0).toNat : Int) = ((bn s j : Nat) : Int) := by
  rw [← bn_bt, ← rd_bytesOf]
  unfold rd bytesOf
  rw [Int.toNat_natCast, List.getD_eq_getElem?_getD, List.getD_eq_getElem?_getD, List.getElem?_map, List.getElem?_eq_getElem (by rw [data_length]; exact hj)]
  rfl
theorem flipAt_is (s : ByteArray) (k : Nat) : flipAt s k = strOfNums ((bytesOf s).set (k / 8) (((bn s (k / 8) ^^^ 2 ^ (k % 8) : Nat) : Int))) := by
  unfold flipAt
  have e1 : (k : Int) / 8 = ((k / 8 : Nat) : Int) := by omega
  have hp := pow8 ⟨k % 8, by omega⟩
  simp only at hp
  have e2 : ((2 : Int) ^ (k % 8)) % 256 = ((2 ^ (k % 8) : Nat) : Int) := by
    have : ((2 : Int) ^ (k % 8)) = ((2 ^ (k % 8) : Nat) : Int) := by simp
    rw [this]; omega
  rw [e1, e2, bn_bt, u8_xor _ _ (bn_lt _ _) (by omega)]
set_option maxHeartbeats 4000000 in
set_option maxRecDepth 100000 in
theorem refFlip_yes (s : ByteArray) (k : Nat) (w : World) (hs : s.size ≤ 140737488355328) (hk : k / 8 < s.size) :
    Calls Tryd.prog 42 #[.string s, .int .i64 k] w fun e w' => e = .returned (.tuple #[.string (flipAt s k), .int .i64 0]) ∧ Below w.heap.size w w' := by
  have hF := flipAt_is s k
  have hcv := Lib.run_convert_string_bytes (P := Tryd.prog) w 9 46 5 s Tryd.underlying9 Tryd.underlying46 Tryd.underlying5
  have hm : k % 8 < 8 := by omega
  have hb := bn_lt s (k / 8)
  have hP := power8 ⟨k % 8, hm⟩
  have hB := bit8 ⟨k % 8, hm⟩ ⟨bn s (k / 8), hb⟩
  have hX := xor8 ⟨k % 8, hm⟩ ⟨bn s (k / 8), hb⟩
  have hL := le8 ⟨k % 8, hm⟩ ⟨bn s (k / 8), hb⟩
  have hp := pow8 ⟨k % 8, hm⟩
  have hcell := Lib.bytesWorld_cell w 5 s (k / 8) hk
  rw [cell_bn s (k / 8) hk] at hcell
  have hfr := bw_frozen w 5 s (k / 8) hk
  have hrd := bytes_reads w 5 s (by omega)
  simp only at hP hB hX hL hp
  obtain ⟨m, hme⟩ : ∃ m, m = k % 8 := ⟨_, rfl⟩
  obtain ⟨b, hbe⟩ : ∃ b, b = bn s (k / 8) := ⟨_, rfl⟩
  obtain ⟨q, hqe⟩ : ∃ q, q = k / 8 := ⟨_, rfl⟩
  have km : (k : Int) % 8 = (m : Nat) := by omega
  have kq : (k : Int) / 8 = (q : Nat) := by omega
  rw [← hme] at hP hB hX hL hp hF
  rw [← hqe] at hk hcell hfr hF hbe
  rw [← hqe] at hB hX hL
  rw [← hbe] at hB hX hL hcell hF
  obtain ⟨p, hpe⟩ : ∃ p, p = 2 ^ m := ⟨_, rfl⟩
  rw [← hpe] at hP hB hX hL hp hF
  obtain ⟨p0, p1⟩ := hp
  have HBW := Aside0.mk (bw_below w 5 s)
  have HF := Lib.hid hF
  have HP := Aside0.mk hP
  have HBB := Aside0.mk hB
  obtain ⟨C, hC⟩ : ∃ C, C = grownCap w s.size 0 5 := ⟨_, rfl⟩
  rw [← hC] at hcv
  have d1 : decide ((k : Int) < 0) = false := decide_eq_false (by omega)
  have d2 : decide ((s.size : Int) ≤ (q : Int)) = false := decide_eq_false (by omega)
  have j1 : (q : Int) < (s.size : Int) := by omega
  have hb255 : b < 256 := by rw [hbe, hqe]; exact bn_lt _ _
  clear hP hB hme hbe hqe hpe hF hC
  obtain ⟨w1, hW⟩ : ∃ w1, w1 = Lib.bytesWorld w 5 s := ⟨_, rfl⟩
  rw [← hW] at hcell hfr hrd hcv HBW
  have hbl : w.heap.size < w1.heap.size := World.block_lt_of_cell? w1 _ hcell
  clear hW
  have hp256 : (p : Int) % 256 = p := by omega
  have key : ∀ (x : Nat), (w1.cell? ⟨w.heap.size, q, none⟩ = some (.int .u8 b)) → ∀ w3, Below w1.heap.size w1 w3 → (w3.cell? ⟨w.heap.size, q, none⟩ = some (.int .u8 b)) ∧ w3.frozen? ⟨w.heap.size, q, none⟩ = false ∧
      (convert 46 9 (.slice (some ⟨w.heap.size, 0, none⟩) s.size C)).run Tryd.prog (w3.setCell ⟨w.heap.size, q, none⟩ (.int .u8 x)) = .ok (.string (strOfNums ((bytesOf s).set q x))) (w3.setCell ⟨w.heap.size, q, none⟩ (.int .u8 x)) := fun x _ w3 hb3 =>
    ⟨(hb3.cell (p := ⟨w.heap.size, q, none⟩) hbl).trans hcell, (hb3.frozen (p := ⟨w.heap.size, q, none⟩) hbl).trans hfr,
      string_of_reads (P := Tryd.prog) (dst := 9) (c := C) Tryd.underlying46 Tryd.underlying5 Tryd.underlying9 (reads_set (hrd.below hb3) q hk x)⟩
  have KEY := Aside0.mk key
  clear key hrd
  go_enter Tryd.func42, Tryd.ntmps42
  go_wp2_with fail
  try rw [km]
  refine (deckleref01_Power.calls 16 (m : Int) (p : Int) _ HP.out).mono ?_
  rintro e w2 ⟨rfl, hb2'⟩
  have hb2 : Below w1.heap.size w1 w2 := hb2'.below
  clear hb2'
  obtain ⟨k1, k2, _⟩ := KEY.out 0 hcell w2 hb2
  go_wp2_with fail
  try rw [km]
  refine (deckleref01_Bit.calls 16 (b : Int) (m : Int) _ _ HBB.out).mono ?_
  rintro e w3 ⟨rfl, hb3'⟩
  have hb3 : Below w2.heap.size w2 w3 := hb3'.below
  clear hb3'
  have hb4 := below_then hb2 hb2.size hb3
  have HB4 := Aside0.mk (below_then HBW.out HBW.out.size hb4)
  have HB4' := Aside0.mk hb4
  clear hb2 hb3 hb4 k1 k2 hfr
  by_cases hbit : b / p % 2 = 1
  · have hx : b ^^^ p = b - p := by rw [hX, if_pos hbit]
    have hle := hL.1 hbit
    obtain ⟨k1, k2, k3⟩ := KEY.out (b - p) hcell w3 HB4'.out
    rw [hx] at HF
    have hc : ((b - p : Nat) : Int) = (b : Int) - (p : Int) := by omega
    rw [hc] at k3 HF
    have d3 : (((b / p % 2 : Nat) : Int) == 1) = true := by rw [hbit]; rfl
    clear hX hx hL hbit hc hcell
    go_wp2_with fail
    go_ret2
    exact ⟨by rw [HF.out]; rfl, (below_then HB4.out (by have := HB4.out.size; omega) (Below.refl _ _)).setCell (p := ⟨w.heap.size, q, none⟩) (Nat.le_refl _) _⟩
  · have hx : b ^^^ p = b + p := by rw [hX, if_neg hbit]
    have hle := hL.2 hbit
    obtain ⟨k1, k2, k3⟩ := KEY.out (b + p) hcell w3 HB4'.out
    rw [hx] at HF
    have hc : ((b + p : Nat) : Int) = (b : Int) + (p : Int) := by omega
    rw [hc] at k3 HF
    have d3 : (((b / p % 2 : Nat) : Int) == 1) = false := by simp only [beq_eq_false_iff_ne]; omega
    clear hX hx hL hbit hc hcell
    go_wp2_with fail
    go_ret2
    exact ⟨by rw [HF.out]; rfl, (below_then HB4.out (by have := HB4.out.size; omega) (Below.refl _ _)).setCell (p := ⟨w.heap.size, q, none⟩) (Nat.le_refl _) _⟩
def deckleref01_Flip.f (s : ByteArray) (k : Int) : Option (ByteArray × Int) := if s.size ≤ 140737488355328 ∧ k ≤ 9223372036854775807 then some (if k < 0 ∨ (s.size : Int) ≤ k / 8 then (⟨#[]⟩, 1) else (flipAt s k.toNat, 0)) else none
set_option maxHeartbeats 2000000 in
set_option maxRecDepth 100000 in
theorem deckleref01_Flip.calls (s : ByteArray) (k : Int) (r1 : ByteArray) (r2 : Int) (w : World) (h : deckleref01_Flip.f s k = some (r1, r2)) :
    Calls Tryd.prog 42 #[.string s, .int .i64 k] w fun e w' => e = .returned (.tuple #[.string r1, .int .i64 r2]) ∧ Below w.heap.size w w' := by
  unfold deckleref01_Flip.f at h
  by_cases hs : s.size ≤ 140737488355328 ∧ k ≤ 9223372036854775807
  · rw [if_pos hs] at h
    obtain ⟨hs, hk63⟩ := hs
    by_cases hk : k < 0 ∨ (s.size : Int) ≤ k / 8
    · rw [if_pos hk] at h
      simp only [Option.some.injEq, Prod.mk.injEq] at h
      obtain ⟨rfl, rfl⟩ := h
      by_cases h0 : k < 0
      · have d1 : decide (k < 0) = true := decide_eq_true h0
        clear hk
        go_enter Tryd.func42, Tryd.ntmps42
        go_wp2_with fail
        go_ret2
        exact ⟨rfl, Below.refl _ _⟩
      · have d1 : decide (k < 0) = false := decide_eq_false h0
        have h1 : (s.size : Int) ≤ k / 8 := hk.resolve_left h0
        have h2 : 0 ≤ k := by omega
        have d2 : decide ((s.size : Int) ≤ k / 8) = true := decide_eq_true h1
        clear hk
        go_enter Tryd.func42, Tryd.ntmps42
        go_wp2_with fail
        go_ret2
        exact ⟨rfl, Below.refl _ _⟩
    · rw [if_neg hk] at h
      simp only [Option.some.injEq, Prod.mk.injEq] at h
      obtain ⟨rfl, rfl⟩ := h
      obtain ⟨n, rfl⟩ : ∃ n : Nat, k = n := ⟨k.toNat, by omega⟩
      rw [Int.toNat_natCast]
      exact refFlip_yes s n w hs (by omega)
  · rw [if_neg hs] at h; cases h
end Go.Proofs.YtbcgddacmjliaaaDoor.PF
end

section
/- Package bits, by hand: Flip: one bit turned. -/
set_option linter.unusedVariables false
set_option linter.unusedSimpArgs false
namespace Go.Proofs.YtbcgddacmjliaaaDoor.PF
open Go.RowKit Go.Shelf Go.Proofs.YtbcgddacmjliaaaDoorW.PrintWords Go.Proofs.YtbcgddacmjliaaaDoor.Mem Go.Proofs.YtbcgddacmjliaaaDoor.Hw

theorem reads_one (W : World) (x : Int) : ReadsInt (W.alloc (.cells #[.int .u8 x] 5)) .u8 (some ⟨W.heap.size, 0, none⟩) 1 [x] := by
  refine ⟨rfl, by omega, fun _ => ⟨_, rfl, fun j hj => ?_⟩⟩
  obtain rfl : j = 0 := by omega
  rw [add0]
  exact blk_cell (blk_new W _) 0
theorem flip_str (s : ByteArray) (q : Nat) (hq : q < s.size) (x : Int) : (s.extract 0 q ++ strOfNums [x]) ++ s.extract (q + 1) s.size = strOfNums ((bytesOf s).set q x) := by
  apply ByteArray.ext
  apply Array.ext'
  have h1 : ((s.extract 0 q ++ strOfNums [x]) ++ s.extract (q + 1) s.size).data.toList = s.data.toList.take q ++ [UInt8.ofNat x.toNat] ++ s.data.toList.drop (q + 1) := by
    simp only [ByteArray.data_append, Array.toList_append, ByteArray.data_extract, Array.toList_extract]
    simp [strOfNums, List.extract, List.take_of_length_le, data_length]
  have h2 : (strOfNums ((bytesOf s).set q x)).data.toList = s.data.toList.set q (UInt8.ofNat x.toNat) := by
    simp [strOfNums, bytesOf, List.map_set]
    rw [List.map_congr_left (g := id) (fun a _ => by simp)]
    simp
  rw [h1, h2, List.set_eq_take_append_cons_drop, if_pos (by rw [data_length]; exact hq)]
  simp
set_option maxHeartbeats 4000000 in
set_option maxRecDepth 100000 in
theorem bitsFlip_yes (s : ByteArray) (k : Nat) (w : World) (hs : s.size ≤ 140737488355328) (hlt : k / 8 < s.size) :
    Calls Tryd.prog 40 #[.string s, .int .i64 k] w fun e w' => e = .returned (.tuple #[.string (flipAt s k), .int .i64 0]) ∧ Below w.heap.size w w' := by
  have hF := flipAt_is s k
  obtain ⟨p0, p1⟩ := pow8 ⟨k % 8, by omega⟩
  have hxr := u8_xor (bn s (k / 8)) (2 ^ (k % 8)) (bn_lt _ _) (by simp only at p1; omega)
  simp only at p0 p1
  obtain ⟨p, hp⟩ : ∃ p, p = 2 ^ (k % 8) := ⟨_, rfl⟩
  have hpw0 : ((2 : Int) ^ (k % 8)) % 256 = ((p : Nat) : Int) := by
    have : ((2 : Int) ^ (k % 8)) = ((2 ^ (k % 8) : Nat) : Int) := by simp
    rw [this, ← hp]; omega
  rw [← hp] at p0 p1 hxr hF
  have hb : ∀ (i : Nat) (h : i < s.size), ((s[i]'h).toNat : Int) = (bn s i : Nat) := fun i h => by
    have h1 := bt_at s (i : Int) (by rw [Int.toNat_natCast]; exact h)
    rw [← bn_bt, ← h1]; rfl
  obtain ⟨q, hq⟩ : ∃ q, q = k / 8 := ⟨_, rfl⟩
  have hfs := flip_str s (k / 8) hlt ((bn s (k / 8) ^^^ p : Nat) : Int)
  have kx : (k : Int) / 8 = (q : Nat) := by omega
  obtain ⟨c, hc⟩ : ∃ c, c = bn s (k / 8) := ⟨_, rfl⟩
  rw [← hc] at hxr hF hfs
  rw [← hq] at hc
  have hlq : q < s.size := hq ▸ hlt
  have hb2 := hb q hlq
  rw [← hc] at hb2
  simp only [← hq] at hF hfs
  clear hlt
  obtain ⟨x, hx⟩ : ∃ x, ((c ^^^ p : Nat) : Int) = x := ⟨_, rfl⟩
  rw [hx] at hxr hF hfs
  rw [← hF] at hfs
  have HFS := Lib.hid hfs
  have hc1 := fun (W : World) => string_of_reads (P := Tryd.prog) (dst := 9) (c := 1) Tryd.underlying46 Tryd.underlying5 Tryd.underlying9 (reads_one W x)
  have hc2 := fun (W : World) => string_of_reads (P := Tryd.prog) (dst := 9) (c := 1) (w := (W.alloc (.cells #[.int .u8 x] 5)).drew) Tryd.underlying46 Tryd.underlying5 Tryd.underlying9 (ReadsInt.below (reads_one W x) ⟨rfl, rfl, rfl, Nat.le_refl _, fun _ _ => rfl⟩)
  have y1 : (strOfNums [x]).size = 1 := rfl
  have y2 : (s.extract 0 q).size = q := by rw [ByteArray.size_extract]; omega
  have y3 : (s.extract (q + 1) s.size).size = s.size - (q + 1) := by rw [ByteArray.size_extract]; omega
  have z1 : (s.extract 0 q).size + (strOfNums [x]).size ≤ 9223372036854775807 := by rw [y1, y2]; omega
  have z2 : (s.extract 0 q ++ strOfNums [x]).size + (s.extract (q + 1) s.size).size ≤ 9223372036854775807 := by rw [ByteArray.size_append, y1, y2, y3]; omega
  clear y1 y2 y3
  have d1 : decide ((k : Int) < 0) = false := decide_eq_false (by omega)
  have d2 : decide ((s.size : Int) ≤ (q : Int)) = false := decide_eq_false (by omega)
  have j0 : (0 : Int) ≤ (q : Int) := by omega
  have j1 : (q : Int) < (s.size : Int) := by omega
  have j2 : (q : Int) ≤ (s.size : Int) := by omega
  have j3 : (q : Int) + 1 ≤ (s.size : Int) := by omega
  have hk0 : (k : Int) ≤ 9223372036854775807 := by omega
  have hpw := hpw0
  clear hpw0
  clear hF hfs hx hb
  clear hc hp hq
  go_enter Tryd.func40, Tryd.ntmps40
  go_wp2_with fail
  go_region
  all_goals go_wp2_with fail
  all_goals go_ret2
  all_goals exact ⟨by rw [← HFS.out]; rfl, below_drew1 ((Below.refl _ _).alloc (Nat.le_refl _) _)⟩
def bits_Flip.f (s : ByteArray) (k : Int) : Option (ByteArray × Int) := if s.size ≤ 140737488355328 ∧ k ≤ 9223372036854775807 then some (if k < 0 ∨ (s.size : Int) ≤ k / 8 then (⟨#[]⟩, 1) else (flipAt s k.toNat, 0)) else none
set_option maxHeartbeats 2000000 in
set_option maxRecDepth 100000 in
theorem bits_Flip.calls (s : ByteArray) (k : Int) (r1 : ByteArray) (r2 : Int) (w : World) (h : bits_Flip.f s k = some (r1, r2)) :
    Calls Tryd.prog 40 #[.string s, .int .i64 k] w fun e w' => e = .returned (.tuple #[.string r1, .int .i64 r2]) ∧ Below w.heap.size w w' := by
  unfold bits_Flip.f at h
  by_cases hs : s.size ≤ 140737488355328 ∧ k ≤ 9223372036854775807
  · rw [if_pos hs] at h
    obtain ⟨hs, hk63⟩ := hs
    by_cases hk : k < 0 ∨ (s.size : Int) ≤ k / 8
    · rw [if_pos hk] at h
      simp only [Option.some.injEq, Prod.mk.injEq] at h
      obtain ⟨rfl, rfl⟩ := h
      by_cases h0 : k < 0
      · have d1 : decide (k < 0) = true := decide_eq_true h0
        clear hk
        go_enter Tryd.func40, Tryd.ntmps40
        go_wp2_with fail
        go_ret2
        exact ⟨rfl, Below.refl _ _⟩
      · have d1 : decide (k < 0) = false := decide_eq_false h0
        have h1 : (s.size : Int) ≤ k / 8 := hk.resolve_left h0
        have h2 : 0 ≤ k := by omega
        have d2 : decide ((s.size : Int) ≤ k / 8) = true := decide_eq_true h1
        clear hk
        go_enter Tryd.func40, Tryd.ntmps40
        go_wp2_with fail
        go_ret2
        exact ⟨rfl, Below.refl _ _⟩
    · rw [if_neg hk] at h
      simp only [Option.some.injEq, Prod.mk.injEq] at h
      obtain ⟨rfl, rfl⟩ := h
      obtain ⟨n, rfl⟩ : ∃ n : Nat, k = n := ⟨k.toNat, by omega⟩
      rw [Int.toNat_natCast]
      exact bitsFlip_yes s n w hs (by omega)
  · rw [if_neg hs] at h; cases h
end Go.Proofs.YtbcgddacmjliaaaDoor.PF
end

section
-- Written by a program (the kit's print.py, called by wip/bin/prseat.sh, mended by wip/bin/mend.py).
namespace Go.Proofs.YtbcgddacmjliaaaDoor.PF
open Go.RowKit Go.Proofs.YtbcgddacmjliaaaDoorW.PrintWords Go.Proofs.YtbcgddacmjliaaaDoorW.PrintLast Go.Proofs.YtbcgddacmjliaaaDoorW.PrintMore
attribute [local go_sem] max2_int min2_int max_two min_two max_three min_three max_four min_four   -- for this text's walks alone
set_option linter.unusedVariables false
set_option linter.unusedSimpArgs false

/-! ### frame_Hurt: function 16 -/
def frame_Hurt.f (a0 : ByteArray) (a1 : Int) (a2 : Int) : Option (ByteArray) := if (a0.size : Int) < 9 then (some a0) else ((frame_rest.f a1 72).bind fun t149 => ((frame_rest.f a2 71).bind fun t150 => ((bits_Flip.f a0 t149).bind fun bt151 => ((bits_Flip.f bt151.1 (Int.tmod (wrap64 ((wrap64 (t149 + 1)) + t150)) 72)).bind fun bt153 => (some bt153.1)))))
set_option maxHeartbeats 8000000 in
set_option maxRecDepth 100000 in
theorem frame_Hurt.calls (a0 : ByteArray) (a1 : Int) (a2 : Int) (r : ByteArray) (w : World) (h : frame_Hurt.f a0 a1 a2 = some r) :
    Calls Tryd.prog 16 #[.string a0, .int .i64 a1, .int .i64 a2] w fun e w' => e = .returned (.string r) ∧ Below w.heap.size w w' := by
  have HB := Aside0.mk (Below.refl w.heap.size w)
  have H : (if (a0.size : Int) < 9 then (some a0) else ((frame_rest.f a1 72).bind fun t149 => ((frame_rest.f a2 71).bind fun t150 => ((bits_Flip.f a0 t149).bind fun bt151 => ((bits_Flip.f bt151.1 (Int.tmod (wrap64 ((wrap64 (t149 + 1)) + t150)) 72)).bind fun bt153 => (some bt153.1)))))) = some r := h
  clear h
  by_cases c4 : (a0.size : Int) < 9
  · rw [if_pos c4] at H
    have c4b0 : decide ((a0.size : Int) < 9) = true := decide_eq_true c4
    have c4b1 : decide (a0.size < 9) = true := decide_eq_true (by omega)
    clear c4
    obtain rfl := Option.some.inj H
    go_enter Tryd.func16, Tryd.ntmps16
    go_wp2
    go_ret
    exact ⟨by first | rfl | (simp [errW_none, errW_some] <;> rfl) | (simp [*, errW_none, errW_some] <;> rfl), by repeat (first | (with_reducible first | exact HB.out | apply below_alloc | apply pw_below_drewN | apply below_drew1) | exact HB.out)⟩
  · rw [if_neg c4] at H
    have c4b0 : decide ((a0.size : Int) < 9) = false := decide_eq_false c4
    have c4b1 : decide (a0.size < 9) = false := decide_eq_false (by omega)
    clear c4
    replace H := Option.bind_eq_some_iff.mp H
    obtain ⟨t149, A50, H⟩ := H
    replace H : ((frame_rest.f a2 71).bind fun t150 => ((bits_Flip.f a0 t149).bind fun bt151 => ((bits_Flip.f bt151.1 (Int.tmod (wrap64 ((wrap64 (t149 + 1)) + t150)) 72)).bind fun bt153 => (some bt153.1)))) = some r := H
    have A5 := Aside0.mk A50
    clear A50
    replace H := Option.bind_eq_some_iff.mp H
    obtain ⟨t150, A60, H⟩ := H
    replace H : ((bits_Flip.f a0 t149).bind fun bt151 => ((bits_Flip.f bt151.1 (Int.tmod (wrap64 ((wrap64 (t149 + 1)) + t150)) 72)).bind fun bt153 => (some bt153.1))) = some r := H
    have A6 := Aside0.mk A60
    clear A60
    replace H := Option.bind_eq_some_iff.mp H
    obtain ⟨⟨t151, t152⟩, A70, H⟩ := H
    replace H : ((bits_Flip.f t151 (Int.tmod (wrap64 ((wrap64 (t149 + 1)) + t150)) 72)).bind fun bt153 => (some bt153.1)) = some r := H
    have A7 := Aside0.mk A70
    clear A70
    replace H := Option.bind_eq_some_iff.mp H
    obtain ⟨⟨t153, t154⟩, A80, H⟩ := H
    replace H : (some t153) = some r := H
    have A8 := Aside0.mk A80
    clear A80
    obtain rfl := Option.some.inj H
    go_enter Tryd.func16, Tryd.ntmps16
    go_wp2_with (first | ((with_reducible refine gate_callee (f := 39) rfl ?_); refine goesL_ (some 14) rfl rfl Tryd.func39 (by kernel_rfl) rfl #[.int .i64 a1, .int .i64 72] rfl (by (try simp only [List.map_toArray, List.map_cons, List.map_nil]); first | done | rfl | (simp only [List.length_drop, List.length_take]; rfl)) ?_; (with_reducible refine (frame_rest.calls a1 72 t149 _ A5.out).mono ?_); rintro e w' ⟨rfl, ⟨nd, rfl⟩⟩; refine ⟨_, rfl, ?_⟩) | ((with_reducible refine gate_callee (f := 39) rfl ?_); refine goesL_ (some 18) rfl rfl Tryd.func39 (by kernel_rfl) rfl #[.int .i64 a2, .int .i64 71] rfl (by (try simp only [List.map_toArray, List.map_cons, List.map_nil]); first | done | rfl | (simp only [List.length_drop, List.length_take]; rfl)) ?_; (with_reducible refine (frame_rest.calls a2 71 t150 _ A6.out).mono ?_); rintro e w' ⟨rfl, ⟨nd, rfl⟩⟩; refine ⟨_, rfl, ?_⟩) | ((with_reducible refine gate_callee (f := 40) rfl ?_); refine goesL_ (some 24) rfl rfl Tryd.func40 (by kernel_rfl) rfl #[.string a0, .int .i64 t149] rfl (by (try simp only [List.map_toArray, List.map_cons, List.map_nil]); first | done | rfl | (simp only [List.length_drop, List.length_take]; rfl)) ?_; (with_reducible refine (bits_Flip.calls a0 t149 t151 t152 _ A7.out).mono ?_); rintro e w9 ⟨rfl, hb⟩; refine ⟨_, rfl, ?_⟩; have n0_ := Aside0.mk (below_step (by repeat (first | (with_reducible first | exact HB.out | apply below_alloc | apply pw_below_drewN | apply below_drew1) | exact HB.out)) hb); clear HB; have HB := n0_; clear n0_; (try clear hb); (try clear hb2); (try clear hk); (try clear hi)) | ((with_reducible refine gate_callee (f := 40) rfl ?_); refine goesL_ (some 30) rfl rfl Tryd.func40 (by kernel_rfl) rfl #[.string t151, .int .i64 (Int.tmod (wrap64 ((wrap64 (t149 + 1)) + t150)) 72)] rfl (by (try simp only [List.map_toArray, List.map_cons, List.map_nil]); first | done | rfl | (simp only [List.length_drop, List.length_take]; rfl)) ?_; (with_reducible refine (bits_Flip.calls t151 (Int.tmod (wrap64 ((wrap64 (t149 + 1)) + t150)) 72) t153 t154 _ A8.out).mono ?_); rintro e w10 ⟨rfl, hb⟩; refine ⟨_, rfl, ?_⟩; have n0_ := Aside0.mk (below_step (by repeat (first | (with_reducible first | exact HB.out | apply below_alloc | apply pw_below_drewN | apply below_drew1) | exact HB.out)) hb); clear HB; have HB := n0_; clear n0_; (try clear hb); (try clear hb2); (try clear hk); (try clear hi)))
    go_ret
    exact ⟨by first | rfl | (simp [errW_none, errW_some] <;> rfl) | (simp [*, errW_none, errW_some] <;> rfl), by repeat (first | (with_reducible first | exact HB.out | apply below_alloc | apply pw_below_drewN | apply below_drew1) | exact HB.out)⟩

end Go.Proofs.YtbcgddacmjliaaaDoor.PF
end

section
-- Written by a program (the kit's print.py, called by wip/bin/prseat.sh, mended by wip/bin/mend.py).
namespace Go.Proofs.YtbcgddacmjliaaaDoor.PF
open Go.RowKit Go.Proofs.YtbcgddacmjliaaaDoorW.PrintWords Go.Proofs.YtbcgddacmjliaaaDoorW.PrintLast Go.Proofs.YtbcgddacmjliaaaDoorW.PrintMore
attribute [local go_sem] max2_int min2_int max_two min_two max_three min_three max_four min_four   -- for this text's walks alone
set_option linter.unusedVariables false
set_option linter.unusedSimpArgs false

/-! ### ham_Decode: function 32 -/
def ham_Decode.j0 : Nat → ByteArray → Int → Bool → Bool → Option (ByteArray × Int × Int)
  | 0, _, _, _, _ => none
  | k + 1, x2, x5, x8, x31 => if x31 = true then (some (x2, 2, 0)) else (if x8 = true then (if x5 > 71 then (some ((⟨#[]⟩ : ByteArray), 4, 0)) else ((ham_turned.f x2 x5).bind fun t125 => (some (t125, 3, 0)))) else (some ((⟨#[]⟩ : ByteArray), 4, 0)))
def ham_Decode.f (k : Nat) (a0 : ByteArray) : Option (ByteArray × Int × Int) := if (a0.size : Int) = 9 then (if 0 ≤ 8 then (if 8 ≤ (a0.size : Int) then ((ham_left.f (a0.extract 0 8)).bind fun bt122 => (if 8 < (a0.size : Int) then ((bits_OnesCount8.f (bt a0 8)).bind fun t124 => (if ((Int.tmod (wrap64 (bt122.2 + t124)) 2) = 1) then (ham_Decode.j0 k (a0.extract 0 8) (Go.bits .xor .u8 bt122.1 (Go.bits .and .u8 (bt a0 8) 127)) ((Int.tmod (wrap64 (bt122.2 + t124)) 2) == 1) false) else (ham_Decode.j0 k (a0.extract 0 8) (Go.bits .xor .u8 bt122.1 (Go.bits .and .u8 (bt a0 8) 127)) ((Int.tmod (wrap64 (bt122.2 + t124)) 2) == 1) ((Go.bits .xor .u8 bt122.1 (Go.bits .and .u8 (bt a0 8) 127)) == 0)))) else (none))) else (none)) else (none)) else (some ((⟨#[]⟩ : ByteArray), 0, 4))
theorem ham_Decode.mono_l : ∀ k, (∀ y0 y1 y2 y3, LeO (ham_Decode.j0 k y0 y1 y2 y3) (ham_Decode.j0 (k + 1) y0 y1 y2 y3))
  | 0 => fun _ _ _ _ r h => by simp [ham_Decode.j0] at h
  | k + 1 => by
    have ih0 := ham_Decode.mono_l k
    · intro y0 y1 y2 y3
      unfold ham_Decode.j0
      repeat' first
      | (with_reducible exact ih0 _ _ _ _)
      | (with_reducible exact LeO.refl _)
      | (with_reducible exact LeO.none _)
      | (with_reducible refine LeO.ite ?_ ?_)
      | (with_reducible refine LeO.bind ?_ (fun _ => ?_))
      | exact ih0 _ _ _ _
      | exact LeO.none _
      | refine LeO.ite ?_ ?_
      | refine LeO.bind ?_ (fun _ => ?_)
theorem ham_Decode.mono : ∀ a0 k, LeO (ham_Decode.f k a0) (ham_Decode.f (k + 1) a0) := by
  intro a0 k
  have ih0 := ham_Decode.mono_l k
  unfold ham_Decode.f
  repeat' first
      | (with_reducible exact ih0 _ _ _ _)
      | (with_reducible exact LeO.refl _)
      | (with_reducible exact LeO.none _)
      | (with_reducible refine LeO.ite ?_ ?_)
      | (with_reducible refine LeO.bind ?_ (fun _ => ?_))
      | exact ih0 _ _ _ _
      | exact LeO.none _
      | refine LeO.ite ?_ ?_
      | refine LeO.bind ?_ (fun _ => ?_)
set_option maxHeartbeats 8000000 in
set_option maxRecDepth 100000 in
theorem ham_Decode.calls (k : Nat) (a0 : ByteArray) (r1 : ByteArray) (r2 : Int) (r3 : Int) (w : World) (h : ham_Decode.f k a0 = some (r1, r2, r3)) (HL : Aside0 (Hw.Laid w) := by first | exact HL | exact Hw.laid_at HL (by repeat (first | (with_reducible first | exact HB.out | apply below_alloc | apply pw_below_drewN | apply below_drew1) | exact HB.out | exact Below.refl _ _ | refine below_set ?_ (by apply Aside0.out; assumption)))) :
    Calls Tryd.prog 32 #[.string a0] w fun e w' => e = .returned (.tuple #[.string r1, .int .i64 r2, .int .i64 r3]) ∧ Below w.heap.size w w' := by
  have HB := Aside0.mk (Below.refl w.heap.size w)
  have H : (if (a0.size : Int) = 9 then (if 0 ≤ 8 then (if 8 ≤ (a0.size : Int) then ((ham_left.f (a0.extract 0 8)).bind fun bt122 => (if 8 < (a0.size : Int) then ((bits_OnesCount8.f (bt a0 8)).bind fun t124 => (if ((Int.tmod (wrap64 (bt122.2 + t124)) 2) = 1) then (ham_Decode.j0 k (a0.extract 0 8) (Go.bits .xor .u8 bt122.1 (Go.bits .and .u8 (bt a0 8) 127)) ((Int.tmod (wrap64 (bt122.2 + t124)) 2) == 1) false) else (ham_Decode.j0 k (a0.extract 0 8) (Go.bits .xor .u8 bt122.1 (Go.bits .and .u8 (bt a0 8) 127)) ((Int.tmod (wrap64 (bt122.2 + t124)) 2) == 1) ((Go.bits .xor .u8 bt122.1 (Go.bits .and .u8 (bt a0 8) 127)) == 0)))) else (none))) else (none)) else (none)) else (some ((⟨#[]⟩ : ByteArray), 0, 4))) = some (r1, r2, r3) := h
  clear h
  by_cases c2 : (a0.size : Int) = 9
  · rw [if_pos c2] at H
    have c2b0 : ((a0.size : Int) == 9) = true := beq_iff_eq.mpr c2
    have c2b1 : ((a0.size : Int) != 9) = false := bne_eq_false_iff_eq.mpr c2
    clear c2
    by_cases c3 : 0 ≤ 8
    · rw [if_pos c3] at H
      have c3b0 := eq_true c3
      have c3b1 : decide (0 ≤ 8) = true := decide_eq_true c3
      clear c3
      by_cases c4 : 8 ≤ (a0.size : Int)
      · rw [if_pos c4] at H
        have c4b0 := eq_true c4
        have c4b1 : decide (8 ≤ (a0.size : Int)) = true := decide_eq_true c4
        clear c4
        replace H := Option.bind_eq_some_iff.mp H
        obtain ⟨⟨t122, t123⟩, A50, H⟩ := H
        replace H : (if 8 < (a0.size : Int) then ((bits_OnesCount8.f (bt a0 8)).bind fun t124 => (if ((Int.tmod (wrap64 (t123 + t124)) 2) = 1) then (ham_Decode.j0 k (a0.extract 0 8) (Go.bits .xor .u8 t122 (Go.bits .and .u8 (bt a0 8) 127)) ((Int.tmod (wrap64 (t123 + t124)) 2) == 1) false) else (ham_Decode.j0 k (a0.extract 0 8) (Go.bits .xor .u8 t122 (Go.bits .and .u8 (bt a0 8) 127)) ((Int.tmod (wrap64 (t123 + t124)) 2) == 1) ((Go.bits .xor .u8 t122 (Go.bits .and .u8 (bt a0 8) 127)) == 0)))) else (none)) = some (r1, r2, r3) := H
        have A5 := Aside0.mk A50
        clear A50
        by_cases c6 : 8 < (a0.size : Int)
        · rw [if_pos c6] at H
          have c6b0 : decide (8 < (a0.size : Int)) = true := decide_eq_true c6
          have c6b1 : decide (8 < a0.size) = true := decide_eq_true (by omega)
          clear c6
          replace H := Option.bind_eq_some_iff.mp H
          obtain ⟨t124, A80, H⟩ := H
          replace H : (if ((Int.tmod (wrap64 (t123 + t124)) 2) = 1) then (ham_Decode.j0 k (a0.extract 0 8) (Go.bits .xor .u8 t122 (Go.bits .and .u8 (bt a0 8) 127)) ((Int.tmod (wrap64 (t123 + t124)) 2) == 1) false) else (ham_Decode.j0 k (a0.extract 0 8) (Go.bits .xor .u8 t122 (Go.bits .and .u8 (bt a0 8) 127)) ((Int.tmod (wrap64 (t123 + t124)) 2) == 1) ((Go.bits .xor .u8 t122 (Go.bits .and .u8 (bt a0 8) 127)) == 0))) = some (r1, r2, r3) := H
          have A8 := Aside0.mk A80
          clear A80
          have HC9 := Aside0.mk H
          clear H
          go_enter Tryd.func32, Tryd.ntmps32
          go_upto_region 8 with (first | ((with_reducible refine gate_callee (f := 47) rfl ?_); refine goesL_ (some 16) rfl rfl Tryd.func47 (by kernel_rfl) rfl #[.string (a0.extract 0 8)] rfl (by (try simp only [List.map_toArray, List.map_cons, List.map_nil]); first | done | rfl | (simp only [List.length_drop, List.length_take]; rfl)) ?_; (with_reducible refine (ham_left.calls (a0.extract 0 8) t122 t123 _ A5.out).mono ?_); rintro e w10 ⟨rfl, hb⟩; refine ⟨_, rfl, ?_⟩; have n0_ := Aside0.mk (below_step (by repeat (first | (with_reducible first | exact HB.out | apply below_alloc | apply pw_below_drewN | apply below_drew1) | exact HB.out)) hb); clear HB; have HB := n0_; clear n0_; (try clear hb); (try clear hb2); (try clear hk); (try clear hi); have p7 : 0 ≤ (8 : Int) := (by omega); have q7 : 8 < a0.size := (by have : (8 : Int) < (a0.size : Int) := of_decide_eq_true (by first | (with_reducible assumption) | assumption); omega); have hx7 : ∀ h : 8 < a0.size, ((a0[8]'h).toNat : Int) = bt a0 8 := bt_at a0 8; clear p7; have qi7 : (8 < (a0.size : Int)) = True := eq_true (of_decide_eq_true (by first | (with_reducible assumption) | assumption)); replace q7 := eq_true q7) | ((with_reducible refine gate_callee (f := 48) rfl ?_); refine goesL_ (some 27) rfl rfl Tryd.func48 (by kernel_rfl) rfl #[.int .u8 (bt a0 8)] rfl (by (try simp only [List.map_toArray, List.map_cons, List.map_nil]); first | done | rfl | (simp only [List.length_drop, List.length_take]; rfl)) ?_; (with_reducible refine (bits_OnesCount8.calls (bt a0 8) t124 _ A8.out).mono ?_); rintro e w11 ⟨rfl, hb⟩; refine ⟨_, rfl, ?_⟩; have n0_ := Aside0.mk (below_step (by repeat (first | (with_reducible first | exact HB.out | apply below_alloc | apply pw_below_drewN | apply below_drew1) | exact HB.out)) hb); clear HB; have HB := n0_; clear n0_; (try clear hb); (try clear hb2); (try clear hk); (try clear hi)))
          (try simp only [Act.put, List.setIfInBounds_toArray, List.set_cons_zero, List.set_cons_succ])
          go_cut [8, 31] (fun v8 v31 wc => ∃ (kq : Nat) (x31_8 : Bool), v8 = .bool ((Int.tmod (wrap64 (t123 + t124)) 2) == 1) ∧ v31 = .bool x31_8 ∧ Aside0 (ham_Decode.j0 kq (a0.extract 0 8) (Go.bits .xor .u8 t122 (Go.bits .and .u8 (bt a0 8) 127)) ((Int.tmod (wrap64 (t123 + t124)) 2) == 1) x31_8 = some (r1, r2, r3)) ∧ Aside0 (kq ≤ k) ∧ Aside0 (Below w.heap.size w wc))
          case first =>
            have H := HC9.out
            clear HC9
            by_cases c12 : ((Int.tmod (wrap64 (t123 + t124)) 2) = 1)
            · rw [if_pos c12] at H
              have c12b0 : ((Int.tmod (wrap64 (t123 + t124)) 2) == 1) = true := beq_iff_eq.mpr c12
              have c12b1 : ((Int.tmod (wrap64 (t123 + t124)) 2) != 1) = false := bne_eq_false_iff_eq.mpr c12
              clear c12
              (first | rw [c12b0] | (simp only [i64_w, i32_w]; rw [c12b0]) | skip)
              have H' := Aside0.mk H
              clear H
              go_wp2
              go_meet
              case rel => exact ⟨_, (false), (by first | rfl | exact congrArg Value.bool c12b0.symm), (by first | rfl | (simp; done) | (simp [*]; done)), H', ⟨by first | omega | exact Nat.le_refl _⟩, ⟨by repeat (first | (with_reducible first | exact HB.out | apply below_alloc | apply pw_below_drewN | apply below_drew1) | exact HB.out)⟩⟩
            · rw [if_neg c12] at H
              have c12b0 : ((Int.tmod (wrap64 (t123 + t124)) 2) == 1) = false := beq_eq_false_iff_ne.mpr c12
              have c12b1 : ((Int.tmod (wrap64 (t123 + t124)) 2) != 1) = true := bne_iff_ne.mpr c12
              (first | rw [c12b0] | (simp only [i64_w, i32_w]; rw [c12b0]) | skip)
              have H' := Aside0.mk H
              clear H
              go_wp2
              go_meet
              case rel => exact ⟨_, (((Go.bits .xor .u8 t122 (Go.bits .and .u8 (bt a0 8) 127)) == 0)), (by first | rfl | exact congrArg Value.bool c12b0.symm), (by first | rfl | (simp; done) | (simp [*]; done)), H', ⟨by first | omega | exact Nat.le_refl _⟩, ⟨by repeat (first | (with_reducible first | exact HB.out | apply below_alloc | apply pw_below_drewN | apply below_drew1) | exact HB.out)⟩⟩
          case rest =>
            clear HC9
            try clear c1
            try clear c2
            try clear c2b0
            try clear c2b1
            try clear p2
            try clear c3
            try clear c3b0
            try clear c3b1
            try clear c4
            try clear c4b0
            try clear c4b1
            try clear c6
            try clear c6b0
            try clear c6b1
            try clear p6
            try clear p7
            try clear q7
            try clear hx7
            try clear qi7
            try clear c12
            try clear c12b0
            try clear c12b1
            try clear p7
            try clear q7
            obtain ⟨kq, x31_8, rfl, rfl, HA, HJ8, HB⟩ := hcut
            cases kq with
            | zero => exact absurd HA.out (by simp [ham_Decode.j0])
            | succ kj8 =>
              have H := HA.out
              clear HA
              simp only [ham_Decode.j0] at H
              by_cases c13 : x31_8 = true
              · subst c13
                have H1 : (some ((a0.extract 0 8), 2, 0)) = some (r1, r2, r3) := by rw [if_pos rfl] at H; exact H
                clear H
                have H := H1
                clear H1
                simp only [Option.some.injEq, Prod.mk.injEq] at H
                obtain ⟨rfl, rfl, rfl⟩ := H
                go_wp2
                go_ret3
                exact ⟨by first | rfl | (simp [errW_none, errW_some] <;> rfl) | (simp [*, errW_none, errW_some] <;> rfl), by repeat (first | (with_reducible first | exact HB.out | apply below_alloc | apply pw_below_drewN | apply below_drew1) | exact HB.out)⟩
              · replace c13 := Bool.eq_false_iff.mpr c13
                subst c13
                have H1 : (if ((Int.tmod (wrap64 (t123 + t124)) 2) == 1) = true then (if (Go.bits .xor .u8 t122 (Go.bits .and .u8 (bt a0 8) 127)) > 71 then (some ((⟨#[]⟩ : ByteArray), 4, 0)) else ((ham_turned.f (a0.extract 0 8) (Go.bits .xor .u8 t122 (Go.bits .and .u8 (bt a0 8) 127))).bind fun t125 => (some (t125, 3, 0)))) else (some ((⟨#[]⟩ : ByteArray), 4, 0))) = some (r1, r2, r3) := by rw [if_neg (show ¬ (false = true) by decide)] at H; exact H
                clear H
                have H := H1
                clear H1
                by_cases c14 : ((Int.tmod (wrap64 (t123 + t124)) 2) == 1) = true
                · rw [if_pos c14] at H
                  have c14b0 : ((Int.tmod (wrap64 (t123 + t124)) 2) == 1) = true := c14
                  (try (have c14b1 : decide ((Int.tmod (wrap64 (t123 + t124)) 2) = 1) = true := by simpa using c14))
                  (try (have c14b2 : ((Int.tmod (wrap64 (t123 + t124)) 2) == 1) = true := by simpa using c14))
                  clear c14
                  by_cases c15 : (Go.bits .xor .u8 t122 (Go.bits .and .u8 (bt a0 8) 127)) > 71
                  · rw [if_pos c15] at H
                    have c15b0 : decide (71 < (Go.bits .xor .u8 t122 (Go.bits .and .u8 (bt a0 8) 127))) = true := decide_eq_true c15
                    clear c15
                    simp only [Option.some.injEq, Prod.mk.injEq] at H
                    obtain ⟨rfl, rfl, rfl⟩ := H
                    go_wp2
                    go_ret3
                    exact ⟨by first | rfl | (simp [errW_none, errW_some] <;> rfl) | (simp [*, errW_none, errW_some] <;> rfl), by repeat (first | (with_reducible first | exact HB.out | apply below_alloc | apply pw_below_drewN | apply below_drew1) | exact HB.out)⟩
                  · rw [if_neg c15] at H
                    have c15b0 : decide (71 < (Go.bits .xor .u8 t122 (Go.bits .and .u8 (bt a0 8) 127))) = false := decide_eq_false c15
                    clear c15
                    replace H := Option.bind_eq_some_iff.mp H
                    obtain ⟨t125, A160, H⟩ := H
                    replace H : (some (t125, 3, 0)) = some (r1, r2, r3) := H
                    have A16 := Aside0.mk A160
                    clear A160
                    simp only [Option.some.injEq, Prod.mk.injEq] at H
                    obtain ⟨rfl, rfl, rfl⟩ := H
                    go_wp2_with (first | ((with_reducible refine gate_callee (f := 59) rfl ?_); refine goesL_ (some 48) rfl rfl Tryd.func59 (by kernel_rfl) rfl #[.string (a0.extract 0 8), .int .u8 (Go.bits .xor .u8 t122 (Go.bits .and .u8 (bt a0 8) 127))] rfl (by (try simp only [List.map_toArray, List.map_cons, List.map_nil]); first | done | rfl | (simp only [List.length_drop, List.length_take]; rfl)) ?_; (with_reducible refine (ham_turned.calls (a0.extract 0 8) (Go.bits .xor .u8 t122 (Go.bits .and .u8 (bt a0 8) 127)) t125 _ A16.out).mono ?_); rintro e w17 ⟨rfl, hb⟩; refine ⟨_, rfl, ?_⟩; have n0_ := Aside0.mk (below_step (by repeat (first | (with_reducible first | exact HB.out | apply below_alloc | apply pw_below_drewN | apply below_drew1) | exact HB.out)) hb); clear HB; have HB := n0_; clear n0_; (try clear hb); (try clear hb2); (try clear hk); (try clear hi)))
                    go_ret3
                    exact ⟨by first | rfl | (simp [errW_none, errW_some] <;> rfl) | (simp [*, errW_none, errW_some] <;> rfl), by repeat (first | (with_reducible first | exact HB.out | apply below_alloc | apply pw_below_drewN | apply below_drew1) | exact HB.out)⟩
                · rw [if_neg c14] at H
                  have c14b0 : ((Int.tmod (wrap64 (t123 + t124)) 2) == 1) = false := by simpa using c14
                  (try (have c14b1 : decide ((Int.tmod (wrap64 (t123 + t124)) 2) = 1) = false := by simpa using c14))
                  (try (have c14b2 : ((Int.tmod (wrap64 (t123 + t124)) 2) == 1) = false := by simpa using c14))
                  (try (have c14b3 : ¬ ((Int.tmod (wrap64 (t123 + t124)) 2) = 1) := by simpa using c14))
                  clear c14
                  simp only [Option.some.injEq, Prod.mk.injEq] at H
                  obtain ⟨rfl, rfl, rfl⟩ := H
                  go_wp2
                  go_ret3
                  exact ⟨by first | rfl | (simp [errW_none, errW_some] <;> rfl) | (simp [*, errW_none, errW_some] <;> rfl), by repeat (first | (with_reducible first | exact HB.out | apply below_alloc | apply pw_below_drewN | apply below_drew1) | exact HB.out)⟩
        · rw [if_neg c6] at H
          exact absurd H (by simp)
      · rw [if_neg c4] at H
        exact absurd H (by simp)
    · rw [if_neg c3] at H
      exact absurd H (by simp)
  · rw [if_neg c2] at H
    have c2b0 : ((a0.size : Int) == 9) = false := beq_eq_false_iff_ne.mpr c2
    have c2b1 : ((a0.size : Int) != 9) = true := bne_iff_ne.mpr c2
    simp only [Option.some.injEq, Prod.mk.injEq] at H
    obtain ⟨rfl, rfl, rfl⟩ := H
    go_enter Tryd.func32, Tryd.ntmps32
    go_wp2
    go_ret3
    exact ⟨by first | rfl | (simp [errW_none, errW_some] <;> rfl) | (simp [*, errW_none, errW_some] <;> rfl), by repeat (first | (with_reducible first | exact HB.out | apply below_alloc | apply pw_below_drewN | apply below_drew1) | exact HB.out)⟩

end Go.Proofs.YtbcgddacmjliaaaDoor.PF
end

section
-- Written by a program (the kit's print.py, called by wip/bin/prseat.sh, mended by wip/bin/mend.py).
namespace Go.Proofs.YtbcgddacmjliaaaDoor.PF
open Go.RowKit Go.Proofs.YtbcgddacmjliaaaDoorW.PrintWords Go.Proofs.YtbcgddacmjliaaaDoorW.PrintLast Go.Proofs.YtbcgddacmjliaaaDoorW.PrintMore
attribute [local go_sem] max2_int min2_int max_two min_two max_three min_three max_four min_four   -- for this text's walks alone
set_option linter.unusedVariables false
set_option linter.unusedSimpArgs false

/-! ### deckleref03_Decode: function 35 -/
def deckleref03_Decode.l0 : Nat → ByteArray → Int → List Int → Int → Option (ByteArray × Int × Int)
  | 0, _, _, _, _ => none
  | k + 1, x0, x6, x7, x8 => if x8 < 64 then (if 0 ≤ x8 then (if x8 < (x7.length : Int) then (if (rd x7 x8) = x6 then ((deckleref01_Flip.f x0 x8).bind fun bt312 => (if 0 ≤ 8 then (if 8 ≤ (bt312.1.size : Int) then (some (bt312.1.extract 0 8, 3, 0)) else (none)) else (none))) else (deckleref03_Decode.l0 k x0 x6 x7 (wrap64 (x8 + 1)))) else (none)) else (none)) else (if 0 ≤ 8 then (if 8 ≤ (x0.size : Int) then (some (x0.extract 0 8, 3, 0)) else (none)) else (none))
def deckleref03_Decode.f (k : Nat) (a0 : ByteArray) : Option (ByteArray × Int × Int) := if (a0.size : Int) = 9 then ((deckleref03_Bits.f k a0).bind fun t304 => ((deckleref03_Left.f k t304).bind fun t307 => (if ((t304.length : Int) % 2) = 0 then (if t307 = 0 then (if 0 ≤ 8 then (if 8 ≤ (a0.size : Int) then (some (a0.extract 0 8, 2, 0)) else (none)) else (none)) else (some ((⟨#[]⟩ : ByteArray), 4, 0))) else (if t307 > 71 then (some ((⟨#[]⟩ : ByteArray), 4, 0)) else ((deckleref03_Places.f k).bind fun t308 => (deckleref03_Decode.l0 k a0 t307 t308 0)))))) else (some ((⟨#[]⟩ : ByteArray), 0, 4))
theorem deckleref03_Decode.mono_l : ∀ k, (∀ y0 y1 y2 y3, LeO (deckleref03_Decode.l0 k y0 y1 y2 y3) (deckleref03_Decode.l0 (k + 1) y0 y1 y2 y3))
  | 0 => fun _ _ _ _ r h => by simp [deckleref03_Decode.l0] at h
  | k + 1 => by
    have ih0 := deckleref03_Decode.mono_l k
    · intro y0 y1 y2 y3
      unfold deckleref03_Decode.l0
      repeat' first
      | (with_reducible exact ih0 _ _ _ _)
      | (with_reducible exact deckleref03_Bits.mono _ _)
      | (with_reducible exact deckleref03_Left.mono _ _)
      | (with_reducible exact deckleref03_Places.mono _)
      | (with_reducible exact LeO.refl _)
      | (with_reducible exact LeO.none _)
      | (with_reducible refine LeO.ite ?_ ?_)
      | (with_reducible refine LeO.bind ?_ (fun _ => ?_))
      | exact ih0 _ _ _ _
      | exact deckleref03_Bits.mono _ _
      | exact deckleref03_Left.mono _ _
      | exact deckleref03_Places.mono _
      | exact LeO.none _
      | refine LeO.ite ?_ ?_
      | refine LeO.bind ?_ (fun _ => ?_)
theorem deckleref03_Decode.mono : ∀ a0 k, LeO (deckleref03_Decode.f k a0) (deckleref03_Decode.f (k + 1) a0) := by
  intro a0 k
  have ih0 := deckleref03_Decode.mono_l k
  unfold deckleref03_Decode.f
  repeat' first
      | (with_reducible exact ih0 _ _ _ _)
      | (with_reducible exact deckleref03_Bits.mono _ _)
      | (with_reducible exact deckleref03_Left.mono _ _)
      | (with_reducible exact deckleref03_Places.mono _)
      | (with_reducible exact LeO.refl _)
      | (with_reducible exact LeO.none _)
      | (with_reducible refine LeO.ite ?_ ?_)
      | (with_reducible refine LeO.bind ?_ (fun _ => ?_))
      | exact ih0 _ _ _ _
      | exact deckleref03_Bits.mono _ _
      | exact deckleref03_Left.mono _ _
      | exact deckleref03_Places.mono _
      | exact LeO.none _
      | refine LeO.ite ?_ ?_
      | refine LeO.bind ?_ (fun _ => ?_)
set_option maxHeartbeats 8000000 in
set_option maxRecDepth 100000 in
theorem deckleref03_Decode.calls (k : Nat) (a0 : ByteArray) (r1 : ByteArray) (r2 : Int) (r3 : Int) (w : World) (h : deckleref03_Decode.f k a0 = some (r1, r2, r3)) :
    Calls Tryd.prog 35 #[.string a0] w fun e w' => e = .returned (.tuple #[.string r1, .int .i64 r2, .int .i64 r3]) ∧ Below w.heap.size w w' := by
  have HB := Aside0.mk (Below.refl w.heap.size w)
  have H : (if (a0.size : Int) = 9 then ((deckleref03_Bits.f k a0).bind fun t304 => ((deckleref03_Left.f k t304).bind fun t307 => (if ((t304.length : Int) % 2) = 0 then (if t307 = 0 then (if 0 ≤ 8 then (if 8 ≤ (a0.size : Int) then (some (a0.extract 0 8, 2, 0)) else (none)) else (none)) else (some ((⟨#[]⟩ : ByteArray), 4, 0))) else (if t307 > 71 then (some ((⟨#[]⟩ : ByteArray), 4, 0)) else ((deckleref03_Places.f k).bind fun t308 => (deckleref03_Decode.l0 k a0 t307 t308 0)))))) else (some ((⟨#[]⟩ : ByteArray), 0, 4))) = some (r1, r2, r3) := h
  clear h
  by_cases c2 : (a0.size : Int) = 9
  · rw [if_pos c2] at H
    have c2b0 : ((a0.size : Int) == 9) = true := beq_iff_eq.mpr c2
    have c2b1 : ((a0.size : Int) != 9) = false := bne_eq_false_iff_eq.mpr c2
    clear c2
    replace H := Option.bind_eq_some_iff.mp H
    obtain ⟨t304, A30, H⟩ := H
    replace H : ((deckleref03_Left.f k t304).bind fun t307 => (if ((t304.length : Int) % 2) = 0 then (if t307 = 0 then (if 0 ≤ 8 then (if 8 ≤ (a0.size : Int) then (some (a0.extract 0 8, 2, 0)) else (none)) else (none)) else (some ((⟨#[]⟩ : ByteArray), 4, 0))) else (if t307 > 71 then (some ((⟨#[]⟩ : ByteArray), 4, 0)) else ((deckleref03_Places.f k).bind fun t308 => (deckleref03_Decode.l0 k a0 t307 t308 0))))) = some (r1, r2, r3) := H
    have A3 := Aside0.mk A30
    clear A30
    replace H := Option.bind_eq_some_iff.mp H
    obtain ⟨t307, A40, H⟩ := H
    replace H : (if ((t304.length : Int) % 2) = 0 then (if t307 = 0 then (if 0 ≤ 8 then (if 8 ≤ (a0.size : Int) then (some (a0.extract 0 8, 2, 0)) else (none)) else (none)) else (some ((⟨#[]⟩ : ByteArray), 4, 0))) else (if t307 > 71 then (some ((⟨#[]⟩ : ByteArray), 4, 0)) else ((deckleref03_Places.f k).bind fun t308 => (deckleref03_Decode.l0 k a0 t307 t308 0)))) = some (r1, r2, r3) := H
    have A4 := Aside0.mk A40
    clear A40
    by_cases c5 : ((t304.length : Int) % 2) = 0
    · rw [if_pos c5] at H
      have c5b0 : (((t304.length : Int) % 2) == 0) = true := beq_iff_eq.mpr c5
      have c5b1 : (((t304.length : Int) % 2) != 0) = false := bne_eq_false_iff_eq.mpr c5
      clear c5
      by_cases c6 : t307 = 0
      · rw [if_pos c6] at H
        have c6b0 : (t307 == 0) = true := beq_iff_eq.mpr c6
        have c6b1 : (t307 != 0) = false := bne_eq_false_iff_eq.mpr c6
        clear c6
        by_cases c7 : 0 ≤ 8
        · rw [if_pos c7] at H
          have c7b0 := eq_true c7
          have c7b1 : decide (0 ≤ 8) = true := decide_eq_true c7
          clear c7
          by_cases c8 : 8 ≤ (a0.size : Int)
          · rw [if_pos c8] at H
            have c8b0 := eq_true c8
            have c8b1 : decide (8 ≤ (a0.size : Int)) = true := decide_eq_true c8
            clear c8
            simp only [Option.some.injEq, Prod.mk.injEq] at H
            obtain ⟨rfl, rfl, rfl⟩ := H
            go_enter Tryd.func35, Tryd.ntmps35
            go_wp2_with (first | ((with_reducible refine gate_callee (f := 54) rfl ?_); refine goesL_ (some 15) rfl rfl Tryd.func54 (by kernel_rfl) rfl #[.string a0] rfl (by (try simp only [List.map_toArray, List.map_cons, List.map_nil]); first | done | rfl | (simp only [List.length_drop, List.length_take]; rfl)) ?_; (with_reducible refine (deckleref03_Bits.calls k a0 t304 _ A3.out).mono ?_); rintro e w9 ⟨v305, rfl, ho0, hb⟩; refine ⟨_, rfl, ?_⟩; have n0_ := Aside0.mk (Kd.R_lower ho0 (below_size (by repeat (first | (with_reducible first | exact HB.out | apply below_alloc | apply pw_below_drewN | apply below_drew1) | exact HB.out)))); have n1_ := Aside0.mk (below_step (by repeat (first | (with_reducible first | exact HB.out | apply below_alloc | apply pw_below_drewN | apply below_drew1) | exact HB.out)) hb); clear HB; have HO306 := n0_; have HB := n1_; clear n0_ n1_; (try clear hb); (try clear hb2); (try clear hk); (try clear hi); (try clear ho0); obtain ⟨Ao10, co10, eo10⟩ := Kd.R_slice HO306.out; subst eo10) | ((with_reducible refine gate_callee (f := 55) rfl ?_); refine goesL_ (some 17) rfl rfl Tryd.func55 (by kernel_rfl) rfl #[.slice Ao10 t304.length co10] rfl (by (try simp only [List.map_toArray, List.map_cons, List.map_nil]); first | done | rfl | (simp only [List.length_drop, List.length_take]; rfl)) ?_; (with_reducible refine (deckleref03_Left.calls k _ _ t304 t307 _ ?side1 ?side2 A4.out).mono ?_); (case side1 => repeat (first | exact (Kd.R_reads' HO306.out).2.2 | (with_reducible refine Kd.C_alloc ?_ _) | (with_reducible refine Kd.C_drewN ?_ _) | (with_reducible refine Kd.C_drew ?_))); (case side2 => exact (Kd.R_reads' HO306.out).2.1); rintro e w11 ⟨rfl, hb⟩; refine ⟨_, rfl, ?_⟩; have n0_ := Aside0.mk (Kd.R_below (by (with_reducible repeat (first | apply Kd.R_alloc | apply Kd.R_drewN | apply Kd.R_drew)); exact HO306.out) hb); have n1_ := Aside0.mk (below_step (by repeat (first | (with_reducible first | exact HB.out | apply below_alloc | apply pw_below_drewN | apply below_drew1) | exact HB.out)) hb); clear HO306; clear HB; have HO306 := n0_; have HB := n1_; clear n0_ n1_; (try clear hb); (try clear hb2); (try clear hk); (try clear hi)))
            go_ret3
            exact ⟨by first | rfl | (simp [errW_none, errW_some] <;> rfl) | (simp [*, errW_none, errW_some] <;> rfl), by repeat (first | (with_reducible first | exact HB.out | apply below_alloc | apply pw_below_drewN | apply below_drew1) | exact HB.out)⟩
          · rw [if_neg c8] at H
            exact absurd H (by simp)
        · rw [if_neg c7] at H
          exact absurd H (by simp)
      · rw [if_neg c6] at H
        have c6b0 : (t307 == 0) = false := beq_eq_false_iff_ne.mpr c6
        have c6b1 : (t307 != 0) = true := bne_iff_ne.mpr c6
        simp only [Option.some.injEq, Prod.mk.injEq] at H
        obtain ⟨rfl, rfl, rfl⟩ := H
        go_enter Tryd.func35, Tryd.ntmps35
        go_wp2_with (first | ((with_reducible refine gate_callee (f := 54) rfl ?_); refine goesL_ (some 15) rfl rfl Tryd.func54 (by kernel_rfl) rfl #[.string a0] rfl (by (try simp only [List.map_toArray, List.map_cons, List.map_nil]); first | done | rfl | (simp only [List.length_drop, List.length_take]; rfl)) ?_; (with_reducible refine (deckleref03_Bits.calls k a0 t304 _ A3.out).mono ?_); rintro e w12 ⟨v305, rfl, ho0, hb⟩; refine ⟨_, rfl, ?_⟩; have n0_ := Aside0.mk (Kd.R_lower ho0 (below_size (by repeat (first | (with_reducible first | exact HB.out | apply below_alloc | apply pw_below_drewN | apply below_drew1) | exact HB.out)))); have n1_ := Aside0.mk (below_step (by repeat (first | (with_reducible first | exact HB.out | apply below_alloc | apply pw_below_drewN | apply below_drew1) | exact HB.out)) hb); clear HB; have HO306 := n0_; have HB := n1_; clear n0_ n1_; (try clear hb); (try clear hb2); (try clear hk); (try clear hi); (try clear ho0); obtain ⟨Ao13, co13, eo13⟩ := Kd.R_slice HO306.out; subst eo13) | ((with_reducible refine gate_callee (f := 55) rfl ?_); refine goesL_ (some 17) rfl rfl Tryd.func55 (by kernel_rfl) rfl #[.slice Ao13 t304.length co13] rfl (by (try simp only [List.map_toArray, List.map_cons, List.map_nil]); first | done | rfl | (simp only [List.length_drop, List.length_take]; rfl)) ?_; (with_reducible refine (deckleref03_Left.calls k _ _ t304 t307 _ ?side1 ?side2 A4.out).mono ?_); (case side1 => repeat (first | exact (Kd.R_reads' HO306.out).2.2 | (with_reducible refine Kd.C_alloc ?_ _) | (with_reducible refine Kd.C_drewN ?_ _) | (with_reducible refine Kd.C_drew ?_))); (case side2 => exact (Kd.R_reads' HO306.out).2.1); rintro e w14 ⟨rfl, hb⟩; refine ⟨_, rfl, ?_⟩; have n0_ := Aside0.mk (Kd.R_below (by (with_reducible repeat (first | apply Kd.R_alloc | apply Kd.R_drewN | apply Kd.R_drew)); exact HO306.out) hb); have n1_ := Aside0.mk (below_step (by repeat (first | (with_reducible first | exact HB.out | apply below_alloc | apply pw_below_drewN | apply below_drew1) | exact HB.out)) hb); clear HO306; clear HB; have HO306 := n0_; have HB := n1_; clear n0_ n1_; (try clear hb); (try clear hb2); (try clear hk); (try clear hi)))
        go_ret3
        exact ⟨by first | rfl | (simp [errW_none, errW_some] <;> rfl) | (simp [*, errW_none, errW_some] <;> rfl), by repeat (first | (with_reducible first | exact HB.out | apply below_alloc | apply pw_below_drewN | apply below_drew1) | exact HB.out)⟩
    · rw [if_neg c5] at H
      have c5b0 : (((t304.length : Int) % 2) == 0) = false := beq_eq_false_iff_ne.mpr c5
      have c5b1 : (((t304.length : Int) % 2) != 0) = true := bne_iff_ne.mpr c5
      by_cases c15 : t307 > 71
      · rw [if_pos c15] at H
        have c15b0 : decide (71 < t307) = true := decide_eq_true c15
        clear c15
        simp only [Option.some.injEq, Prod.mk.injEq] at H
        obtain ⟨rfl, rfl, rfl⟩ := H
        go_enter Tryd.func35, Tryd.ntmps35
        go_wp2_with (first | ((with_reducible refine gate_callee (f := 54) rfl ?_); refine goesL_ (some 15) rfl rfl Tryd.func54 (by kernel_rfl) rfl #[.string a0] rfl (by (try simp only [List.map_toArray, List.map_cons, List.map_nil]); first | done | rfl | (simp only [List.length_drop, List.length_take]; rfl)) ?_; (with_reducible refine (deckleref03_Bits.calls k a0 t304 _ A3.out).mono ?_); rintro e w16 ⟨v305, rfl, ho0, hb⟩; refine ⟨_, rfl, ?_⟩; have n0_ := Aside0.mk (Kd.R_lower ho0 (below_size (by repeat (first | (with_reducible first | exact HB.out | apply below_alloc | apply pw_below_drewN | apply below_drew1) | exact HB.out)))); have n1_ := Aside0.mk (below_step (by repeat (first | (with_reducible first | exact HB.out | apply below_alloc | apply pw_below_drewN | apply below_drew1) | exact HB.out)) hb); clear HB; have HO306 := n0_; have HB := n1_; clear n0_ n1_; (try clear hb); (try clear hb2); (try clear hk); (try clear hi); (try clear ho0); obtain ⟨Ao17, co17, eo17⟩ := Kd.R_slice HO306.out; subst eo17) | ((with_reducible refine gate_callee (f := 55) rfl ?_); refine goesL_ (some 17) rfl rfl Tryd.func55 (by kernel_rfl) rfl #[.slice Ao17 t304.length co17] rfl (by (try simp only [List.map_toArray, List.map_cons, List.map_nil]); first | done | rfl | (simp only [List.length_drop, List.length_take]; rfl)) ?_; (with_reducible refine (deckleref03_Left.calls k _ _ t304 t307 _ ?side1 ?side2 A4.out).mono ?_); (case side1 => repeat (first | exact (Kd.R_reads' HO306.out).2.2 | (with_reducible refine Kd.C_alloc ?_ _) | (with_reducible refine Kd.C_drewN ?_ _) | (with_reducible refine Kd.C_drew ?_))); (case side2 => exact (Kd.R_reads' HO306.out).2.1); rintro e w18 ⟨rfl, hb⟩; refine ⟨_, rfl, ?_⟩; have n0_ := Aside0.mk (Kd.R_below (by (with_reducible repeat (first | apply Kd.R_alloc | apply Kd.R_drewN | apply Kd.R_drew)); exact HO306.out) hb); have n1_ := Aside0.mk (below_step (by repeat (first | (with_reducible first | exact HB.out | apply below_alloc | apply pw_below_drewN | apply below_drew1) | exact HB.out)) hb); clear HO306; clear HB; have HO306 := n0_; have HB := n1_; clear n0_ n1_; (try clear hb); (try clear hb2); (try clear hk); (try clear hi)))
        go_ret3
        exact ⟨by first | rfl | (simp [errW_none, errW_some] <;> rfl) | (simp [*, errW_none, errW_some] <;> rfl), by repeat (first | (with_reducible first | exact HB.out | apply below_alloc | apply pw_below_drewN | apply below_drew1) | exact HB.out)⟩
      · rw [if_neg c15] at H
        have c15b0 : decide (71 < t307) = false := decide_eq_false c15
        clear c15
        replace H := Option.bind_eq_some_iff.mp H
        obtain ⟨t308, A190, H⟩ := H
        replace H : (deckleref03_Decode.l0 k a0 t307 t308 0) = some (r1, r2, r3) := H
        have A19 := Aside0.mk A190
        clear A190
        have H' := Aside0.mk H
        clear H
        go_enter Tryd.func35, Tryd.ntmps35
        go_wp2_with (first | ((with_reducible refine gate_callee (f := 54) rfl ?_); refine goesL_ (some 15) rfl rfl Tryd.func54 (by kernel_rfl) rfl #[.string a0] rfl (by (try simp only [List.map_toArray, List.map_cons, List.map_nil]); first | done | rfl | (simp only [List.length_drop, List.length_take]; rfl)) ?_; (with_reducible refine (deckleref03_Bits.calls k a0 t304 _ A3.out).mono ?_); rintro e w20 ⟨v305, rfl, ho0, hb⟩; refine ⟨_, rfl, ?_⟩; have n0_ := Aside0.mk (Kd.R_lower ho0 (below_size (by repeat (first | (with_reducible first | exact HB.out | apply below_alloc | apply pw_below_drewN | apply below_drew1) | exact HB.out)))); have n1_ := Aside0.mk (below_step (by repeat (first | (with_reducible first | exact HB.out | apply below_alloc | apply pw_below_drewN | apply below_drew1) | exact HB.out)) hb); clear HB; have HO306 := n0_; have HB := n1_; clear n0_ n1_; (try clear hb); (try clear hb2); (try clear hk); (try clear hi); (try clear ho0); obtain ⟨Ao21, co21, eo21⟩ := Kd.R_slice HO306.out; subst eo21) | ((with_reducible refine gate_callee (f := 55) rfl ?_); refine goesL_ (some 17) rfl rfl Tryd.func55 (by kernel_rfl) rfl #[.slice Ao21 t304.length co21] rfl (by (try simp only [List.map_toArray, List.map_cons, List.map_nil]); first | done | rfl | (simp only [List.length_drop, List.length_take]; rfl)) ?_; (with_reducible refine (deckleref03_Left.calls k _ _ t304 t307 _ ?side1 ?side2 A4.out).mono ?_); (case side1 => repeat (first | exact (Kd.R_reads' HO306.out).2.2 | (with_reducible refine Kd.C_alloc ?_ _) | (with_reducible refine Kd.C_drewN ?_ _) | (with_reducible refine Kd.C_drew ?_))); (case side2 => exact (Kd.R_reads' HO306.out).2.1); rintro e w22 ⟨rfl, hb⟩; refine ⟨_, rfl, ?_⟩; have n0_ := Aside0.mk (Kd.R_below (by (with_reducible repeat (first | apply Kd.R_alloc | apply Kd.R_drewN | apply Kd.R_drew)); exact HO306.out) hb); have n1_ := Aside0.mk (below_step (by repeat (first | (with_reducible first | exact HB.out | apply below_alloc | apply pw_below_drewN | apply below_drew1) | exact HB.out)) hb); clear HO306; clear HB; have HO306 := n0_; have HB := n1_; clear n0_ n1_; (try clear hb); (try clear hb2); (try clear hk); (try clear hi)) | ((with_reducible refine gate_callee (f := 63) rfl ?_); refine goesL_ (some 28) rfl rfl Tryd.func63 (by kernel_rfl) rfl #[] rfl (by (try simp only [List.map_toArray, List.map_cons, List.map_nil]); first | done | rfl | (simp only [List.length_drop, List.length_take]; rfl)) ?_; (with_reducible refine (deckleref03_Places.calls k  t308 _ A19.out).mono ?_); rintro e w23 ⟨v309, rfl, ho0, hb⟩; refine ⟨_, rfl, ?_⟩; have n0_ := Aside0.mk (Kd.R_elder' (by (with_reducible repeat (first | apply Kd.R_alloc | apply Kd.R_drewN | apply Kd.R_drew)); exact HO306.out) (Kd.R_base ho0) hb); have n1_ := Aside0.mk (Kd.R_lower (Kd.R_new' ho0 (Kd.R_lt (by (with_reducible repeat (first | apply Kd.R_alloc | apply Kd.R_drewN | apply Kd.R_drew)); exact HO306.out))) (below_size (by repeat (first | (with_reducible first | exact HB.out | apply below_alloc | apply pw_below_drewN | apply below_drew1) | exact HB.out)))); have n2_ := Aside0.mk (below_step (by repeat (first | (with_reducible first | exact HB.out | apply below_alloc | apply pw_below_drewN | apply below_drew1) | exact HB.out)) hb); clear HO306; clear HB; have HO306 := n0_; have HO310 := n1_; have HB := n2_; clear n0_ n1_ n2_; (try clear hb); (try clear hb2); (try clear hk); (try clear hi); (try clear ho0)))
        go_loopg [8] k (fun kq v8 w' => ∃ (x8_1 : Int), v8 = .int .i64 x8_1 ∧ Aside0 (deckleref03_Decode.l0 kq a0 t307 t308 x8_1 = some (r1, r2, r3)) ∧ Aside0 (kq ≤ k) ∧ Aside0 (Kd.R (Kd.int .i64) 3 w' w.heap.size (fun _ => True) v309 t308) ∧ Aside0 (Below w.heap.size w w'))
        case atStart => exact ⟨(0), (by first | rfl | (simp; done) | (simp [*]; done)), H', ⟨Nat.le_refl _⟩, ⟨by (with_reducible repeat (first | apply Kd.R_alloc | apply Kd.R_drewN | apply Kd.R_drew)); exact Kd.R_mono HO310.out (fun _ hk => trivial)⟩, ⟨by repeat (first | (with_reducible first | exact HB.out | apply below_alloc | apply pw_below_drewN | apply below_drew1) | exact HB.out)⟩⟩
        case round =>
          clear H'
          try clear c1
          try clear c2
          try clear c2b0
          try clear c2b1
          try clear p2
          try clear c3
          try clear c5
          try clear c5b0
          try clear c5b1
          try clear c6
          try clear c6b0
          try clear c6b1
          try clear c7
          try clear c7b0
          try clear c7b1
          try clear c8
          try clear c8b0
          try clear c8b1
          try clear c15
          try clear c15b0
          obtain ⟨x8_1, rfl, HA, HK1, HO_7, HB⟩ := hrel
          cases gk with
          | zero => exact absurd HA.out (by simp [deckleref03_Decode.l0])
          | succ k1 =>
            have H := HA.out
            clear HA
            simp only [deckleref03_Decode.l0] at H
            by_cases c24 : x8_1 < 64
            · rw [if_pos c24] at H
              have c24b0 : decide (x8_1 < 64) = true := decide_eq_true c24
              clear c24
              by_cases c25 : 0 ≤ x8_1
              · rw [if_pos c25] at H
                have c25b0 : decide (0 ≤ x8_1) = true := decide_eq_true c25
                clear c25
                by_cases c26 : x8_1 < (t308.length : Int)
                · rw [if_pos c26] at H
                  have c26b0 : decide (x8_1 < (t308.length : Int)) = true := decide_eq_true c26
                  clear c26
                  by_cases c27 : (rd t308 x8_1) = t307
                  · rw [if_pos c27] at H
                    have c27b0 : ((rd t308 x8_1) == t307) = true := beq_iff_eq.mpr c27
                    have c27b1 : ((rd t308 x8_1) != t307) = false := bne_eq_false_iff_eq.mpr c27
                    clear c27
                    replace H := Option.bind_eq_some_iff.mp H
                    obtain ⟨⟨t312, t313⟩, A280, H⟩ := H
                    replace H : (if 0 ≤ 8 then (if 8 ≤ (t312.size : Int) then (some (t312.extract 0 8, 3, 0)) else (none)) else (none)) = some (r1, r2, r3) := H
                    have A28 := Aside0.mk A280
                    clear A280
                    by_cases c29 : 0 ≤ 8
                    · rw [if_pos c29] at H
                      have c29b0 := eq_true c29
                      have c29b1 : decide (0 ≤ 8) = true := decide_eq_true c29
                      clear c29
                      by_cases c30 : 8 ≤ (t312.size : Int)
                      · rw [if_pos c30] at H
                        have c30b0 := eq_true c30
                        have c30b1 : decide (8 ≤ (t312.size : Int)) = true := decide_eq_true c30
                        clear c30
                        simp only [Option.some.injEq, Prod.mk.injEq] at H
                        obtain ⟨rfl, rfl, rfl⟩ := H
                        obtain ⟨Ao31, co31, eo31⟩ := Kd.R_slice HO_7.out
                        subst eo31
                        have p311 : 0 ≤ (x8_1 : Int) := of_decide_eq_true (by first | (with_reducible assumption) | assumption)
                        have q311 : x8_1 < (t308.length : Int) := of_decide_eq_true (by first | (with_reducible assumption) | assumption)
                        obtain ⟨ad311, e311, hx311_0⟩ := Kd.at_int (Kd.R_reads' HO_7.out).2.2 x8_1 p311 q311
                        cases e311
                        replace p311 := eq_true p311
                        replace q311 := eq_true q311
                        go_wp2_with (first | ((with_reducible refine gate_callee (f := 42) rfl ?_); refine goesL_ (some 42) rfl rfl Tryd.func42 (by kernel_rfl) rfl #[.string a0, .int .i64 x8_1] rfl (by (try simp only [List.map_toArray, List.map_cons, List.map_nil]); first | done | rfl | (simp only [List.length_drop, List.length_take]; rfl)) ?_; (with_reducible refine (deckleref01_Flip.calls a0 x8_1 t312 t313 _ A28.out).mono ?_); rintro e w32 ⟨rfl, hb⟩; refine ⟨_, rfl, ?_⟩; have n0_ := Aside0.mk (Kd.R_below (by (with_reducible repeat (first | apply Kd.R_alloc | apply Kd.R_drewN | apply Kd.R_drew)); exact HO_7.out) hb); have n1_ := Aside0.mk (below_step (by repeat (first | (with_reducible first | exact HB.out | apply below_alloc | apply pw_below_drewN | apply below_drew1) | exact HB.out)) hb); clear HO_7; clear HB; have HO_7 := n0_; have HB := n1_; clear n0_ n1_; (try clear hb); (try clear hb2); (try clear hk); (try clear hi)))
                        go_ret3
                        exact ⟨by first | rfl | (simp [errW_none, errW_some] <;> rfl) | (simp [*, errW_none, errW_some] <;> rfl), by repeat (first | (with_reducible first | exact HB.out | apply below_alloc | apply pw_below_drewN | apply below_drew1) | exact HB.out)⟩
                      · rw [if_neg c30] at H
                        exact absurd H (by simp)
                    · rw [if_neg c29] at H
                      exact absurd H (by simp)
                  · rw [if_neg c27] at H
                    have c27b0 : ((rd t308 x8_1) == t307) = false := beq_eq_false_iff_ne.mpr c27
                    have c27b1 : ((rd t308 x8_1) != t307) = true := bne_iff_ne.mpr c27
                    have H' := Aside0.mk H
                    clear H
                    obtain ⟨Ao33, co33, eo33⟩ := Kd.R_slice HO_7.out
                    subst eo33
                    have p311 : 0 ≤ (x8_1 : Int) := of_decide_eq_true (by first | (with_reducible assumption) | assumption)
                    have q311 : x8_1 < (t308.length : Int) := of_decide_eq_true (by first | (with_reducible assumption) | assumption)
                    obtain ⟨ad311, e311, hx311_0⟩ := Kd.at_int (Kd.R_reads' HO_7.out).2.2 x8_1 p311 q311
                    cases e311
                    replace p311 := eq_true p311
                    replace q311 := eq_true q311
                    go_wp2
                    go_roundg k1
                    case measure => have := HK1.out; omega
                    case rel => exact ⟨(wrap64 (x8_1 + 1)), (by first | rfl | (simp; done) | (simp [*]; done)), H', ⟨by have := HK1.out; omega⟩, ⟨by (with_reducible repeat (first | apply Kd.R_alloc | apply Kd.R_drewN | apply Kd.R_drew)); exact HO_7.out⟩, ⟨by repeat (first | (with_reducible first | exact HB.out | apply below_alloc | apply pw_below_drewN | apply below_drew1) | exact HB.out)⟩⟩
                · rw [if_neg c26] at H
                  exact absurd H (by simp)
              · rw [if_neg c25] at H
                exact absurd H (by simp)
            · rw [if_neg c24] at H
              have c24b0 : decide (x8_1 < 64) = false := decide_eq_false c24
              clear c24
              by_cases c34 : 0 ≤ 8
              · rw [if_pos c34] at H
                have c34b0 := eq_true c34
                have c34b1 : decide (0 ≤ 8) = true := decide_eq_true c34
                clear c34
                by_cases c35 : 8 ≤ (a0.size : Int)
                · rw [if_pos c35] at H
                  have c35b0 := eq_true c35
                  have c35b1 : decide (8 ≤ (a0.size : Int)) = true := decide_eq_true c35
                  clear c35
                  simp only [Option.some.injEq, Prod.mk.injEq] at H
                  obtain ⟨rfl, rfl, rfl⟩ := H
                  go_wp2
                  go_ret3
                  exact ⟨by first | rfl | (simp [errW_none, errW_some] <;> rfl) | (simp [*, errW_none, errW_some] <;> rfl), by repeat (first | (with_reducible first | exact HB.out | apply below_alloc | apply pw_below_drewN | apply below_drew1) | exact HB.out)⟩
                · rw [if_neg c35] at H
                  exact absurd H (by simp)
              · rw [if_neg c34] at H
                exact absurd H (by simp)
  · rw [if_neg c2] at H
    have c2b0 : ((a0.size : Int) == 9) = false := beq_eq_false_iff_ne.mpr c2
    have c2b1 : ((a0.size : Int) != 9) = true := bne_iff_ne.mpr c2
    simp only [Option.some.injEq, Prod.mk.injEq] at H
    obtain ⟨rfl, rfl, rfl⟩ := H
    go_enter Tryd.func35, Tryd.ntmps35
    go_wp2
    go_ret3
    exact ⟨by first | rfl | (simp [errW_none, errW_some] <;> rfl) | (simp [*, errW_none, errW_some] <;> rfl), by repeat (first | (with_reducible first | exact HB.out | apply below_alloc | apply pw_below_drewN | apply below_drew1) | exact HB.out)⟩

end Go.Proofs.YtbcgddacmjliaaaDoor.PF
end

section
-- Written by a program (the kit's print.py, called by wip/bin/prseat.sh, mended by wip/bin/mend.py).
namespace Go.Proofs.YtbcgddacmjliaaaDoor.PF
open Go.Proofs.YtbcgddacmjliaaaDoor.Tf Go.RowKit Go.Proofs.YtbcgddacmjliaaaDoorW.PrintWords Go.Proofs.YtbcgddacmjliaaaDoorW.PrintLast Go.Proofs.YtbcgddacmjliaaaDoorW.PrintMore
attribute [local go_sem] max2_int min2_int max_two min_two max_three min_three max_four min_four   -- for this text's walks alone
set_option linter.unusedVariables false
set_option linter.unusedSimpArgs false

/-! ### deckleref05_Decode: function 13 -/
mutual
def deckleref05_Decode.j0 : Nat → ByteArray → Bool → Option (Int × Int × Int × Int × Int × ByteArray)
  | 0, _, _ => none
  | k + 1, x0, x25 => if x25 = true then (some (4, 0, 0, 0, 0, (⟨#[]⟩ : ByteArray))) else ((deckleref05_Erased.f k x0).bind fun t324 => (if t324 = true then (some (1, 0, 0, 0, 0, (⟨#[]⟩ : ByteArray))) else (deckleref05_Decode.l0 k x0 (⟨#[]⟩ : ByteArray) 2 0)))
def deckleref05_Decode.l0 : Nat → ByteArray → ByteArray → Int → Int → Option (Int × Int × Int × Int × Int × ByteArray)
  | 0, _, _, _, _ => none
  | k + 1, x0, x3, x4, x5 => if (wrap64 (x5 + 9)) ≤ (x0.size : Int) then (if 0 ≤ x5 then (if x5 ≤ (wrap64 (x5 + 9)) then ((deckleref03_Decode.f k (x0.extract (x5 : Int).toNat ((wrap64 (x5 + 9)) : Int).toNat)).bind fun bt325 => (if bt325.2.1 = 4 then (some (4, 0, 0, 0, 0, (⟨#[]⟩ : ByteArray))) else (if bt325.2.1 = 3 then (if x3.size + bt325.1.size ≤ 9223372036854775807 then (deckleref05_Decode.l0 k x0 (x3 ++ bt325.1) 3 (wrap64 (x5 + 9))) else (none)) else (if x3.size + bt325.1.size ≤ 9223372036854775807 then (deckleref05_Decode.l0 k x0 (x3 ++ bt325.1) x4 (wrap64 (x5 + 9))) else (none))))) else (none)) else (none)) else (if 0 ≤ 16 then (if 16 ≤ (x3.size : Int) then ((deckleref04_Decode.f k (x3.extract 0 16)).bind fun bt328 => (if bt328.2.2.2.2 = 0 then (if 0 ≤ (wrap64 ((x3.size : Int) - 4)) then (if (wrap64 ((x3.size : Int) - 4)) ≤ (x3.size : Int) then (if (x3.extract ((wrap64 ((x3.size : Int) - 4)) : Int).toNat x3.size).toList = (strOfNums (([0, 0, 0, 0] : List Int))).toList then ((deckleref02_Whole.f k (x3.extract 0 ((wrap64 ((x3.size : Int) - 4)) : Int).toNat)).bind fun t337 => (if t337 = true then (if 16 ≤ (wrap64 ((x3.size : Int) - 8)) then (if (wrap64 ((x3.size : Int) - 8)) ≤ (x3.size : Int) then (some (x4, bt328.1, bt328.2.1, bt328.2.2.1, bt328.2.2.2.1, x3.extract 16 ((wrap64 ((x3.size : Int) - 8)) : Int).toNat)) else (none)) else (none)) else (some (4, 0, 0, 0, 0, (⟨#[]⟩ : ByteArray))))) else (some (4, 0, 0, 0, 0, (⟨#[]⟩ : ByteArray)))) else (none)) else (none)) else (some (4, 0, 0, 0, 0, (⟨#[]⟩ : ByteArray))))) else (none)) else (none))
end
def deckleref05_Decode.f (k : Nat) (a0 : ByteArray) : Option (Int × Int × Int × Int × Int × ByteArray) := if ((a0.size : Int) % 9) = 0 then (if (a0.size : Int) < 36 then (deckleref05_Decode.j0 k a0 true) else (deckleref05_Decode.j0 k a0 (decide ((a0.size : Int) > 315)))) else (deckleref05_Decode.j0 k a0 true)
theorem deckleref05_Decode.mono_l : ∀ k, (∀ y0 y1, LeO (deckleref05_Decode.j0 k y0 y1) (deckleref05_Decode.j0 (k + 1) y0 y1)) ∧ (∀ y0 y1 y2 y3, LeO (deckleref05_Decode.l0 k y0 y1 y2 y3) (deckleref05_Decode.l0 (k + 1) y0 y1 y2 y3))
  | 0 => ⟨fun _ _ r h => by simp [deckleref05_Decode.j0] at h, fun _ _ _ _ r h => by simp [deckleref05_Decode.l0] at h⟩
  | k + 1 => by
    obtain ⟨ih0, ih1⟩ := deckleref05_Decode.mono_l k
    refine ⟨?_, ?_⟩
    · intro y0 y1
      unfold deckleref05_Decode.j0
      repeat' first
      | (with_reducible exact ih0 _ _)
      | (with_reducible exact ih1 _ _ _ _)
      | (with_reducible exact deckleref02_Whole.mono _ _)
      | (with_reducible exact deckleref03_Decode.mono _ _)
      | (with_reducible exact deckleref04_Decode.mono _ _)
      | (with_reducible exact deckleref05_Erased.mono _ _)
      | (with_reducible exact LeO.refl _)
      | (with_reducible exact LeO.none _)
      | (with_reducible refine LeO.ite ?_ ?_)
      | (with_reducible refine LeO.bind ?_ (fun _ => ?_))
      | exact ih0 _ _
      | exact ih1 _ _ _ _
      | exact deckleref02_Whole.mono _ _
      | exact deckleref03_Decode.mono _ _
      | exact deckleref04_Decode.mono _ _
      | exact deckleref05_Erased.mono _ _
      | exact LeO.none _
      | refine LeO.ite ?_ ?_
      | refine LeO.bind ?_ (fun _ => ?_)
    · intro y0 y1 y2 y3
      unfold deckleref05_Decode.l0
      repeat' first
      | (with_reducible exact ih0 _ _)
      | (with_reducible exact ih1 _ _ _ _)
      | (with_reducible exact deckleref02_Whole.mono _ _)
      | (with_reducible exact deckleref03_Decode.mono _ _)
      | (with_reducible exact deckleref04_Decode.mono _ _)
      | (with_reducible exact deckleref05_Erased.mono _ _)
      | (with_reducible exact LeO.refl _)
      | (with_reducible exact LeO.none _)
      | (with_reducible refine LeO.ite ?_ ?_)
      | (with_reducible refine LeO.bind ?_ (fun _ => ?_))
      | exact ih0 _ _
      | exact ih1 _ _ _ _
      | exact deckleref02_Whole.mono _ _
      | exact deckleref03_Decode.mono _ _
      | exact deckleref04_Decode.mono _ _
      | exact deckleref05_Erased.mono _ _
      | exact LeO.none _
      | refine LeO.ite ?_ ?_
      | refine LeO.bind ?_ (fun _ => ?_)
theorem deckleref05_Decode.mono : ∀ a0 k, LeO (deckleref05_Decode.f k a0) (deckleref05_Decode.f (k + 1) a0) := by
  intro a0 k
  obtain ⟨ih0, ih1⟩ := deckleref05_Decode.mono_l k
  unfold deckleref05_Decode.f
  repeat' first
      | (with_reducible exact ih0 _ _)
      | (with_reducible exact ih1 _ _ _ _)
      | (with_reducible exact deckleref02_Whole.mono _ _)
      | (with_reducible exact deckleref03_Decode.mono _ _)
      | (with_reducible exact deckleref04_Decode.mono _ _)
      | (with_reducible exact deckleref05_Erased.mono _ _)
      | (with_reducible exact LeO.refl _)
      | (with_reducible exact LeO.none _)
      | (with_reducible refine LeO.ite ?_ ?_)
      | (with_reducible refine LeO.bind ?_ (fun _ => ?_))
      | exact ih0 _ _
      | exact ih1 _ _ _ _
      | exact deckleref02_Whole.mono _ _
      | exact deckleref03_Decode.mono _ _
      | exact deckleref04_Decode.mono _ _
      | exact deckleref05_Erased.mono _ _
      | exact LeO.none _
      | refine LeO.ite ?_ ?_
      | refine LeO.bind ?_ (fun _ => ?_)
def deckleref05_Decode.T18 : Bool × List (List Nat × List Nat) := (true, [([], []), ([0], [0]), ([1], [1]), ([2], [2]), ([2], [2]), ([4, 2], [2, 4]), ([3, 5, 2], [2, 3, 5]), ([2], [2]), ([7, 2], [2, 7]), ([6, 8, 2], [2, 6, 8]), ([2, 9], [2, 9]), ([10, 2], [10]), ([11], [11]), ([11], [11]), ([13, 11], [11, 13]), ([12, 14, 11], [11, 12, 14]), ([15, 11, 11], [11, 15]), ([16, 11], [11, 16]), ([11, 17], [11, 17])])
def deckleref05_Decode.B18 : List Nat := [0, 1, 3, 7, 7, 23, 63, 7, 135, 511, 1023, 2047, 4095, 4095, 12287, 32767, 65535, 131071, 262143]
theorem deckleref05_Decode.tab18 : rtab .any (opsOf Tryd.f13 18) = deckleref05_Decode.T18 := by kernel_rfl
theorem deckleref05_Decode.bits18 : waitsOk deckleref05_Decode.T18.2 deckleref05_Decode.B18 = true := by kernel_rfl
def deckleref05_Decode.T20 : Bool × List (List Nat × List Nat) := (true, [([], []), ([], []), ([], []), ([], []), ([3], [3]), ([2, 4], [2, 4]), ([0, 1, 5], [0, 1, 5]), ([6, 0, 1, 2, 3, 4, 5, 6], [6])])
def deckleref05_Decode.B20 : List Nat := [0, 0, 0, 0, 8, 28, 63, 127]
theorem deckleref05_Decode.tab20 : rtab .any (opsOf Tryd.f13 20) = deckleref05_Decode.T20 := by kernel_rfl
theorem deckleref05_Decode.bits20 : waitsOk deckleref05_Decode.T20.2 deckleref05_Decode.B20 = true := by kernel_rfl
set_option maxHeartbeats 8000000 in
set_option maxRecDepth 100000 in
theorem deckleref05_Decode.calls (k : Nat) (a0 : ByteArray) (r1 : Int) (r2 : Int) (r3 : Int) (r4 : Int) (r5 : Int) (r6 : ByteArray) (w : World) (h : deckleref05_Decode.f k a0 = some (r1, r2, r3, r4, r5, r6)) :
    Calls Tryd.prog 13 #[.string a0] w fun e w' => e = .returned (.agg #[.int .i64 r1, .int .i64 r2, .int .i64 r3, .int .i64 r4, .int .i64 r5, .string r6]) ∧ Below w.heap.size w w' := by
  have hu30 := Tryd.underlying30
  have hu23 := Tryd.underlying23
  have HB := Aside0.mk (Below.refl w.heap.size w)
  have H : (if ((a0.size : Int) % 9) = 0 then (if (a0.size : Int) < 36 then (deckleref05_Decode.j0 k a0 true) else (deckleref05_Decode.j0 k a0 (decide ((a0.size : Int) > 315)))) else (deckleref05_Decode.j0 k a0 true)) = some (r1, r2, r3, r4, r5, r6) := h
  clear h
  have HC2 := Aside0.mk H
  clear H
  go_enter Tryd.func13, Tryd.ntmps13
  go_upto_region 1 with (first | ((with_reducible refine gate_dst (N := 2) rfl ?_); (try (refine gate_guard (by rfl) ?_; dsimp only)); refine box_event ?hg (N := 2) ?hd (cs := #[.int .i64 0, .int .i64 0, .int .i64 0, .int .i64 0, .int .i64 0, .string (⟨#[]⟩ : ByteArray)]) (t := 30) ?hr ?_; (case hd => rfl); (case hg => rfl); (case hr => first | (go_simp; done) | (go_simp; rfl)); intro gb323 hg w3 hbox hb; have n0_ := Aside0.mk (below_step (by repeat (first | (with_reducible first | exact HB.out | apply below_alloc | apply pw_below_drewN | apply below_drew1) | exact HB.out)) hb); have n1_ := Aside0.mk (hbox); have n2_ := Aside0.mk ((by rw [hg]; exact (below_size (by repeat (first | (with_reducible first | exact HB.out | apply below_alloc | apply pw_below_drewN | apply below_drew1) | exact HB.out))) : w.heap.size ≤ gb323)); have n3_ := Aside0.mk ((by rw [hg]; exact (below_size (by repeat (first | (with_reducible first | exact HB.out | apply below_alloc | apply pw_below_drewN | apply below_drew1) | exact HB.out))) : w.heap.size ≤ gb323)); clear HB; have HB := n0_; have BK323 := n1_; have GW323 := n2_; have GE323 := n3_; clear n0_ n1_ n2_ n3_; clear hb hbox hg))
  (try simp only [Act.put, List.setIfInBounds_toArray, List.set_cons_zero, List.set_cons_succ])
  go_cut [25] (fun v25 wc => ∃ (kq : Nat) (x25_1 : Bool), v25 = .bool x25_1 ∧ Aside0 (deckleref05_Decode.j0 kq a0 x25_1 = some (r1, r2, r3, r4, r5, r6)) ∧ Aside0 (kq ≤ k) ∧ Aside0 (wc.heap[gb323]? = some (.cells #[.int .i64 0, .int .i64 0, .int .i64 0, .int .i64 0, .int .i64 0, .string (⟨#[]⟩ : ByteArray)] 30 (0, 0))) ∧ Aside0 (Below w.heap.size w wc))
  case first =>
    have H := HC2.out
    clear HC2
    by_cases c4 : ((a0.size : Int) % 9) = 0
    · rw [if_pos c4] at H
      have c4b0 : (((a0.size : Int) % 9) == 0) = true := beq_iff_eq.mpr c4
      have c4b1 : (((a0.size : Int) % 9) != 0) = false := bne_eq_false_iff_eq.mpr c4
      clear c4
      (first | rw [c4b0] | (simp only [i64_w, i32_w]; rw [c4b0]) | skip)
      by_cases c5 : (a0.size : Int) < 36
      · rw [if_pos c5] at H
        have c5b0 : decide ((a0.size : Int) < 36) = true := decide_eq_true c5
        have c5b1 : decide (a0.size < 36) = true := decide_eq_true (by omega)
        clear c5
        have H' := Aside0.mk H
        clear H
        go_wp2
        go_meet
        case rel => exact ⟨_, (true), (by first | rfl | (simp; done) | (simp [*]; done)), H', ⟨by first | omega | exact Nat.le_refl _⟩, ⟨by (with_reducible repeat (first | refine blk_drewN ?_ _ | refine blk_drew ?_ | refine blk_alloc ?_ _)); exact BK323.out⟩, ⟨by repeat (first | (with_reducible first | exact HB.out | apply below_alloc | apply pw_below_drewN | apply below_drew1 | refine below_set ?_ GE323.out) | exact HB.out)⟩⟩
      · rw [if_neg c5] at H
        have c5b0 : decide ((a0.size : Int) < 36) = false := decide_eq_false c5
        have c5b1 : decide (a0.size < 36) = false := decide_eq_false (by omega)
        clear c5
        have H' := Aside0.mk H
        clear H
        go_wp2
        go_meet
        case rel => exact ⟨_, (decide ((a0.size : Int) > 315)), (by first | rfl | (simp; done) | (simp [*]; done)), H', ⟨by first | omega | exact Nat.le_refl _⟩, ⟨by (with_reducible repeat (first | refine blk_drewN ?_ _ | refine blk_drew ?_ | refine blk_alloc ?_ _)); exact BK323.out⟩, ⟨by repeat (first | (with_reducible first | exact HB.out | apply below_alloc | apply pw_below_drewN | apply below_drew1 | refine below_set ?_ GE323.out) | exact HB.out)⟩⟩
    · rw [if_neg c4] at H
      have c4b0 : (((a0.size : Int) % 9) == 0) = false := beq_eq_false_iff_ne.mpr c4
      have c4b1 : (((a0.size : Int) % 9) != 0) = true := bne_iff_ne.mpr c4
      (first | rw [c4b0] | (simp only [i64_w, i32_w]; rw [c4b0]) | skip)
      have H' := Aside0.mk H
      clear H
      go_wp2
      go_meet
      case rel => exact ⟨_, (true), (by first | rfl | (simp; done) | (simp [*]; done)), H', ⟨by first | omega | exact Nat.le_refl _⟩, ⟨by (with_reducible repeat (first | refine blk_drewN ?_ _ | refine blk_drew ?_ | refine blk_alloc ?_ _)); exact BK323.out⟩, ⟨by repeat (first | (with_reducible first | exact HB.out | apply below_alloc | apply pw_below_drewN | apply below_drew1 | refine below_set ?_ GE323.out) | exact HB.out)⟩⟩
  case rest =>
    clear HC2
    try clear c1
    try clear p2
    try clear c4
    try clear c4b0
    try clear c4b1
    try clear c5
    try clear c5b0
    try clear c5b1
    obtain ⟨kq, x25_1, rfl, HA, HJ1, BK323, HB⟩ := hcut
    cases kq with
    | zero => exact absurd HA.out (by simp [deckleref05_Decode.j0])
    | succ kj1 =>
      have H := HA.out
      clear HA
      simp only [deckleref05_Decode.j0] at H
      by_cases c6 : x25_1 = true
      · subst c6
        have H1 : (some (4, 0, 0, 0, 0, (⟨#[]⟩ : ByteArray))) = some (r1, r2, r3, r4, r5, r6) := by rw [if_pos rfl] at H; exact H
        clear H
        have H := H1
        clear H1
        simp only [Option.some.injEq, Prod.mk.injEq] at H
        obtain ⟨rfl, rfl, rfl, rfl, rfl, rfl⟩ := H
        have hcz7_0 : wc.cell? ⟨gb323, 0, none⟩ = some (.int .i64 0) := (blk_cell BK323.out 0).trans rfl
        have hcz7_1 : wc.cell? ⟨gb323, 1, none⟩ = some (.int .i64 0) := (blk_cell BK323.out 1).trans rfl
        have hcz7_2 : wc.cell? ⟨gb323, 2, none⟩ = some (.int .i64 0) := (blk_cell BK323.out 2).trans rfl
        have hcz7_3 : wc.cell? ⟨gb323, 3, none⟩ = some (.int .i64 0) := (blk_cell BK323.out 3).trans rfl
        have hcz7_4 : wc.cell? ⟨gb323, 4, none⟩ = some (.int .i64 0) := (blk_cell BK323.out 4).trans rfl
        have hcz7_5 : wc.cell? ⟨gb323, 5, none⟩ = some (.string (⟨#[]⟩ : ByteArray)) := (blk_cell BK323.out 5).trans rfl
        have hfz7_0 := blk_frozen BK323.out 0
        have hfz7_1 := blk_frozen BK323.out 1
        have hfz7_2 := blk_frozen BK323.out 2
        have hfz7_3 := blk_frozen BK323.out 3
        have hfz7_4 := blk_frozen BK323.out 4
        have hfz7_5 := blk_frozen BK323.out 5
        go_wp2
        refine bodyPost_ret (results_cell_row rfl _ _ gb323 30 #[.int .i64 4, .int .i64 0, .int .i64 0, .int .i64 0, .int .i64 0, .string (⟨#[]⟩ : ByteArray)] (0, 0) _ rfl (by (with_reducible repeat (first | refine blk_drewN ?_ _ | refine blk_drew ?_ | refine blk_alloc ?_ _)); refine blk_put (cs := #[.int .i64 4, .int .i64 0, .int .i64 0, .int .i64 0, .int .i64 0, .string (⟨#[]⟩ : ByteArray)]) ?_ 5 _ rfl; (with_reducible repeat (first | refine blk_drewN ?_ _ | refine blk_drew ?_ | refine blk_alloc ?_ _)); refine blk_put (cs := #[.int .i64 4, .int .i64 0, .int .i64 0, .int .i64 0, .int .i64 0, .string (⟨#[]⟩ : ByteArray)]) ?_ 4 _ rfl; (with_reducible repeat (first | refine blk_drewN ?_ _ | refine blk_drew ?_ | refine blk_alloc ?_ _)); refine blk_put (cs := #[.int .i64 4, .int .i64 0, .int .i64 0, .int .i64 0, .int .i64 0, .string (⟨#[]⟩ : ByteArray)]) ?_ 3 _ rfl; (with_reducible repeat (first | refine blk_drewN ?_ _ | refine blk_drew ?_ | refine blk_alloc ?_ _)); refine blk_put (cs := #[.int .i64 4, .int .i64 0, .int .i64 0, .int .i64 0, .int .i64 0, .string (⟨#[]⟩ : ByteArray)]) ?_ 2 _ rfl; (with_reducible repeat (first | refine blk_drewN ?_ _ | refine blk_drew ?_ | refine blk_alloc ?_ _)); refine blk_put (cs := #[.int .i64 4, .int .i64 0, .int .i64 0, .int .i64 0, .int .i64 0, .string (⟨#[]⟩ : ByteArray)]) ?_ 1 _ rfl; (with_reducible repeat (first | refine blk_drewN ?_ _ | refine blk_drew ?_ | refine blk_alloc ?_ _)); refine blk_put (cs := #[.int .i64 0, .int .i64 0, .int .i64 0, .int .i64 0, .int .i64 0, .string (⟨#[]⟩ : ByteArray)]) ?_ 0 _ rfl; (with_reducible repeat (first | refine blk_drewN ?_ _ | refine blk_drew ?_ | refine blk_alloc ?_ _)); exact BK323.out) Tryd.underlying30 rfl (by kernel_rfl)) rfl ?_
        exact ⟨by first | rfl | (simp [errW_none, errW_some] <;> rfl) | (simp [*, errW_none, errW_some] <;> rfl), by repeat (first | (with_reducible first | exact HB.out | apply below_alloc | apply pw_below_drewN | apply below_drew1 | refine below_set ?_ GE323.out) | exact HB.out)⟩
      · replace c6 := Bool.eq_false_iff.mpr c6
        subst c6
        have H1 : ((deckleref05_Erased.f kj1 a0).bind fun t324 => (if t324 = true then (some (1, 0, 0, 0, 0, (⟨#[]⟩ : ByteArray))) else (deckleref05_Decode.l0 kj1 a0 (⟨#[]⟩ : ByteArray) 2 0))) = some (r1, r2, r3, r4, r5, r6) := by rw [if_neg (show ¬ (false = true) by decide)] at H; exact H
        clear H
        have H := H1
        clear H1
        replace H := Option.bind_eq_some_iff.mp H
        obtain ⟨t324, A80, H⟩ := H
        replace H : (if t324 = true then (some (1, 0, 0, 0, 0, (⟨#[]⟩ : ByteArray))) else (deckleref05_Decode.l0 kj1 a0 (⟨#[]⟩ : ByteArray) 2 0)) = some (r1, r2, r3, r4, r5, r6) := H
        have A8 := Aside0.mk A80
        clear A80
        by_cases c9 : t324 = true
        · subst c9
          have H1 : (some (1, 0, 0, 0, 0, (⟨#[]⟩ : ByteArray))) = some (r1, r2, r3, r4, r5, r6) := by rw [if_pos rfl] at H; exact H
          clear H
          have H := H1
          clear H1
          simp only [Option.some.injEq, Prod.mk.injEq] at H
          obtain ⟨rfl, rfl, rfl, rfl, rfl, rfl⟩ := H
          go_wp2_with (first | ((with_reducible refine gate_callee (f := 34) rfl ?_); refine goesL_ (some 28) rfl rfl Tryd.func34 (by kernel_rfl) rfl #[.string a0] rfl (by (try simp only [List.map_toArray, List.map_cons, List.map_nil]); first | done | rfl | (simp only [List.length_drop, List.length_take]; rfl)) ?_; (with_reducible refine (deckleref05_Erased.calls kj1 a0 true _ A8.out).mono ?_); rintro e w' ⟨rfl, ⟨nd, rfl⟩⟩; refine ⟨_, rfl, ?_⟩; (try (rw [drewN_self wc]; generalize hq_ : World.drewN wc _ = wc; have n0_ : Aside0 (wc.heap[gb323]? = some (.cells #[.int .i64 0, .int .i64 0, .int .i64 0, .int .i64 0, .int .i64 0, .string (⟨#[]⟩ : ByteArray)] 30 (0, 0))) := ⟨by rw [← hq_]; exact (by (with_reducible repeat (first | refine blk_drewN ?_ _ | refine blk_drew ?_ | refine blk_alloc ?_ _)); exact BK323.out)⟩; have n1_ : Aside0 (Below w.heap.size w wc) := ⟨by rw [← hq_]; exact (by repeat (first | (with_reducible first | exact HB.out | apply below_alloc | apply pw_below_drewN | apply below_drew1 | refine below_set ?_ GE323.out) | exact HB.out))⟩; clear BK323 HB hq_; have BK323 := n0_; have HB := n1_; clear n0_ n1_)); have hcz10_0 : wc.cell? ⟨gb323, 0, none⟩ = some (.int .i64 0) := (blk_cell BK323.out 0).trans rfl; have hcz10_1 : wc.cell? ⟨gb323, 1, none⟩ = some (.int .i64 0) := (blk_cell BK323.out 1).trans rfl; have hcz10_2 : wc.cell? ⟨gb323, 2, none⟩ = some (.int .i64 0) := (blk_cell BK323.out 2).trans rfl; have hcz10_3 : wc.cell? ⟨gb323, 3, none⟩ = some (.int .i64 0) := (blk_cell BK323.out 3).trans rfl; have hcz10_4 : wc.cell? ⟨gb323, 4, none⟩ = some (.int .i64 0) := (blk_cell BK323.out 4).trans rfl; have hcz10_5 : wc.cell? ⟨gb323, 5, none⟩ = some (.string (⟨#[]⟩ : ByteArray)) := (blk_cell BK323.out 5).trans rfl; have hfz10_0 := blk_frozen BK323.out 0; have hfz10_1 := blk_frozen BK323.out 1; have hfz10_2 := blk_frozen BK323.out 2; have hfz10_3 := blk_frozen BK323.out 3; have hfz10_4 := blk_frozen BK323.out 4; have hfz10_5 := blk_frozen BK323.out 5))
          refine bodyPost_ret (results_cell_row rfl _ _ gb323 30 #[.int .i64 1, .int .i64 0, .int .i64 0, .int .i64 0, .int .i64 0, .string (⟨#[]⟩ : ByteArray)] (0, 0) _ rfl (by (with_reducible repeat (first | refine blk_drewN ?_ _ | refine blk_drew ?_ | refine blk_alloc ?_ _)); refine blk_put (cs := #[.int .i64 1, .int .i64 0, .int .i64 0, .int .i64 0, .int .i64 0, .string (⟨#[]⟩ : ByteArray)]) ?_ 5 _ rfl; (with_reducible repeat (first | refine blk_drewN ?_ _ | refine blk_drew ?_ | refine blk_alloc ?_ _)); refine blk_put (cs := #[.int .i64 1, .int .i64 0, .int .i64 0, .int .i64 0, .int .i64 0, .string (⟨#[]⟩ : ByteArray)]) ?_ 4 _ rfl; (with_reducible repeat (first | refine blk_drewN ?_ _ | refine blk_drew ?_ | refine blk_alloc ?_ _)); refine blk_put (cs := #[.int .i64 1, .int .i64 0, .int .i64 0, .int .i64 0, .int .i64 0, .string (⟨#[]⟩ : ByteArray)]) ?_ 3 _ rfl; (with_reducible repeat (first | refine blk_drewN ?_ _ | refine blk_drew ?_ | refine blk_alloc ?_ _)); refine blk_put (cs := #[.int .i64 1, .int .i64 0, .int .i64 0, .int .i64 0, .int .i64 0, .string (⟨#[]⟩ : ByteArray)]) ?_ 2 _ rfl; (with_reducible repeat (first | refine blk_drewN ?_ _ | refine blk_drew ?_ | refine blk_alloc ?_ _)); refine blk_put (cs := #[.int .i64 1, .int .i64 0, .int .i64 0, .int .i64 0, .int .i64 0, .string (⟨#[]⟩ : ByteArray)]) ?_ 1 _ rfl; (with_reducible repeat (first | refine blk_drewN ?_ _ | refine blk_drew ?_ | refine blk_alloc ?_ _)); refine blk_put (cs := #[.int .i64 0, .int .i64 0, .int .i64 0, .int .i64 0, .int .i64 0, .string (⟨#[]⟩ : ByteArray)]) ?_ 0 _ rfl; (with_reducible repeat (first | refine blk_drewN ?_ _ | refine blk_drew ?_ | refine blk_alloc ?_ _)); exact BK323.out) Tryd.underlying30 rfl (by kernel_rfl)) rfl ?_
          exact ⟨by first | rfl | (simp [errW_none, errW_some] <;> rfl) | (simp [*, errW_none, errW_some] <;> rfl), by repeat (first | (with_reducible first | exact HB.out | apply below_alloc | apply pw_below_drewN | apply below_drew1 | refine below_set ?_ GE323.out) | exact HB.out)⟩
        · replace c9 := Bool.eq_false_iff.mpr c9
          subst c9
          have H1 : (deckleref05_Decode.l0 kj1 a0 (⟨#[]⟩ : ByteArray) 2 0) = some (r1, r2, r3, r4, r5, r6) := by rw [if_neg (show ¬ (false = true) by decide)] at H; exact H
          clear H
          have H := H1
          clear H1
          have H' := Aside0.mk H
          clear H
          go_wp2_with (first | ((with_reducible refine gate_callee (f := 34) rfl ?_); refine goesL_ (some 28) rfl rfl Tryd.func34 (by kernel_rfl) rfl #[.string a0] rfl (by (try simp only [List.map_toArray, List.map_cons, List.map_nil]); first | done | rfl | (simp only [List.length_drop, List.length_take]; rfl)) ?_; (with_reducible refine (deckleref05_Erased.calls kj1 a0 false _ A8.out).mono ?_); rintro e w' ⟨rfl, ⟨nd, rfl⟩⟩; refine ⟨_, rfl, ?_⟩))
          go_loopg [3, 4, 5] kj1 (fun kq v3 v4 v5 w' => ∃ (x3_2 : ByteArray) (x4_2 : Int) (x5_2 : Int) (x324000_2 : Int) (x324001_2 : Int) (x324002_2 : Int) (x324003_2 : Int) (x324004_2 : Int) (x324005_2 : ByteArray), v3 = .string x3_2 ∧ v4 = .int .i64 x4_2 ∧ v5 = .int .i64 x5_2 ∧ Aside0 (deckleref05_Decode.l0 kq a0 x3_2 x4_2 x5_2 = some (r1, r2, r3, r4, r5, r6)) ∧ Aside0 (kq ≤ kj1) ∧ Aside0 (w'.heap[gb323]? = some (.cells #[.int .i64 x324000_2, .int .i64 x324001_2, .int .i64 x324002_2, .int .i64 x324003_2, .int .i64 x324004_2, .string x324005_2] 30 (0, 0))) ∧ Aside0 (Below w.heap.size w w'))
          case atStart => exact ⟨((⟨#[]⟩ : ByteArray)), (2), (0), (0), (0), (0), (0), (0), ((⟨#[]⟩ : ByteArray)), (by first | rfl | (simp; done) | (simp [*]; done)), (by first | rfl | (simp; done) | (simp [*]; done)), (by first | rfl | (simp; done) | (simp [*]; done)), H', ⟨Nat.le_refl _⟩, ⟨by (with_reducible repeat (first | refine blk_drewN ?_ _ | refine blk_drew ?_ | refine blk_alloc ?_ _)); exact BK323.out⟩, ⟨by repeat (first | (with_reducible first | exact HB.out | apply below_alloc | apply pw_below_drewN | apply below_drew1 | refine below_set ?_ GE323.out) | exact HB.out)⟩⟩
          case round =>
            clear H'
            try clear c1
            try clear p2
            try clear c3
            try clear c4
            try clear c4b0
            try clear c4b1
            try clear c5
            try clear c5b0
            try clear c5b1
            try clear c6
            try clear c9
            try clear hcz10_0
            try clear hcz10_1
            try clear hcz10_2
            try clear hcz10_3
            try clear hcz10_4
            try clear hcz10_5
            try clear hcz7_0
            try clear hcz7_1
            try clear hcz7_2
            try clear hcz7_3
            try clear hcz7_4
            try clear hcz7_5
            try clear hfz10_0
            try clear hfz10_1
            try clear hfz10_2
            try clear hfz10_3
            try clear hfz10_4
            try clear hfz10_5
            try clear hfz7_0
            try clear hfz7_1
            try clear hfz7_2
            try clear hfz7_3
            try clear hfz7_4
            try clear hfz7_5
            try clear p2
            obtain ⟨x3_2, x4_2, x5_2, x324000_2, x324001_2, x324002_2, x324003_2, x324004_2, x324005_2, rfl, rfl, rfl, HA, HK2, BK323, HB⟩ := hrel
            cases gk with
            | zero => exact absurd HA.out (by simp [deckleref05_Decode.l0])
            | succ k2 =>
              have H := HA.out
              clear HA
              simp only [deckleref05_Decode.l0] at H
              by_cases c11 : (wrap64 (x5_2 + 9)) ≤ (a0.size : Int)
              · rw [if_pos c11] at H
                have c11b0 : decide ((wrap64 (x5_2 + 9)) ≤ (a0.size : Int)) = true := decide_eq_true c11
                clear c11
                by_cases c12 : 0 ≤ x5_2
                · rw [if_pos c12] at H
                  have c12b0 := eq_true c12
                  have c12b1 : decide (0 ≤ x5_2) = true := decide_eq_true c12
                  clear c12
                  by_cases c13 : x5_2 ≤ (wrap64 (x5_2 + 9))
                  · rw [if_pos c13] at H
                    have c13b0 := eq_true c13
                    have c13b1 : decide (x5_2 ≤ (wrap64 (x5_2 + 9))) = true := decide_eq_true c13
                    have c14b0 := eq_true (of_decide_eq_true (by first | (with_reducible assumption) | assumption) : (wrap64 (x5_2 + 9)) ≤ (a0.size : Int))
                    replace H := Option.bind_eq_some_iff.mp H
                    obtain ⟨⟨t325, t326, t327⟩, A150, H⟩ := H
                    replace H : (if t326 = 4 then (some (4, 0, 0, 0, 0, (⟨#[]⟩ : ByteArray))) else (if t326 = 3 then (if x3_2.size + t325.size ≤ 9223372036854775807 then (deckleref05_Decode.l0 k2 a0 (x3_2 ++ t325) 3 (wrap64 (x5_2 + 9))) else (none)) else (if x3_2.size + t325.size ≤ 9223372036854775807 then (deckleref05_Decode.l0 k2 a0 (x3_2 ++ t325) x4_2 (wrap64 (x5_2 + 9))) else (none)))) = some (r1, r2, r3, r4, r5, r6) := H
                    have A15 := Aside0.mk A150
                    clear A150
                    by_cases c16 : t326 = 4
                    · rw [if_pos c16] at H
                      have c16b0 : (t326 == 4) = true := beq_iff_eq.mpr c16
                      have c16b1 : (t326 != 4) = false := bne_eq_false_iff_eq.mpr c16
                      clear c16
                      simp only [Option.some.injEq, Prod.mk.injEq] at H
                      obtain ⟨rfl, rfl, rfl, rfl, rfl, rfl⟩ := H
                      go_wp2_with (first | ((with_reducible refine gate_callee (f := 35) rfl ?_); refine goesL_ (some 43) rfl rfl Tryd.func35 (by kernel_rfl) rfl #[.string (a0.extract (x5_2 : Int).toNat ((wrap64 (x5_2 + 9)) : Int).toNat)] rfl (by (try simp only [List.map_toArray, List.map_cons, List.map_nil]); first | done | rfl | (simp only [List.length_drop, List.length_take]; rfl)) ?_; (with_reducible refine (deckleref03_Decode.calls k2 (a0.extract (x5_2 : Int).toNat ((wrap64 (x5_2 + 9)) : Int).toNat) t325 t326 t327 _ A15.out).mono ?_); rintro e w17 ⟨rfl, hb⟩; refine ⟨_, rfl, ?_⟩; have n0_ := Aside0.mk (blk_below (g := gb323) (o := .cells #[.int .i64 x324000_2, .int .i64 x324001_2, .int .i64 x324002_2, .int .i64 x324003_2, .int .i64 x324004_2, .string x324005_2] 30 (0, 0)) (by (with_reducible repeat (first | refine blk_drewN ?_ _ | refine blk_drew ?_ | refine blk_alloc ?_ _)); exact BK323.out) hb); have n1_ := Aside0.mk (below_step (by repeat (first | (with_reducible first | exact HB.out | apply below_alloc | apply pw_below_drewN | apply below_drew1 | refine below_set ?_ GE323.out) | exact HB.out)) hb); clear BK323; clear HB; have BK323 := n0_; have HB := n1_; clear n0_ n1_; (try clear hb); (try clear hb2); (try clear hk); (try clear hi); have hcz18_0 : w17.cell? ⟨gb323, 0, none⟩ = some (.int .i64 x324000_2) := (blk_cell BK323.out 0).trans rfl; have hcz18_1 : w17.cell? ⟨gb323, 1, none⟩ = some (.int .i64 x324001_2) := (blk_cell BK323.out 1).trans rfl; have hcz18_2 : w17.cell? ⟨gb323, 2, none⟩ = some (.int .i64 x324002_2) := (blk_cell BK323.out 2).trans rfl; have hcz18_3 : w17.cell? ⟨gb323, 3, none⟩ = some (.int .i64 x324003_2) := (blk_cell BK323.out 3).trans rfl; have hcz18_4 : w17.cell? ⟨gb323, 4, none⟩ = some (.int .i64 x324004_2) := (blk_cell BK323.out 4).trans rfl; have hcz18_5 : w17.cell? ⟨gb323, 5, none⟩ = some (.string x324005_2) := (blk_cell BK323.out 5).trans rfl; have hfz18_0 := blk_frozen BK323.out 0; have hfz18_1 := blk_frozen BK323.out 1; have hfz18_2 := blk_frozen BK323.out 2; have hfz18_3 := blk_frozen BK323.out 3; have hfz18_4 := blk_frozen BK323.out 4; have hfz18_5 := blk_frozen BK323.out 5))
                      refine bodyPost_ret (results_cell_row rfl _ _ gb323 30 #[.int .i64 4, .int .i64 0, .int .i64 0, .int .i64 0, .int .i64 0, .string (⟨#[]⟩ : ByteArray)] (0, 0) _ rfl (by (with_reducible repeat (first | refine blk_drewN ?_ _ | refine blk_drew ?_ | refine blk_alloc ?_ _)); refine blk_put (cs := #[.int .i64 4, .int .i64 0, .int .i64 0, .int .i64 0, .int .i64 0, .string x324005_2]) ?_ 5 _ rfl; (with_reducible repeat (first | refine blk_drewN ?_ _ | refine blk_drew ?_ | refine blk_alloc ?_ _)); refine blk_put (cs := #[.int .i64 4, .int .i64 0, .int .i64 0, .int .i64 0, .int .i64 x324004_2, .string x324005_2]) ?_ 4 _ rfl; (with_reducible repeat (first | refine blk_drewN ?_ _ | refine blk_drew ?_ | refine blk_alloc ?_ _)); refine blk_put (cs := #[.int .i64 4, .int .i64 0, .int .i64 0, .int .i64 x324003_2, .int .i64 x324004_2, .string x324005_2]) ?_ 3 _ rfl; (with_reducible repeat (first | refine blk_drewN ?_ _ | refine blk_drew ?_ | refine blk_alloc ?_ _)); refine blk_put (cs := #[.int .i64 4, .int .i64 0, .int .i64 x324002_2, .int .i64 x324003_2, .int .i64 x324004_2, .string x324005_2]) ?_ 2 _ rfl; (with_reducible repeat (first | refine blk_drewN ?_ _ | refine blk_drew ?_ | refine blk_alloc ?_ _)); refine blk_put (cs := #[.int .i64 4, .int .i64 x324001_2, .int .i64 x324002_2, .int .i64 x324003_2, .int .i64 x324004_2, .string x324005_2]) ?_ 1 _ rfl; (with_reducible repeat (first | refine blk_drewN ?_ _ | refine blk_drew ?_ | refine blk_alloc ?_ _)); refine blk_put (cs := #[.int .i64 x324000_2, .int .i64 x324001_2, .int .i64 x324002_2, .int .i64 x324003_2, .int .i64 x324004_2, .string x324005_2]) ?_ 0 _ rfl; (with_reducible repeat (first | refine blk_drewN ?_ _ | refine blk_drew ?_ | refine blk_alloc ?_ _)); exact BK323.out) Tryd.underlying30 rfl (by kernel_rfl)) rfl ?_
                      exact ⟨by first | rfl | (simp [errW_none, errW_some] <;> rfl) | (simp [*, errW_none, errW_some] <;> rfl), by repeat (first | (with_reducible first | exact HB.out | apply below_alloc | apply pw_below_drewN | apply below_drew1 | refine below_set ?_ GE323.out) | exact HB.out)⟩
                    · rw [if_neg c16] at H
                      have c16b0 : (t326 == 4) = false := beq_eq_false_iff_ne.mpr c16
                      have c16b1 : (t326 != 4) = true := bne_iff_ne.mpr c16
                      by_cases c19 : t326 = 3
                      · rw [if_pos c19] at H
                        have c19b0 : (t326 == 3) = true := beq_iff_eq.mpr c19
                        have c19b1 : (t326 != 3) = false := bne_eq_false_iff_eq.mpr c19
                        clear c19
                        by_cases c20 : x3_2.size + t325.size ≤ 9223372036854775807
                        · rw [if_pos c20] at H
                          have c20b0 := eq_true c20
                          have c20b1 : decide (x3_2.size + t325.size ≤ 9223372036854775807) = true := decide_eq_true c20
                          try have c20b2 : (9223372036854775807 < x3_2.size + t325.size) = False := eq_false (Nat.not_lt.2 c20)
                          have H' := Aside0.mk H
                          clear H
                          go_wp2_with (first | ((with_reducible refine gate_callee (f := 35) rfl ?_); refine goesL_ (some 43) rfl rfl Tryd.func35 (by kernel_rfl) rfl #[.string (a0.extract (x5_2 : Int).toNat ((wrap64 (x5_2 + 9)) : Int).toNat)] rfl (by (try simp only [List.map_toArray, List.map_cons, List.map_nil]); first | done | rfl | (simp only [List.length_drop, List.length_take]; rfl)) ?_; (with_reducible refine (deckleref03_Decode.calls k2 (a0.extract (x5_2 : Int).toNat ((wrap64 (x5_2 + 9)) : Int).toNat) t325 t326 t327 _ A15.out).mono ?_); rintro e w21 ⟨rfl, hb⟩; refine ⟨_, rfl, ?_⟩; have n0_ := Aside0.mk (blk_below (g := gb323) (o := .cells #[.int .i64 x324000_2, .int .i64 x324001_2, .int .i64 x324002_2, .int .i64 x324003_2, .int .i64 x324004_2, .string x324005_2] 30 (0, 0)) (by (with_reducible repeat (first | refine blk_drewN ?_ _ | refine blk_drew ?_ | refine blk_alloc ?_ _)); exact BK323.out) hb); have n1_ := Aside0.mk (below_step (by repeat (first | (with_reducible first | exact HB.out | apply below_alloc | apply pw_below_drewN | apply below_drew1 | refine below_set ?_ GE323.out) | exact HB.out)) hb); clear BK323; clear HB; have BK323 := n0_; have HB := n1_; clear n0_ n1_; (try clear hb); (try clear hb2); (try clear hk); (try clear hi)))
                          go_roundg k2
                          case measure => have := HJ1.out; have := HK2.out; omega
                          case rel => exact ⟨(x3_2 ++ t325), (3), (wrap64 (x5_2 + 9)), (x324000_2), (x324001_2), (x324002_2), (x324003_2), (x324004_2), (x324005_2), (by first | rfl | (simp; done) | (simp [*]; done)), (by first | rfl | (simp; done) | (simp [*]; done)), (by first | rfl | (simp; done) | (simp [*]; done)), H', ⟨by have := HJ1.out; have := HK2.out; omega⟩, ⟨by (with_reducible repeat (first | refine blk_drewN ?_ _ | refine blk_drew ?_ | refine blk_alloc ?_ _)); exact BK323.out⟩, ⟨by repeat (first | (with_reducible first | exact HB.out | apply below_alloc | apply pw_below_drewN | apply below_drew1 | refine below_set ?_ GE323.out) | exact HB.out)⟩⟩
                        · rw [if_neg c20] at H
                          exact absurd H (by simp)
                      · rw [if_neg c19] at H
                        have c19b0 : (t326 == 3) = false := beq_eq_false_iff_ne.mpr c19
                        have c19b1 : (t326 != 3) = true := bne_iff_ne.mpr c19
                        by_cases c22 : x3_2.size + t325.size ≤ 9223372036854775807
                        · rw [if_pos c22] at H
                          have c22b0 := eq_true c22
                          have c22b1 : decide (x3_2.size + t325.size ≤ 9223372036854775807) = true := decide_eq_true c22
                          try have c22b2 : (9223372036854775807 < x3_2.size + t325.size) = False := eq_false (Nat.not_lt.2 c22)
                          have H' := Aside0.mk H
                          clear H
                          go_wp2_with (first | ((with_reducible refine gate_callee (f := 35) rfl ?_); refine goesL_ (some 43) rfl rfl Tryd.func35 (by kernel_rfl) rfl #[.string (a0.extract (x5_2 : Int).toNat ((wrap64 (x5_2 + 9)) : Int).toNat)] rfl (by (try simp only [List.map_toArray, List.map_cons, List.map_nil]); first | done | rfl | (simp only [List.length_drop, List.length_take]; rfl)) ?_; (with_reducible refine (deckleref03_Decode.calls k2 (a0.extract (x5_2 : Int).toNat ((wrap64 (x5_2 + 9)) : Int).toNat) t325 t326 t327 _ A15.out).mono ?_); rintro e w23 ⟨rfl, hb⟩; refine ⟨_, rfl, ?_⟩; have n0_ := Aside0.mk (blk_below (g := gb323) (o := .cells #[.int .i64 x324000_2, .int .i64 x324001_2, .int .i64 x324002_2, .int .i64 x324003_2, .int .i64 x324004_2, .string x324005_2] 30 (0, 0)) (by (with_reducible repeat (first | refine blk_drewN ?_ _ | refine blk_drew ?_ | refine blk_alloc ?_ _)); exact BK323.out) hb); have n1_ := Aside0.mk (below_step (by repeat (first | (with_reducible first | exact HB.out | apply below_alloc | apply pw_below_drewN | apply below_drew1 | refine below_set ?_ GE323.out) | exact HB.out)) hb); clear BK323; clear HB; have BK323 := n0_; have HB := n1_; clear n0_ n1_; (try clear hb); (try clear hb2); (try clear hk); (try clear hi)))
                          go_roundg k2
                          case measure => have := HJ1.out; have := HK2.out; omega
                          case rel => exact ⟨(x3_2 ++ t325), (x4_2), (wrap64 (x5_2 + 9)), (x324000_2), (x324001_2), (x324002_2), (x324003_2), (x324004_2), (x324005_2), (by first | rfl | (simp; done) | (simp [*]; done)), (by first | rfl | (simp; done) | (simp [*]; done)), (by first | rfl | (simp; done) | (simp [*]; done)), H', ⟨by have := HJ1.out; have := HK2.out; omega⟩, ⟨by (with_reducible repeat (first | refine blk_drewN ?_ _ | refine blk_drew ?_ | refine blk_alloc ?_ _)); exact BK323.out⟩, ⟨by repeat (first | (with_reducible first | exact HB.out | apply below_alloc | apply pw_below_drewN | apply below_drew1 | refine below_set ?_ GE323.out) | exact HB.out)⟩⟩
                        · rw [if_neg c22] at H
                          exact absurd H (by simp)
                  · rw [if_neg c13] at H
                    exact absurd H (by simp)
                · rw [if_neg c12] at H
                  exact absurd H (by simp)
              · rw [if_neg c11] at H
                have c11b0 : decide ((wrap64 (x5_2 + 9)) ≤ (a0.size : Int)) = false := decide_eq_false c11
                clear c11
                by_cases c24 : 0 ≤ 16
                · rw [if_pos c24] at H
                  have c24b0 := eq_true c24
                  have c24b1 : decide (0 ≤ 16) = true := decide_eq_true c24
                  clear c24
                  by_cases c25 : 16 ≤ (x3_2.size : Int)
                  · rw [if_pos c25] at H
                    have c25b0 := eq_true c25
                    have c25b1 : decide (16 ≤ (x3_2.size : Int)) = true := decide_eq_true c25
                    clear c25
                    replace H := Option.bind_eq_some_iff.mp H
                    obtain ⟨⟨t328, t329, t330, t331, t332⟩, A260, H⟩ := H
                    replace H : (if t332 = 0 then (if 0 ≤ (wrap64 ((x3_2.size : Int) - 4)) then (if (wrap64 ((x3_2.size : Int) - 4)) ≤ (x3_2.size : Int) then (if (x3_2.extract ((wrap64 ((x3_2.size : Int) - 4)) : Int).toNat x3_2.size).toList = (strOfNums (([0, 0, 0, 0] : List Int))).toList then ((deckleref02_Whole.f k2 (x3_2.extract 0 ((wrap64 ((x3_2.size : Int) - 4)) : Int).toNat)).bind fun t337 => (if t337 = true then (if 16 ≤ (wrap64 ((x3_2.size : Int) - 8)) then (if (wrap64 ((x3_2.size : Int) - 8)) ≤ (x3_2.size : Int) then (some (x4_2, t328, t329, t330, t331, x3_2.extract 16 ((wrap64 ((x3_2.size : Int) - 8)) : Int).toNat)) else (none)) else (none)) else (some (4, 0, 0, 0, 0, (⟨#[]⟩ : ByteArray))))) else (some (4, 0, 0, 0, 0, (⟨#[]⟩ : ByteArray)))) else (none)) else (none)) else (some (4, 0, 0, 0, 0, (⟨#[]⟩ : ByteArray)))) = some (r1, r2, r3, r4, r5, r6) := H
                    have A26 := Aside0.mk A260
                    clear A260
                    by_cases c27 : t332 = 0
                    · rw [if_pos c27] at H
                      have c27b0 : (t332 == 0) = true := beq_iff_eq.mpr c27
                      have c27b1 : (t332 != 0) = false := bne_eq_false_iff_eq.mpr c27
                      clear c27
                      obtain ⟨ji28, hji28⟩ : ∃ j_ : Int, (wrap64 ((x3_2.size : Int) - 4)) = j_ := ⟨_, rfl⟩
                      replace H : (if 0 ≤ (ji28) then (if (ji28) ≤ (x3_2.size : Int) then (if (x3_2.extract ((ji28) : Int).toNat x3_2.size).toList = (strOfNums (([0, 0, 0, 0] : List Int))).toList then ((deckleref02_Whole.f k2 (x3_2.extract 0 ((ji28) : Int).toNat)).bind fun t337 => (if t337 = true then (if 16 ≤ (wrap64 ((x3_2.size : Int) - 8)) then (if (wrap64 ((x3_2.size : Int) - 8)) ≤ (x3_2.size : Int) then (some (x4_2, t328, t329, t330, t331, x3_2.extract 16 ((wrap64 ((x3_2.size : Int) - 8)) : Int).toNat)) else (none)) else (none)) else (some (4, 0, 0, 0, 0, (⟨#[]⟩ : ByteArray))))) else (some (4, 0, 0, 0, 0, (⟨#[]⟩ : ByteArray)))) else (none)) else (none)) = some (r1, r2, r3, r4, r5, r6) := by first | (rw [hji28] at H; exact H) | (simp only [hji28] at H ⊢; exact H)
                      (try rw [hji28] at A26)
                      have hji28w : (IntKind.i64.wrap ((x3_2.size : Int) - 4)) = ji28 := (i64_w _).trans hji28
                      by_cases c29 : 0 ≤ (ji28)
                      · rw [if_pos c29] at H
                        have c29b0 := eq_true c29
                        have c29b1 : decide (0 ≤ (ji28)) = true := decide_eq_true c29
                        clear c29
                        by_cases c30 : (ji28) ≤ (x3_2.size : Int)
                        · rw [if_pos c30] at H
                          have c30b0 := eq_true c30
                          have c30b1 : decide ((ji28) ≤ (x3_2.size : Int)) = true := decide_eq_true c30
                          clear c30
                          obtain ⟨y334, hy334⟩ : ∃ y_ : List Int, y_ = (([0, 0, 0, 0] : List Int)) := ⟨_, rfl⟩
                          replace H : (if (x3_2.extract ((ji28) : Int).toNat x3_2.size).toList = (strOfNums y334).toList then ((deckleref02_Whole.f k2 (x3_2.extract 0 ((ji28) : Int).toNat)).bind fun t337 => (if t337 = true then (if 16 ≤ (wrap64 ((x3_2.size : Int) - 8)) then (if (wrap64 ((x3_2.size : Int) - 8)) ≤ (x3_2.size : Int) then (some (x4_2, t328, t329, t330, t331, x3_2.extract 16 ((wrap64 ((x3_2.size : Int) - 8)) : Int).toNat)) else (none)) else (none)) else (some (4, 0, 0, 0, 0, (⟨#[]⟩ : ByteArray))))) else (some (4, 0, 0, 0, 0, (⟨#[]⟩ : ByteArray)))) = some (r1, r2, r3, r4, r5, r6) := by first | (rw [hy334]; with_reducible exact H) | (have H2_ := (Option.bind_some _ _).symm.trans H; rw [hy334]; with_reducible exact H2_) | (have H2_ := (Option.bind_some _ _).symm.trans H; with_reducible exact H2_) | with_reducible exact H | (rw [hy334]; exact H) | exact H
                          have Ny334 := Aside0.mk hy334
                          clear hy334
                          by_cases c31 : (x3_2.extract ((ji28) : Int).toNat x3_2.size).toList = (strOfNums y334).toList
                          · rw [if_pos c31] at H
                            have c31b0 : ((x3_2.extract ((ji28) : Int).toNat x3_2.size).toList == (strOfNums y334).toList) = true := beq_iff_eq.mpr c31
                            have c31b1 : ((x3_2.extract ((ji28) : Int).toNat x3_2.size).toList != (strOfNums y334).toList) = false := bne_eq_false_iff_eq.mpr c31
                            clear c31
                            have c32b0 := eq_true (of_decide_eq_true (by first | (with_reducible assumption) | assumption) : 0 ≤ (ji28))
                            have c33b0 := eq_true (of_decide_eq_true (by first | (with_reducible assumption) | assumption) : (ji28) ≤ (x3_2.size : Int))
                            replace H := Option.bind_eq_some_iff.mp H
                            obtain ⟨t337, A340, H⟩ := H
                            replace H : (if t337 = true then (if 16 ≤ (wrap64 ((x3_2.size : Int) - 8)) then (if (wrap64 ((x3_2.size : Int) - 8)) ≤ (x3_2.size : Int) then (some (x4_2, t328, t329, t330, t331, x3_2.extract 16 ((wrap64 ((x3_2.size : Int) - 8)) : Int).toNat)) else (none)) else (none)) else (some (4, 0, 0, 0, 0, (⟨#[]⟩ : ByteArray)))) = some (r1, r2, r3, r4, r5, r6) := H
                            have A34 := Aside0.mk A340
                            clear A340
                            by_cases c35 : t337 = true
                            · subst c35
                              have H1 : (if 16 ≤ (wrap64 ((x3_2.size : Int) - 8)) then (if (wrap64 ((x3_2.size : Int) - 8)) ≤ (x3_2.size : Int) then (some (x4_2, t328, t329, t330, t331, x3_2.extract 16 ((wrap64 ((x3_2.size : Int) - 8)) : Int).toNat)) else (none)) else (none)) = some (r1, r2, r3, r4, r5, r6) := by rw [if_pos rfl] at H; exact H
                              clear H
                              have H := H1
                              clear H1
                              by_cases c36 : 16 ≤ (wrap64 ((x3_2.size : Int) - 8))
                              · rw [if_pos c36] at H
                                have c36b0 := eq_true c36
                                have c36b1 : decide (16 ≤ (wrap64 ((x3_2.size : Int) - 8))) = true := decide_eq_true c36
                                clear c36
                                by_cases c37 : (wrap64 ((x3_2.size : Int) - 8)) ≤ (x3_2.size : Int)
                                · rw [if_pos c37] at H
                                  have c37b0 := eq_true c37
                                  have c37b1 : decide ((wrap64 ((x3_2.size : Int) - 8)) ≤ (x3_2.size : Int)) = true := decide_eq_true c37
                                  clear c37
                                  simp only [Option.some.injEq, Prod.mk.injEq] at H
                                  obtain ⟨rfl, rfl, rfl, rfl, rfl, rfl⟩ := H
                                  try go_wp2_with (first | ((with_reducible refine gate_callee (f := 36) rfl ?_); refine goesL_ (some 60) rfl rfl Tryd.func36 (by kernel_rfl) rfl #[.string (x3_2.extract 0 16)] rfl (by (try simp only [List.map_toArray, List.map_cons, List.map_nil]); first | done | rfl | (simp only [List.length_drop, List.length_take]; rfl)) ?_; (with_reducible refine (deckleref04_Decode.calls k2 (x3_2.extract 0 16) t328 t329 t330 t331 t332 _ A26.out).mono ?_); rintro e w38 ⟨rfl, hb⟩; refine ⟨_, rfl, ?_⟩; have n0_ := Aside0.mk (blk_below (g := gb323) (o := .cells #[.int .i64 x324000_2, .int .i64 x324001_2, .int .i64 x324002_2, .int .i64 x324003_2, .int .i64 x324004_2, .string x324005_2] 30 (0, 0)) (by (with_reducible repeat (first | refine blk_drewN ?_ _ | refine blk_drew ?_ | refine blk_alloc ?_ _)); exact BK323.out) hb); have n1_ := Aside0.mk (below_step (by repeat (first | (with_reducible first | exact HB.out | apply below_alloc | apply pw_below_drewN | apply below_drew1 | refine below_set ?_ GE323.out) | exact HB.out)) hb); clear BK323; clear HB; have BK323 := n0_; have HB := n1_; clear n0_ n1_; (try clear hb); (try clear hb2); (try clear hk); (try clear hi)) | ((with_reducible refine gate_dst (N := 10) rfl ?_); (try (refine gate_guard (by rfl) ?_; dsimp only)); refine box_event ?hg (N := 10) ?hd (cs := #[.int .i64 0, .int .i64 0, .int .i64 0, .int .i64 0]) (t := 23) ?hr ?_; (case hd => rfl); (case hg => rfl); (case hr => first | (go_simp; done) | (go_simp; rfl)); intro gb333 hg w39 hbox hb; have n0_ := Aside0.mk (blk_below (g := gb323) (o := .cells #[.int .i64 x324000_2, .int .i64 x324001_2, .int .i64 x324002_2, .int .i64 x324003_2, .int .i64 x324004_2, .string x324005_2] 30 (0, 0)) (by (with_reducible repeat (first | refine blk_drewN ?_ _ | refine blk_drew ?_ | refine blk_alloc ?_ _)); exact BK323.out) hb); have n1_ := Aside0.mk (below_step (by repeat (first | (with_reducible first | exact HB.out | apply below_alloc | apply pw_below_drewN | apply below_drew1 | refine below_set ?_ GE323.out) | exact HB.out)) hb); have n2_ := Aside0.mk (hbox); have n3_ := Aside0.mk ((by rw [hg]; exact (below_size (by repeat (first | (with_reducible first | exact HB.out | apply below_alloc | apply pw_below_drewN | apply below_drew1 | refine below_set ?_ GE323.out) | exact HB.out))) : w.heap.size ≤ gb333)); have n4_ := Aside0.mk ((by rw [hg]; exact (below_size (by repeat (first | (with_reducible first | exact HB.out | apply below_alloc | apply pw_below_drewN | apply below_drew1 | refine below_set ?_ GE323.out) | exact HB.out))) : w.heap.size ≤ gb333)); have n5_ := Aside0.mk ((by rw [hg]; exact Nat.ne_of_lt (blk_lt (g := gb323) (o := .cells #[.int .i64 x324000_2, .int .i64 x324001_2, .int .i64 x324002_2, .int .i64 x324003_2, .int .i64 x324004_2, .string x324005_2] 30 (0, 0)) (by (with_reducible repeat (first | refine blk_drewN ?_ _ | refine blk_drew ?_ | refine blk_alloc ?_ _)); exact BK323.out)) : gb323 ≠ gb333)); have n6_ := Aside0.mk ((by rw [hg]; exact Nat.ne_of_gt (blk_lt (g := gb323) (o := .cells #[.int .i64 x324000_2, .int .i64 x324001_2, .int .i64 x324002_2, .int .i64 x324003_2, .int .i64 x324004_2, .string x324005_2] 30 (0, 0)) (by (with_reducible repeat (first | refine blk_drewN ?_ _ | refine blk_drew ?_ | refine blk_alloc ?_ _)); exact BK323.out)) : gb333 ≠ gb323)); clear BK323; clear HB; have BK323 := n0_; have HB := n1_; have BK333 := n2_; have GW333 := n3_; have GE333 := n4_; have NB323_333 := n5_; have NB333_323 := n6_; clear n0_ n1_ n2_ n3_ n4_ n5_ n6_; clear hb hbox hg; have hnb40 := NB333_323.out; have hnc40 := NB323_333.out; have hcz41_0 : w39.cell? ⟨gb333, 0, none⟩ = some (.int .i64 0) := (blk_cell BK333.out 0).trans rfl; have hcz41_1 : w39.cell? ⟨gb333, 1, none⟩ = some (.int .i64 0) := (blk_cell BK333.out 1).trans rfl; have hcz41_2 : w39.cell? ⟨gb333, 2, none⟩ = some (.int .i64 0) := (blk_cell BK333.out 2).trans rfl; have hcz41_3 : w39.cell? ⟨gb333, 3, none⟩ = some (.int .i64 0) := (blk_cell BK333.out 3).trans rfl; have hfz41_0 := blk_frozen BK333.out 0; have hfz41_1 := blk_frozen BK333.out 1; have hfz41_2 := blk_frozen BK333.out 2; have hfz41_3 := blk_frozen BK333.out 3))
                                  have n0_ : Aside0 (((((w39.setCell ⟨gb333, 0, none⟩ (.int .i64 t328)).setCell ⟨gb333, 1, none⟩ (.int .i64 t329)).setCell ⟨gb333, 2, none⟩ (.int .i64 t330)).setCell ⟨gb333, 3, none⟩ (.int .i64 t331)).heap[gb323]? = some (.cells #[.int .i64 x324000_2, .int .i64 x324001_2, .int .i64 x324002_2, .int .i64 x324003_2, .int .i64 x324004_2, .string x324005_2] 30 (0, 0))) := ⟨by (with_reducible repeat (first | refine blk_drewN ?_ _ | refine blk_drew ?_ | refine blk_alloc ?_ _)); refine blk_far ?_ NB323_333.out _; (with_reducible repeat (first | refine blk_drewN ?_ _ | refine blk_drew ?_ | refine blk_alloc ?_ _)); refine blk_far ?_ NB323_333.out _; (with_reducible repeat (first | refine blk_drewN ?_ _ | refine blk_drew ?_ | refine blk_alloc ?_ _)); refine blk_far ?_ NB323_333.out _; (with_reducible repeat (first | refine blk_drewN ?_ _ | refine blk_drew ?_ | refine blk_alloc ?_ _)); refine blk_far ?_ NB323_333.out _; (with_reducible repeat (first | refine blk_drewN ?_ _ | refine blk_drew ?_ | refine blk_alloc ?_ _)); exact BK323.out⟩
                                  have n1_ : Aside0 (((((w39.setCell ⟨gb333, 0, none⟩ (.int .i64 t328)).setCell ⟨gb333, 1, none⟩ (.int .i64 t329)).setCell ⟨gb333, 2, none⟩ (.int .i64 t330)).setCell ⟨gb333, 3, none⟩ (.int .i64 t331)).heap[gb333]? = some (.cells #[.int .i64 t328, .int .i64 t329, .int .i64 t330, .int .i64 t331] 23 (0, 0))) := ⟨by (with_reducible repeat (first | refine blk_drewN ?_ _ | refine blk_drew ?_ | refine blk_alloc ?_ _)); refine blk_put (cs := #[.int .i64 t328, .int .i64 t329, .int .i64 t330, .int .i64 0]) ?_ 3 _ rfl; (with_reducible repeat (first | refine blk_drewN ?_ _ | refine blk_drew ?_ | refine blk_alloc ?_ _)); refine blk_put (cs := #[.int .i64 t328, .int .i64 t329, .int .i64 0, .int .i64 0]) ?_ 2 _ rfl; (with_reducible repeat (first | refine blk_drewN ?_ _ | refine blk_drew ?_ | refine blk_alloc ?_ _)); refine blk_put (cs := #[.int .i64 t328, .int .i64 0, .int .i64 0, .int .i64 0]) ?_ 1 _ rfl; (with_reducible repeat (first | refine blk_drewN ?_ _ | refine blk_drew ?_ | refine blk_alloc ?_ _)); refine blk_put (cs := #[.int .i64 0, .int .i64 0, .int .i64 0, .int .i64 0]) ?_ 0 _ rfl; (with_reducible repeat (first | refine blk_drewN ?_ _ | refine blk_drew ?_ | refine blk_alloc ?_ _)); exact BK333.out⟩
                                  have n2_ : Aside0 (Below w.heap.size w ((((w39.setCell ⟨gb333, 0, none⟩ (.int .i64 t328)).setCell ⟨gb333, 1, none⟩ (.int .i64 t329)).setCell ⟨gb333, 2, none⟩ (.int .i64 t330)).setCell ⟨gb333, 3, none⟩ (.int .i64 t331))) := ⟨by repeat (first | (with_reducible first | exact HB.out | apply below_alloc | apply pw_below_drewN | apply below_drew1 | refine below_set ?_ GE323.out | refine below_set ?_ GE333.out) | exact HB.out)⟩
                                  (try clear BK323)
                                  (try clear BK333)
                                  (try clear HB)
                                  generalize ((((w39.setCell ⟨gb333, 0, none⟩ (.int .i64 t328)).setCell ⟨gb333, 1, none⟩ (.int .i64 t329)).setCell ⟨gb333, 2, none⟩ (.int .i64 t330)).setCell ⟨gb333, 3, none⟩ (.int .i64 t331)) = w42 at n0_ n1_ n2_ ⊢
                                  have BK323 := n0_
                                  have BK333 := n1_
                                  have HB := n2_
                                  clear n0_ n1_ n2_
                                  have n0_ := Aside0.mk (blk_drew BK323.out)
                                  have n1_ := Aside0.mk (blk_drew BK333.out)
                                  have n2_ := Aside0.mk (below_drew1 HB.out)
                                  clear BK323
                                  clear BK333
                                  clear HB
                                  have BK323 := n0_
                                  have BK333 := n1_
                                  have HB := n2_
                                  clear n0_ n1_ n2_
                                  refine start_ (n := 19) (S := fun w' => True) (ds := []) (tfA 0 19) (by kernel_rfl) rfl rfl trivial (fun hHeld => ?_); refine with_tabW deckleref05_Decode.tab18 deckleref05_Decode.bits18 (fun HT_ HW_ => ?_)
                                  generalize w42.drew = w43 at BK323 BK333 HB hHeld ⊢
                                  refine pure_ (i := 0) (N := some 63) (v := ?_) (a' := ?_) (tfA 1 19) rfl rfl (any_of HT_.out (by kernel_rfl)) (fun _ _ _ h => h) (Or.inl ⟨by rfl, ?_⟩) ?_ ?_
                                  rotate_left
                                  · intro w'; go_simp; with_reducible rfl
                                  rotate_left
                                  · simp only [Act.put, sib, sc0, sc1, i64_w, i32_w]; rfl
                                  refine pure_ (i := 1) (N := some 64) (v := ?_) (a' := ?_) (tfA 2 19) rfl rfl (any_of HT_.out (by kernel_rfl)) (fun _ _ _ h => h) (Or.inl ⟨by rfl, ?_⟩) ?_ ?_
                                  rotate_left
                                  · intro w'; go_simp; with_reducible rfl
                                  rotate_left
                                  · simp only [Act.put, sib, sc0, sc1, i64_w, i32_w]; rfl
                                  refine pure_ (i := 2) (N := some 65) (v := ?_) (a' := ?_) (tfA 3 19) rfl rfl (any_of HT_.out (by kernel_rfl)) (fun _ _ _ h => h) (Or.inl ⟨by rfl, ?_⟩) ?_ ?_
                                  rotate_left
                                  · intro w'; go_simp; with_reducible rfl
                                  rotate_left
                                  · simp only [Act.put, sib, sc0, sc1, i64_w, i32_w]; rfl
                                  refine pure_ (i := 3) (N := some 66) (v := ?_) (a' := ?_) (tfA 4 19) rfl rfl (any_of HT_.out (by kernel_rfl)) (fun _ _ _ h => h) (Or.inl ⟨by rfl, ?_⟩) ?_ ?_
                                  rotate_left
                                  · intro w'; go_simp; with_reducible rfl
                                  rotate_left
                                  · simp only [Act.put, sib, sc0, sc1, i64_w, i32_w]; rfl
                                  refine pure_ (i := 4) (N := some 67) (v := ?_) (a' := ?_) (tfA 5 19) rfl rfl (any_of HT_.out (by kernel_rfl)) (fun _ _ _ h => h) (Or.inl ⟨by rfl, ?_⟩) ?_ ?_
                                  rotate_left
                                  · intro w'; go_simp; with_reducible rfl
                                  rotate_left
                                  · simp only [Act.put, sib, sc0, sc1, i64_w, i32_w]; rfl
                                  refine pure_ (i := 5) (N := some 68) (v := ?_) (a' := ?_) (tfA 6 19) rfl rfl (any_of HT_.out (by kernel_rfl)) (fun _ _ _ h => h) (Or.inl ⟨by rfl, ?_⟩) ?_ ?_
                                  rotate_left
                                  · intro w'; go_simp; with_reducible rfl
                                  rotate_left
                                  · simp only [Act.put, sib, sc0, sc1, i64_w, i32_w]; rfl
                                  refine pure_ (i := 6) (N := some 69) (v := ?_) (a' := ?_) (tfA 7 19) rfl rfl (any_of HT_.out (by kernel_rfl)) (fun _ _ _ h => h) (Or.inl ⟨by rfl, ?_⟩) ?_ ?_
                                  rotate_left
                                  · intro w'; go_simp; with_reducible rfl
                                  rotate_left
                                  · simp only [Act.put, sib, sc0, sc1, i64_w, i32_w]; rfl
                                  refine one_ (i := 7) (N := some 70) (tfA 8 19) rfl rfl (one_of HT_.out (by kernel_rfl)) (by decide) (fun K hK => ?_)
                                  refine Kd.R_lit_step (Kd.int .u8) _ 5 ?hg (N := 70) ?hd (xs := ([0, 0, 0, 0] : List Int)) (inner := [.int .u8 0, .int .u8 0, .int .u8 0, .int .u8 0]) (ok := fun _ => True) (okp := fun _ => True) ?hr ?hp (fun _ hk => hk) trivial (Below.refl _ _) (Nat.le_refl _) (by simp) ?_; (case hd => rfl); (case hg => rfl); (case hr => first | (go_simp; done) | (go_simp; rfl)); (case hp => exact (Reps.one (show Kd.M (Kd.int .u8) _ _ _ 0 [.int .u8 0] from rfl) (Reps.one (show Kd.M (Kd.int .u8) _ _ _ 0 [.int .u8 0] from rfl) (Reps.one (show Kd.M (Kd.int .u8) _ _ _ 0 [.int .u8 0] from rfl) (Reps.one (show Kd.M (Kd.int .u8) _ _ _ 0 [.int .u8 0] from rfl) (Reps.none _ _))))))
                                  intro v335 w44 ho45 hb hg_ hnew_
                                  clear hg_ hnew_
                                  (first | rw [← Ny334.out] at ho45 | (simp only [Int.reduceToNat] at ho45; rw [← Ny334.out] at ho45))
                                  have n0_ := Aside0.mk (Kd.R_lower ho45 (below_size (by repeat (first | (with_reducible first | exact HB.out | apply below_alloc | apply pw_below_drewN | apply below_drew1 | refine below_set ?_ GE323.out | refine below_set ?_ GE333.out) | exact HB.out))))
                                  have n1_ := Aside0.mk (blk_below (g := gb323) (o := .cells #[.int .i64 x324000_2, .int .i64 x324001_2, .int .i64 x324002_2, .int .i64 x324003_2, .int .i64 x324004_2, .string x324005_2] 30 (0, 0)) (by (with_reducible repeat (first | refine blk_drewN ?_ _ | refine blk_drew ?_ | refine blk_alloc ?_ _)); exact BK323.out) hb)
                                  have n2_ := Aside0.mk (blk_below (g := gb333) (o := .cells #[.int .i64 t328, .int .i64 t329, .int .i64 t330, .int .i64 t331] 23 (0, 0)) (by (with_reducible repeat (first | refine blk_drewN ?_ _ | refine blk_drew ?_ | refine blk_alloc ?_ _)); exact BK333.out) hb)
                                  have n3_ := Aside0.mk (below_step (by repeat (first | (with_reducible first | exact HB.out | apply below_alloc | apply pw_below_drewN | apply below_drew1 | refine below_set ?_ GE323.out | refine below_set ?_ GE333.out) | exact HB.out)) hb)
                                  clear BK323
                                  clear BK333
                                  clear HB
                                  have HO336 := n0_
                                  have BK323 := n1_
                                  have BK333 := n2_
                                  have HB := n3_
                                  clear n0_ n1_ n2_ n3_
                                  clear hb ho45
                                  refine hK.out _ _ trivial (fun hHeld => ?_)
                                  clear hK K
                                  refine norm_ (a' := ?_) ?_ ?_
                                  rotate_left
                                  · show Act.put _ (some 70) _ = _
                                    simp only [Act.put, sib, sc0, sc1, i64_w, i32_w]
                                    rfl
                                  refine one_ (i := 8) (N := some 71) (tfA 9 19) rfl rfl (one_of HT_.out (by kernel_rfl)) (by decide) (fun K hK => ?_)
                                  have hcv46 := own_string (P := Tryd.prog) Tryd.underlying46 Tryd.underlying5 Tryd.underlying9 (Kd.own_of_R HO336.out)
                                  refine value_ (w1 := ?_) (v := ?_) (by rfl) rfl ?_ ?_
                                  rotate_left 2
                                  · go_simp
                                    constructor
                                    · rfl
                                    · rfl
                                  clear hcv46
                                  refine hK.out _ _ trivial (fun hHeld => ?_)
                                  clear hK K
                                  refine norm_ (a' := ?_) ?_ ?_
                                  rotate_left
                                  · show Act.put _ (some 71) _ = _
                                    simp only [Act.put, sib, sc0, sc1, i64_w, i32_w]
                                    rfl
                                  refine pure_ (i := 9) (N := some 72) (v := ?_) (a' := ?_) (tfA 10 19) rfl rfl (any_of HT_.out (by kernel_rfl)) (fun _ _ _ h => h) (Or.inl ⟨by rfl, ?_⟩) ?_ ?_
                                  rotate_left
                                  · intro w'; go_simp; with_reducible rfl
                                  rotate_left
                                  · simp only [Act.put, sib, sc0, sc1, i64_w, i32_w]; rfl
                                  refine pure_ (i := 10) (N := some 73) (v := ?_) (a' := ?_) (tfA 11 19) rfl rfl (any_of HT_.out (by kernel_rfl)) (fun _ _ _ h => h) (Or.inl ⟨by rfl, ?_⟩) ?_ ?_
                                  rotate_left
                                  · intro w'; go_simp; with_reducible rfl
                                  rotate_left
                                  · simp only [Act.put, sib, sc0, sc1, i64_w, i32_w]; rfl
                                  refine pure_ (i := 11) (N := some 74) (v := ?_) (a' := ?_) (tfA 12 19) rfl rfl (any_of HT_.out (by kernel_rfl)) (fun _ _ _ h => h) (Or.inl ⟨by rfl, ?_⟩) ?_ ?_
                                  rotate_left
                                  · intro w'; go_simp; with_reducible rfl
                                  rotate_left
                                  · simp only [Act.put, sib, sc0, sc1, i64_w, i32_w]; rfl
                                  refine pure_ (i := 12) (N := some 75) (v := ?_) (a' := ?_) (tfA 13 19) rfl rfl (any_of HT_.out (by kernel_rfl)) (fun _ _ _ h => h) (Or.inl ⟨by rfl, ?_⟩) ?_ ?_
                                  rotate_left
                                  · intro w'; go_simp; with_reducible rfl
                                  rotate_left
                                  · simp only [Act.put, sib, sc0, sc1, i64_w, i32_w]; rfl
                                  refine pure_ (i := 13) (N := some 76) (v := ?_) (a' := ?_) (tfA 14 19) rfl rfl (any_of HT_.out (by kernel_rfl)) (fun _ _ _ h => h) (Or.inl ⟨by rfl, ?_⟩) ?_ ?_
                                  rotate_left
                                  · intro w'; go_simp; with_reducible rfl
                                  rotate_left
                                  · simp only [Act.put, sib, sc0, sc1, i64_w, i32_w]; rfl
                                  refine pure_ (i := 14) (N := some 77) (v := ?_) (a' := ?_) (tfA 15 19) rfl rfl (any_of HT_.out (by kernel_rfl)) (fun _ _ _ h => h) (Or.inl ⟨by rfl, ?_⟩) ?_ ?_
                                  rotate_left
                                  · intro w'; go_simp; with_reducible rfl
                                  rotate_left
                                  · simp only [Act.put, sib, sc0, sc1, i64_w, i32_w]; rfl
                                  refine pure_ (i := 15) (N := some 78) (v := ?_) (a' := ?_) (tfA 16 19) rfl rfl (any_of HT_.out (by kernel_rfl)) (fun _ _ _ h => h) (Or.inl ⟨by rfl, ?_⟩) ?_ ?_
                                  rotate_left
                                  · intro w'; go_simp; with_reducible rfl
                                  rotate_left
                                  · simp only [Act.put, sib, sc0, sc1, i64_w, i32_w]; rfl
                                  refine one_ (i := 16) (N := some 79) (tfA 17 19) rfl rfl (one_of HT_.out (by kernel_rfl)) (by decide) (fun K hK => ?_)
                                  refine goes_ Tryd.func37 (by kernel_rfl) rfl #[.string (x3_2.extract 0 ((ji28) : Int).toNat)] (by rfl) rfl rfl (by (try simp only [List.map_toArray, List.map_cons, List.map_nil]); first | done | (simp only [hji28]; rfl) | rfl | (simp only [List.length_drop, List.length_take]; rfl)) ?_
                                  with_reducible refine (deckleref02_Whole.calls k2 (x3_2.extract 0 ((ji28) : Int).toNat) true _ A34.out).mono ?_
                                  rintro e w47 ⟨rfl, hb⟩
                                  refine ⟨_, rfl, ?_⟩
                                  have n0_ := Aside0.mk (Kd.R_below (by (with_reducible repeat (first | apply Kd.R_alloc | apply Kd.R_drewN | apply Kd.R_drew)); exact HO336.out) hb)
                                  have n1_ := Aside0.mk (blk_below (g := gb323) (o := .cells #[.int .i64 x324000_2, .int .i64 x324001_2, .int .i64 x324002_2, .int .i64 x324003_2, .int .i64 x324004_2, .string x324005_2] 30 (0, 0)) (by (with_reducible repeat (first | refine blk_drewN ?_ _ | refine blk_drew ?_ | refine blk_alloc ?_ _)); exact BK323.out) hb)
                                  have n2_ := Aside0.mk (blk_below (g := gb333) (o := .cells #[.int .i64 t328, .int .i64 t329, .int .i64 t330, .int .i64 t331] 23 (0, 0)) (by (with_reducible repeat (first | refine blk_drewN ?_ _ | refine blk_drew ?_ | refine blk_alloc ?_ _)); exact BK333.out) hb)
                                  have n3_ := Aside0.mk (below_step (by repeat (first | (with_reducible first | exact HB.out | apply below_alloc | apply pw_below_drewN | apply below_drew1 | refine below_set ?_ GE323.out | refine below_set ?_ GE333.out) | exact HB.out)) hb)
                                  clear HO336
                                  clear BK323
                                  clear BK333
                                  clear HB
                                  have HO336 := n0_
                                  have BK323 := n1_
                                  have BK333 := n2_
                                  have HB := n3_
                                  clear n0_ n1_ n2_ n3_
                                  (try clear hb)
                                  (try clear hb2)
                                  (try clear hk)
                                  (try clear hi)
                                  refine hK.out _ _ trivial (fun hHeld => ?_)
                                  clear hK K
                                  refine norm_ (a' := ?_) ?_ ?_
                                  rotate_left
                                  · show Act.put _ (some 79) _ = _
                                    simp only [Act.put, sib, sc0, sc1, i64_w, i32_w]
                                    rfl
                                  refine pure_ (i := 17) (N := some 80) (v := ?_) (a' := ?_) (tfA 18 19) rfl rfl (any_of HT_.out (by kernel_rfl)) (fun _ _ _ h => h) (Or.inl ⟨by rfl, ?_⟩) ?_ ?_
                                  rotate_left
                                  · intro w'; go_simp; with_reducible rfl
                                  rotate_left
                                  · simp only [Act.put, sib, sc0, sc1, i64_w, i32_w]; rfl
                                  refine pure_ (i := 18) (N := some 81) (v := ?_) (a' := ?_) (tfA 19 19) rfl rfl (any_of HT_.out (by kernel_rfl)) (fun _ _ _ h => h) (Or.inl ⟨by rfl, ?_⟩) ?_ ?_
                                  rotate_left
                                  · intro w'; go_simp; with_reducible rfl
                                  rotate_left
                                  · simp only [Act.put, sib, sc0, sc1, i64_w, i32_w]; rfl
                                  refine done_ (done_of HT_.out (by kernel_rfl)) ?_
                                  try go_wp2
                                  have n0_ := Aside0.mk (Kd.R_drew HO336.out)
                                  have n1_ := Aside0.mk (blk_drew BK323.out)
                                  have n2_ := Aside0.mk (blk_drew BK333.out)
                                  have n3_ := Aside0.mk (below_drew1 HB.out)
                                  clear HO336
                                  clear BK323
                                  clear BK333
                                  clear HB
                                  have HO336 := n0_
                                  have BK323 := n1_
                                  have BK333 := n2_
                                  have HB := n3_
                                  clear n0_ n1_ n2_ n3_
                                  refine start_ (n := 8) (S := fun w' => w'.cell? ⟨gb333, 0, none⟩ = some (.int .i64 t328) ∧ w'.cell? ⟨gb333, 1, none⟩ = some (.int .i64 t329) ∧ w'.cell? ⟨gb333, 2, none⟩ = some (.int .i64 t330) ∧ w'.cell? ⟨gb333, 3, none⟩ = some (.int .i64 t331)) (ds := []) (tfA 0 8) (by kernel_rfl) rfl rfl ⟨(blk_cell BK333.out 0).trans rfl, (blk_cell BK333.out 1).trans rfl, (blk_cell BK333.out 2).trans rfl, (blk_cell BK333.out 3).trans rfl⟩ (fun hHeld => ?_); refine with_tabW deckleref05_Decode.tab20 deckleref05_Decode.bits20 (fun HT_ HW_ => ?_)
                                  generalize w47.drew = w48 at HO336 BK323 BK333 HB hHeld ⊢
                                  refine pure_ (i := 0) (N := some 83) (v := ?_) (a' := ?_) (tfA 1 8) rfl rfl (any_of HT_.out (by kernel_rfl)) (fun _ _ _ h => h) (Or.inl ⟨by rfl, ?_⟩) ?_ ?_
                                  rotate_left
                                  · intro w'; go_simp; with_reducible rfl
                                  rotate_left
                                  · simp only [Act.put, sib, sc0, sc1, i64_w, i32_w]; rfl
                                  refine pure_ (i := 2) (N := some 85) (v := ?_) (a' := ?_) #[true, false, true, false, false, false, false, false] rfl rfl (any_of HT_.out (by kernel_rfl)) (fun _ _ _ h => h) (Or.inl ⟨by rfl, ?_⟩) ?_ ?_
                                  rotate_left
                                  · intro w'; go_simp; with_reducible rfl
                                  rotate_left
                                  · simp only [Act.put, sib, sc0, sc1, i64_w, i32_w]; rfl
                                  refine pure_ (i := 3) (N := some 86) (v := ?_) (a' := ?_) #[true, false, true, true, false, false, false, false] rfl rfl (any_of HT_.out (by kernel_rfl)) (fun _ _ _ h => h) (Or.inl ⟨by rfl, ?_⟩) ?_ ?_
                                  rotate_left
                                  · intro w'; go_simp; with_reducible rfl
                                  rotate_left
                                  · simp only [Act.put, sib, sc0, sc1, i64_w, i32_w]; rfl
                                  refine pure_ (i := 4) (N := some 87) (v := ?_) (a' := ?_) #[true, false, true, true, true, false, false, false] rfl rfl (any_of HT_.out (by kernel_rfl)) (fun _ _ _ h => h) (Or.inl ⟨by rfl, ?_⟩) ?_ ?_
                                  rotate_left
                                  · intro w'; go_simp; with_reducible rfl
                                  rotate_left
                                  · simp only [Act.put, sib, sc0, sc1, i64_w, i32_w]; rfl
                                  refine pure_ (i := 5) (N := some 88) (v := ?_) (a' := ?_) #[true, false, true, true, true, true, false, false] rfl rfl (any_of HT_.out (by kernel_rfl)) (fun _ _ _ h => h) (Or.inl ⟨by rfl, ?_⟩) ?_ ?_
                                  rotate_left
                                  · intro w'; go_simp; with_reducible rfl
                                  rotate_left
                                  · simp only [Act.put, sib, sc0, sc1, i64_w, i32_w]; rfl
                                  refine take_ (i := 1) (N := some 84) (v := ?_) (a' := ?_) (tfA 6 8) rfl rfl (take_ofW HT_.out HW_.out (by kernel_rfl)) (fun _ _ _ h => h) (Or.inl ⟨by rfl, ?_⟩) hHeld ?_ ?_
                                  rotate_left
                                  · rintro w' ⟨s0, s1, s2, s3⟩
                                    go_simp
                                    with_reducible rfl
                                  rotate_left
                                  · simp only [Act.put, sib, sc0, sc1, i64_w, i32_w]
                                    rfl
                                  refine pure_ (i := 6) (N := some 89) (v := ?_) (a' := ?_) (tfA 7 8) rfl rfl (any_of HT_.out (by kernel_rfl)) (fun _ _ _ h => h) (Or.inl ⟨by rfl, ?_⟩) ?_ ?_
                                  rotate_left
                                  · intro w'; go_simp; with_reducible rfl
                                  rotate_left
                                  · simp only [Act.put, sib, sc0, sc1, i64_w, i32_w]; rfl
                                  refine one_ (i := 7) (N := none) (tfA 8 8) rfl rfl (one_of HT_.out (by kernel_rfl)) (by decide) (fun K hK => ?_)
                                  have hs49 : w48.cell? ⟨gb323, 0, none⟩ = some (.int .i64 x324000_2) := (blk_cell BK323.out 0).trans rfl
                                  have hfs49 := blk_frozen BK323.out 0
                                  have hns49_1 := NB333_323.out
                                  have hms49_1 := NB323_333.out
                                  have hs50 : w48.cell? ⟨gb323, 1, none⟩ = some (.int .i64 x324001_2) := (blk_cell BK323.out 1).trans rfl
                                  have hfs50 := blk_frozen BK323.out 1
                                  have hns50_1 := NB333_323.out
                                  have hms50_1 := NB323_333.out
                                  have hs51 : w48.cell? ⟨gb323, 2, none⟩ = some (.int .i64 x324002_2) := (blk_cell BK323.out 2).trans rfl
                                  have hfs51 := blk_frozen BK323.out 2
                                  have hns51_1 := NB333_323.out
                                  have hms51_1 := NB323_333.out
                                  have hs52 : w48.cell? ⟨gb323, 3, none⟩ = some (.int .i64 x324003_2) := (blk_cell BK323.out 3).trans rfl
                                  have hfs52 := blk_frozen BK323.out 3
                                  have hns52_1 := NB333_323.out
                                  have hms52_1 := NB323_333.out
                                  have hs53 : w48.cell? ⟨gb323, 4, none⟩ = some (.int .i64 x324004_2) := (blk_cell BK323.out 4).trans rfl
                                  have hfs53 := blk_frozen BK323.out 4
                                  have hns53_1 := NB333_323.out
                                  have hms53_1 := NB323_333.out
                                  have hs54 : w48.cell? ⟨gb323, 5, none⟩ = some (.string x324005_2) := (blk_cell BK323.out 5).trans rfl
                                  have hfs54 := blk_frozen BK323.out 5
                                  have hns54_1 := NB333_323.out
                                  have hms54_1 := NB323_333.out
                                  refine skip_ (w1 := ?_) (by rfl) rfl ?_ ?_
                                  rotate_left
                                  · go_simp
                                    rfl
                                  refine hK.out _ _ ⟨((cell_far (p := ⟨gb323, _, none⟩) NB333_323.out _).trans (((cell_far (p := ⟨gb323, _, none⟩) NB333_323.out _).trans (((cell_far (p := ⟨gb323, _, none⟩) NB333_323.out _).trans (((cell_far (p := ⟨gb323, _, none⟩) NB333_323.out _).trans (((cell_far (p := ⟨gb323, _, none⟩) NB333_323.out _).trans (((cell_far (p := ⟨gb323, _, none⟩) NB333_323.out _).trans (hHeld.1)))))))))))), ((cell_far (p := ⟨gb323, _, none⟩) NB333_323.out _).trans (((cell_far (p := ⟨gb323, _, none⟩) NB333_323.out _).trans (((cell_far (p := ⟨gb323, _, none⟩) NB333_323.out _).trans (((cell_far (p := ⟨gb323, _, none⟩) NB333_323.out _).trans (((cell_far (p := ⟨gb323, _, none⟩) NB333_323.out _).trans (((cell_far (p := ⟨gb323, _, none⟩) NB333_323.out _).trans (hHeld.2.1)))))))))))), ((cell_far (p := ⟨gb323, _, none⟩) NB333_323.out _).trans (((cell_far (p := ⟨gb323, _, none⟩) NB333_323.out _).trans (((cell_far (p := ⟨gb323, _, none⟩) NB333_323.out _).trans (((cell_far (p := ⟨gb323, _, none⟩) NB333_323.out _).trans (((cell_far (p := ⟨gb323, _, none⟩) NB333_323.out _).trans (((cell_far (p := ⟨gb323, _, none⟩) NB333_323.out _).trans (hHeld.2.2.1)))))))))))), ((cell_far (p := ⟨gb323, _, none⟩) NB333_323.out _).trans (((cell_far (p := ⟨gb323, _, none⟩) NB333_323.out _).trans (((cell_far (p := ⟨gb323, _, none⟩) NB333_323.out _).trans (((cell_far (p := ⟨gb323, _, none⟩) NB333_323.out _).trans (((cell_far (p := ⟨gb323, _, none⟩) NB333_323.out _).trans (((cell_far (p := ⟨gb323, _, none⟩) NB333_323.out _).trans (hHeld.2.2.2))))))))))))⟩ (fun hHeld => ?_)
                                  clear hK K
                                  refine done_ (done_of HT_.out (by kernel_rfl)) ?_
                                  try go_wp2
                                  refine bodyPost_ret (results_cell_row rfl _ _ gb323 30 #[.int .i64 x4_2, .int .i64 t328, .int .i64 t329, .int .i64 t330, .int .i64 t331, .string (x3_2.extract 16 ((wrap64 ((x3_2.size : Int) - 8)) : Int).toNat)] (0, 0) _ rfl (by (with_reducible repeat (first | refine blk_drewN ?_ _ | refine blk_drew ?_ | refine blk_alloc ?_ _)); refine blk_put (cs := #[.int .i64 x4_2, .int .i64 t328, .int .i64 t329, .int .i64 t330, .int .i64 t331, .string x324005_2]) ?_ 5 _ rfl; (with_reducible repeat (first | refine blk_drewN ?_ _ | refine blk_drew ?_ | refine blk_alloc ?_ _)); refine blk_put (cs := #[.int .i64 x4_2, .int .i64 t328, .int .i64 t329, .int .i64 t330, .int .i64 x324004_2, .string x324005_2]) ?_ 4 _ rfl; (with_reducible repeat (first | refine blk_drewN ?_ _ | refine blk_drew ?_ | refine blk_alloc ?_ _)); refine blk_put (cs := #[.int .i64 x4_2, .int .i64 t328, .int .i64 t329, .int .i64 x324003_2, .int .i64 x324004_2, .string x324005_2]) ?_ 3 _ rfl; (with_reducible repeat (first | refine blk_drewN ?_ _ | refine blk_drew ?_ | refine blk_alloc ?_ _)); refine blk_put (cs := #[.int .i64 x4_2, .int .i64 t328, .int .i64 x324002_2, .int .i64 x324003_2, .int .i64 x324004_2, .string x324005_2]) ?_ 2 _ rfl; (with_reducible repeat (first | refine blk_drewN ?_ _ | refine blk_drew ?_ | refine blk_alloc ?_ _)); refine blk_put (cs := #[.int .i64 x4_2, .int .i64 x324001_2, .int .i64 x324002_2, .int .i64 x324003_2, .int .i64 x324004_2, .string x324005_2]) ?_ 1 _ rfl; (with_reducible repeat (first | refine blk_drewN ?_ _ | refine blk_drew ?_ | refine blk_alloc ?_ _)); refine blk_put (cs := #[.int .i64 x324000_2, .int .i64 x324001_2, .int .i64 x324002_2, .int .i64 x324003_2, .int .i64 x324004_2, .string x324005_2]) ?_ 0 _ rfl; (with_reducible repeat (first | refine blk_drewN ?_ _ | refine blk_drew ?_ | refine blk_alloc ?_ _)); exact BK323.out) Tryd.underlying30 rfl (by kernel_rfl)) rfl ?_
                                  exact ⟨by first | rfl | (simp [errW_none, errW_some] <;> rfl) | (simp only [← hji28]; first | rfl | (simp [errW_none, errW_some] <;> rfl)) | (simp [*, errW_none, errW_some] <;> rfl), by repeat (first | (with_reducible first | exact HB.out | apply below_alloc | apply pw_below_drewN | apply below_drew1 | refine below_set ?_ GE323.out | refine below_set ?_ GE333.out) | exact HB.out)⟩
                                · rw [if_neg c37] at H
                                  exact absurd H (by simp)
                              · rw [if_neg c36] at H
                                exact absurd H (by simp)
                            · replace c35 := Bool.eq_false_iff.mpr c35
                              subst c35
                              have H1 : (some (4, 0, 0, 0, 0, (⟨#[]⟩ : ByteArray))) = some (r1, r2, r3, r4, r5, r6) := by rw [if_neg (show ¬ (false = true) by decide)] at H; exact H
                              clear H
                              have H := H1
                              clear H1
                              simp only [Option.some.injEq, Prod.mk.injEq] at H
                              obtain ⟨rfl, rfl, rfl, rfl, rfl, rfl⟩ := H
                              try go_wp2_with (first | ((with_reducible refine gate_callee (f := 36) rfl ?_); refine goesL_ (some 60) rfl rfl Tryd.func36 (by kernel_rfl) rfl #[.string (x3_2.extract 0 16)] rfl (by (try simp only [List.map_toArray, List.map_cons, List.map_nil]); first | done | rfl | (simp only [List.length_drop, List.length_take]; rfl)) ?_; (with_reducible refine (deckleref04_Decode.calls k2 (x3_2.extract 0 16) t328 t329 t330 t331 t332 _ A26.out).mono ?_); rintro e w55 ⟨rfl, hb⟩; refine ⟨_, rfl, ?_⟩; have n0_ := Aside0.mk (blk_below (g := gb323) (o := .cells #[.int .i64 x324000_2, .int .i64 x324001_2, .int .i64 x324002_2, .int .i64 x324003_2, .int .i64 x324004_2, .string x324005_2] 30 (0, 0)) (by (with_reducible repeat (first | refine blk_drewN ?_ _ | refine blk_drew ?_ | refine blk_alloc ?_ _)); exact BK323.out) hb); have n1_ := Aside0.mk (below_step (by repeat (first | (with_reducible first | exact HB.out | apply below_alloc | apply pw_below_drewN | apply below_drew1 | refine below_set ?_ GE323.out) | exact HB.out)) hb); clear BK323; clear HB; have BK323 := n0_; have HB := n1_; clear n0_ n1_; (try clear hb); (try clear hb2); (try clear hk); (try clear hi)) | ((with_reducible refine gate_dst (N := 10) rfl ?_); (try (refine gate_guard (by rfl) ?_; dsimp only)); refine box_event ?hg (N := 10) ?hd (cs := #[.int .i64 0, .int .i64 0, .int .i64 0, .int .i64 0]) (t := 23) ?hr ?_; (case hd => rfl); (case hg => rfl); (case hr => first | (go_simp; done) | (go_simp; rfl)); intro gb333 hg w56 hbox hb; have n0_ := Aside0.mk (blk_below (g := gb323) (o := .cells #[.int .i64 x324000_2, .int .i64 x324001_2, .int .i64 x324002_2, .int .i64 x324003_2, .int .i64 x324004_2, .string x324005_2] 30 (0, 0)) (by (with_reducible repeat (first | refine blk_drewN ?_ _ | refine blk_drew ?_ | refine blk_alloc ?_ _)); exact BK323.out) hb); have n1_ := Aside0.mk (below_step (by repeat (first | (with_reducible first | exact HB.out | apply below_alloc | apply pw_below_drewN | apply below_drew1 | refine below_set ?_ GE323.out) | exact HB.out)) hb); have n2_ := Aside0.mk (hbox); have n3_ := Aside0.mk ((by rw [hg]; exact (below_size (by repeat (first | (with_reducible first | exact HB.out | apply below_alloc | apply pw_below_drewN | apply below_drew1 | refine below_set ?_ GE323.out) | exact HB.out))) : w.heap.size ≤ gb333)); have n4_ := Aside0.mk ((by rw [hg]; exact (below_size (by repeat (first | (with_reducible first | exact HB.out | apply below_alloc | apply pw_below_drewN | apply below_drew1 | refine below_set ?_ GE323.out) | exact HB.out))) : w.heap.size ≤ gb333)); have n5_ := Aside0.mk ((by rw [hg]; exact Nat.ne_of_lt (blk_lt (g := gb323) (o := .cells #[.int .i64 x324000_2, .int .i64 x324001_2, .int .i64 x324002_2, .int .i64 x324003_2, .int .i64 x324004_2, .string x324005_2] 30 (0, 0)) (by (with_reducible repeat (first | refine blk_drewN ?_ _ | refine blk_drew ?_ | refine blk_alloc ?_ _)); exact BK323.out)) : gb323 ≠ gb333)); have n6_ := Aside0.mk ((by rw [hg]; exact Nat.ne_of_gt (blk_lt (g := gb323) (o := .cells #[.int .i64 x324000_2, .int .i64 x324001_2, .int .i64 x324002_2, .int .i64 x324003_2, .int .i64 x324004_2, .string x324005_2] 30 (0, 0)) (by (with_reducible repeat (first | refine blk_drewN ?_ _ | refine blk_drew ?_ | refine blk_alloc ?_ _)); exact BK323.out)) : gb333 ≠ gb323)); clear BK323; clear HB; have BK323 := n0_; have HB := n1_; have BK333 := n2_; have GW333 := n3_; have GE333 := n4_; have NB323_333 := n5_; have NB333_323 := n6_; clear n0_ n1_ n2_ n3_ n4_ n5_ n6_; clear hb hbox hg; have hnb57 := NB333_323.out; have hnc57 := NB323_333.out; have hcz58_0 : w56.cell? ⟨gb333, 0, none⟩ = some (.int .i64 0) := (blk_cell BK333.out 0).trans rfl; have hcz58_1 : w56.cell? ⟨gb333, 1, none⟩ = some (.int .i64 0) := (blk_cell BK333.out 1).trans rfl; have hcz58_2 : w56.cell? ⟨gb333, 2, none⟩ = some (.int .i64 0) := (blk_cell BK333.out 2).trans rfl; have hcz58_3 : w56.cell? ⟨gb333, 3, none⟩ = some (.int .i64 0) := (blk_cell BK333.out 3).trans rfl; have hfz58_0 := blk_frozen BK333.out 0; have hfz58_1 := blk_frozen BK333.out 1; have hfz58_2 := blk_frozen BK333.out 2; have hfz58_3 := blk_frozen BK333.out 3))
                              have n0_ : Aside0 (((((w56.setCell ⟨gb333, 0, none⟩ (.int .i64 t328)).setCell ⟨gb333, 1, none⟩ (.int .i64 t329)).setCell ⟨gb333, 2, none⟩ (.int .i64 t330)).setCell ⟨gb333, 3, none⟩ (.int .i64 t331)).heap[gb323]? = some (.cells #[.int .i64 x324000_2, .int .i64 x324001_2, .int .i64 x324002_2, .int .i64 x324003_2, .int .i64 x324004_2, .string x324005_2] 30 (0, 0))) := ⟨by (with_reducible repeat (first | refine blk_drewN ?_ _ | refine blk_drew ?_ | refine blk_alloc ?_ _)); refine blk_far ?_ NB323_333.out _; (with_reducible repeat (first | refine blk_drewN ?_ _ | refine blk_drew ?_ | refine blk_alloc ?_ _)); refine blk_far ?_ NB323_333.out _; (with_reducible repeat (first | refine blk_drewN ?_ _ | refine blk_drew ?_ | refine blk_alloc ?_ _)); refine blk_far ?_ NB323_333.out _; (with_reducible repeat (first | refine blk_drewN ?_ _ | refine blk_drew ?_ | refine blk_alloc ?_ _)); refine blk_far ?_ NB323_333.out _; (with_reducible repeat (first | refine blk_drewN ?_ _ | refine blk_drew ?_ | refine blk_alloc ?_ _)); exact BK323.out⟩
                              have n1_ : Aside0 (((((w56.setCell ⟨gb333, 0, none⟩ (.int .i64 t328)).setCell ⟨gb333, 1, none⟩ (.int .i64 t329)).setCell ⟨gb333, 2, none⟩ (.int .i64 t330)).setCell ⟨gb333, 3, none⟩ (.int .i64 t331)).heap[gb333]? = some (.cells #[.int .i64 t328, .int .i64 t329, .int .i64 t330, .int .i64 t331] 23 (0, 0))) := ⟨by (with_reducible repeat (first | refine blk_drewN ?_ _ | refine blk_drew ?_ | refine blk_alloc ?_ _)); refine blk_put (cs := #[.int .i64 t328, .int .i64 t329, .int .i64 t330, .int .i64 0]) ?_ 3 _ rfl; (with_reducible repeat (first | refine blk_drewN ?_ _ | refine blk_drew ?_ | refine blk_alloc ?_ _)); refine blk_put (cs := #[.int .i64 t328, .int .i64 t329, .int .i64 0, .int .i64 0]) ?_ 2 _ rfl; (with_reducible repeat (first | refine blk_drewN ?_ _ | refine blk_drew ?_ | refine blk_alloc ?_ _)); refine blk_put (cs := #[.int .i64 t328, .int .i64 0, .int .i64 0, .int .i64 0]) ?_ 1 _ rfl; (with_reducible repeat (first | refine blk_drewN ?_ _ | refine blk_drew ?_ | refine blk_alloc ?_ _)); refine blk_put (cs := #[.int .i64 0, .int .i64 0, .int .i64 0, .int .i64 0]) ?_ 0 _ rfl; (with_reducible repeat (first | refine blk_drewN ?_ _ | refine blk_drew ?_ | refine blk_alloc ?_ _)); exact BK333.out⟩
                              have n2_ : Aside0 (Below w.heap.size w ((((w56.setCell ⟨gb333, 0, none⟩ (.int .i64 t328)).setCell ⟨gb333, 1, none⟩ (.int .i64 t329)).setCell ⟨gb333, 2, none⟩ (.int .i64 t330)).setCell ⟨gb333, 3, none⟩ (.int .i64 t331))) := ⟨by repeat (first | (with_reducible first | exact HB.out | apply below_alloc | apply pw_below_drewN | apply below_drew1 | refine below_set ?_ GE323.out | refine below_set ?_ GE333.out) | exact HB.out)⟩
                              (try clear BK323)
                              (try clear BK333)
                              (try clear HB)
                              generalize ((((w56.setCell ⟨gb333, 0, none⟩ (.int .i64 t328)).setCell ⟨gb333, 1, none⟩ (.int .i64 t329)).setCell ⟨gb333, 2, none⟩ (.int .i64 t330)).setCell ⟨gb333, 3, none⟩ (.int .i64 t331)) = w59 at n0_ n1_ n2_ ⊢
                              have BK323 := n0_
                              have BK333 := n1_
                              have HB := n2_
                              clear n0_ n1_ n2_
                              have n0_ := Aside0.mk (blk_drew BK323.out)
                              have n1_ := Aside0.mk (blk_drew BK333.out)
                              have n2_ := Aside0.mk (below_drew1 HB.out)
                              clear BK323
                              clear BK333
                              clear HB
                              have BK323 := n0_
                              have BK333 := n1_
                              have HB := n2_
                              clear n0_ n1_ n2_
                              refine start_ (n := 19) (S := fun w' => True) (ds := []) (tfA 0 19) (by kernel_rfl) rfl rfl trivial (fun hHeld => ?_); refine with_tabW deckleref05_Decode.tab18 deckleref05_Decode.bits18 (fun HT_ HW_ => ?_)
                              generalize w59.drew = w60 at BK323 BK333 HB hHeld ⊢
                              refine pure_ (i := 0) (N := some 63) (v := ?_) (a' := ?_) (tfA 1 19) rfl rfl (any_of HT_.out (by kernel_rfl)) (fun _ _ _ h => h) (Or.inl ⟨by rfl, ?_⟩) ?_ ?_
                              rotate_left
                              · intro w'; go_simp; with_reducible rfl
                              rotate_left
                              · simp only [Act.put, sib, sc0, sc1, i64_w, i32_w]; rfl
                              refine pure_ (i := 1) (N := some 64) (v := ?_) (a' := ?_) (tfA 2 19) rfl rfl (any_of HT_.out (by kernel_rfl)) (fun _ _ _ h => h) (Or.inl ⟨by rfl, ?_⟩) ?_ ?_
                              rotate_left
                              · intro w'; go_simp; with_reducible rfl
                              rotate_left
                              · simp only [Act.put, sib, sc0, sc1, i64_w, i32_w]; rfl
                              refine pure_ (i := 2) (N := some 65) (v := ?_) (a' := ?_) (tfA 3 19) rfl rfl (any_of HT_.out (by kernel_rfl)) (fun _ _ _ h => h) (Or.inl ⟨by rfl, ?_⟩) ?_ ?_
                              rotate_left
                              · intro w'; go_simp; with_reducible rfl
                              rotate_left
                              · simp only [Act.put, sib, sc0, sc1, i64_w, i32_w]; rfl
                              refine pure_ (i := 3) (N := some 66) (v := ?_) (a' := ?_) (tfA 4 19) rfl rfl (any_of HT_.out (by kernel_rfl)) (fun _ _ _ h => h) (Or.inl ⟨by rfl, ?_⟩) ?_ ?_
                              rotate_left
                              · intro w'; go_simp; with_reducible rfl
                              rotate_left
                              · simp only [Act.put, sib, sc0, sc1, i64_w, i32_w]; rfl
                              refine pure_ (i := 4) (N := some 67) (v := ?_) (a' := ?_) (tfA 5 19) rfl rfl (any_of HT_.out (by kernel_rfl)) (fun _ _ _ h => h) (Or.inl ⟨by rfl, ?_⟩) ?_ ?_
                              rotate_left
                              · intro w'; go_simp; with_reducible rfl
                              rotate_left
                              · simp only [Act.put, sib, sc0, sc1, i64_w, i32_w]; rfl
                              refine pure_ (i := 5) (N := some 68) (v := ?_) (a' := ?_) (tfA 6 19) rfl rfl (any_of HT_.out (by kernel_rfl)) (fun _ _ _ h => h) (Or.inl ⟨by rfl, ?_⟩) ?_ ?_
                              rotate_left
                              · intro w'; go_simp; with_reducible rfl
                              rotate_left
                              · simp only [Act.put, sib, sc0, sc1, i64_w, i32_w]; rfl
                              refine pure_ (i := 6) (N := some 69) (v := ?_) (a' := ?_) (tfA 7 19) rfl rfl (any_of HT_.out (by kernel_rfl)) (fun _ _ _ h => h) (Or.inl ⟨by rfl, ?_⟩) ?_ ?_
                              rotate_left
                              · intro w'; go_simp; with_reducible rfl
                              rotate_left
                              · simp only [Act.put, sib, sc0, sc1, i64_w, i32_w]; rfl
                              refine one_ (i := 7) (N := some 70) (tfA 8 19) rfl rfl (one_of HT_.out (by kernel_rfl)) (by decide) (fun K hK => ?_)
                              refine Kd.R_lit_step (Kd.int .u8) _ 5 ?hg (N := 70) ?hd (xs := ([0, 0, 0, 0] : List Int)) (inner := [.int .u8 0, .int .u8 0, .int .u8 0, .int .u8 0]) (ok := fun _ => True) (okp := fun _ => True) ?hr ?hp (fun _ hk => hk) trivial (Below.refl _ _) (Nat.le_refl _) (by simp) ?_; (case hd => rfl); (case hg => rfl); (case hr => first | (go_simp; done) | (go_simp; rfl)); (case hp => exact (Reps.one (show Kd.M (Kd.int .u8) _ _ _ 0 [.int .u8 0] from rfl) (Reps.one (show Kd.M (Kd.int .u8) _ _ _ 0 [.int .u8 0] from rfl) (Reps.one (show Kd.M (Kd.int .u8) _ _ _ 0 [.int .u8 0] from rfl) (Reps.one (show Kd.M (Kd.int .u8) _ _ _ 0 [.int .u8 0] from rfl) (Reps.none _ _))))))
                              intro v335 w61 ho62 hb hg_ hnew_
                              clear hg_ hnew_
                              (first | rw [← Ny334.out] at ho62 | (simp only [Int.reduceToNat] at ho62; rw [← Ny334.out] at ho62))
                              have n0_ := Aside0.mk (Kd.R_lower ho62 (below_size (by repeat (first | (with_reducible first | exact HB.out | apply below_alloc | apply pw_below_drewN | apply below_drew1 | refine below_set ?_ GE323.out | refine below_set ?_ GE333.out) | exact HB.out))))
                              have n1_ := Aside0.mk (blk_below (g := gb323) (o := .cells #[.int .i64 x324000_2, .int .i64 x324001_2, .int .i64 x324002_2, .int .i64 x324003_2, .int .i64 x324004_2, .string x324005_2] 30 (0, 0)) (by (with_reducible repeat (first | refine blk_drewN ?_ _ | refine blk_drew ?_ | refine blk_alloc ?_ _)); exact BK323.out) hb)
                              have n2_ := Aside0.mk (blk_below (g := gb333) (o := .cells #[.int .i64 t328, .int .i64 t329, .int .i64 t330, .int .i64 t331] 23 (0, 0)) (by (with_reducible repeat (first | refine blk_drewN ?_ _ | refine blk_drew ?_ | refine blk_alloc ?_ _)); exact BK333.out) hb)
                              have n3_ := Aside0.mk (below_step (by repeat (first | (with_reducible first | exact HB.out | apply below_alloc | apply pw_below_drewN | apply below_drew1 | refine below_set ?_ GE323.out | refine below_set ?_ GE333.out) | exact HB.out)) hb)
                              clear BK323
                              clear BK333
                              clear HB
                              have HO336 := n0_
                              have BK323 := n1_
                              have BK333 := n2_
                              have HB := n3_
                              clear n0_ n1_ n2_ n3_
                              clear hb ho62
                              refine hK.out _ _ trivial (fun hHeld => ?_)
                              clear hK K
                              refine norm_ (a' := ?_) ?_ ?_
                              rotate_left
                              · show Act.put _ (some 70) _ = _
                                simp only [Act.put, sib, sc0, sc1, i64_w, i32_w]
                                rfl
                              refine one_ (i := 8) (N := some 71) (tfA 9 19) rfl rfl (one_of HT_.out (by kernel_rfl)) (by decide) (fun K hK => ?_)
                              have hcv63 := own_string (P := Tryd.prog) Tryd.underlying46 Tryd.underlying5 Tryd.underlying9 (Kd.own_of_R HO336.out)
                              refine value_ (w1 := ?_) (v := ?_) (by rfl) rfl ?_ ?_
                              rotate_left 2
                              · go_simp
                                constructor
                                · rfl
                                · rfl
                              clear hcv63
                              refine hK.out _ _ trivial (fun hHeld => ?_)
                              clear hK K
                              refine norm_ (a' := ?_) ?_ ?_
                              rotate_left
                              · show Act.put _ (some 71) _ = _
                                simp only [Act.put, sib, sc0, sc1, i64_w, i32_w]
                                rfl
                              refine pure_ (i := 9) (N := some 72) (v := ?_) (a' := ?_) (tfA 10 19) rfl rfl (any_of HT_.out (by kernel_rfl)) (fun _ _ _ h => h) (Or.inl ⟨by rfl, ?_⟩) ?_ ?_
                              rotate_left
                              · intro w'; go_simp; with_reducible rfl
                              rotate_left
                              · simp only [Act.put, sib, sc0, sc1, i64_w, i32_w]; rfl
                              refine pure_ (i := 10) (N := some 73) (v := ?_) (a' := ?_) (tfA 11 19) rfl rfl (any_of HT_.out (by kernel_rfl)) (fun _ _ _ h => h) (Or.inl ⟨by rfl, ?_⟩) ?_ ?_
                              rotate_left
                              · intro w'; go_simp; with_reducible rfl
                              rotate_left
                              · simp only [Act.put, sib, sc0, sc1, i64_w, i32_w]; rfl
                              refine pure_ (i := 11) (N := some 74) (v := ?_) (a' := ?_) (tfA 12 19) rfl rfl (any_of HT_.out (by kernel_rfl)) (fun _ _ _ h => h) (Or.inl ⟨by rfl, ?_⟩) ?_ ?_
                              rotate_left
                              · intro w'; go_simp; with_reducible rfl
                              rotate_left
                              · simp only [Act.put, sib, sc0, sc1, i64_w, i32_w]; rfl
                              refine pure_ (i := 12) (N := some 75) (v := ?_) (a' := ?_) (tfA 13 19) rfl rfl (any_of HT_.out (by kernel_rfl)) (fun _ _ _ h => h) (Or.inl ⟨by rfl, ?_⟩) ?_ ?_
                              rotate_left
                              · intro w'; go_simp; with_reducible rfl
                              rotate_left
                              · simp only [Act.put, sib, sc0, sc1, i64_w, i32_w]; rfl
                              refine pure_ (i := 13) (N := some 76) (v := ?_) (a' := ?_) (tfA 14 19) rfl rfl (any_of HT_.out (by kernel_rfl)) (fun _ _ _ h => h) (Or.inl ⟨by rfl, ?_⟩) ?_ ?_
                              rotate_left
                              · intro w'; go_simp; with_reducible rfl
                              rotate_left
                              · simp only [Act.put, sib, sc0, sc1, i64_w, i32_w]; rfl
                              refine pure_ (i := 14) (N := some 77) (v := ?_) (a' := ?_) (tfA 15 19) rfl rfl (any_of HT_.out (by kernel_rfl)) (fun _ _ _ h => h) (Or.inl ⟨by rfl, ?_⟩) ?_ ?_
                              rotate_left
                              · intro w'; go_simp; with_reducible rfl
                              rotate_left
                              · simp only [Act.put, sib, sc0, sc1, i64_w, i32_w]; rfl
                              refine pure_ (i := 15) (N := some 78) (v := ?_) (a' := ?_) (tfA 16 19) rfl rfl (any_of HT_.out (by kernel_rfl)) (fun _ _ _ h => h) (Or.inl ⟨by rfl, ?_⟩) ?_ ?_
                              rotate_left
                              · intro w'; go_simp; with_reducible rfl
                              rotate_left
                              · simp only [Act.put, sib, sc0, sc1, i64_w, i32_w]; rfl
                              refine one_ (i := 16) (N := some 79) (tfA 17 19) rfl rfl (one_of HT_.out (by kernel_rfl)) (by decide) (fun K hK => ?_)
                              refine goes_ Tryd.func37 (by kernel_rfl) rfl #[.string (x3_2.extract 0 ((ji28) : Int).toNat)] (by rfl) rfl rfl (by (try simp only [List.map_toArray, List.map_cons, List.map_nil]); first | done | (simp only [hji28]; rfl) | rfl | (simp only [List.length_drop, List.length_take]; rfl)) ?_
                              with_reducible refine (deckleref02_Whole.calls k2 (x3_2.extract 0 ((ji28) : Int).toNat) false _ A34.out).mono ?_
                              rintro e w64 ⟨rfl, hb⟩
                              refine ⟨_, rfl, ?_⟩
                              have n0_ := Aside0.mk (Kd.R_below (by (with_reducible repeat (first | apply Kd.R_alloc | apply Kd.R_drewN | apply Kd.R_drew)); exact HO336.out) hb)
                              have n1_ := Aside0.mk (blk_below (g := gb323) (o := .cells #[.int .i64 x324000_2, .int .i64 x324001_2, .int .i64 x324002_2, .int .i64 x324003_2, .int .i64 x324004_2, .string x324005_2] 30 (0, 0)) (by (with_reducible repeat (first | refine blk_drewN ?_ _ | refine blk_drew ?_ | refine blk_alloc ?_ _)); exact BK323.out) hb)
                              have n2_ := Aside0.mk (blk_below (g := gb333) (o := .cells #[.int .i64 t328, .int .i64 t329, .int .i64 t330, .int .i64 t331] 23 (0, 0)) (by (with_reducible repeat (first | refine blk_drewN ?_ _ | refine blk_drew ?_ | refine blk_alloc ?_ _)); exact BK333.out) hb)
                              have n3_ := Aside0.mk (below_step (by repeat (first | (with_reducible first | exact HB.out | apply below_alloc | apply pw_below_drewN | apply below_drew1 | refine below_set ?_ GE323.out | refine below_set ?_ GE333.out) | exact HB.out)) hb)
                              clear HO336
                              clear BK323
                              clear BK333
                              clear HB
                              have HO336 := n0_
                              have BK323 := n1_
                              have BK333 := n2_
                              have HB := n3_
                              clear n0_ n1_ n2_ n3_
                              (try clear hb)
                              (try clear hb2)
                              (try clear hk)
                              (try clear hi)
                              refine hK.out _ _ trivial (fun hHeld => ?_)
                              clear hK K
                              refine norm_ (a' := ?_) ?_ ?_
                              rotate_left
                              · show Act.put _ (some 79) _ = _
                                simp only [Act.put, sib, sc0, sc1, i64_w, i32_w]
                                rfl
                              refine pure_ (i := 17) (N := some 80) (v := ?_) (a' := ?_) (tfA 18 19) rfl rfl (any_of HT_.out (by kernel_rfl)) (fun _ _ _ h => h) (Or.inl ⟨by rfl, ?_⟩) ?_ ?_
                              rotate_left
                              · intro w'; go_simp; with_reducible rfl
                              rotate_left
                              · simp only [Act.put, sib, sc0, sc1, i64_w, i32_w]; rfl
                              refine pure_ (i := 18) (N := some 81) (v := ?_) (a' := ?_) (tfA 19 19) rfl rfl (any_of HT_.out (by kernel_rfl)) (fun _ _ _ h => h) (Or.inl ⟨by rfl, ?_⟩) ?_ ?_
                              rotate_left
                              · intro w'; go_simp; with_reducible rfl
                              rotate_left
                              · simp only [Act.put, sib, sc0, sc1, i64_w, i32_w]; rfl
                              refine done_ (done_of HT_.out (by kernel_rfl)) ?_
                              have hcz65_0 : w64.cell? ⟨gb323, 0, none⟩ = some (.int .i64 x324000_2) := (blk_cell BK323.out 0).trans rfl
                              have hcz65_1 : w64.cell? ⟨gb323, 1, none⟩ = some (.int .i64 x324001_2) := (blk_cell BK323.out 1).trans rfl
                              have hcz65_2 : w64.cell? ⟨gb323, 2, none⟩ = some (.int .i64 x324002_2) := (blk_cell BK323.out 2).trans rfl
                              have hcz65_3 : w64.cell? ⟨gb323, 3, none⟩ = some (.int .i64 x324003_2) := (blk_cell BK323.out 3).trans rfl
                              have hcz65_4 : w64.cell? ⟨gb323, 4, none⟩ = some (.int .i64 x324004_2) := (blk_cell BK323.out 4).trans rfl
                              have hcz65_5 : w64.cell? ⟨gb323, 5, none⟩ = some (.string x324005_2) := (blk_cell BK323.out 5).trans rfl
                              have hfz65_0 := blk_frozen BK323.out 0
                              have hfz65_1 := blk_frozen BK323.out 1
                              have hfz65_2 := blk_frozen BK323.out 2
                              have hfz65_3 := blk_frozen BK323.out 3
                              have hfz65_4 := blk_frozen BK323.out 4
                              have hfz65_5 := blk_frozen BK323.out 5
                              try go_wp2
                              refine bodyPost_ret (results_cell_row rfl _ _ gb323 30 #[.int .i64 4, .int .i64 0, .int .i64 0, .int .i64 0, .int .i64 0, .string (⟨#[]⟩ : ByteArray)] (0, 0) _ rfl (by (with_reducible repeat (first | refine blk_drewN ?_ _ | refine blk_drew ?_ | refine blk_alloc ?_ _)); refine blk_put (cs := #[.int .i64 4, .int .i64 0, .int .i64 0, .int .i64 0, .int .i64 0, .string x324005_2]) ?_ 5 _ rfl; (with_reducible repeat (first | refine blk_drewN ?_ _ | refine blk_drew ?_ | refine blk_alloc ?_ _)); refine blk_put (cs := #[.int .i64 4, .int .i64 0, .int .i64 0, .int .i64 0, .int .i64 x324004_2, .string x324005_2]) ?_ 4 _ rfl; (with_reducible repeat (first | refine blk_drewN ?_ _ | refine blk_drew ?_ | refine blk_alloc ?_ _)); refine blk_put (cs := #[.int .i64 4, .int .i64 0, .int .i64 0, .int .i64 x324003_2, .int .i64 x324004_2, .string x324005_2]) ?_ 3 _ rfl; (with_reducible repeat (first | refine blk_drewN ?_ _ | refine blk_drew ?_ | refine blk_alloc ?_ _)); refine blk_put (cs := #[.int .i64 4, .int .i64 0, .int .i64 x324002_2, .int .i64 x324003_2, .int .i64 x324004_2, .string x324005_2]) ?_ 2 _ rfl; (with_reducible repeat (first | refine blk_drewN ?_ _ | refine blk_drew ?_ | refine blk_alloc ?_ _)); refine blk_put (cs := #[.int .i64 4, .int .i64 x324001_2, .int .i64 x324002_2, .int .i64 x324003_2, .int .i64 x324004_2, .string x324005_2]) ?_ 1 _ rfl; (with_reducible repeat (first | refine blk_drewN ?_ _ | refine blk_drew ?_ | refine blk_alloc ?_ _)); refine blk_put (cs := #[.int .i64 x324000_2, .int .i64 x324001_2, .int .i64 x324002_2, .int .i64 x324003_2, .int .i64 x324004_2, .string x324005_2]) ?_ 0 _ rfl; (with_reducible repeat (first | refine blk_drewN ?_ _ | refine blk_drew ?_ | refine blk_alloc ?_ _)); exact BK323.out) Tryd.underlying30 rfl (by kernel_rfl)) rfl ?_
                              exact ⟨by first | rfl | (simp [errW_none, errW_some] <;> rfl) | (simp only [← hji28]; first | rfl | (simp [errW_none, errW_some] <;> rfl)) | (simp [*, errW_none, errW_some] <;> rfl), by repeat (first | (with_reducible first | exact HB.out | apply below_alloc | apply pw_below_drewN | apply below_drew1 | refine below_set ?_ GE323.out | refine below_set ?_ GE333.out) | exact HB.out)⟩
                          · rw [if_neg c31] at H
                            have c31b0 : ((x3_2.extract ((ji28) : Int).toNat x3_2.size).toList == (strOfNums y334).toList) = false := beq_eq_false_iff_ne.mpr c31
                            have c31b1 : ((x3_2.extract ((ji28) : Int).toNat x3_2.size).toList != (strOfNums y334).toList) = true := bne_iff_ne.mpr c31
                            simp only [Option.some.injEq, Prod.mk.injEq] at H
                            obtain ⟨rfl, rfl, rfl, rfl, rfl, rfl⟩ := H
                            try go_wp2_with (first | ((with_reducible refine gate_callee (f := 36) rfl ?_); refine goesL_ (some 60) rfl rfl Tryd.func36 (by kernel_rfl) rfl #[.string (x3_2.extract 0 16)] rfl (by (try simp only [List.map_toArray, List.map_cons, List.map_nil]); first | done | rfl | (simp only [List.length_drop, List.length_take]; rfl)) ?_; (with_reducible refine (deckleref04_Decode.calls k2 (x3_2.extract 0 16) t328 t329 t330 t331 t332 _ A26.out).mono ?_); rintro e w66 ⟨rfl, hb⟩; refine ⟨_, rfl, ?_⟩; have n0_ := Aside0.mk (blk_below (g := gb323) (o := .cells #[.int .i64 x324000_2, .int .i64 x324001_2, .int .i64 x324002_2, .int .i64 x324003_2, .int .i64 x324004_2, .string x324005_2] 30 (0, 0)) (by (with_reducible repeat (first | refine blk_drewN ?_ _ | refine blk_drew ?_ | refine blk_alloc ?_ _)); exact BK323.out) hb); have n1_ := Aside0.mk (below_step (by repeat (first | (with_reducible first | exact HB.out | apply below_alloc | apply pw_below_drewN | apply below_drew1 | refine below_set ?_ GE323.out) | exact HB.out)) hb); clear BK323; clear HB; have BK323 := n0_; have HB := n1_; clear n0_ n1_; (try clear hb); (try clear hb2); (try clear hk); (try clear hi)) | ((with_reducible refine gate_dst (N := 10) rfl ?_); (try (refine gate_guard (by rfl) ?_; dsimp only)); refine box_event ?hg (N := 10) ?hd (cs := #[.int .i64 0, .int .i64 0, .int .i64 0, .int .i64 0]) (t := 23) ?hr ?_; (case hd => rfl); (case hg => rfl); (case hr => first | (go_simp; done) | (go_simp; rfl)); intro gb333 hg w67 hbox hb; have n0_ := Aside0.mk (blk_below (g := gb323) (o := .cells #[.int .i64 x324000_2, .int .i64 x324001_2, .int .i64 x324002_2, .int .i64 x324003_2, .int .i64 x324004_2, .string x324005_2] 30 (0, 0)) (by (with_reducible repeat (first | refine blk_drewN ?_ _ | refine blk_drew ?_ | refine blk_alloc ?_ _)); exact BK323.out) hb); have n1_ := Aside0.mk (below_step (by repeat (first | (with_reducible first | exact HB.out | apply below_alloc | apply pw_below_drewN | apply below_drew1 | refine below_set ?_ GE323.out) | exact HB.out)) hb); have n2_ := Aside0.mk (hbox); have n3_ := Aside0.mk ((by rw [hg]; exact (below_size (by repeat (first | (with_reducible first | exact HB.out | apply below_alloc | apply pw_below_drewN | apply below_drew1 | refine below_set ?_ GE323.out) | exact HB.out))) : w.heap.size ≤ gb333)); have n4_ := Aside0.mk ((by rw [hg]; exact (below_size (by repeat (first | (with_reducible first | exact HB.out | apply below_alloc | apply pw_below_drewN | apply below_drew1 | refine below_set ?_ GE323.out) | exact HB.out))) : w.heap.size ≤ gb333)); have n5_ := Aside0.mk ((by rw [hg]; exact Nat.ne_of_lt (blk_lt (g := gb323) (o := .cells #[.int .i64 x324000_2, .int .i64 x324001_2, .int .i64 x324002_2, .int .i64 x324003_2, .int .i64 x324004_2, .string x324005_2] 30 (0, 0)) (by (with_reducible repeat (first | refine blk_drewN ?_ _ | refine blk_drew ?_ | refine blk_alloc ?_ _)); exact BK323.out)) : gb323 ≠ gb333)); have n6_ := Aside0.mk ((by rw [hg]; exact Nat.ne_of_gt (blk_lt (g := gb323) (o := .cells #[.int .i64 x324000_2, .int .i64 x324001_2, .int .i64 x324002_2, .int .i64 x324003_2, .int .i64 x324004_2, .string x324005_2] 30 (0, 0)) (by (with_reducible repeat (first | refine blk_drewN ?_ _ | refine blk_drew ?_ | refine blk_alloc ?_ _)); exact BK323.out)) : gb333 ≠ gb323)); clear BK323; clear HB; have BK323 := n0_; have HB := n1_; have BK333 := n2_; have GW333 := n3_; have GE333 := n4_; have NB323_333 := n5_; have NB333_323 := n6_; clear n0_ n1_ n2_ n3_ n4_ n5_ n6_; clear hb hbox hg; have hnb68 := NB333_323.out; have hnc68 := NB323_333.out; have hcz69_0 : w67.cell? ⟨gb333, 0, none⟩ = some (.int .i64 0) := (blk_cell BK333.out 0).trans rfl; have hcz69_1 : w67.cell? ⟨gb333, 1, none⟩ = some (.int .i64 0) := (blk_cell BK333.out 1).trans rfl; have hcz69_2 : w67.cell? ⟨gb333, 2, none⟩ = some (.int .i64 0) := (blk_cell BK333.out 2).trans rfl; have hcz69_3 : w67.cell? ⟨gb333, 3, none⟩ = some (.int .i64 0) := (blk_cell BK333.out 3).trans rfl; have hfz69_0 := blk_frozen BK333.out 0; have hfz69_1 := blk_frozen BK333.out 1; have hfz69_2 := blk_frozen BK333.out 2; have hfz69_3 := blk_frozen BK333.out 3))
                            have n0_ : Aside0 (((((w67.setCell ⟨gb333, 0, none⟩ (.int .i64 t328)).setCell ⟨gb333, 1, none⟩ (.int .i64 t329)).setCell ⟨gb333, 2, none⟩ (.int .i64 t330)).setCell ⟨gb333, 3, none⟩ (.int .i64 t331)).heap[gb323]? = some (.cells #[.int .i64 x324000_2, .int .i64 x324001_2, .int .i64 x324002_2, .int .i64 x324003_2, .int .i64 x324004_2, .string x324005_2] 30 (0, 0))) := ⟨by (with_reducible repeat (first | refine blk_drewN ?_ _ | refine blk_drew ?_ | refine blk_alloc ?_ _)); refine blk_far ?_ NB323_333.out _; (with_reducible repeat (first | refine blk_drewN ?_ _ | refine blk_drew ?_ | refine blk_alloc ?_ _)); refine blk_far ?_ NB323_333.out _; (with_reducible repeat (first | refine blk_drewN ?_ _ | refine blk_drew ?_ | refine blk_alloc ?_ _)); refine blk_far ?_ NB323_333.out _; (with_reducible repeat (first | refine blk_drewN ?_ _ | refine blk_drew ?_ | refine blk_alloc ?_ _)); refine blk_far ?_ NB323_333.out _; (with_reducible repeat (first | refine blk_drewN ?_ _ | refine blk_drew ?_ | refine blk_alloc ?_ _)); exact BK323.out⟩
                            have n1_ : Aside0 (((((w67.setCell ⟨gb333, 0, none⟩ (.int .i64 t328)).setCell ⟨gb333, 1, none⟩ (.int .i64 t329)).setCell ⟨gb333, 2, none⟩ (.int .i64 t330)).setCell ⟨gb333, 3, none⟩ (.int .i64 t331)).heap[gb333]? = some (.cells #[.int .i64 t328, .int .i64 t329, .int .i64 t330, .int .i64 t331] 23 (0, 0))) := ⟨by (with_reducible repeat (first | refine blk_drewN ?_ _ | refine blk_drew ?_ | refine blk_alloc ?_ _)); refine blk_put (cs := #[.int .i64 t328, .int .i64 t329, .int .i64 t330, .int .i64 0]) ?_ 3 _ rfl; (with_reducible repeat (first | refine blk_drewN ?_ _ | refine blk_drew ?_ | refine blk_alloc ?_ _)); refine blk_put (cs := #[.int .i64 t328, .int .i64 t329, .int .i64 0, .int .i64 0]) ?_ 2 _ rfl; (with_reducible repeat (first | refine blk_drewN ?_ _ | refine blk_drew ?_ | refine blk_alloc ?_ _)); refine blk_put (cs := #[.int .i64 t328, .int .i64 0, .int .i64 0, .int .i64 0]) ?_ 1 _ rfl; (with_reducible repeat (first | refine blk_drewN ?_ _ | refine blk_drew ?_ | refine blk_alloc ?_ _)); refine blk_put (cs := #[.int .i64 0, .int .i64 0, .int .i64 0, .int .i64 0]) ?_ 0 _ rfl; (with_reducible repeat (first | refine blk_drewN ?_ _ | refine blk_drew ?_ | refine blk_alloc ?_ _)); exact BK333.out⟩
                            have n2_ : Aside0 (Below w.heap.size w ((((w67.setCell ⟨gb333, 0, none⟩ (.int .i64 t328)).setCell ⟨gb333, 1, none⟩ (.int .i64 t329)).setCell ⟨gb333, 2, none⟩ (.int .i64 t330)).setCell ⟨gb333, 3, none⟩ (.int .i64 t331))) := ⟨by repeat (first | (with_reducible first | exact HB.out | apply below_alloc | apply pw_below_drewN | apply below_drew1 | refine below_set ?_ GE323.out | refine below_set ?_ GE333.out) | exact HB.out)⟩
                            (try clear BK323)
                            (try clear BK333)
                            (try clear HB)
                            generalize ((((w67.setCell ⟨gb333, 0, none⟩ (.int .i64 t328)).setCell ⟨gb333, 1, none⟩ (.int .i64 t329)).setCell ⟨gb333, 2, none⟩ (.int .i64 t330)).setCell ⟨gb333, 3, none⟩ (.int .i64 t331)) = w70 at n0_ n1_ n2_ ⊢
                            have BK323 := n0_
                            have BK333 := n1_
                            have HB := n2_
                            clear n0_ n1_ n2_
                            have n0_ := Aside0.mk (blk_drew BK323.out)
                            have n1_ := Aside0.mk (blk_drew BK333.out)
                            have n2_ := Aside0.mk (below_drew1 HB.out)
                            clear BK323
                            clear BK333
                            clear HB
                            have BK323 := n0_
                            have BK333 := n1_
                            have HB := n2_
                            clear n0_ n1_ n2_
                            refine start_ (n := 19) (S := fun w' => True) (ds := []) (tfA 0 19) (by kernel_rfl) rfl rfl trivial (fun hHeld => ?_); refine with_tabW deckleref05_Decode.tab18 deckleref05_Decode.bits18 (fun HT_ HW_ => ?_)
                            generalize w70.drew = w71 at BK323 BK333 HB hHeld ⊢
                            refine pure_ (i := 0) (N := some 63) (v := ?_) (a' := ?_) (tfA 1 19) rfl rfl (any_of HT_.out (by kernel_rfl)) (fun _ _ _ h => h) (Or.inl ⟨by rfl, ?_⟩) ?_ ?_
                            rotate_left
                            · intro w'; go_simp; with_reducible rfl
                            rotate_left
                            · simp only [Act.put, sib, sc0, sc1, i64_w, i32_w]; rfl
                            refine pure_ (i := 1) (N := some 64) (v := ?_) (a' := ?_) (tfA 2 19) rfl rfl (any_of HT_.out (by kernel_rfl)) (fun _ _ _ h => h) (Or.inl ⟨by rfl, ?_⟩) ?_ ?_
                            rotate_left
                            · intro w'; go_simp; with_reducible rfl
                            rotate_left
                            · simp only [Act.put, sib, sc0, sc1, i64_w, i32_w]; rfl
                            refine pure_ (i := 2) (N := some 65) (v := ?_) (a' := ?_) (tfA 3 19) rfl rfl (any_of HT_.out (by kernel_rfl)) (fun _ _ _ h => h) (Or.inl ⟨by rfl, ?_⟩) ?_ ?_
                            rotate_left
                            · intro w'; go_simp; with_reducible rfl
                            rotate_left
                            · simp only [Act.put, sib, sc0, sc1, i64_w, i32_w]; rfl
                            refine pure_ (i := 3) (N := some 66) (v := ?_) (a' := ?_) (tfA 4 19) rfl rfl (any_of HT_.out (by kernel_rfl)) (fun _ _ _ h => h) (Or.inl ⟨by rfl, ?_⟩) ?_ ?_
                            rotate_left
                            · intro w'; go_simp; with_reducible rfl
                            rotate_left
                            · simp only [Act.put, sib, sc0, sc1, i64_w, i32_w]; rfl
                            refine pure_ (i := 4) (N := some 67) (v := ?_) (a' := ?_) (tfA 5 19) rfl rfl (any_of HT_.out (by kernel_rfl)) (fun _ _ _ h => h) (Or.inl ⟨by rfl, ?_⟩) ?_ ?_
                            rotate_left
                            · intro w'; go_simp; with_reducible rfl
                            rotate_left
                            · simp only [Act.put, sib, sc0, sc1, i64_w, i32_w]; rfl
                            refine pure_ (i := 5) (N := some 68) (v := ?_) (a' := ?_) (tfA 6 19) rfl rfl (any_of HT_.out (by kernel_rfl)) (fun _ _ _ h => h) (Or.inl ⟨by rfl, ?_⟩) ?_ ?_
                            rotate_left
                            · intro w'; go_simp; with_reducible rfl
                            rotate_left
                            · simp only [Act.put, sib, sc0, sc1, i64_w, i32_w]; rfl
                            refine pure_ (i := 6) (N := some 69) (v := ?_) (a' := ?_) (tfA 7 19) rfl rfl (any_of HT_.out (by kernel_rfl)) (fun _ _ _ h => h) (Or.inl ⟨by rfl, ?_⟩) ?_ ?_
                            rotate_left
                            · intro w'; go_simp; with_reducible rfl
                            rotate_left
                            · simp only [Act.put, sib, sc0, sc1, i64_w, i32_w]; rfl
                            refine one_ (i := 7) (N := some 70) (tfA 8 19) rfl rfl (one_of HT_.out (by kernel_rfl)) (by decide) (fun K hK => ?_)
                            refine Kd.R_lit_step (Kd.int .u8) _ 5 ?hg (N := 70) ?hd (xs := ([0, 0, 0, 0] : List Int)) (inner := [.int .u8 0, .int .u8 0, .int .u8 0, .int .u8 0]) (ok := fun _ => True) (okp := fun _ => True) ?hr ?hp (fun _ hk => hk) trivial (Below.refl _ _) (Nat.le_refl _) (by simp) ?_; (case hd => rfl); (case hg => rfl); (case hr => first | (go_simp; done) | (go_simp; rfl)); (case hp => exact (Reps.one (show Kd.M (Kd.int .u8) _ _ _ 0 [.int .u8 0] from rfl) (Reps.one (show Kd.M (Kd.int .u8) _ _ _ 0 [.int .u8 0] from rfl) (Reps.one (show Kd.M (Kd.int .u8) _ _ _ 0 [.int .u8 0] from rfl) (Reps.one (show Kd.M (Kd.int .u8) _ _ _ 0 [.int .u8 0] from rfl) (Reps.none _ _))))))
                            intro v335 w72 ho73 hb hg_ hnew_
                            clear hg_ hnew_
                            (first | rw [← Ny334.out] at ho73 | (simp only [Int.reduceToNat] at ho73; rw [← Ny334.out] at ho73))
                            have n0_ := Aside0.mk (Kd.R_lower ho73 (below_size (by repeat (first | (with_reducible first | exact HB.out | apply below_alloc | apply pw_below_drewN | apply below_drew1 | refine below_set ?_ GE323.out | refine below_set ?_ GE333.out) | exact HB.out))))
                            have n1_ := Aside0.mk (blk_below (g := gb323) (o := .cells #[.int .i64 x324000_2, .int .i64 x324001_2, .int .i64 x324002_2, .int .i64 x324003_2, .int .i64 x324004_2, .string x324005_2] 30 (0, 0)) (by (with_reducible repeat (first | refine blk_drewN ?_ _ | refine blk_drew ?_ | refine blk_alloc ?_ _)); exact BK323.out) hb)
                            have n2_ := Aside0.mk (blk_below (g := gb333) (o := .cells #[.int .i64 t328, .int .i64 t329, .int .i64 t330, .int .i64 t331] 23 (0, 0)) (by (with_reducible repeat (first | refine blk_drewN ?_ _ | refine blk_drew ?_ | refine blk_alloc ?_ _)); exact BK333.out) hb)
                            have n3_ := Aside0.mk (below_step (by repeat (first | (with_reducible first | exact HB.out | apply below_alloc | apply pw_below_drewN | apply below_drew1 | refine below_set ?_ GE323.out | refine below_set ?_ GE333.out) | exact HB.out)) hb)
                            clear BK323
                            clear BK333
                            clear HB
                            have HO336 := n0_
                            have BK323 := n1_
                            have BK333 := n2_
                            have HB := n3_
                            clear n0_ n1_ n2_ n3_
                            clear hb ho73
                            refine hK.out _ _ trivial (fun hHeld => ?_)
                            clear hK K
                            refine norm_ (a' := ?_) ?_ ?_
                            rotate_left
                            · show Act.put _ (some 70) _ = _
                              simp only [Act.put, sib, sc0, sc1, i64_w, i32_w]
                              rfl
                            refine one_ (i := 8) (N := some 71) (tfA 9 19) rfl rfl (one_of HT_.out (by kernel_rfl)) (by decide) (fun K hK => ?_)
                            have hcv74 := own_string (P := Tryd.prog) Tryd.underlying46 Tryd.underlying5 Tryd.underlying9 (Kd.own_of_R HO336.out)
                            refine value_ (w1 := ?_) (v := ?_) (by rfl) rfl ?_ ?_
                            rotate_left 2
                            · go_simp
                              constructor
                              · rfl
                              · rfl
                            clear hcv74
                            refine hK.out _ _ trivial (fun hHeld => ?_)
                            clear hK K
                            refine norm_ (a' := ?_) ?_ ?_
                            rotate_left
                            · show Act.put _ (some 71) _ = _
                              simp only [Act.put, sib, sc0, sc1, i64_w, i32_w]
                              rfl
                            refine pure_ (i := 9) (N := some 72) (v := ?_) (a' := ?_) (tfA 10 19) rfl rfl (any_of HT_.out (by kernel_rfl)) (fun _ _ _ h => h) (Or.inl ⟨by rfl, ?_⟩) ?_ ?_
                            rotate_left
                            · intro w'; go_simp; with_reducible rfl
                            rotate_left
                            · simp only [Act.put, sib, sc0, sc1, i64_w, i32_w]; rfl
                            refine pure_ (i := 10) (N := some 73) (v := ?_) (a' := ?_) (tfA 11 19) rfl rfl (any_of HT_.out (by kernel_rfl)) (fun _ _ _ h => h) (Or.inl ⟨by rfl, ?_⟩) ?_ ?_
                            rotate_left
                            · intro w'; go_simp; with_reducible rfl
                            rotate_left
                            · simp only [Act.put, sib, sc0, sc1, i64_w, i32_w]; rfl
                            refine pure_ (i := 11) (N := some 74) (v := ?_) (a' := ?_) (tfA 12 19) rfl rfl (any_of HT_.out (by kernel_rfl)) (fun _ _ _ h => h) (Or.inl ⟨by rfl, ?_⟩) ?_ ?_
                            rotate_left
                            · intro w'; go_simp; with_reducible rfl
                            rotate_left
                            · simp only [Act.put, sib, sc0, sc1, i64_w, i32_w]; rfl
                            refine pure_ (i := 12) (N := some 75) (v := undef) (a' := ?_) (tfA 13 19) rfl rfl (any_of HT_.out (by kernel_rfl)) (fun _ _ _ h => h) (Or.inr ⟨by rfl, rfl⟩) ?_ ?_
                            rotate_left
                            · simp only [Act.put, sib, sc0, sc1, i64_w, i32_w]
                              rfl
                            refine pure_ (i := 13) (N := some 76) (v := undef) (a' := ?_) (tfA 14 19) rfl rfl (any_of HT_.out (by kernel_rfl)) (fun _ _ _ h => h) (Or.inr ⟨by rfl, rfl⟩) ?_ ?_
                            rotate_left
                            · simp only [Act.put, sib, sc0, sc1, i64_w, i32_w]
                              rfl
                            refine pure_ (i := 14) (N := some 77) (v := undef) (a' := ?_) (tfA 15 19) rfl rfl (any_of HT_.out (by kernel_rfl)) (fun _ _ _ h => h) (Or.inr ⟨by rfl, rfl⟩) ?_ ?_
                            rotate_left
                            · simp only [Act.put, sib, sc0, sc1, i64_w, i32_w]
                              rfl
                            refine pure_ (i := 15) (N := some 78) (v := undef) (a' := ?_) (tfA 16 19) rfl rfl (any_of HT_.out (by kernel_rfl)) (fun _ _ _ h => h) (Or.inr ⟨by rfl, rfl⟩) ?_ ?_
                            rotate_left
                            · simp only [Act.put, sib, sc0, sc1, i64_w, i32_w]
                              rfl
                            refine pure_ (i := 16) (N := some 79) (v := undef) (a' := ?_) (tfA 17 19) rfl rfl (any_of HT_.out (by kernel_rfl)) (fun _ _ _ h => h) (Or.inr ⟨by rfl, rfl⟩) ?_ ?_
                            rotate_left
                            · simp only [Act.put, sib, sc0, sc1, i64_w, i32_w]
                              rfl
                            refine pure_ (i := 17) (N := some 80) (v := undef) (a' := ?_) (tfA 18 19) rfl rfl (any_of HT_.out (by kernel_rfl)) (fun _ _ _ h => h) (Or.inr ⟨by rfl, rfl⟩) ?_ ?_
                            rotate_left
                            · simp only [Act.put, sib, sc0, sc1, i64_w, i32_w]
                              rfl
                            refine pure_ (i := 18) (N := some 81) (v := ?_) (a' := ?_) (tfA 19 19) rfl rfl (any_of HT_.out (by kernel_rfl)) (fun _ _ _ h => h) (Or.inl ⟨by rfl, ?_⟩) ?_ ?_
                            rotate_left
                            · intro w'; go_simp; with_reducible rfl
                            rotate_left
                            · simp only [Act.put, sib, sc0, sc1, i64_w, i32_w]; rfl
                            refine done_ (done_of HT_.out (by kernel_rfl)) ?_
                            have hcz75_0 : w72.cell? ⟨gb323, 0, none⟩ = some (.int .i64 x324000_2) := (blk_cell BK323.out 0).trans rfl
                            have hcz75_1 : w72.cell? ⟨gb323, 1, none⟩ = some (.int .i64 x324001_2) := (blk_cell BK323.out 1).trans rfl
                            have hcz75_2 : w72.cell? ⟨gb323, 2, none⟩ = some (.int .i64 x324002_2) := (blk_cell BK323.out 2).trans rfl
                            have hcz75_3 : w72.cell? ⟨gb323, 3, none⟩ = some (.int .i64 x324003_2) := (blk_cell BK323.out 3).trans rfl
                            have hcz75_4 : w72.cell? ⟨gb323, 4, none⟩ = some (.int .i64 x324004_2) := (blk_cell BK323.out 4).trans rfl
                            have hcz75_5 : w72.cell? ⟨gb323, 5, none⟩ = some (.string x324005_2) := (blk_cell BK323.out 5).trans rfl
                            have hfz75_0 := blk_frozen BK323.out 0
                            have hfz75_1 := blk_frozen BK323.out 1
                            have hfz75_2 := blk_frozen BK323.out 2
                            have hfz75_3 := blk_frozen BK323.out 3
                            have hfz75_4 := blk_frozen BK323.out 4
                            have hfz75_5 := blk_frozen BK323.out 5
                            try go_wp2
                            refine bodyPost_ret (results_cell_row rfl _ _ gb323 30 #[.int .i64 4, .int .i64 0, .int .i64 0, .int .i64 0, .int .i64 0, .string (⟨#[]⟩ : ByteArray)] (0, 0) _ rfl (by (with_reducible repeat (first | refine blk_drewN ?_ _ | refine blk_drew ?_ | refine blk_alloc ?_ _)); refine blk_put (cs := #[.int .i64 4, .int .i64 0, .int .i64 0, .int .i64 0, .int .i64 0, .string x324005_2]) ?_ 5 _ rfl; (with_reducible repeat (first | refine blk_drewN ?_ _ | refine blk_drew ?_ | refine blk_alloc ?_ _)); refine blk_put (cs := #[.int .i64 4, .int .i64 0, .int .i64 0, .int .i64 0, .int .i64 x324004_2, .string x324005_2]) ?_ 4 _ rfl; (with_reducible repeat (first | refine blk_drewN ?_ _ | refine blk_drew ?_ | refine blk_alloc ?_ _)); refine blk_put (cs := #[.int .i64 4, .int .i64 0, .int .i64 0, .int .i64 x324003_2, .int .i64 x324004_2, .string x324005_2]) ?_ 3 _ rfl; (with_reducible repeat (first | refine blk_drewN ?_ _ | refine blk_drew ?_ | refine blk_alloc ?_ _)); refine blk_put (cs := #[.int .i64 4, .int .i64 0, .int .i64 x324002_2, .int .i64 x324003_2, .int .i64 x324004_2, .string x324005_2]) ?_ 2 _ rfl; (with_reducible repeat (first | refine blk_drewN ?_ _ | refine blk_drew ?_ | refine blk_alloc ?_ _)); refine blk_put (cs := #[.int .i64 4, .int .i64 x324001_2, .int .i64 x324002_2, .int .i64 x324003_2, .int .i64 x324004_2, .string x324005_2]) ?_ 1 _ rfl; (with_reducible repeat (first | refine blk_drewN ?_ _ | refine blk_drew ?_ | refine blk_alloc ?_ _)); refine blk_put (cs := #[.int .i64 x324000_2, .int .i64 x324001_2, .int .i64 x324002_2, .int .i64 x324003_2, .int .i64 x324004_2, .string x324005_2]) ?_ 0 _ rfl; (with_reducible repeat (first | refine blk_drewN ?_ _ | refine blk_drew ?_ | refine blk_alloc ?_ _)); exact BK323.out) Tryd.underlying30 rfl (by kernel_rfl)) rfl ?_
                            exact ⟨by first | rfl | (simp [errW_none, errW_some] <;> rfl) | (simp only [← hji28]; first | rfl | (simp [errW_none, errW_some] <;> rfl)) | (simp [*, errW_none, errW_some] <;> rfl), by repeat (first | (with_reducible first | exact HB.out | apply below_alloc | apply pw_below_drewN | apply below_drew1 | refine below_set ?_ GE323.out | refine below_set ?_ GE333.out) | exact HB.out)⟩
                        · rw [if_neg c30] at H
                          exact absurd H (by simp)
                      · rw [if_neg c29] at H
                        exact absurd H (by simp)
                    · rw [if_neg c27] at H
                      have c27b0 : (t332 == 0) = false := beq_eq_false_iff_ne.mpr c27
                      have c27b1 : (t332 != 0) = true := bne_iff_ne.mpr c27
                      simp only [Option.some.injEq, Prod.mk.injEq] at H
                      obtain ⟨rfl, rfl, rfl, rfl, rfl, rfl⟩ := H
                      try go_wp2_with (first | ((with_reducible refine gate_callee (f := 36) rfl ?_); refine goesL_ (some 60) rfl rfl Tryd.func36 (by kernel_rfl) rfl #[.string (x3_2.extract 0 16)] rfl (by (try simp only [List.map_toArray, List.map_cons, List.map_nil]); first | done | rfl | (simp only [List.length_drop, List.length_take]; rfl)) ?_; (with_reducible refine (deckleref04_Decode.calls k2 (x3_2.extract 0 16) t328 t329 t330 t331 t332 _ A26.out).mono ?_); rintro e w76 ⟨rfl, hb⟩; refine ⟨_, rfl, ?_⟩; have n0_ := Aside0.mk (blk_below (g := gb323) (o := .cells #[.int .i64 x324000_2, .int .i64 x324001_2, .int .i64 x324002_2, .int .i64 x324003_2, .int .i64 x324004_2, .string x324005_2] 30 (0, 0)) (by (with_reducible repeat (first | refine blk_drewN ?_ _ | refine blk_drew ?_ | refine blk_alloc ?_ _)); exact BK323.out) hb); have n1_ := Aside0.mk (below_step (by repeat (first | (with_reducible first | exact HB.out | apply below_alloc | apply pw_below_drewN | apply below_drew1 | refine below_set ?_ GE323.out) | exact HB.out)) hb); clear BK323; clear HB; have BK323 := n0_; have HB := n1_; clear n0_ n1_; (try clear hb); (try clear hb2); (try clear hk); (try clear hi)) | ((with_reducible refine gate_dst (N := 10) rfl ?_); (try (refine gate_guard (by rfl) ?_; dsimp only)); refine box_event ?hg (N := 10) ?hd (cs := #[.int .i64 0, .int .i64 0, .int .i64 0, .int .i64 0]) (t := 23) ?hr ?_; (case hd => rfl); (case hg => rfl); (case hr => first | (go_simp; done) | (go_simp; rfl)); intro gb333 hg w77 hbox hb; have n0_ := Aside0.mk (blk_below (g := gb323) (o := .cells #[.int .i64 x324000_2, .int .i64 x324001_2, .int .i64 x324002_2, .int .i64 x324003_2, .int .i64 x324004_2, .string x324005_2] 30 (0, 0)) (by (with_reducible repeat (first | refine blk_drewN ?_ _ | refine blk_drew ?_ | refine blk_alloc ?_ _)); exact BK323.out) hb); have n1_ := Aside0.mk (below_step (by repeat (first | (with_reducible first | exact HB.out | apply below_alloc | apply pw_below_drewN | apply below_drew1 | refine below_set ?_ GE323.out) | exact HB.out)) hb); have n2_ := Aside0.mk (hbox); have n3_ := Aside0.mk ((by rw [hg]; exact (below_size (by repeat (first | (with_reducible first | exact HB.out | apply below_alloc | apply pw_below_drewN | apply below_drew1 | refine below_set ?_ GE323.out) | exact HB.out))) : w.heap.size ≤ gb333)); have n4_ := Aside0.mk ((by rw [hg]; exact (below_size (by repeat (first | (with_reducible first | exact HB.out | apply below_alloc | apply pw_below_drewN | apply below_drew1 | refine below_set ?_ GE323.out) | exact HB.out))) : w.heap.size ≤ gb333)); have n5_ := Aside0.mk ((by rw [hg]; exact Nat.ne_of_lt (blk_lt (g := gb323) (o := .cells #[.int .i64 x324000_2, .int .i64 x324001_2, .int .i64 x324002_2, .int .i64 x324003_2, .int .i64 x324004_2, .string x324005_2] 30 (0, 0)) (by (with_reducible repeat (first | refine blk_drewN ?_ _ | refine blk_drew ?_ | refine blk_alloc ?_ _)); exact BK323.out)) : gb323 ≠ gb333)); have n6_ := Aside0.mk ((by rw [hg]; exact Nat.ne_of_gt (blk_lt (g := gb323) (o := .cells #[.int .i64 x324000_2, .int .i64 x324001_2, .int .i64 x324002_2, .int .i64 x324003_2, .int .i64 x324004_2, .string x324005_2] 30 (0, 0)) (by (with_reducible repeat (first | refine blk_drewN ?_ _ | refine blk_drew ?_ | refine blk_alloc ?_ _)); exact BK323.out)) : gb333 ≠ gb323)); clear BK323; clear HB; have BK323 := n0_; have HB := n1_; have BK333 := n2_; have GW333 := n3_; have GE333 := n4_; have NB323_333 := n5_; have NB333_323 := n6_; clear n0_ n1_ n2_ n3_ n4_ n5_ n6_; clear hb hbox hg; have hnb78 := NB333_323.out; have hnc78 := NB323_333.out; have hcz79_0 : w77.cell? ⟨gb333, 0, none⟩ = some (.int .i64 0) := (blk_cell BK333.out 0).trans rfl; have hcz79_1 : w77.cell? ⟨gb333, 1, none⟩ = some (.int .i64 0) := (blk_cell BK333.out 1).trans rfl; have hcz79_2 : w77.cell? ⟨gb333, 2, none⟩ = some (.int .i64 0) := (blk_cell BK333.out 2).trans rfl; have hcz79_3 : w77.cell? ⟨gb333, 3, none⟩ = some (.int .i64 0) := (blk_cell BK333.out 3).trans rfl; have hfz79_0 := blk_frozen BK333.out 0; have hfz79_1 := blk_frozen BK333.out 1; have hfz79_2 := blk_frozen BK333.out 2; have hfz79_3 := blk_frozen BK333.out 3))
                      have n0_ : Aside0 (((((w77.setCell ⟨gb333, 0, none⟩ (.int .i64 t328)).setCell ⟨gb333, 1, none⟩ (.int .i64 t329)).setCell ⟨gb333, 2, none⟩ (.int .i64 t330)).setCell ⟨gb333, 3, none⟩ (.int .i64 t331)).heap[gb323]? = some (.cells #[.int .i64 x324000_2, .int .i64 x324001_2, .int .i64 x324002_2, .int .i64 x324003_2, .int .i64 x324004_2, .string x324005_2] 30 (0, 0))) := ⟨by (with_reducible repeat (first | refine blk_drewN ?_ _ | refine blk_drew ?_ | refine blk_alloc ?_ _)); refine blk_far ?_ NB323_333.out _; (with_reducible repeat (first | refine blk_drewN ?_ _ | refine blk_drew ?_ | refine blk_alloc ?_ _)); refine blk_far ?_ NB323_333.out _; (with_reducible repeat (first | refine blk_drewN ?_ _ | refine blk_drew ?_ | refine blk_alloc ?_ _)); refine blk_far ?_ NB323_333.out _; (with_reducible repeat (first | refine blk_drewN ?_ _ | refine blk_drew ?_ | refine blk_alloc ?_ _)); refine blk_far ?_ NB323_333.out _; (with_reducible repeat (first | refine blk_drewN ?_ _ | refine blk_drew ?_ | refine blk_alloc ?_ _)); exact BK323.out⟩
                      have n1_ : Aside0 (((((w77.setCell ⟨gb333, 0, none⟩ (.int .i64 t328)).setCell ⟨gb333, 1, none⟩ (.int .i64 t329)).setCell ⟨gb333, 2, none⟩ (.int .i64 t330)).setCell ⟨gb333, 3, none⟩ (.int .i64 t331)).heap[gb333]? = some (.cells #[.int .i64 t328, .int .i64 t329, .int .i64 t330, .int .i64 t331] 23 (0, 0))) := ⟨by (with_reducible repeat (first | refine blk_drewN ?_ _ | refine blk_drew ?_ | refine blk_alloc ?_ _)); refine blk_put (cs := #[.int .i64 t328, .int .i64 t329, .int .i64 t330, .int .i64 0]) ?_ 3 _ rfl; (with_reducible repeat (first | refine blk_drewN ?_ _ | refine blk_drew ?_ | refine blk_alloc ?_ _)); refine blk_put (cs := #[.int .i64 t328, .int .i64 t329, .int .i64 0, .int .i64 0]) ?_ 2 _ rfl; (with_reducible repeat (first | refine blk_drewN ?_ _ | refine blk_drew ?_ | refine blk_alloc ?_ _)); refine blk_put (cs := #[.int .i64 t328, .int .i64 0, .int .i64 0, .int .i64 0]) ?_ 1 _ rfl; (with_reducible repeat (first | refine blk_drewN ?_ _ | refine blk_drew ?_ | refine blk_alloc ?_ _)); refine blk_put (cs := #[.int .i64 0, .int .i64 0, .int .i64 0, .int .i64 0]) ?_ 0 _ rfl; (with_reducible repeat (first | refine blk_drewN ?_ _ | refine blk_drew ?_ | refine blk_alloc ?_ _)); exact BK333.out⟩
                      have n2_ : Aside0 (Below w.heap.size w ((((w77.setCell ⟨gb333, 0, none⟩ (.int .i64 t328)).setCell ⟨gb333, 1, none⟩ (.int .i64 t329)).setCell ⟨gb333, 2, none⟩ (.int .i64 t330)).setCell ⟨gb333, 3, none⟩ (.int .i64 t331))) := ⟨by repeat (first | (with_reducible first | exact HB.out | apply below_alloc | apply pw_below_drewN | apply below_drew1 | refine below_set ?_ GE323.out | refine below_set ?_ GE333.out) | exact HB.out)⟩
                      (try clear BK323)
                      (try clear BK333)
                      (try clear HB)
                      generalize ((((w77.setCell ⟨gb333, 0, none⟩ (.int .i64 t328)).setCell ⟨gb333, 1, none⟩ (.int .i64 t329)).setCell ⟨gb333, 2, none⟩ (.int .i64 t330)).setCell ⟨gb333, 3, none⟩ (.int .i64 t331)) = w80 at n0_ n1_ n2_ ⊢
                      have BK323 := n0_
                      have BK333 := n1_
                      have HB := n2_
                      clear n0_ n1_ n2_
                      have n0_ := Aside0.mk (blk_drew BK323.out)
                      have n1_ := Aside0.mk (blk_drew BK333.out)
                      have n2_ := Aside0.mk (below_drew1 HB.out)
                      clear BK323
                      clear BK333
                      clear HB
                      have BK323 := n0_
                      have BK333 := n1_
                      have HB := n2_
                      clear n0_ n1_ n2_
                      refine start_ (n := 19) (S := fun w' => True) (ds := []) (tfA 0 19) (by kernel_rfl) rfl rfl trivial (fun hHeld => ?_); refine with_tabW deckleref05_Decode.tab18 deckleref05_Decode.bits18 (fun HT_ HW_ => ?_)
                      generalize w80.drew = w81 at BK323 BK333 HB hHeld ⊢
                      refine pure_ (i := 0) (N := some 63) (v := ?_) (a' := ?_) (tfA 1 19) rfl rfl (any_of HT_.out (by kernel_rfl)) (fun _ _ _ h => h) (Or.inl ⟨by rfl, ?_⟩) ?_ ?_
                      rotate_left
                      · intro w'; go_simp; with_reducible rfl
                      rotate_left
                      · simp only [Act.put, sib, sc0, sc1, i64_w, i32_w]; rfl
                      refine pure_ (i := 1) (N := some 64) (v := ?_) (a' := ?_) (tfA 2 19) rfl rfl (any_of HT_.out (by kernel_rfl)) (fun _ _ _ h => h) (Or.inl ⟨by rfl, ?_⟩) ?_ ?_
                      rotate_left
                      · intro w'; go_simp; with_reducible rfl
                      rotate_left
                      · simp only [Act.put, sib, sc0, sc1, i64_w, i32_w]; rfl
                      refine pure_ (i := 2) (N := some 65) (v := ?_) (a' := ?_) (tfA 3 19) rfl rfl (any_of HT_.out (by kernel_rfl)) (fun _ _ _ h => h) (Or.inl ⟨by rfl, ?_⟩) ?_ ?_
                      rotate_left
                      · intro w'; go_simp; with_reducible rfl
                      rotate_left
                      · simp only [Act.put, sib, sc0, sc1, i64_w, i32_w]; rfl
                      refine pure_ (i := 3) (N := some 66) (v := undef) (a' := ?_) (tfA 4 19) rfl rfl (any_of HT_.out (by kernel_rfl)) (fun _ _ _ h => h) (Or.inr ⟨by rfl, rfl⟩) ?_ ?_
                      rotate_left
                      · simp only [Act.put, sib, sc0, sc1, i64_w, i32_w]
                        rfl
                      refine pure_ (i := 4) (N := some 67) (v := undef) (a' := ?_) (tfA 5 19) rfl rfl (any_of HT_.out (by kernel_rfl)) (fun _ _ _ h => h) (Or.inr ⟨by rfl, rfl⟩) ?_ ?_
                      rotate_left
                      · simp only [Act.put, sib, sc0, sc1, i64_w, i32_w]
                        rfl
                      refine pure_ (i := 5) (N := some 68) (v := undef) (a' := ?_) (tfA 6 19) rfl rfl (any_of HT_.out (by kernel_rfl)) (fun _ _ _ h => h) (Or.inr ⟨by rfl, rfl⟩) ?_ ?_
                      rotate_left
                      · simp only [Act.put, sib, sc0, sc1, i64_w, i32_w]
                        rfl
                      refine pure_ (i := 6) (N := some 69) (v := undef) (a' := ?_) (tfA 7 19) rfl rfl (any_of HT_.out (by kernel_rfl)) (fun _ _ _ h => h) (Or.inr ⟨by rfl, rfl⟩) ?_ ?_
                      rotate_left
                      · simp only [Act.put, sib, sc0, sc1, i64_w, i32_w]
                        rfl
                      refine pure_ (i := 7) (N := some 70) (v := undef) (a' := ?_) (tfA 8 19) rfl rfl (any_of HT_.out (by kernel_rfl)) (fun _ _ _ h => h) (Or.inr ⟨by rfl, rfl⟩) ?_ ?_
                      rotate_left
                      · simp only [Act.put, sib, sc0, sc1, i64_w, i32_w]
                        rfl
                      refine pure_ (i := 8) (N := some 71) (v := undef) (a' := ?_) (tfA 9 19) rfl rfl (any_of HT_.out (by kernel_rfl)) (fun _ _ _ h => h) (Or.inr ⟨by rfl, rfl⟩) ?_ ?_
                      rotate_left
                      · simp only [Act.put, sib, sc0, sc1, i64_w, i32_w]
                        rfl
                      refine pure_ (i := 9) (N := some 72) (v := undef) (a' := ?_) (tfA 10 19) rfl rfl (any_of HT_.out (by kernel_rfl)) (fun _ _ _ h => h) (Or.inr ⟨by rfl, rfl⟩) ?_ ?_
                      rotate_left
                      · simp only [Act.put, sib, sc0, sc1, i64_w, i32_w]
                        rfl
                      refine pure_ (i := 10) (N := some 73) (v := ?_) (a' := ?_) (tfA 11 19) rfl rfl (any_of HT_.out (by kernel_rfl)) (fun _ _ _ h => h) (Or.inl ⟨by rfl, ?_⟩) ?_ ?_
                      rotate_left
                      · intro w'; go_simp; with_reducible rfl
                      rotate_left
                      · simp only [Act.put, sib, sc0, sc1, i64_w, i32_w]; rfl
                      refine pure_ (i := 11) (N := some 74) (v := ?_) (a' := ?_) (tfA 12 19) rfl rfl (any_of HT_.out (by kernel_rfl)) (fun _ _ _ h => h) (Or.inl ⟨by rfl, ?_⟩) ?_ ?_
                      rotate_left
                      · intro w'; go_simp; with_reducible rfl
                      rotate_left
                      · simp only [Act.put, sib, sc0, sc1, i64_w, i32_w]; rfl
                      refine pure_ (i := 12) (N := some 75) (v := undef) (a' := ?_) (tfA 13 19) rfl rfl (any_of HT_.out (by kernel_rfl)) (fun _ _ _ h => h) (Or.inr ⟨by rfl, rfl⟩) ?_ ?_
                      rotate_left
                      · simp only [Act.put, sib, sc0, sc1, i64_w, i32_w]
                        rfl
                      refine pure_ (i := 13) (N := some 76) (v := undef) (a' := ?_) (tfA 14 19) rfl rfl (any_of HT_.out (by kernel_rfl)) (fun _ _ _ h => h) (Or.inr ⟨by rfl, rfl⟩) ?_ ?_
                      rotate_left
                      · simp only [Act.put, sib, sc0, sc1, i64_w, i32_w]
                        rfl
                      refine pure_ (i := 14) (N := some 77) (v := undef) (a' := ?_) (tfA 15 19) rfl rfl (any_of HT_.out (by kernel_rfl)) (fun _ _ _ h => h) (Or.inr ⟨by rfl, rfl⟩) ?_ ?_
                      rotate_left
                      · simp only [Act.put, sib, sc0, sc1, i64_w, i32_w]
                        rfl
                      refine pure_ (i := 15) (N := some 78) (v := undef) (a' := ?_) (tfA 16 19) rfl rfl (any_of HT_.out (by kernel_rfl)) (fun _ _ _ h => h) (Or.inr ⟨by rfl, rfl⟩) ?_ ?_
                      rotate_left
                      · simp only [Act.put, sib, sc0, sc1, i64_w, i32_w]
                        rfl
                      refine pure_ (i := 16) (N := some 79) (v := undef) (a' := ?_) (tfA 17 19) rfl rfl (any_of HT_.out (by kernel_rfl)) (fun _ _ _ h => h) (Or.inr ⟨by rfl, rfl⟩) ?_ ?_
                      rotate_left
                      · simp only [Act.put, sib, sc0, sc1, i64_w, i32_w]
                        rfl
                      refine pure_ (i := 17) (N := some 80) (v := undef) (a' := ?_) (tfA 18 19) rfl rfl (any_of HT_.out (by kernel_rfl)) (fun _ _ _ h => h) (Or.inr ⟨by rfl, rfl⟩) ?_ ?_
                      rotate_left
                      · simp only [Act.put, sib, sc0, sc1, i64_w, i32_w]
                        rfl
                      refine pure_ (i := 18) (N := some 81) (v := ?_) (a' := ?_) (tfA 19 19) rfl rfl (any_of HT_.out (by kernel_rfl)) (fun _ _ _ h => h) (Or.inl ⟨by rfl, ?_⟩) ?_ ?_
                      rotate_left
                      · intro w'; go_simp; with_reducible rfl
                      rotate_left
                      · simp only [Act.put, sib, sc0, sc1, i64_w, i32_w]; rfl
                      refine done_ (done_of HT_.out (by kernel_rfl)) ?_
                      have hcz82_0 : w81.cell? ⟨gb323, 0, none⟩ = some (.int .i64 x324000_2) := (blk_cell BK323.out 0).trans rfl
                      have hcz82_1 : w81.cell? ⟨gb323, 1, none⟩ = some (.int .i64 x324001_2) := (blk_cell BK323.out 1).trans rfl
                      have hcz82_2 : w81.cell? ⟨gb323, 2, none⟩ = some (.int .i64 x324002_2) := (blk_cell BK323.out 2).trans rfl
                      have hcz82_3 : w81.cell? ⟨gb323, 3, none⟩ = some (.int .i64 x324003_2) := (blk_cell BK323.out 3).trans rfl
                      have hcz82_4 : w81.cell? ⟨gb323, 4, none⟩ = some (.int .i64 x324004_2) := (blk_cell BK323.out 4).trans rfl
                      have hcz82_5 : w81.cell? ⟨gb323, 5, none⟩ = some (.string x324005_2) := (blk_cell BK323.out 5).trans rfl
                      have hfz82_0 := blk_frozen BK323.out 0
                      have hfz82_1 := blk_frozen BK323.out 1
                      have hfz82_2 := blk_frozen BK323.out 2
                      have hfz82_3 := blk_frozen BK323.out 3
                      have hfz82_4 := blk_frozen BK323.out 4
                      have hfz82_5 := blk_frozen BK323.out 5
                      try go_wp2
                      refine bodyPost_ret (results_cell_row rfl _ _ gb323 30 #[.int .i64 4, .int .i64 0, .int .i64 0, .int .i64 0, .int .i64 0, .string (⟨#[]⟩ : ByteArray)] (0, 0) _ rfl (by (with_reducible repeat (first | refine blk_drewN ?_ _ | refine blk_drew ?_ | refine blk_alloc ?_ _)); refine blk_put (cs := #[.int .i64 4, .int .i64 0, .int .i64 0, .int .i64 0, .int .i64 0, .string x324005_2]) ?_ 5 _ rfl; (with_reducible repeat (first | refine blk_drewN ?_ _ | refine blk_drew ?_ | refine blk_alloc ?_ _)); refine blk_put (cs := #[.int .i64 4, .int .i64 0, .int .i64 0, .int .i64 0, .int .i64 x324004_2, .string x324005_2]) ?_ 4 _ rfl; (with_reducible repeat (first | refine blk_drewN ?_ _ | refine blk_drew ?_ | refine blk_alloc ?_ _)); refine blk_put (cs := #[.int .i64 4, .int .i64 0, .int .i64 0, .int .i64 x324003_2, .int .i64 x324004_2, .string x324005_2]) ?_ 3 _ rfl; (with_reducible repeat (first | refine blk_drewN ?_ _ | refine blk_drew ?_ | refine blk_alloc ?_ _)); refine blk_put (cs := #[.int .i64 4, .int .i64 0, .int .i64 x324002_2, .int .i64 x324003_2, .int .i64 x324004_2, .string x324005_2]) ?_ 2 _ rfl; (with_reducible repeat (first | refine blk_drewN ?_ _ | refine blk_drew ?_ | refine blk_alloc ?_ _)); refine blk_put (cs := #[.int .i64 4, .int .i64 x324001_2, .int .i64 x324002_2, .int .i64 x324003_2, .int .i64 x324004_2, .string x324005_2]) ?_ 1 _ rfl; (with_reducible repeat (first | refine blk_drewN ?_ _ | refine blk_drew ?_ | refine blk_alloc ?_ _)); refine blk_put (cs := #[.int .i64 x324000_2, .int .i64 x324001_2, .int .i64 x324002_2, .int .i64 x324003_2, .int .i64 x324004_2, .string x324005_2]) ?_ 0 _ rfl; (with_reducible repeat (first | refine blk_drewN ?_ _ | refine blk_drew ?_ | refine blk_alloc ?_ _)); exact BK323.out) Tryd.underlying30 rfl (by kernel_rfl)) rfl ?_
                      exact ⟨by first | rfl | (simp [errW_none, errW_some] <;> rfl) | (simp [*, errW_none, errW_some] <;> rfl), by repeat (first | (with_reducible first | exact HB.out | apply below_alloc | apply pw_below_drewN | apply below_drew1 | refine below_set ?_ GE323.out | refine below_set ?_ GE333.out) | exact HB.out)⟩
                  · rw [if_neg c25] at H
                    exact absurd H (by simp)
                · rw [if_neg c24] at H
                  exact absurd H (by simp)

end Go.Proofs.YtbcgddacmjliaaaDoor.PF
end

section
/- Strings byte by byte: when two are the same; parts, sums and turned bits of them. -/
set_option linter.unusedVariables false
set_option linter.unusedSimpArgs false
namespace Go.Proofs.YtbcgddacmjliaaaDoor.PF
open Go.RowKit Go.Proofs.YtbcgddacmjliaaaDoor.Hw Go.Proofs.YtbcgddacmjliaaaDoorW.PrintWords Go.Proofs.YtbcgddacmjliaaaDoorW.PrintLast

theorem bn_at (s : ByteArray) (i : Nat) (h : i < s.size) : bn s i = (s[i]'h).toNat := by
  unfold bn bt
  rw [dif_pos (by simpa using h)]
  simp
theorem bn_out (s : ByteArray) (i : Nat) (h : s.size ≤ i) : bn s i = 0 := by
  unfold bn bt
  rw [dif_neg (by simp; omega)]
  rfl
theorem bext {s t : ByteArray} (h : s.size = t.size) (hb : ∀ i, i < s.size → bn s i = bn t i) : s = t := by
  apply ByteArray.ext
  apply Array.ext h
  intro i h1 h2
  have e := hb i h1
  rw [bn_at s i h1, bn_at t i h2] at e
  exact UInt8.toNat_inj.1 e
theorem bn_extract (s : ByteArray) (a b i : Nat) (h : i < b - a) (hb : b ≤ s.size) : bn (s.extract a b) i = bn s (a + i) := by
  rw [bn_at _ i (by rw [ByteArray.size_extract]; omega), bn_at s (a + i) (by omega)]
  rw [ByteArray.getElem_extract]
theorem size_extract' (s : ByteArray) (a b : Nat) (hb : b ≤ s.size) : (s.extract a b).size = b - a := by rw [ByteArray.size_extract]; omega
theorem bn_append (s t : ByteArray) (i : Nat) : bn (s ++ t) i = if i < s.size then bn s i else bn t (i - s.size) := by
  by_cases h : i < s.size
  · rw [if_pos h, bn_at _ i (by rw [ByteArray.size_append]; omega), bn_at s i h, ByteArray.getElem_append_left h]
  · rw [if_neg h]
    by_cases h2 : i < s.size + t.size
    · rw [bn_at _ i (by rw [ByteArray.size_append]; omega), bn_at t _ (by omega), ByteArray.getElem_append_right (by omega)]
    · rw [bn_out _ i (by rw [ByteArray.size_append]; omega), bn_out t _ (by omega)]
theorem son_size (xs : List Int) : (strOfNums xs).size = xs.length := by simp [strOfNums, ByteArray.size]
theorem bn_son (xs : List Int) (i : Nat) : bn (strOfNums xs) i = (xs.getD i 0).toNat % 256 := by
  by_cases h : i < xs.length
  · rw [bn_at _ i (by rw [son_size]; exact h)]
    simp [strOfNums, ByteArray.getElem_eq_getElem_data, List.getD_eq_getElem?_getD, h]
  · rw [bn_out _ i (by rw [son_size]; omega)]
    rw [List.getD_eq_getElem?_getD, List.getElem?_eq_none (by omega)]
    rfl
theorem bytesOf_getD (s : ByteArray) (i : Nat) : (bytesOf s).getD i 0 = ((bn s i : Nat) : Int) := by
  by_cases h : i < s.size
  · rw [bn_at s i h]
    have h' : i < s.data.size := h
    simp [bytesOf, List.getD_eq_getElem?_getD, h', ByteArray.getElem_eq_getElem_data]
    rw [Array.getElem?_eq_getElem h']
    rfl
  · rw [bn_out s i (by omega)]
    have h' : ¬ i < s.data.size := h
    rw [List.getD_eq_getElem?_getD, List.getElem?_eq_none (by simp [bytesOf]; omega)]
    rfl
theorem flipAt_size (s : ByteArray) (k : Nat) : (flipAt s k).size = s.size := by
  unfold flipAt
  rw [son_size, List.length_set, bytesOf_length]
theorem xor_lt8 : ∀ (m : Fin 8) (b : Fin 256), b.val ^^^ 2 ^ m.val < 256 := by decide +kernel
theorem bn_flipAt (s : ByteArray) (k i : Nat) (h : k / 8 < s.size) : bn (flipAt s k) i = if i = k / 8 then bn s i ^^^ 2 ^ (k % 8) else bn s i := by
  rw [flipAt_is, bn_son, List.getD_eq_getElem?_getD, List.getElem?_set]
  have hx := xor_lt8 ⟨k % 8, by omega⟩ ⟨bn s (k / 8), bn_lt s _⟩
  simp only at hx
  by_cases hi : i = k / 8
  · subst hi
    rw [if_pos rfl, if_pos rfl, bytesOf_length, if_pos h]
    simp only [Option.getD_some, Int.toNat_natCast]
    omega
  · rw [if_neg (fun x => hi x.symm), if_neg hi, ← List.getD_eq_getElem?_getD, bytesOf_getD]
    have := bn_lt s i
    simp only [Int.toNat_natCast]
    omega
end Go.Proofs.YtbcgddacmjliaaaDoor.PF
end

section
/- ham, there and back: eight bytes that are encoded are decoded, as good. -/
set_option linter.unusedVariables false
set_option linter.unusedSimpArgs false
namespace Go.Proofs.YtbcgddacmjliaaaDoor.PF
open Go.RowKit Go.Proofs.YtbcgddacmjliaaaDoor.Hw Go.Proofs.YtbcgddacmjliaaaDoorW.PrintWords Go.Proofs.YtbcgddacmjliaaaDoorW.PrintLast

/-- The check of eight bytes. -/
def chkB (s : ByteArray) : Nat := if (hamN s 8 + Lib.onesCount (hamP s 8)) % 2 = 1 then hamP s 8 + 128 else hamP s 8
theorem wrap_sum (M Q : Nat) (h : M + Q < 1000) : Int.tmod (wrap64 ((M : Int) + ((Q : Nat) : Int))) 2 = (((M + Q) % 2 : Nat) : Int) := by
  have w : wrap64 ((M : Int) + ((Q : Nat) : Int)) = ((M + Q : Nat) : Int) := by unfold wrap64; omega
  rw [w, Int.tmod_eq_emod_of_nonneg (by omega)]
  omega
theorem left_is (s : ByteArray) (hs : s.size = 8) : ham_left.f s = some (((hamP s 8 : Nat) : Int), ((hamN s 8 : Nat) : Int)) := by
  unfold ham_left.f
  rw [if_pos (by omega), if_pos (by omega)]
theorem ones_is (P : Nat) (h : P < 256) : bits_OnesCount8.f ((P : Nat) : Int) = some ((Lib.onesCount P : Nat) : Int) := by
  unfold bits_OnesCount8.f
  rw [if_pos (by omega), Int.toNat_natCast]
end Go.Proofs.YtbcgddacmjliaaaDoor.PF
end

section
/- ham: what nine bytes are: by what is left of their places and how many bits are 1; a bit turned. -/
set_option linter.unusedVariables false
set_option linter.unusedSimpArgs false
namespace Go.Proofs.YtbcgddacmjliaaaDoor.PF
open Go.RowKit Go.Proofs.YtbcgddacmjliaaaDoor.Hw Go.Proofs.YtbcgddacmjliaaaDoorW.PrintWords Go.Proofs.YtbcgddacmjliaaaDoorW.PrintLast

/-- What is left of the places of nine bytes; whether so many bits are odd. -/
def syn (c : ByteArray) : Nat := hamP c 8 ^^^ (bn c 8 % 128)
def par (c : ByteArray) : Nat := (hamN c 8 + popB (bn c 8)) % 2
def pl9 (j : Nat) : Nat := if j < 64 then plc j else if j < 71 then 2 ^ (j - 64) else 0
def unturn (d : ByteArray) (p : Nat) : ByteArray := match plcIdx ((p : Nat) : Int) with | none => d | some k => flipAt d k
theorem ones_pop : ∀ c : Fin 256, Lib.onesCount c.val = popB c.val := by decide +kernel
theorem xorB_turn : ∀ (i : Fin 8) (m : Fin 8) (c : Fin 256), xorB i.val (c.val ^^^ 2 ^ m.val) = xorB i.val c.val ^^^ plc (8 * i.val + m.val) := by decide +kernel
theorem popB_turn : ∀ (m : Fin 8) (c : Fin 256), popB (c.val ^^^ 2 ^ m.val) % 2 = (popB c.val + 1) % 2 := by decide +kernel
theorem low_turn : ∀ (m : Fin 8) (c : Fin 256), (c.val ^^^ 2 ^ m.val) % 128 = (c.val % 128) ^^^ (if m.val < 7 then 2 ^ m.val else 0) := by decide +kernel
theorem and_127 : ∀ c : Fin 256, Go.bits .and .u8 (c.val : Int) 127 = ((c.val % 128 : Nat) : Int) := by decide +kernel
theorem hamP_congr {s t : ByteArray} : ∀ n, (∀ i, i < n → bn s i = bn t i) → hamP s n = hamP t n
  | 0, _ => rfl
  | n + 1, h => by
    show hamP s n ^^^ xorB n (bn s n) = hamP t n ^^^ xorB n (bn t n)
    rw [hamP_congr n (fun i hi => h i (by omega)), h n (by omega)]
theorem hamN_congr {s t : ByteArray} : ∀ n, (∀ i, i < n → bn s i = bn t i) → hamN s n = hamN t n
  | 0, _ => rfl
  | n + 1, h => by
    show hamN s n + popB (bn s n) = hamN t n + popB (bn t n)
    rw [hamN_congr n (fun i hi => h i (by omega)), h n (by omega)]
theorem hamP_turn {s t : ByteArray} (q m : Nat) (hm : m < 8) (hq : bn t q = bn s q ^^^ 2 ^ m) (ho : ∀ i, i ≠ q → bn t i = bn s i) :
    ∀ n, n ≤ 8 → q < n → hamP t n = hamP s n ^^^ plc (8 * q + m)
  | 0, _, h => by omega
  | n + 1, h8, h => by
    show hamP t n ^^^ xorB n (bn t n) = (hamP s n ^^^ xorB n (bn s n)) ^^^ plc (8 * q + m)
    by_cases e : q = n
    · subst e
      have x := xorB_turn ⟨q, by omega⟩ ⟨m, hm⟩ ⟨bn s q, bn_lt s q⟩
      simp only at x
      rw [hq, x, hamP_congr (t := s) q (fun i hi => ho i (by omega)), Nat.xor_assoc]
    · rw [hamP_turn q m hm hq ho n (by omega) (by omega), ho n (by omega), Nat.xor_assoc, Nat.xor_assoc, Nat.xor_comm (plc (8 * q + m))]
theorem hamN_turn {s t : ByteArray} (q m : Nat) (hm : m < 8) (hq : bn t q = bn s q ^^^ 2 ^ m) (ho : ∀ i, i ≠ q → bn t i = bn s i) :
    ∀ n, q < n → hamN t n % 2 = (hamN s n + 1) % 2
  | 0, h => by omega
  | n + 1, h => by
    show (hamN t n + popB (bn t n)) % 2 = (hamN s n + popB (bn s n) + 1) % 2
    by_cases e : q = n
    · subst e
      have x := popB_turn ⟨m, hm⟩ ⟨bn s q, bn_lt s q⟩
      simp only at x
      rw [hamN_congr (t := s) q (fun i hi => ho i (by omega)), hq]
      omega
    · have := hamN_turn q m hm hq ho n (by omega)
      rw [ho n (by omega)]
      omega
/-- A bit turned of nine bytes. -/
theorem syn_turn (c : ByteArray) (hc : c.size = 9) (j : Nat) (hj : j < 72) : syn (flipAt c j) = syn c ^^^ pl9 j := by
  have hb : ∀ i, bn (flipAt c j) i = if i = j / 8 then bn c i ^^^ 2 ^ (j % 8) else bn c i := fun i => bn_flipAt c j i (by omega)
  have hq : bn (flipAt c j) (j / 8) = bn c (j / 8) ^^^ 2 ^ (j % 8) := by rw [hb, if_pos rfl]
  have ho : ∀ i, i ≠ j / 8 → bn (flipAt c j) i = bn c i := fun i hi => by rw [hb, if_neg hi]
  unfold syn pl9
  by_cases h64 : j < 64
  · rw [if_pos h64, ho 8 (by omega), hamP_turn (j / 8) (j % 8) (by omega) hq ho 8 (by omega) (by omega), show 8 * (j / 8) + j % 8 = j by omega, Nat.xor_assoc, Nat.xor_assoc, Nat.xor_comm (plc j)]
  · rw [if_neg h64, hamP_congr (t := c) 8 (fun i hi => ho i (by omega)), show j / 8 = 8 by omega] at *
    have x := low_turn ⟨j % 8, by omega⟩ ⟨bn c 8, bn_lt c 8⟩
    simp only at x
    rw [hq, x, Nat.xor_assoc, show j - 64 = j % 8 by omega]
    by_cases h7 : j % 8 < 7
    · rw [if_pos h7, if_pos (by omega)]
    · rw [if_neg h7, if_neg (by omega)]
theorem par_turn (c : ByteArray) (hc : c.size = 9) (j : Nat) (hj : j < 72) : par (flipAt c j) = 1 - par c := by
  have hb : ∀ i, bn (flipAt c j) i = if i = j / 8 then bn c i ^^^ 2 ^ (j % 8) else bn c i := fun i => bn_flipAt c j i (by omega)
  have hq : bn (flipAt c j) (j / 8) = bn c (j / 8) ^^^ 2 ^ (j % 8) := by rw [hb, if_pos rfl]
  have ho : ∀ i, i ≠ j / 8 → bn (flipAt c j) i = bn c i := fun i hi => by rw [hb, if_neg hi]
  unfold par
  have x := hamN_turn (j / 8) (j % 8) (by omega) hq ho 9 (by omega)
  have e1 : hamN (flipAt c j) 9 = hamN (flipAt c j) 8 + popB (bn (flipAt c j) 8) := rfl
  have e2 : hamN c 9 = hamN c 8 + popB (bn c 8) := rfl
  rw [e1, e2] at x
  omega
theorem syn_lt (c : ByteArray) : syn c < 128 := Nat.xor_lt_two_pow (n := 7) (hamP_lt c 8 (Nat.le_refl _)) (Nat.mod_lt _ (by decide))
theorem par_lt (c : ByteArray) : par c < 2 := Nat.mod_lt _ (by decide)
theorem xor_u8 (a b : Nat) (ha : a < 128) (hb : b < 128) : Go.bits .xor .u8 ((a : Nat) : Int) ((b : Nat) : Int) = ((a ^^^ b : Nat) : Int) := u8_xor a b (by omega) (by omega)
theorem j0_is (k : Nat) (d : ByteArray) (y : Int) (b g : Bool) : ham_Decode.j0 (k + 1) d y b g = if g = true then (some (d, 2, 0)) else (if b = true then (if y > 71 then (some ((⟨#[]⟩ : ByteArray), 4, 0)) else ((ham_turned.f d y).bind fun t125 => (some (t125, 3, 0)))) else (some ((⟨#[]⟩ : ByteArray), 4, 0))) := rfl
theorem ham_dec' (c : ByteArray) (hc : c.size = 9) (k : Nat) (x : Int × Int) (P M Q L Y : Nat) (h1 : x.1 = (P : Int)) (h2 : x.2 = (M : Int)) (hM : M ≤ 64) (hQ : Q ≤ 8) (hY : Y < 128)
    (hl : ham_left.f (c.extract 0 8) = some x) (ho : bits_OnesCount8.f (bt c 8) = some (Q : Int)) (ha : Go.bits .and .u8 (bt c 8) 127 = (L : Int)) (hx : Go.bits .xor .u8 (P : Int) (L : Int) = (Y : Int)) (ht : ham_turned.f (c.extract 0 8) (Y : Int) = some (unturn (c.extract 0 8) Y)) :
    ham_Decode.f (k + 1) c = some (if (M + Q) % 2 = 0 then (if Y = 0 then (c.extract 0 8, 2, 0) else (⟨#[]⟩, 4, 0)) else if 71 < Y then (⟨#[]⟩, 4, 0) else (unturn (c.extract 0 8) Y, 3, 0)) := by
  unfold ham_Decode.f
  rw [if_pos (by omega), if_pos (by omega), if_pos (by omega), hl, Option.bind_some, if_pos (by omega), ho, Option.bind_some, h1, h2, wrap_sum M Q (by omega), ha, hx]
  by_cases e : (M + Q) % 2 = 1
  · rw [e, if_pos (by rfl), j0_is, if_neg (by decide : ¬ (false = true)), if_pos (by rfl), if_neg (by decide : ¬ (1 : Nat) = 0)]
    by_cases h71 : 71 < Y
    · rw [if_pos (by omega), if_pos h71]
    · rw [if_neg (by omega), if_neg h71, ht, Option.bind_some]
  · have e0 : (M + Q) % 2 = 0 := by omega
    rw [e0, if_neg (by decide), j0_is, if_pos rfl]
    by_cases hy : Y = 0
    · rw [if_pos hy, hy, if_pos (by rfl)]
    · rw [if_neg hy, if_neg (by simp; omega), if_neg (by decide)]
/-- What nine bytes are. -/
theorem ham_dec (c : ByteArray) (hc : c.size = 9) (k : Nat) : ham_Decode.f (k + 1) c = some (if par c = 0 then (if syn c = 0 then (c.extract 0 8, 2, 0) else (⟨#[]⟩, 4, 0)) else if 71 < syn c then (⟨#[]⟩, 4, 0) else (unturn (c.extract 0 8) (syn c), 3, 0)) := by
  have hd : (c.extract 0 8).size = 8 := size_extract' c 0 8 (by omega)
  have h8 : bt c 8 = ((bn c 8 : Nat) : Int) := bn_bt c 8
  have eP : hamP (c.extract 0 8) 8 = hamP c 8 := hamP_congr 8 (fun i hi => by rw [bn_extract c 0 8 i (by omega) (by omega), Nat.zero_add])
  have eN : hamN (c.extract 0 8) 8 = hamN c 8 := hamN_congr 8 (fun i hi => by rw [bn_extract c 0 8 i (by omega) (by omega), Nat.zero_add])
  have ha := and_127 ⟨bn c 8, bn_lt c 8⟩
  have ho := ones_pop ⟨bn c 8, bn_lt c 8⟩
  have hl := hamP_lt c 8 (Nat.le_refl _)
  have hN := hamN_le c 8
  have hp8 := popB_le ⟨bn c 8, bn_lt c 8⟩
  have hcl := bn_lt c 8
  simp only at ha ho hp8
  have hx : Go.bits .xor .u8 ((hamP c 8 : Nat) : Int) ((bn c 8 % 128 : Nat) : Int) = ((syn c : Nat) : Int) := xor_u8 _ _ hl (Nat.mod_lt _ (by decide))
  have hs := syn_lt c
  have ht : ham_turned.f (c.extract 0 8) (syn c : Nat) = some (unturn (c.extract 0 8) (syn c)) := by
    unfold ham_turned.f unturn
    rw [if_pos ⟨hd, by omega⟩]
    rfl
  have hL := left_is (c.extract 0 8) hd
  rw [eP, eN] at hL
  have hO := ones_is (bn c 8) hcl
  rw [ho, ← h8] at hO
  rw [← h8] at ha
  exact ham_dec' c hc k _ (hamP c 8) (hamN c 8) (popB (bn c 8)) (bn c 8 % 128) (syn c) rfl rfl hN hp8 hs hL hO ha hx ht
/-- The words of the code: nothing is left, an even number of bits. -/
structure IsCode (c : ByteArray) : Prop where
  size : c.size = 9
  syn0 : syn c = 0
  par0 : par c = 0
theorem IsCode.good {c : ByteArray} (h : IsCode c) (k : Nat) : ham_Decode.f (k + 1) c = some (c.extract 0 8, 2, 0) := by
  rw [ham_dec c h.size, h.syn0, h.par0]; rfl
theorem pl9_facts : ∀ j : Fin 72, pl9 j.val ≤ 71 ∧ (j.val < 64 → plcIdx ((pl9 j.val : Nat) : Int) = some j.val) ∧ (64 ≤ j.val → plcIdx ((pl9 j.val : Nat) : Int) = none) := by decide +kernel
theorem pl9_ne : ∀ (i j : Fin 72), i ≠ j → pl9 i.val ≠ pl9 j.val := by decide +kernel
theorem IsCode.one {c : ByteArray} (h : IsCode c) (j : Nat) (hj : j < 72) (k : Nat) : ham_Decode.f (k + 1) (flipAt c j) = some (c.extract 0 8, 3, 0) := by
  obtain ⟨h1, h2, h3⟩ := pl9_facts ⟨j, hj⟩
  simp only at h1 h2 h3
  have hz : (flipAt c j).size = 9 := by rw [flipAt_size, h.size]
  rw [ham_dec _ hz, par_turn c h.size j hj, syn_turn c h.size j hj, h.syn0, h.par0, Nat.zero_xor, if_neg (by decide), if_neg (by omega)]
  congr 2
  unfold unturn
  have hcs := h.size
  have hd : ((flipAt c j).extract 0 8).size = 8 := size_extract' _ 0 8 (by omega)
  by_cases h64 : j < 64
  · rw [h2 h64]
    show flipAt ((flipAt c j).extract 0 8) j = _
    apply bext
    · rw [flipAt_size, hd, size_extract' _ 0 8 (by omega)]
    · intro i hi
      rw [flipAt_size, hd] at hi
      rw [bn_flipAt _ _ _ (by rw [hd]; omega), bn_extract _ 0 8 i (by omega) (by omega), bn_extract c 0 8 i (by omega) (by omega), Nat.zero_add, bn_flipAt _ _ _ (by omega)]
      by_cases hi2 : i = j / 8
      · rw [if_pos hi2, if_pos hi2, Nat.xor_assoc, Nat.xor_self, Nat.xor_zero]
      · rw [if_neg hi2, if_neg hi2]
  · rw [h3 (by omega)]
    show (flipAt c j).extract 0 8 = _
    apply bext
    · rw [hd, size_extract' _ 0 8 (by omega)]
    · intro i hi
      rw [hd] at hi
      rw [bn_extract _ 0 8 i (by omega) (by omega), bn_extract c 0 8 i (by omega) (by omega), Nat.zero_add, bn_flipAt _ _ _ (by omega), if_neg (by omega)]
theorem xor_0 {a b : Nat} (h : a ^^^ b = 0) : a = b := by
  have := congrArg (· ^^^ b) h
  simpa [Nat.xor_assoc] using this
theorem IsCode.two {c : ByteArray} (h : IsCode c) (i j : Nat) (hi : i < 72) (hj : j < 72) (hij : i ≠ j) (k : Nat) : ham_Decode.f (k + 1) (flipAt (flipAt c i) j) = some (⟨#[]⟩, 4, 0) := by
  have hz : (flipAt c i).size = 9 := by rw [flipAt_size, h.size]
  have hz2 : (flipAt (flipAt c i) j).size = 9 := by rw [flipAt_size, hz]
  have hne := pl9_ne ⟨i, hi⟩ ⟨j, hj⟩ (by simpa using hij)
  simp only at hne
  rw [ham_dec _ hz2, par_turn _ hz j hj, par_turn c h.size i hi, h.par0, if_pos (by decide), syn_turn _ hz j hj, syn_turn c h.size i hi, h.syn0, Nat.zero_xor, if_neg (fun e => hne (xor_0 e))]
end Go.Proofs.YtbcgddacmjliaaaDoor.PF
end
