/- The law's proof: words, contracts of the functions that it reaches, plain lemmas. -/
import Derived.ArgAppend
import Derived.Below
import Derived.BigQuiet
import Derived.Carry
import Derived.Deep.AppendLies
import Derived.Deep.CutBlock
import Derived.Deep.DeepCutAuto
import Derived.Deep.Draws
import Derived.Deep.LoopGhost
import Derived.Deep.OwnRows
import Derived.Deep.QuietTactic
import Derived.Deep.RegionHeld3
import Derived.Deep.RegionWith
import Derived.KernelRfl
import Derived.Laws.BitsLemmas
import Derived.Laws.BytesArg
import Derived.Laws.IdiomCopy
import Derived.Laws.MakeOwn
import Derived.Laws.OwnMore
import Derived.Laws.Rows
import Derived.Laws.Slices
import Derived.Lib.AppendStr
import Derived.Lib.BufferMore
import Derived.Lib.ConvBytes
import Derived.Lib.Hide
import Derived.Lib.LazyBuf
import Derived.Maps.AppendAt
import Derived.OpenShut
import Derived.OrdersHeld
import Derived.Outline
import Derived.OwnWalk
import Derived.OwnWalkIn
import Derived.RegionTactic
import Derived.RowKit3
import Derived.StillTailTactics
import Derived.Tactics
import Derived.WalkKit
import Derived.WideLaws
import Derived.Test.YtbcgddacmjliaaaDoorProg
import Derived.Test.YtbcgddacmjliaaaDoorFe15
import Derived.IntWalk
import Derived.Test.YtbcgddacmjliaaaDoorFe11
import Derived.Test.YtbcgddacmjliaaaDoorFe7
import Derived.Test.YtbcgddacmjliaaaDoorFe5
import Derived.Test.YtbcgddacmjliaaaDoorFe16
import Derived.Test.YtbcgddacmjliaaaDoorFe9
import Derived.Test.YtbcgddacmjliaaaDoorFe17
section
/- The document's Flip, by hand. -/
set_option linter.unusedVariables false
set_option linter.unusedSimpArgs false
namespace Go.Proofs.YtbcgddacmjliaaaDoor.PF
open Go.RowKit Go.Shelf Go.Proofs.YtbcgddacmjliaaaDoorW.PrintWords Go.Proofs.YtbcgddacmjliaaaDoor.Hw

theorem power8 : ∀ m : Fin 8, deckleref01_Power.f 16 ((m.val : Nat) : Int) = some (((2 ^ m.val : Nat) : Int)) := by decide +kernel
theorem bit8 : ∀ (m : Fin 8) (b : Fin 256), deckleref01_Bit.f 16 ((b.val : Nat) : Int) ((m.val : Nat) : Int) = some (((b.val / 2 ^ m.val % 2 : Nat) : Int)) := by decide +kernel
theorem xor8 : ∀ (m : Fin 8) (b : Fin 256), b.val ^^^ 2 ^ m.val = if b.val / 2 ^ m.val % 2 = 1 then b.val - 2 ^ m.val else b.val + 2 ^ m.val := by decide +kernel
theorem le8 : ∀ (m : Fin 8) (b : Fin 256), (b.val / 2 ^ m.val % 2 = 1 → 2 ^ m.val ≤ b.val) ∧ (b.val / 2 ^ m.val % 2 ≠ 1 → b.val + 2 ^ m.val ≤ 255) := by decide +kernel
theorem pow8 : ∀ m : Fin 8, 1 ≤ 2 ^ m.val ∧ 2 ^ m.val ≤ 128 := by decide
theorem cell_bn (s : ByteArray) (j : Nat) (hj : j < s.size) : ((s.data.toList.getD j 0).toNat : Int) = ((bn s j : Nat) : Int) := by
  rw [← bn_bt, ← rd_bytesOf]
  unfold rd bytesOf
  rw [Int.toNat_natCast, List.getD_eq_getElem?_getD, List.getD_eq_getElem?_getD, List.getElem?_map, List.getElem?_eq_getElem (by rw [data_length]; exact hj)]
  rfl
theorem flipAt_is (s : ByteArray) (k : Nat) : flipAt s k = strOfNums ((bytesOf s).set (k / 8) (((bn s (k / 8) ^^^ 2 ^ (k % 8) : Nat) : Int))) := by
  unfold flipAt
  have e1 : (k : Int) / 8 = ((k / 8 : Nat) : Int) := by omega
  have hp := pow8 ⟨k % 8, by omega⟩
  simp only at hp
  have e2 : ((2 : Int) ^ (k % 8)) % 256 = ((2 ^ (k % 8) : Nat) : Int) := by
    have : ((2 : Int) ^ (k % 8)) = ((2 ^ (k % 8) : Nat) : Int) := by simp
    rw [this]; omega
  rw [e1, e2, bn_bt, u8_xor _ _ (bn_lt _ _) (by omega)]
set_option maxHeartbeats 4000000 in
set_option maxRecDepth 100000 in
theorem refFlip_yes (s : ByteArray) (k : Nat) (w : World) (hs : s.size ≤ 140737488355328) (hk : k / 8 < s.size) :
    Calls Tryd.prog 42 #[.string s, .int .i64 k] w fun e w' => e = .returned (.tuple #[.string (flipAt s k), .int .i64 0]) ∧ Below w.heap.size w w' := by
  have hF := flipAt_is s k
  have hcv := Lib.run_convert_string_bytes (P := Tryd.prog) w 9 46 5 s Tryd.underlying9 Tryd.underlying46 Tryd.underlying5
  have hm : k % 8 < 8 := by omega
  have hb := bn_lt s (k / 8)
  have hP := power8 ⟨k % 8, hm⟩
  have hB := bit8 ⟨k % 8, hm⟩ ⟨bn s (k / 8), hb⟩
  have hX := xor8 ⟨k % 8, hm⟩ ⟨bn s (k / 8), hb⟩
  have hL := le8 ⟨k % 8, hm⟩ ⟨bn s (k / 8), hb⟩
  have hp := pow8 ⟨k % 8, hm⟩
  have hcell := Lib.bytesWorld_cell w 5 s (k / 8) hk
  rw [cell_bn s (k / 8) hk] at hcell
  have hfr := bw_frozen w 5 s (k / 8) hk
  have hrd := bytes_reads w 5 s (by omega)
  simp only at hP hB hX hL hp
  obtain ⟨m, hme⟩ : ∃ m, m = k % 8 := ⟨_, rfl⟩
  obtain ⟨b, hbe⟩ : ∃ b, b = bn s (k / 8) := ⟨_, rfl⟩
  obtain ⟨q, hqe⟩ : ∃ q, q = k / 8 := ⟨_, rfl⟩
  have km : (k : Int) % 8 = (m : Nat) := by omega
  have kq : (k : Int) / 8 = (q : Nat) := by omega
  rw [← hme] at hP hB hX hL hp hF
  rw [← hqe] at hk hcell hfr hF hbe
  rw [← hqe] at hB hX hL
  rw [← hbe] at hB hX hL hcell hF
  obtain ⟨p, hpe⟩ : ∃ p, p = 2 ^ m := ⟨_, rfl⟩
  rw [← hpe] at hP hB hX hL hp hF
  obtain ⟨p0, p1⟩ := hp
  have HBW := Aside0.mk (bw_below w 5 s)
  have HF := Lib.hid hF
  have HP := Aside0.mk hP
  have HBB := Aside0.mk hB
  obtain ⟨C, hC⟩ : ∃ C, C = grownCap w s.size 0 5 := ⟨_, rfl⟩
  rw [← hC] at hcv
  have d1 : decide ((k : Int) < 0) = false := decide_eq_false (by omega)
  have d2 : decide ((s.size : Int) ≤ (q : Int)) = false := decide_eq_false (by omega)
  have j1 : (q : Int) < (s.size : Int) := by omega
  have hb255 : b < 256 := by rw [hbe, hqe]; exact bn_lt _ _
  clear hP hB hme hbe hqe hpe hF hC
  obtain ⟨w1, hW⟩ : ∃ w1, w1 = Lib.bytesWorld w 5 s := ⟨_, rfl⟩
  rw [← hW] at hcell hfr hrd hcv HBW
  have hbl : w.heap.size < w1.heap.size := World.block_lt_of_cell? w1 _ hcell
  clear hW
  have hp256 : (p : Int) % 256 = p := by omega
  have key : ∀ (x : Nat), (w1.cell? ⟨w.heap.size, q, none⟩ = some (.int .u8 b)) → ∀ w3, Below w1.heap.size w1 w3 → (w3.cell? ⟨w.heap.size, q, none⟩ = some (.int .u8 b)) ∧ w3.frozen? ⟨w.heap.size, q, none⟩ = false ∧
      (convert 46 9 (.slice (some ⟨w.heap.size, 0, none⟩) s.size C)).run Tryd.prog (w3.setCell ⟨w.heap.size, q, none⟩ (.int .u8 x)) = .ok (.string (strOfNums ((bytesOf s).set q x))) (w3.setCell ⟨w.heap.size, q, none⟩ (.int .u8 x)) := fun x _ w3 hb3 =>
    ⟨(hb3.cell (p := ⟨w.heap.size, q, none⟩) hbl).trans hcell, (hb3.frozen (p := ⟨w.heap.size, q, none⟩) hbl).trans hfr,
      string_of_reads (P := Tryd.prog) (dst := 9) (c := C) Tryd.underlying46 Tryd.underlying5 Tryd.underlying9 (reads_set (hrd.below hb3) q hk x)⟩
  have KEY := Aside0.mk key
  clear key hrd
  go_enter Tryd.func42, Tryd.ntmps42
  go_wp2_with fail
  try rw [km]
  refine (deckleref01_Power.calls 16 (m : Int) (p : Int) _ HP.out).mono ?_
  rintro e w2 ⟨rfl, hb2'⟩
  have hb2 : Below w1.heap.size w1 w2 := hb2'.below
  clear hb2'
  obtain ⟨k1, k2, _⟩ := KEY.out 0 hcell w2 hb2
  go_wp2_with fail
  try rw [km]
  refine (deckleref01_Bit.calls 16 (b : Int) (m : Int) _ _ HBB.out).mono ?_
  rintro e w3 ⟨rfl, hb3'⟩
  have hb3 : Below w2.heap.size w2 w3 := hb3'.below
  clear hb3'
  have hb4 := below_then hb2 hb2.size hb3
  have HB4 := Aside0.mk (below_then HBW.out HBW.out.size hb4)
  have HB4' := Aside0.mk hb4
  clear hb2 hb3 hb4 k1 k2 hfr
  by_cases hbit : b / p % 2 = 1
  · have hx : b ^^^ p = b - p := by rw [hX, if_pos hbit]
    have hle := hL.1 hbit
    obtain ⟨k1, k2, k3⟩ := KEY.out (b - p) hcell w3 HB4'.out
    rw [hx] at HF
    have hc : ((b - p : Nat) : Int) = (b : Int) - (p : Int) := by omega
    rw [hc] at k3 HF
    have d3 : (((b / p % 2 : Nat) : Int) == 1) = true := by rw [hbit]; rfl
    clear hX hx hL hbit hc hcell
    go_wp2_with fail
    go_ret2
    exact ⟨by rw [HF.out]; rfl, (below_then HB4.out (by have := HB4.out.size; omega) (Below.refl _ _)).setCell (p := ⟨w.heap.size, q, none⟩) (Nat.le_refl _) _⟩
  · have hx : b ^^^ p = b + p := by rw [hX, if_neg hbit]
    have hle := hL.2 hbit
    obtain ⟨k1, k2, k3⟩ := KEY.out (b + p) hcell w3 HB4'.out
    rw [hx] at HF
    have hc : ((b + p : Nat) : Int) = (b : Int) + (p : Int) := by omega
    rw [hc] at k3 HF
    have d3 : (((b / p % 2 : Nat) : Int) == 1) = false := by simp only [beq_eq_false_iff_ne]; omega
    clear hX hx hL hbit hc hcell
    go_wp2_with fail
    go_ret2
    exact ⟨by rw [HF.out]; rfl, (below_then HB4.out (by have := HB4.out.size; omega) (Below.refl _ _)).setCell (p := ⟨w.heap.size, q, none⟩) (Nat.le_refl _) _⟩
def deckleref01_Flip.f (s : ByteArray) (k : Int) : Option (ByteArray × Int) := if s.size ≤ 140737488355328 ∧ k ≤ 9223372036854775807 then some (if k < 0 ∨ (s.size : Int) ≤ k / 8 then (⟨#[]⟩, 1) else (flipAt s k.toNat, 0)) else none
set_option maxHeartbeats 2000000 in
set_option maxRecDepth 100000 in
theorem deckleref01_Flip.calls (s : ByteArray) (k : Int) (r1 : ByteArray) (r2 : Int) (w : World) (h : deckleref01_Flip.f s k = some (r1, r2)) :
    Calls Tryd.prog 42 #[.string s, .int .i64 k] w fun e w' => e = .returned (.tuple #[.string r1, .int .i64 r2]) ∧ Below w.heap.size w w' := by
  unfold deckleref01_Flip.f at h
  by_cases hs : s.size ≤ 140737488355328 ∧ k ≤ 9223372036854775807
  · rw [if_pos hs] at h
    obtain ⟨hs, hk63⟩ := hs
    by_cases hk : k < 0 ∨ (s.size : Int) ≤ k / 8
    · rw [if_pos hk] at h
      simp only [Option.some.injEq, Prod.mk.injEq] at h
      obtain ⟨rfl, rfl⟩ := h
      by_cases h0 : k < 0
      · have d1 : decide (k < 0) = true := decide_eq_true h0
        clear hk
        go_enter Tryd.func42, Tryd.ntmps42
        go_wp2_with fail
        go_ret2
        exact ⟨rfl, Below.refl _ _⟩
      · have d1 : decide (k < 0) = false := decide_eq_false h0
        have h1 : (s.size : Int) ≤ k / 8 := hk.resolve_left h0
        have h2 : 0 ≤ k := by omega
        have d2 : decide ((s.size : Int) ≤ k / 8) = true := decide_eq_true h1
        clear hk
        go_enter Tryd.func42, Tryd.ntmps42
        go_wp2_with fail
        go_ret2
        exact ⟨rfl, Below.refl _ _⟩
    · rw [if_neg hk] at h
      simp only [Option.some.injEq, Prod.mk.injEq] at h
      obtain ⟨rfl, rfl⟩ := h
      obtain ⟨n, rfl⟩ : ∃ n : Nat, k = n := ⟨k.toNat, by omega⟩
      rw [Int.toNat_natCast]
      exact refFlip_yes s n w hs (by omega)
  · rw [if_neg hs] at h; cases h
end Go.Proofs.YtbcgddacmjliaaaDoor.PF
end

section
/- Package bits, by hand: Flip: one bit turned. -/
set_option linter.unusedVariables false
set_option linter.unusedSimpArgs false
namespace Go.Proofs.YtbcgddacmjliaaaDoor.PF
open Go.RowKit Go.Shelf Go.Proofs.YtbcgddacmjliaaaDoorW.PrintWords Go.Proofs.YtbcgddacmjliaaaDoor.Mem Go.Proofs.YtbcgddacmjliaaaDoor.Hw

theorem reads_one (W : World) (x : Int) : ReadsInt (W.alloc (.cells #[.int .u8 x] 5)) .u8 (some ⟨W.heap.size, 0, none⟩) 1 [x] := by
  refine ⟨rfl, by omega, fun _ => ⟨_, rfl, fun j hj => ?_⟩⟩
  obtain rfl : j = 0 := by omega
  rw [add0]
  exact blk_cell (blk_new W _) 0
theorem flip_str (s : ByteArray) (q : Nat) (hq : q < s.size) (x : Int) : (s.extract 0 q ++ strOfNums [x]) ++ s.extract (q + 1) s.size = strOfNums ((bytesOf s).set q x) := by
  apply ByteArray.ext
  apply Array.ext'
  have h1 : ((s.extract 0 q ++ strOfNums [x]) ++ s.extract (q + 1) s.size).data.toList = s.data.toList.take q ++ [UInt8.ofNat x.toNat] ++ s.data.toList.drop (q + 1) := by
    simp only [ByteArray.data_append, Array.toList_append, ByteArray.data_extract, Array.toList_extract]
    simp [strOfNums, List.extract, List.take_of_length_le, data_length]
  have h2 : (strOfNums ((bytesOf s).set q x)).data.toList = s.data.toList.set q (UInt8.ofNat x.toNat) := by
    simp [strOfNums, bytesOf, List.map_set]
    rw [List.map_congr_left (g := id) (fun a _ => by simp)]
    simp
  rw [h1, h2, List.set_eq_take_append_cons_drop, if_pos (by rw [data_length]; exact hq)]
  simp
set_option maxHeartbeats 4000000 in
set_option maxRecDepth 100000 in
theorem bitsFlip_yes (s : ByteArray) (k : Nat) (w : World) (hs : s.size ≤ 140737488355328) (hlt : k / 8 < s.size) :
    Calls Tryd.prog 40 #[.string s, .int .i64 k] w fun e w' => e = .returned (.tuple #[.string (flipAt s k), .int .i64 0]) ∧ Below w.heap.size w w' := by
  have hF := flipAt_is s k
  obtain ⟨p0, p1⟩ := pow8 ⟨k % 8, by omega⟩
  have hxr := u8_xor (bn s (k / 8)) (2 ^ (k % 8)) (bn_lt _ _) (by simp only at p1; omega)
  simp only at p0 p1
  obtain ⟨p, hp⟩ : ∃ p, p = 2 ^ (k % 8) := ⟨_, rfl⟩
  have hpw0 : ((2 : Int) ^ (k % 8)) % 256 = ((p : Nat) : Int) := by
    have : ((2 : Int) ^ (k % 8)) = ((2 ^ (k % 8) : Nat) : Int) := by simp
    rw [this, ← hp]; omega
  rw [← hp] at p0 p1 hxr hF
  have hb : ∀ (i : Nat) (h : i < s.size), ((s[i]'h).toNat : Int) = (bn s i : Nat) := fun i h => by
    have h1 := bt_at s (i : Int) (by rw [Int.toNat_natCast]; exact h)
    rw [← bn_bt, ← h1]; rfl
  obtain ⟨q, hq⟩ : ∃ q, q = k / 8 := ⟨_, rfl⟩
  have hfs := flip_str s (k / 8) hlt ((bn s (k / 8) ^^^ p : Nat) : Int)
  have kx : (k : Int) / 8 = (q : Nat) := by omega
  obtain ⟨c, hc⟩ : ∃ c, c = bn s (k / 8) := ⟨_, rfl⟩
  rw [← hc] at hxr hF hfs
  rw [← hq] at hc
  have hlq : q < s.size := hq ▸ hlt
  have hb2 := hb q hlq
  rw [← hc] at hb2
  simp only [← hq] at hF hfs
  clear hlt
  obtain ⟨x, hx⟩ : ∃ x, ((c ^^^ p : Nat) : Int) = x := ⟨_, rfl⟩
  rw [hx] at hxr hF hfs
  rw [← hF] at hfs
  have HFS := Lib.hid hfs
  have hc1 := fun (W : World) => string_of_reads (P := Tryd.prog) (dst := 9) (c := 1) Tryd.underlying46 Tryd.underlying5 Tryd.underlying9 (reads_one W x)
  have hc2 := fun (W : World) => string_of_reads (P := Tryd.prog) (dst := 9) (c := 1) (w := (W.alloc (.cells #[.int .u8 x] 5)).drew) Tryd.underlying46 Tryd.underlying5 Tryd.underlying9 (ReadsInt.below (reads_one W x) ⟨rfl, rfl, rfl, Nat.le_refl _, fun _ _ => rfl⟩)
  have y1 : (strOfNums [x]).size = 1 := rfl
  have y2 : (s.extract 0 q).size = q := by rw [ByteArray.size_extract]; omega
  have y3 : (s.extract (q + 1) s.size).size = s.size - (q + 1) := by rw [ByteArray.size_extract]; omega
  have z1 : (s.extract 0 q).size + (strOfNums [x]).size ≤ 9223372036854775807 := by rw [y1, y2]; omega
  have z2 : (s.extract 0 q ++ strOfNums [x]).size + (s.extract (q + 1) s.size).size ≤ 9223372036854775807 := by rw [ByteArray.size_append, y1, y2, y3]; omega
  clear y1 y2 y3
  have d1 : decide ((k : Int) < 0) = false := decide_eq_false (by omega)
  have d2 : decide ((s.size : Int) ≤ (q : Int)) = false := decide_eq_false (by omega)
  have j0 : (0 : Int) ≤ (q : Int) := by omega
  have j1 : (q : Int) < (s.size : Int) := by omega
  have j2 : (q : Int) ≤ (s.size : Int) := by omega
  have j3 : (q : Int) + 1 ≤ (s.size : Int) := by omega
  have hk0 : (k : Int) ≤ 9223372036854775807 := by omega
  have hpw := hpw0
  clear hpw0
  clear hF hfs hx hb
  clear hc hp hq
  go_enter Tryd.func40, Tryd.ntmps40
  go_wp2_with fail
  go_region
  all_goals go_wp2_with fail
  all_goals go_ret2
  all_goals exact ⟨by rw [← HFS.out]; rfl, below_drew1 ((Below.refl _ _).alloc (Nat.le_refl _) _)⟩
def bits_Flip.f (s : ByteArray) (k : Int) : Option (ByteArray × Int) := if s.size ≤ 140737488355328 ∧ k ≤ 9223372036854775807 then some (if k < 0 ∨ (s.size : Int) ≤ k / 8 then (⟨#[]⟩, 1) else (flipAt s k.toNat, 0)) else none
set_option maxHeartbeats 2000000 in
set_option maxRecDepth 100000 in
theorem bits_Flip.calls (s : ByteArray) (k : Int) (r1 : ByteArray) (r2 : Int) (w : World) (h : bits_Flip.f s k = some (r1, r2)) :
    Calls Tryd.prog 40 #[.string s, .int .i64 k] w fun e w' => e = .returned (.tuple #[.string r1, .int .i64 r2]) ∧ Below w.heap.size w w' := by
  unfold bits_Flip.f at h
  by_cases hs : s.size ≤ 140737488355328 ∧ k ≤ 9223372036854775807
  · rw [if_pos hs] at h
    obtain ⟨hs, hk63⟩ := hs
    by_cases hk : k < 0 ∨ (s.size : Int) ≤ k / 8
    · rw [if_pos hk] at h
      simp only [Option.some.injEq, Prod.mk.injEq] at h
      obtain ⟨rfl, rfl⟩ := h
      by_cases h0 : k < 0
      · have d1 : decide (k < 0) = true := decide_eq_true h0
        clear hk
        go_enter Tryd.func40, Tryd.ntmps40
        go_wp2_with fail
        go_ret2
        exact ⟨rfl, Below.refl _ _⟩
      · have d1 : decide (k < 0) = false := decide_eq_false h0
        have h1 : (s.size : Int) ≤ k / 8 := hk.resolve_left h0
        have h2 : 0 ≤ k := by omega
        have d2 : decide ((s.size : Int) ≤ k / 8) = true := decide_eq_true h1
        clear hk
        go_enter Tryd.func40, Tryd.ntmps40
        go_wp2_with fail
        go_ret2
        exact ⟨rfl, Below.refl _ _⟩
    · rw [if_neg hk] at h
      simp only [Option.some.injEq, Prod.mk.injEq] at h
      obtain ⟨rfl, rfl⟩ := h
      obtain ⟨n, rfl⟩ : ∃ n : Nat, k = n := ⟨k.toNat, by omega⟩
      rw [Int.toNat_natCast]
      exact bitsFlip_yes s n w hs (by omega)
  · rw [if_neg hs] at h; cases h
end Go.Proofs.YtbcgddacmjliaaaDoor.PF
end

section
-- Written by a program (the kit's print.py, called by wip/bin/prseat.sh, mended by wip/bin/mend.py).
namespace Go.Proofs.YtbcgddacmjliaaaDoor.PF
open Go.RowKit Go.Proofs.YtbcgddacmjliaaaDoorW.PrintWords Go.Proofs.YtbcgddacmjliaaaDoorW.PrintLast Go.Proofs.YtbcgddacmjliaaaDoorW.PrintMore
attribute [local go_sem] max2_int min2_int max_two min_two max_three min_three max_four min_four   -- for this text's walks alone
set_option linter.unusedVariables false
set_option linter.unusedSimpArgs false

/-! ### frame_Hurt: function 16 -/
def frame_Hurt.f (a0 : ByteArray) (a1 : Int) (a2 : Int) : Option (ByteArray) := if (a0.size : Int) < 9 then (some a0) else ((frame_rest.f a1 72).bind fun t149 => ((frame_rest.f a2 71).bind fun t150 => ((bits_Flip.f a0 t149).bind fun bt151 => ((bits_Flip.f bt151.1 (Int.tmod (wrap64 ((wrap64 (t149 + 1)) + t150)) 72)).bind fun bt153 => (some bt153.1)))))
set_option maxHeartbeats 8000000 in
set_option maxRecDepth 100000 in
theorem frame_Hurt.calls (a0 : ByteArray) (a1 : Int) (a2 : Int) (r : ByteArray) (w : World) (h : frame_Hurt.f a0 a1 a2 = some r) :
    Calls Tryd.prog 16 #[.string a0, .int .i64 a1, .int .i64 a2] w fun e w' => e = .returned (.string r) ∧ Below w.heap.size w w' := by
  have HB := Aside0.mk (Below.refl w.heap.size w)
  have H : (if (a0.size : Int) < 9 then (some a0) else ((frame_rest.f a1 72).bind fun t149 => ((frame_rest.f a2 71).bind fun t150 => ((bits_Flip.f a0 t149).bind fun bt151 => ((bits_Flip.f bt151.1 (Int.tmod (wrap64 ((wrap64 (t149 + 1)) + t150)) 72)).bind fun bt153 => (some bt153.1)))))) = some r := h
  clear h
  by_cases c4 : (a0.size : Int) < 9
  · rw [if_pos c4] at H
    have c4b0 : decide ((a0.size : Int) < 9) = true := decide_eq_true c4
    have c4b1 : decide (a0.size < 9) = true := decide_eq_true (by omega)
    clear c4
    obtain rfl := Option.some.inj H
    go_enter Tryd.func16, Tryd.ntmps16
    go_wp2
    go_ret
    exact ⟨by first | rfl | (simp [errW_none, errW_some] <;> rfl) | (simp [*, errW_none, errW_some] <;> rfl), by repeat (first | (with_reducible first | exact HB.out | apply below_alloc | apply pw_below_drewN | apply below_drew1) | exact HB.out)⟩
  · rw [if_neg c4] at H
    have c4b0 : decide ((a0.size : Int) < 9) = false := decide_eq_false c4
    have c4b1 : decide (a0.size < 9) = false := decide_eq_false (by omega)
    clear c4
    replace H := Option.bind_eq_some_iff.mp H
    obtain ⟨t149, A50, H⟩ := H
    replace H : ((frame_rest.f a2 71).bind fun t150 => ((bits_Flip.f a0 t149).bind fun bt151 => ((bits_Flip.f bt151.1 (Int.tmod (wrap64 ((wrap64 (t149 + 1)) + t150)) 72)).bind fun bt153 => (some bt153.1)))) = some r := H
    have A5 := Aside0.mk A50
    clear A50
    replace H := Option.bind_eq_some_iff.mp H
    obtain ⟨t150, A60, H⟩ := H
    replace H : ((bits_Flip.f a0 t149).bind fun bt151 => ((bits_Flip.f bt151.1 (Int.tmod (wrap64 ((wrap64 (t149 + 1)) + t150)) 72)).bind fun bt153 => (some bt153.1))) = some r := H
    have A6 := Aside0.mk A60
    clear A60
    replace H := Option.bind_eq_some_iff.mp H
    obtain ⟨⟨t151, t152⟩, A70, H⟩ := H
    replace H : ((bits_Flip.f t151 (Int.tmod (wrap64 ((wrap64 (t149 + 1)) + t150)) 72)).bind fun bt153 => (some bt153.1)) = some r := H
    have A7 := Aside0.mk A70
    clear A70
    replace H := Option.bind_eq_some_iff.mp H
    obtain ⟨⟨t153, t154⟩, A80, H⟩ := H
    replace H : (some t153) = some r := H
    have A8 := Aside0.mk A80
    clear A80
    obtain rfl := Option.some.inj H
    go_enter Tryd.func16, Tryd.ntmps16
    go_wp2_with (first | ((with_reducible refine gate_callee (f := 39) rfl ?_); refine goesL_ (some 14) rfl rfl Tryd.func39 (by kernel_rfl) rfl #[.int .i64 a1, .int .i64 72] rfl (by (try simp only [List.map_toArray, List.map_cons, List.map_nil]); first | done | rfl | (simp only [List.length_drop, List.length_take]; rfl)) ?_; (with_reducible refine (frame_rest.calls a1 72 t149 _ A5.out).mono ?_); rintro e w' ⟨rfl, ⟨nd, rfl⟩⟩; refine ⟨_, rfl, ?_⟩) | ((with_reducible refine gate_callee (f := 39) rfl ?_); refine goesL_ (some 18) rfl rfl Tryd.func39 (by kernel_rfl) rfl #[.int .i64 a2, .int .i64 71] rfl (by (try simp only [List.map_toArray, List.map_cons, List.map_nil]); first | done | rfl | (simp only [List.length_drop, List.length_take]; rfl)) ?_; (with_reducible refine (frame_rest.calls a2 71 t150 _ A6.out).mono ?_); rintro e w' ⟨rfl, ⟨nd, rfl⟩⟩; refine ⟨_, rfl, ?_⟩) | ((with_reducible refine gate_callee (f := 40) rfl ?_); refine goesL_ (some 24) rfl rfl Tryd.func40 (by kernel_rfl) rfl #[.string a0, .int .i64 t149] rfl (by (try simp only [List.map_toArray, List.map_cons, List.map_nil]); first | done | rfl | (simp only [List.length_drop, List.length_take]; rfl)) ?_; (with_reducible refine (bits_Flip.calls a0 t149 t151 t152 _ A7.out).mono ?_); rintro e w9 ⟨rfl, hb⟩; refine ⟨_, rfl, ?_⟩; have n0_ := Aside0.mk (below_step (by repeat (first | (with_reducible first | exact HB.out | apply below_alloc | apply pw_below_drewN | apply below_drew1) | exact HB.out)) hb); clear HB; have HB := n0_; clear n0_; (try clear hb); (try clear hb2); (try clear hk); (try clear hi)) | ((with_reducible refine gate_callee (f := 40) rfl ?_); refine goesL_ (some 30) rfl rfl Tryd.func40 (by kernel_rfl) rfl #[.string t151, .int .i64 (Int.tmod (wrap64 ((wrap64 (t149 + 1)) + t150)) 72)] rfl (by (try simp only [List.map_toArray, List.map_cons, List.map_nil]); first | done | rfl | (simp only [List.length_drop, List.length_take]; rfl)) ?_; (with_reducible refine (bits_Flip.calls t151 (Int.tmod (wrap64 ((wrap64 (t149 + 1)) + t150)) 72) t153 t154 _ A8.out).mono ?_); rintro e w10 ⟨rfl, hb⟩; refine ⟨_, rfl, ?_⟩; have n0_ := Aside0.mk (below_step (by repeat (first | (with_reducible first | exact HB.out | apply below_alloc | apply pw_below_drewN | apply below_drew1) | exact HB.out)) hb); clear HB; have HB := n0_; clear n0_; (try clear hb); (try clear hb2); (try clear hk); (try clear hi)))
    go_ret
    exact ⟨by first | rfl | (simp [errW_none, errW_some] <;> rfl) | (simp [*, errW_none, errW_some] <;> rfl), by repeat (first | (with_reducible first | exact HB.out | apply below_alloc | apply pw_below_drewN | apply below_drew1) | exact HB.out)⟩

end Go.Proofs.YtbcgddacmjliaaaDoor.PF
end

section
-- Written by a program (the kit's print.py, called by wip/bin/prseat.sh, mended by wip/bin/mend.py).
namespace Go.Proofs.YtbcgddacmjliaaaDoor.PF
open Go.RowKit Go.Proofs.YtbcgddacmjliaaaDoorW.PrintWords Go.Proofs.YtbcgddacmjliaaaDoorW.PrintLast Go.Proofs.YtbcgddacmjliaaaDoorW.PrintMore
attribute [local go_sem] max2_int min2_int max_two min_two max_three min_three max_four min_four   -- for this text's walks alone
set_option linter.unusedVariables false
set_option linter.unusedSimpArgs false

/-! ### ham_Decode: function 32 -/
def ham_Decode.j0 : Nat → ByteArray → Int → Bool → Bool → Option (ByteArray × Int × Int)
  | 0, _, _, _, _ => none
  | k + 1, x2, x5, x8, x31 => if x31 = true then (some (x2, 2, 0)) else (if x8 = true then (if x5 > 71 then (some ((⟨#[]⟩ : ByteArray), 4, 0)) else ((ham_turned.f x2 x5).bind fun t125 => (some (t125, 3, 0)))) else (some ((⟨#[]⟩ : ByteArray), 4, 0)))
def ham_Decode.f (k : Nat) (a0 : ByteArray) : Option (ByteArray × Int × Int) := if (a0.size : Int) = 9 then (if 0 ≤ 8 then (if 8 ≤ (a0.size : Int) then ((ham_left.f (a0.extract 0 8)).bind fun bt122 => (if 8 < (a0.size : Int) then ((bits_OnesCount8.f (bt a0 8)).bind fun t124 => (if ((Int.tmod (wrap64 (bt122.2 + t124)) 2) = 1) then (ham_Decode.j0 k (a0.extract 0 8) (Go.bits .xor .u8 bt122.1 (Go.bits .and .u8 (bt a0 8) 127)) ((Int.tmod (wrap64 (bt122.2 + t124)) 2) == 1) false) else (ham_Decode.j0 k (a0.extract 0 8) (Go.bits .xor .u8 bt122.1 (Go.bits .and .u8 (bt a0 8) 127)) ((Int.tmod (wrap64 (bt122.2 + t124)) 2) == 1) ((Go.bits .xor .u8 bt122.1 (Go.bits .and .u8 (bt a0 8) 127)) == 0)))) else (none))) else (none)) else (none)) else (some ((⟨#[]⟩ : ByteArray), 0, 4))
theorem ham_Decode.mono_l : ∀ k, (∀ y0 y1 y2 y3, LeO (ham_Decode.j0 k y0 y1 y2 y3) (ham_Decode.j0 (k + 1) y0 y1 y2 y3))
  | 0 => fun _ _ _ _ r h => by simp [ham_Decode.j0] at h
  | k + 1 => by
    have ih0 := ham_Decode.mono_l k
    · intro y0 y1 y2 y3
      unfold ham_Decode.j0
      repeat' first
      | (with_reducible exact ih0 _ _ _ _)
      | (with_reducible exact LeO.refl _)
      | (with_reducible exact LeO.none _)
      | (with_reducible refine LeO.ite ?_ ?_)
      | (with_reducible refine LeO.bind ?_ (fun _ => ?_))
      | exact ih0 _ _ _ _
      | exact LeO.none _
      | refine LeO.ite ?_ ?_
      | refine LeO.bind ?_ (fun _ => ?_)
theorem ham_Decode.mono : ∀ a0 k, LeO (ham_Decode.f k a0) (ham_Decode.f (k + 1) a0) := by
  intro a0 k
  have ih0 := ham_Decode.mono_l k
  unfold ham_Decode.f
  repeat' first
      | (with_reducible exact ih0 _ _ _ _)
      | (with_reducible exact LeO.refl _)
      | (with_reducible exact LeO.none _)
      | (with_reducible refine LeO.ite ?_ ?_)
      | (with_reducible refine LeO.bind ?_ (fun _ => ?_))
      | exact ih0 _ _ _ _
      | exact LeO.none _
      | refine LeO.ite ?_ ?_
      | refine LeO.bind ?_ (fun _ => ?_)
set_option maxHeartbeats 8000000 in
set_option maxRecDepth 100000 in
theorem ham_Decode.calls (k : Nat) (a0 : ByteArray) (r1 : ByteArray) (r2 : Int) (r3 : Int) (w : World) (h : ham_Decode.f k a0 = some (r1, r2, r3)) (HL : Aside0 (Hw.Laid w) := by first | exact HL | exact Hw.laid_at HL (by repeat (first | (with_reducible first | exact HB.out | apply below_alloc | apply pw_below_drewN | apply below_drew1) | exact HB.out | exact Below.refl _ _ | refine below_set ?_ (by apply Aside0.out; assumption)))) :
    Calls Tryd.prog 32 #[.string a0] w fun e w' => e = .returned (.tuple #[.string r1, .int .i64 r2, .int .i64 r3]) ∧ Below w.heap.size w w' := by
  have HB := Aside0.mk (Below.refl w.heap.size w)
  have H : (if (a0.size : Int) = 9 then (if 0 ≤ 8 then (if 8 ≤ (a0.size : Int) then ((ham_left.f (a0.extract 0 8)).bind fun bt122 => (if 8 < (a0.size : Int) then ((bits_OnesCount8.f (bt a0 8)).bind fun t124 => (if ((Int.tmod (wrap64 (bt122.2 + t124)) 2) = 1) then (ham_Decode.j0 k (a0.extract 0 8) (Go.bits .xor .u8 bt122.1 (Go.bits .and .u8 (bt a0 8) 127)) ((Int.tmod (wrap64 (bt122.2 + t124)) 2) == 1) false) else (ham_Decode.j0 k (a0.extract 0 8) (Go.bits .xor .u8 bt122.1 (Go.bits .and .u8 (bt a0 8) 127)) ((Int.tmod (wrap64 (bt122.2 + t124)) 2) == 1) ((Go.bits .xor .u8 bt122.1 (Go.bits .and .u8 (bt a0 8) 127)) == 0)))) else (none))) else (none)) else (none)) else (some ((⟨#[]⟩ : ByteArray), 0, 4))) = some (r1, r2, r3) := h
  clear h
  by_cases c2 : (a0.size : Int) = 9
  · rw [if_pos c2] at H
    have c2b0 : ((a0.size : Int) == 9) = true := beq_iff_eq.mpr c2
    have c2b1 : ((a0.size : Int) != 9) = false := bne_eq_false_iff_eq.mpr c2
    clear c2
    by_cases c3 : 0 ≤ 8
    · rw [if_pos c3] at H
      have c3b0 := eq_true c3
      have c3b1 : decide (0 ≤ 8) = true := decide_eq_true c3
      clear c3
      by_cases c4 : 8 ≤ (a0.size : Int)
      · rw [if_pos c4] at H
        have c4b0 := eq_true c4
        have c4b1 : decide (8 ≤ (a0.size : Int)) = true := decide_eq_true c4
        clear c4
        replace H := Option.bind_eq_some_iff.mp H
        obtain ⟨⟨t122, t123⟩, A50, H⟩ := H
        replace H : (if 8 < (a0.size : Int) then ((bits_OnesCount8.f (bt a0 8)).bind fun t124 => (if ((Int.tmod (wrap64 (t123 + t124)) 2) = 1) then (ham_Decode.j0 k (a0.extract 0 8) (Go.bits .xor .u8 t122 (Go.bits .and .u8 (bt a0 8) 127)) ((Int.tmod (wrap64 (t123 + t124)) 2) == 1) false) else (ham_Decode.j0 k (a0.extract 0 8) (Go.bits .xor .u8 t122 (Go.bits .and .u8 (bt a0 8) 127)) ((Int.tmod (wrap64 (t123 + t124)) 2) == 1) ((Go.bits .xor .u8 t122 (Go.bits .and .u8 (bt a0 8) 127)) == 0)))) else (none)) = some (r1, r2, r3) := H
        have A5 := Aside0.mk A50
        clear A50
        by_cases c6 : 8 < (a0.size : Int)
        · rw [if_pos c6] at H
          have c6b0 : decide (8 < (a0.size : Int)) = true := decide_eq_true c6
          have c6b1 : decide (8 < a0.size) = true := decide_eq_true (by omega)
          clear c6
          replace H := Option.bind_eq_some_iff.mp H
          obtain ⟨t124, A80, H⟩ := H
          replace H : (if ((Int.tmod (wrap64 (t123 + t124)) 2) = 1) then (ham_Decode.j0 k (a0.extract 0 8) (Go.bits .xor .u8 t122 (Go.bits .and .u8 (bt a0 8) 127)) ((Int.tmod (wrap64 (t123 + t124)) 2) == 1) false) else (ham_Decode.j0 k (a0.extract 0 8) (Go.bits .xor .u8 t122 (Go.bits .and .u8 (bt a0 8) 127)) ((Int.tmod (wrap64 (t123 + t124)) 2) == 1) ((Go.bits .xor .u8 t122 (Go.bits .and .u8 (bt a0 8) 127)) == 0))) = some (r1, r2, r3) := H
          have A8 := Aside0.mk A80
          clear A80
          have HC9 := Aside0.mk H
          clear H
          go_enter Tryd.func32, Tryd.ntmps32
          go_upto_region 8 with (first | ((with_reducible refine gate_callee (f := 47) rfl ?_); refine goesL_ (some 16) rfl rfl Tryd.func47 (by kernel_rfl) rfl #[.string (a0.extract 0 8)] rfl (by (try simp only [List.map_toArray, List.map_cons, List.map_nil]); first | done | rfl | (simp only [List.length_drop, List.length_take]; rfl)) ?_; (with_reducible refine (ham_left.calls (a0.extract 0 8) t122 t123 _ A5.out).mono ?_); rintro e w10 ⟨rfl, hb⟩; refine ⟨_, rfl, ?_⟩; have n0_ := Aside0.mk (below_step (by repeat (first | (with_reducible first | exact HB.out | apply below_alloc | apply pw_below_drewN | apply below_drew1) | exact HB.out)) hb); clear HB; have HB := n0_; clear n0_; (try clear hb); (try clear hb2); (try clear hk); (try clear hi); have p7 : 0 ≤ (8 : Int) := (by omega); have q7 : 8 < a0.size := (by have : (8 : Int) < (a0.size : Int) := of_decide_eq_true (by first | (with_reducible assumption) | assumption); omega); have hx7 : ∀ h : 8 < a0.size, ((a0[8]'h).toNat : Int) = bt a0 8 := bt_at a0 8; clear p7; have qi7 : (8 < (a0.size : Int)) = True := eq_true (of_decide_eq_true (by first | (with_reducible assumption) | assumption)); replace q7 := eq_true q7) | ((with_reducible refine gate_callee (f := 48) rfl ?_); refine goesL_ (some 27) rfl rfl Tryd.func48 (by kernel_rfl) rfl #[.int .u8 (bt a0 8)] rfl (by (try simp only [List.map_toArray, List.map_cons, List.map_nil]); first | done | rfl | (simp only [List.length_drop, List.length_take]; rfl)) ?_; (with_reducible refine (bits_OnesCount8.calls (bt a0 8) t124 _ A8.out).mono ?_); rintro e w11 ⟨rfl, hb⟩; refine ⟨_, rfl, ?_⟩; have n0_ := Aside0.mk (below_step (by repeat (first | (with_reducible first | exact HB.out | apply below_alloc | apply pw_below_drewN | apply below_drew1) | exact HB.out)) hb); clear HB; have HB := n0_; clear n0_; (try clear hb); (try clear hb2); (try clear hk); (try clear hi)))
          (try simp only [Act.put, List.setIfInBounds_toArray, List.set_cons_zero, List.set_cons_succ])
          go_cut [8, 31] (fun v8 v31 wc => ∃ (kq : Nat) (x31_8 : Bool), v8 = .bool ((Int.tmod (wrap64 (t123 + t124)) 2) == 1) ∧ v31 = .bool x31_8 ∧ Aside0 (ham_Decode.j0 kq (a0.extract 0 8) (Go.bits .xor .u8 t122 (Go.bits .and .u8 (bt a0 8) 127)) ((Int.tmod (wrap64 (t123 + t124)) 2) == 1) x31_8 = some (r1, r2, r3)) ∧ Aside0 (kq ≤ k) ∧ Aside0 (Below w.heap.size w wc))
          case first =>
            have H := HC9.out
            clear HC9
            by_cases c12 : ((Int.tmod (wrap64 (t123 + t124)) 2) = 1)
            · rw [if_pos c12] at H
              have c12b0 : ((Int.tmod (wrap64 (t123 + t124)) 2) == 1) = true := beq_iff_eq.mpr c12
              have c12b1 : ((Int.tmod (wrap64 (t123 + t124)) 2) != 1) = false := bne_eq_false_iff_eq.mpr c12
              clear c12
              (first | rw [c12b0] | (simp only [i64_w, i32_w]; rw [c12b0]) | skip)
              have H' := Aside0.mk H
              clear H
              go_wp2
              go_meet
              case rel => exact ⟨_, (false), (by first | rfl | exact congrArg Value.bool c12b0.symm), (by first | rfl | (simp; done) | (simp [*]; done)), H', ⟨by first | omega | exact Nat.le_refl _⟩, ⟨by repeat (first | (with_reducible first | exact HB.out | apply below_alloc | apply pw_below_drewN | apply below_drew1) | exact HB.out)⟩⟩
            · rw [if_neg c12] at H
              have c12b0 : ((Int.tmod (wrap64 (t123 + t124)) 2) == 1) = false := beq_eq_false_iff_ne.mpr c12
              have c12b1 : ((Int.tmod (wrap64 (t123 + t124)) 2) != 1) = true := bne_iff_ne.mpr c12
              (first | rw [c12b0] | (simp only [i64_w, i32_w]; rw [c12b0]) | skip)
              have H' := Aside0.mk H
              clear H
              go_wp2
              go_meet
              case rel => exact ⟨_, (((Go.bits .xor .u8 t122 (Go.bits .and .u8 (bt a0 8) 127)) == 0)), (by first | rfl | exact congrArg Value.bool c12b0.symm), (by first | rfl | (simp; done) | (simp [*]; done)), H', ⟨by first | omega | exact Nat.le_refl _⟩, ⟨by repeat (first | (with_reducible first | exact HB.out | apply below_alloc | apply pw_below_drewN | apply below_drew1) | exact HB.out)⟩⟩
          case rest =>
            clear HC9
            try clear c1
            try clear c2
            try clear c2b0
            try clear c2b1
            try clear p2
            try clear c3
            try clear c3b0
            try clear c3b1
            try clear c4
            try clear c4b0
            try clear c4b1
            try clear c6
            try clear c6b0
            try clear c6b1
            try clear p6
            try clear p7
            try clear q7
            try clear hx7
            try clear qi7
            try clear c12
            try clear c12b0
            try clear c12b1
            try clear p7
            try clear q7
            obtain ⟨kq, x31_8, rfl, rfl, HA, HJ8, HB⟩ := hcut
            cases kq with
            | zero => exact absurd HA.out (by simp [ham_Decode.j0])
            | succ kj8 =>
              have H := HA.out
              clear HA
              simp only [ham_Decode.j0] at H
              by_cases c13 : x31_8 = true
              · subst c13
                have H1 : (some ((a0.extract 0 8), 2, 0)) = some (r1, r2, r3) := by rw [if_pos rfl] at H; exact H
                clear H
                have H := H1
                clear H1
                simp only [Option.some.injEq, Prod.mk.injEq] at H
                obtain ⟨rfl, rfl, rfl⟩ := H
                go_wp2
                go_ret3
                exact ⟨by first | rfl | (simp [errW_none, errW_some] <;> rfl) | (simp [*, errW_none, errW_some] <;> rfl), by repeat (first | (with_reducible first | exact HB.out | apply below_alloc | apply pw_below_drewN | apply below_drew1) | exact HB.out)⟩
              · replace c13 := Bool.eq_false_iff.mpr c13
                subst c13
                have H1 : (if ((Int.tmod (wrap64 (t123 + t124)) 2) == 1) = true then (if (Go.bits .xor .u8 t122 (Go.bits .and .u8 (bt a0 8) 127)) > 71 then (some ((⟨#[]⟩ : ByteArray), 4, 0)) else ((ham_turned.f (a0.extract 0 8) (Go.bits .xor .u8 t122 (Go.bits .and .u8 (bt a0 8) 127))).bind fun t125 => (some (t125, 3, 0)))) else (some ((⟨#[]⟩ : ByteArray), 4, 0))) = some (r1, r2, r3) := by rw [if_neg (show ¬ (false = true) by decide)] at H; exact H
                clear H
                have H := H1
                clear H1
                by_cases c14 : ((Int.tmod (wrap64 (t123 + t124)) 2) == 1) = true
                · rw [if_pos c14] at H
                  have c14b0 : ((Int.tmod (wrap64 (t123 + t124)) 2) == 1) = true := c14
                  (try (have c14b1 : decide ((Int.tmod (wrap64 (t123 + t124)) 2) = 1) = true := by simpa using c14))
                  (try (have c14b2 : ((Int.tmod (wrap64 (t123 + t124)) 2) == 1) = true := by simpa using c14))
                  clear c14
                  by_cases c15 : (Go.bits .xor .u8 t122 (Go.bits .and .u8 (bt a0 8) 127)) > 71
                  · rw [if_pos c15] at H
                    have c15b0 : decide (71 < (Go.bits .xor .u8 t122 (Go.bits .and .u8 (bt a0 8) 127))) = true := decide_eq_true c15
                    clear c15
                    simp only [Option.some.injEq, Prod.mk.injEq] at H
                    obtain ⟨rfl, rfl, rfl⟩ := H
                    go_wp2
                    go_ret3
                    exact ⟨by first | rfl | (simp [errW_none, errW_some] <;> rfl) | (simp [*, errW_none, errW_some] <;> rfl), by repeat (first | (with_reducible first | exact HB.out | apply below_alloc | apply pw_below_drewN | apply below_drew1) | exact HB.out)⟩
                  · rw [if_neg c15] at H
                    have c15b0 : decide (71 < (Go.bits .xor .u8 t122 (Go.bits .and .u8 (bt a0 8) 127))) = false := decide_eq_false c15
                    clear c15
                    replace H := Option.bind_eq_some_iff.mp H
                    obtain ⟨t125, A160, H⟩ := H
                    replace H : (some (t125, 3, 0)) = some (r1, r2, r3) := H
                    have A16 := Aside0.mk A160
                    clear A160
                    simp only [Option.some.injEq, Prod.mk.injEq] at H
                    obtain ⟨rfl, rfl, rfl⟩ := H
                    go_wp2_with (first | ((with_reducible refine gate_callee (f := 59) rfl ?_); refine goesL_ (some 48) rfl rfl Tryd.func59 (by kernel_rfl) rfl #[.string (a0.extract 0 8), .int .u8 (Go.bits .xor .u8 t122 (Go.bits .and .u8 (bt a0 8) 127))] rfl (by (try simp only [List.map_toArray, List.map_cons, List.map_nil]); first | done | rfl | (simp only [List.length_drop, List.length_take]; rfl)) ?_; (with_reducible refine (ham_turned.calls (a0.extract 0 8) (Go.bits .xor .u8 t122 (Go.bits .and .u8 (bt a0 8) 127)) t125 _ A16.out).mono ?_); rintro e w17 ⟨rfl, hb⟩; refine ⟨_, rfl, ?_⟩; have n0_ := Aside0.mk (below_step (by repeat (first | (with_reducible first | exact HB.out | apply below_alloc | apply pw_below_drewN | apply below_drew1) | exact HB.out)) hb); clear HB; have HB := n0_; clear n0_; (try clear hb); (try clear hb2); (try clear hk); (try clear hi)))
                    go_ret3
                    exact ⟨by first | rfl | (simp [errW_none, errW_some] <;> rfl) | (simp [*, errW_none, errW_some] <;> rfl), by repeat (first | (with_reducible first | exact HB.out | apply below_alloc | apply pw_below_drewN | apply below_drew1) | exact HB.out)⟩
                · rw [if_neg c14] at H
                  have c14b0 : ((Int.tmod (wrap64 (t123 + t124)) 2) == 1) = false := by simpa using c14
                  (try (have c14b1 : decide ((Int.tmod (wrap64 (t123 + t124)) 2) = 1) = false := by simpa using c14))
                  (try (have c14b2 : ((Int.tmod (wrap64 (t123 + t124)) 2) == 1) = false := by simpa using c14))
                  (try (have c14b3 : ¬ ((Int.tmod (wrap64 (t123 + t124)) 2) = 1) := by simpa using c14))
                  clear c14
                  simp only [Option.some.injEq, Prod.mk.injEq] at H
                  obtain ⟨rfl, rfl, rfl⟩ := H
                  go_wp2
                  go_ret3
                  exact ⟨by first | rfl | (simp [errW_none, errW_some] <;> rfl) | (simp [*, errW_none, errW_some] <;> rfl), by repeat (first | (with_reducible first | exact HB.out | apply below_alloc | apply pw_below_drewN | apply below_drew1) | exact HB.out)⟩
        · rw [if_neg c6] at H
          exact absurd H (by simp)
      · rw [if_neg c4] at H
        exact absurd H (by simp)
    · rw [if_neg c3] at H
      exact absurd H (by simp)
  · rw [if_neg c2] at H
    have c2b0 : ((a0.size : Int) == 9) = false := beq_eq_false_iff_ne.mpr c2
    have c2b1 : ((a0.size : Int) != 9) = true := bne_iff_ne.mpr c2
    simp only [Option.some.injEq, Prod.mk.injEq] at H
    obtain ⟨rfl, rfl, rfl⟩ := H
    go_enter Tryd.func32, Tryd.ntmps32
    go_wp2
    go_ret3
    exact ⟨by first | rfl | (simp [errW_none, errW_some] <;> rfl) | (simp [*, errW_none, errW_some] <;> rfl), by repeat (first | (with_reducible first | exact HB.out | apply below_alloc | apply pw_below_drewN | apply below_drew1) | exact HB.out)⟩

end Go.Proofs.YtbcgddacmjliaaaDoor.PF
end

section
-- Written by a program (the kit's print.py, called by wip/bin/prseat.sh, mended by wip/bin/mend.py).
namespace Go.Proofs.YtbcgddacmjliaaaDoor.PF
open Go.RowKit Go.Proofs.YtbcgddacmjliaaaDoorW.PrintWords Go.Proofs.YtbcgddacmjliaaaDoorW.PrintLast Go.Proofs.YtbcgddacmjliaaaDoorW.PrintMore
attribute [local go_sem] max2_int min2_int max_two min_two max_three min_three max_four min_four   -- for this text's walks alone
set_option linter.unusedVariables false
set_option linter.unusedSimpArgs false

/-! ### deckleref03_Decode: function 35 -/
def deckleref03_Decode.l0 : Nat → ByteArray → Int → List Int → Int → Option (ByteArray × Int × Int)
  | 0, _, _, _, _ => none
  | k + 1, x0, x6, x7, x8 => if x8 < 64 then (if 0 ≤ x8 then (if x8 < (x7.length : Int) then (if (rd x7 x8) = x6 then ((deckleref01_Flip.f x0 x8).bind fun bt312 => (if 0 ≤ 8 then (if 8 ≤ (bt312.1.size : Int) then (some (bt312.1.extract 0 8, 3, 0)) else (none)) else (none))) else (deckleref03_Decode.l0 k x0 x6 x7 (wrap64 (x8 + 1)))) else (none)) else (none)) else (if 0 ≤ 8 then (if 8 ≤ (x0.size : Int) then (some (x0.extract 0 8, 3, 0)) else (none)) else (none))
def deckleref03_Decode.f (k : Nat) (a0 : ByteArray) : Option (ByteArray × Int × Int) := if (a0.size : Int) = 9 then ((deckleref03_Bits.f k a0).bind fun t304 => ((deckleref03_Left.f k t304).bind fun t307 => (if ((t304.length : Int) % 2) = 0 then (if t307 = 0 then (if 0 ≤ 8 then (if 8 ≤ (a0.size : Int) then (some (a0.extract 0 8, 2, 0)) else (none)) else (none)) else (some ((⟨#[]⟩ : ByteArray), 4, 0))) else (if t307 > 71 then (some ((⟨#[]⟩ : ByteArray), 4, 0)) else ((deckleref03_Places.f k).bind fun t308 => (deckleref03_Decode.l0 k a0 t307 t308 0)))))) else (some ((⟨#[]⟩ : ByteArray), 0, 4))
theorem deckleref03_Decode.mono_l : ∀ k, (∀ y0 y1 y2 y3, LeO (deckleref03_Decode.l0 k y0 y1 y2 y3) (deckleref03_Decode.l0 (k + 1) y0 y1 y2 y3))
  | 0 => fun _ _ _ _ r h => by simp [deckleref03_Decode.l0] at h
  | k + 1 => by
    have ih0 := deckleref03_Decode.mono_l k
    · intro y0 y1 y2 y3
      unfold deckleref03_Decode.l0
      repeat' first
      | (with_reducible exact ih0 _ _ _ _)
      | (with_reducible exact deckleref03_Bits.mono _ _)
      | (with_reducible exact deckleref03_Left.mono _ _)
      | (with_reducible exact deckleref03_Places.mono _)
      | (with_reducible exact LeO.refl _)
      | (with_reducible exact LeO.none _)
      | (with_reducible refine LeO.ite ?_ ?_)
      | (with_reducible refine LeO.bind ?_ (fun _ => ?_))
      | exact ih0 _ _ _ _
      | exact deckleref03_Bits.mono _ _
      | exact deckleref03_Left.mono _ _
      | exact deckleref03_Places.mono _
      | exact LeO.none _
      | refine LeO.ite ?_ ?_
      | refine LeO.bind ?_ (fun _ => ?_)
theorem deckleref03_Decode.mono : ∀ a0 k, LeO (deckleref03_Decode.f k a0) (deckleref03_Decode.f (k + 1) a0) := by
  intro a0 k
  have ih0 := deckleref03_Decode.mono_l k
  unfold deckleref03_Decode.f
  repeat' first
      | (with_reducible exact ih0 _ _ _ _)
      | (with_reducible exact deckleref03_Bits.mono _ _)
      | (with_reducible exact deckleref03_Left.mono _ _)
      | (with_reducible exact deckleref03_Places.mono _)
      | (with_reducible exact LeO.refl _)
      | (with_reducible exact LeO.none _)
      | (with_reducible refine LeO.ite ?_ ?_)
      | (with_reducible refine LeO.bind ?_ (fun _ => ?_))
      | exact ih0 _ _ _ _
      | exact deckleref03_Bits.mono _ _
      | exact deckleref03_Left.mono _ _
      | exact deckleref03_Places.mono _
      | exact LeO.none _
      | refine LeO.ite ?_ ?_
      | refine LeO.bind ?_ (fun _ => ?_)
set_option maxHeartbeats 8000000 in
set_option maxRecDepth 100000 in
theorem deckleref03_Decode.calls (k : Nat) (a0 : ByteArray) (r1 : ByteArray) (r2 : Int) (r3 : Int) (w : World) (h : deckleref03_Decode.f k a0 = some (r1, r2, r3)) :
    Calls Tryd.prog 35 #[.string a0] w fun e w' => e = .returned (.tuple #[.string r1, .int .i64 r2, .int .i64 r3]) ∧ Below w.heap.size w w' := by
  have HB := Aside0.mk (Below.refl w.heap.size w)
  have H : (if (a0.size : Int) = 9 then ((deckleref03_Bits.f k a0).bind fun t304 => ((deckleref03_Left.f k t304).bind fun t307 => (if ((t304.length : Int) % 2) = 0 then (if t307 = 0 then (if 0 ≤ 8 then (if 8 ≤ (a0.size : Int) then (some (a0.extract 0 8, 2, 0)) else (none)) else (none)) else (some ((⟨#[]⟩ : ByteArray), 4, 0))) else (if t307 > 71 then (some ((⟨#[]⟩ : ByteArray), 4, 0)) else ((deckleref03_Places.f k).bind fun t308 => (deckleref03_Decode.l0 k a0 t307 t308 0)))))) else (some ((⟨#[]⟩ : ByteArray), 0, 4))) = some (r1, r2, r3) := h
  clear h
  by_cases c2 : (a0.size : Int) = 9
  · rw [if_pos c2] at H
    have c2b0 : ((a0.size : Int) == 9) = true := beq_iff_eq.mpr c2
    have c2b1 : ((a0.size : Int) != 9) = false := bne_eq_false_iff_eq.mpr c2
    clear c2
    replace H := Option.bind_eq_some_iff.mp H
    obtain ⟨t304, A30, H⟩ := H
    replace H : ((deckleref03_Left.f k t304).bind fun t307 => (if ((t304.length : Int) % 2) = 0 then (if t307 = 0 then (if 0 ≤ 8 then (if 8 ≤ (a0.size : Int) then (some (a0.extract 0 8, 2, 0)) else (none)) else (none)) else (some ((⟨#[]⟩ : ByteArray), 4, 0))) else (if t307 > 71 then (some ((⟨#[]⟩ : ByteArray), 4, 0)) else ((deckleref03_Places.f k).bind fun t308 => (deckleref03_Decode.l0 k a0 t307 t308 0))))) = some (r1, r2, r3) := H
    have A3 := Aside0.mk A30
    clear A30
    replace H := Option.bind_eq_some_iff.mp H
    obtain ⟨t307, A40, H⟩ := H
    replace H : (if ((t304.length : Int) % 2) = 0 then (if t307 = 0 then (if 0 ≤ 8 then (if 8 ≤ (a0.size : Int) then (some (a0.extract 0 8, 2, 0)) else (none)) else (none)) else (some ((⟨#[]⟩ : ByteArray), 4, 0))) else (if t307 > 71 then (some ((⟨#[]⟩ : ByteArray), 4, 0)) else ((deckleref03_Places.f k).bind fun t308 => (deckleref03_Decode.l0 k a0 t307 t308 0)))) = some (r1, r2, r3) := H
    have A4 := Aside0.mk A40
    clear A40
    by_cases c5 : ((t304.length : Int) % 2) = 0
    · rw [if_pos c5] at H
      have c5b0 : (((t304.length : Int) % 2) == 0) = true := beq_iff_eq.mpr c5
      have c5b1 : (((t304.length : Int) % 2) != 0) = false := bne_eq_false_iff_eq.mpr c5
      clear c5
      by_cases c6 : t307 = 0
      · rw [if_pos c6] at H
        have c6b0 : (t307 == 0) = true := beq_iff_eq.mpr c6
        have c6b1 : (t307 != 0) = false := bne_eq_false_iff_eq.mpr c6
        clear c6
        by_cases c7 : 0 ≤ 8
        · rw [if_pos c7] at H
          have c7b0 := eq_true c7
          have c7b1 : decide (0 ≤ 8) = true := decide_eq_true c7
          clear c7
          by_cases c8 : 8 ≤ (a0.size : Int)
          · rw [if_pos c8] at H
            have c8b0 := eq_true c8
            have c8b1 : decide (8 ≤ (a0.size : Int)) = true := decide_eq_true c8
            clear c8
            simp only [Option.some.injEq, Prod.mk.injEq] at H
            obtain ⟨rfl, rfl, rfl⟩ := H
            go_enter Tryd.func35, Tryd.ntmps35
            go_wp2_with (first | ((with_reducible refine gate_callee (f := 54) rfl ?_); refine goesL_ (some 15) rfl rfl Tryd.func54 (by kernel_rfl) rfl #[.string a0] rfl (by (try simp only [List.map_toArray, List.map_cons, List.map_nil]); first | done | rfl | (simp only [List.length_drop, List.length_take]; rfl)) ?_; (with_reducible refine (deckleref03_Bits.calls k a0 t304 _ A3.out).mono ?_); rintro e w9 ⟨v305, rfl, ho0, hb⟩; refine ⟨_, rfl, ?_⟩; have n0_ := Aside0.mk (Kd.R_lower ho0 (below_size (by repeat (first | (with_reducible first | exact HB.out | apply below_alloc | apply pw_below_drewN | apply below_drew1) | exact HB.out)))); have n1_ := Aside0.mk (below_step (by repeat (first | (with_reducible first | exact HB.out | apply below_alloc | apply pw_below_drewN | apply below_drew1) | exact HB.out)) hb); clear HB; have HO306 := n0_; have HB := n1_; clear n0_ n1_; (try clear hb); (try clear hb2); (try clear hk); (try clear hi); (try clear ho0); obtain ⟨Ao10, co10, eo10⟩ := Kd.R_slice HO306.out; subst eo10) | ((with_reducible refine gate_callee (f := 55) rfl ?_); refine goesL_ (some 17) rfl rfl Tryd.func55 (by kernel_rfl) rfl #[.slice Ao10 t304.length co10] rfl (by (try simp only [List.map_toArray, List.map_cons, List.map_nil]); first | done | rfl | (simp only [List.length_drop, List.length_take]; rfl)) ?_; (with_reducible refine (deckleref03_Left.calls k _ _ t304 t307 _ ?side1 ?side2 A4.out).mono ?_); (case side1 => repeat (first | exact (Kd.R_reads' HO306.out).2.2 | (with_reducible refine Kd.C_alloc ?_ _) | (with_reducible refine Kd.C_drewN ?_ _) | (with_reducible refine Kd.C_drew ?_))); (case side2 => exact (Kd.R_reads' HO306.out).2.1); rintro e w11 ⟨rfl, hb⟩; refine ⟨_, rfl, ?_⟩; have n0_ := Aside0.mk (Kd.R_below (by (with_reducible repeat (first | apply Kd.R_alloc | apply Kd.R_drewN | apply Kd.R_drew)); exact HO306.out) hb); have n1_ := Aside0.mk (below_step (by repeat (first | (with_reducible first | exact HB.out | apply below_alloc | apply pw_below_drewN | apply below_drew1) | exact HB.out)) hb); clear HO306; clear HB; have HO306 := n0_; have HB := n1_; clear n0_ n1_; (try clear hb); (try clear hb2); (try clear hk); (try clear hi)))
            go_ret3
            exact ⟨by first | rfl | (simp [errW_none, errW_some] <;> rfl) | (simp [*, errW_none, errW_some] <;> rfl), by repeat (first | (with_reducible first | exact HB.out | apply below_alloc | apply pw_below_drewN | apply below_drew1) | exact HB.out)⟩
          · rw [if_neg c8] at H
            exact absurd H (by simp)
        · rw [if_neg c7] at H
          exact absurd H (by simp)
      · rw [if_neg c6] at H
        have c6b0 : (t307 == 0) = false := beq_eq_false_iff_ne.mpr c6
        have c6b1 : (t307 != 0) = true := bne_iff_ne.mpr c6
        simp only [Option.some.injEq, Prod.mk.injEq] at H
        obtain ⟨rfl, rfl, rfl⟩ := H
        go_enter Tryd.func35, Tryd.ntmps35
        go_wp2_with (first | ((with_reducible refine gate_callee (f := 54) rfl ?_); refine goesL_ (some 15) rfl rfl Tryd.func54 (by kernel_rfl) rfl #[.string a0] rfl (by (try simp only [List.map_toArray, List.map_cons, List.map_nil]); first | done | rfl | (simp only [List.length_drop, List.length_take]; rfl)) ?_; (with_reducible refine (deckleref03_Bits.calls k a0 t304 _ A3.out).mono ?_); rintro e w12 ⟨v305, rfl, ho0, hb⟩; refine ⟨_, rfl, ?_⟩; have n0_ := Aside0.mk (Kd.R_lower ho0 (below_size (by repeat (first | (with_reducible first | exact HB.out | apply below_alloc | apply pw_below_drewN | apply below_drew1) | exact HB.out)))); have n1_ := Aside0.mk (below_step (by repeat (first | (with_reducible first | exact HB.out | apply below_alloc | apply pw_below_drewN | apply below_drew1) | exact HB.out)) hb); clear HB; have HO306 := n0_; have HB := n1_; clear n0_ n1_; (try clear hb); (try clear hb2); (try clear hk); (try clear hi); (try clear ho0); obtain ⟨Ao13, co13, eo13⟩ := Kd.R_slice HO306.out; subst eo13) | ((with_reducible refine gate_callee (f := 55) rfl ?_); refine goesL_ (some 17) rfl rfl Tryd.func55 (by kernel_rfl) rfl #[.slice Ao13 t304.length co13] rfl (by (try simp only [List.map_toArray, List.map_cons, List.map_nil]); first | done | rfl | (simp only [List.length_drop, List.length_take]; rfl)) ?_; (with_reducible refine (deckleref03_Left.calls k _ _ t304 t307 _ ?side1 ?side2 A4.out).mono ?_); (case side1 => repeat (first | exact (Kd.R_reads' HO306.out).2.2 | (with_reducible refine Kd.C_alloc ?_ _) | (with_reducible refine Kd.C_drewN ?_ _) | (with_reducible refine Kd.C_drew ?_))); (case side2 => exact (Kd.R_reads' HO306.out).2.1); rintro e w14 ⟨rfl, hb⟩; refine ⟨_, rfl, ?_⟩; have n0_ := Aside0.mk (Kd.R_below (by (with_reducible repeat (first | apply Kd.R_alloc | apply Kd.R_drewN | apply Kd.R_drew)); exact HO306.out) hb); have n1_ := Aside0.mk (below_step (by repeat (first | (with_reducible first | exact HB.out | apply below_alloc | apply pw_below_drewN | apply below_drew1) | exact HB.out)) hb); clear HO306; clear HB; have HO306 := n0_; have HB := n1_; clear n0_ n1_; (try clear hb); (try clear hb2); (try clear hk); (try clear hi)))
        go_ret3
        exact ⟨by first | rfl | (simp [errW_none, errW_some] <;> rfl) | (simp [*, errW_none, errW_some] <;> rfl), by repeat (first | (with_reducible first | exact HB.out | apply below_alloc | apply pw_below_drewN | apply below_drew1) | exact HB.out)⟩
    · rw [if_neg c5] at H
      have c5b0 : (((t304.length : Int) % 2) == 0) = false := beq_eq_false_iff_ne.mpr c5
      have c5b1 : (((t304.length : Int) % 2) != 0) = true := bne_iff_ne.mpr c5
      by_cases c15 : t307 > 71
      · rw [if_pos c15] at H
        have c15b0 : decide (71 < t307) = true := decide_eq_true c15
        clear c15
        simp only [Option.some.injEq, Prod.mk.injEq] at H
        obtain ⟨rfl, rfl, rfl⟩ := H
        go_enter Tryd.func35, Tryd.ntmps35
        go_wp2_with (first | ((with_reducible refine gate_callee (f := 54) rfl ?_); refine goesL_ (some 15) rfl rfl Tryd.func54 (by kernel_rfl) rfl #[.string a0] rfl (by (try simp only [List.map_toArray, List.map_cons, List.map_nil]); first | done | rfl | (simp only [List.length_drop, List.length_take]; rfl)) ?_; (with_reducible refine (deckleref03_Bits.calls k a0 t304 _ A3.out).mono ?_); rintro e w16 ⟨v305, rfl, ho0, hb⟩; refine ⟨_, rfl, ?_⟩; have n0_ := Aside0.mk (Kd.R_lower ho0 (below_size (by repeat (first | (with_reducible first | exact HB.out | apply below_alloc | apply pw_below_drewN | apply below_drew1) | exact HB.out)))); have n1_ := Aside0.mk (below_step (by repeat (first | (with_reducible first | exact HB.out | apply below_alloc | apply pw_below_drewN | apply below_drew1) | exact HB.out)) hb); clear HB; have HO306 := n0_; have HB := n1_; clear n0_ n1_; (try clear hb); (try clear hb2); (try clear hk); (try clear hi); (try clear ho0); obtain ⟨Ao17, co17, eo17⟩ := Kd.R_slice HO306.out; subst eo17) | ((with_reducible refine gate_callee (f := 55) rfl ?_); refine goesL_ (some 17) rfl rfl Tryd.func55 (by kernel_rfl) rfl #[.slice Ao17 t304.length co17] rfl (by (try simp only [List.map_toArray, List.map_cons, List.map_nil]); first | done | rfl | (simp only [List.length_drop, List.length_take]; rfl)) ?_; (with_reducible refine (deckleref03_Left.calls k _ _ t304 t307 _ ?side1 ?side2 A4.out).mono ?_); (case side1 => repeat (first | exact (Kd.R_reads' HO306.out).2.2 | (with_reducible refine Kd.C_alloc ?_ _) | (with_reducible refine Kd.C_drewN ?_ _) | (with_reducible refine Kd.C_drew ?_))); (case side2 => exact (Kd.R_reads' HO306.out).2.1); rintro e w18 ⟨rfl, hb⟩; refine ⟨_, rfl, ?_⟩; have n0_ := Aside0.mk (Kd.R_below (by (with_reducible repeat (first | apply Kd.R_alloc | apply Kd.R_drewN | apply Kd.R_drew)); exact HO306.out) hb); have n1_ := Aside0.mk (below_step (by repeat (first | (with_reducible first | exact HB.out | apply below_alloc | apply pw_below_drewN | apply below_drew1) | exact HB.out)) hb); clear HO306; clear HB; have HO306 := n0_; have HB := n1_; clear n0_ n1_; (try clear hb); (try clear hb2); (try clear hk); (try clear hi)))
        go_ret3
        exact ⟨by first | rfl | (simp [errW_none, errW_some] <;> rfl) | (simp [*, errW_none, errW_some] <;> rfl), by repeat (first | (with_reducible first | exact HB.out | apply below_alloc | apply pw_below_drewN | apply below_drew1) | exact HB.out)⟩
      · rw [if_neg c15] at H
        have c15b0 : decide (71 < t307) = false := decide_eq_false c15
        clear c15
        replace H := Option.bind_eq_some_iff.mp H
        obtain ⟨t308, A190, H⟩ := H
        replace H : (deckleref03_Decode.l0 k a0 t307 t308 0) = some (r1, r2, r3) := H
        have A19 := Aside0.mk A190
        clear A190
        have H' := Aside0.mk H
        clear H
        go_enter Tryd.func35, Tryd.ntmps35
        go_wp2_with (first | ((with_reducible refine gate_callee (f := 54) rfl ?_); refine goesL_ (some 15) rfl rfl Tryd.func54 (by kernel_rfl) rfl #[.string a0] rfl (by (try simp only [List.map_toArray, List.map_cons, List.map_nil]); first | done | rfl | (simp only [List.length_drop, List.length_take]; rfl)) ?_; (with_reducible refine (deckleref03_Bits.calls k a0 t304 _ A3.out).mono ?_); rintro e w20 ⟨v305, rfl, ho0, hb⟩; refine ⟨_, rfl, ?_⟩; have n0_ := Aside0.mk (Kd.R_lower ho0 (below_size (by repeat (first | (with_reducible first | exact HB.out | apply below_alloc | apply pw_below_drewN | apply below_drew1) | exact HB.out)))); have n1_ := Aside0.mk (below_step (by repeat (first | (with_reducible first | exact HB.out | apply below_alloc | apply pw_below_drewN | apply below_drew1) | exact HB.out)) hb); clear HB; have HO306 := n0_; have HB := n1_; clear n0_ n1_; (try clear hb); (try clear hb2); (try clear hk); (try clear hi); (try clear ho0); obtain ⟨Ao21, co21, eo21⟩ := Kd.R_slice HO306.out; subst eo21) | ((with_reducible refine gate_callee (f := 55) rfl ?_); refine goesL_ (some 17) rfl rfl Tryd.func55 (by kernel_rfl) rfl #[.slice Ao21 t304.length co21] rfl (by (try simp only [List.map_toArray, List.map_cons, List.map_nil]); first | done | rfl | (simp only [List.length_drop, List.length_take]; rfl)) ?_; (with_reducible refine (deckleref03_Left.calls k _ _ t304 t307 _ ?side1 ?side2 A4.out).mono ?_); (case side1 => repeat (first | exact (Kd.R_reads' HO306.out).2.2 | (with_reducible refine Kd.C_alloc ?_ _) | (with_reducible refine Kd.C_drewN ?_ _) | (with_reducible refine Kd.C_drew ?_))); (case side2 => exact (Kd.R_reads' HO306.out).2.1); rintro e w22 ⟨rfl, hb⟩; refine ⟨_, rfl, ?_⟩; have n0_ := Aside0.mk (Kd.R_below (by (with_reducible repeat (first | apply Kd.R_alloc | apply Kd.R_drewN | apply Kd.R_drew)); exact HO306.out) hb); have n1_ := Aside0.mk (below_step (by repeat (first | (with_reducible first | exact HB.out | apply below_alloc | apply pw_below_drewN | apply below_drew1) | exact HB.out)) hb); clear HO306; clear HB; have HO306 := n0_; have HB := n1_; clear n0_ n1_; (try clear hb); (try clear hb2); (try clear hk); (try clear hi)) | ((with_reducible refine gate_callee (f := 63) rfl ?_); refine goesL_ (some 28) rfl rfl Tryd.func63 (by kernel_rfl) rfl #[] rfl (by (try simp only [List.map_toArray, List.map_cons, List.map_nil]); first | done | rfl | (simp only [List.length_drop, List.length_take]; rfl)) ?_; (with_reducible refine (deckleref03_Places.calls k  t308 _ A19.out).mono ?_); rintro e w23 ⟨v309, rfl, ho0, hb⟩; refine ⟨_, rfl, ?_⟩; have n0_ := Aside0.mk (Kd.R_elder' (by (with_reducible repeat (first | apply Kd.R_alloc | apply Kd.R_drewN | apply Kd.R_drew)); exact HO306.out) (Kd.R_base ho0) hb); have n1_ := Aside0.mk (Kd.R_lower (Kd.R_new' ho0 (Kd.R_lt (by (with_reducible repeat (first | apply Kd.R_alloc | apply Kd.R_drewN | apply Kd.R_drew)); exact HO306.out))) (below_size (by repeat (first | (with_reducible first | exact HB.out | apply below_alloc | apply pw_below_drewN | apply below_drew1) | exact HB.out)))); have n2_ := Aside0.mk (below_step (by repeat (first | (with_reducible first | exact HB.out | apply below_alloc | apply pw_below_drewN | apply below_drew1) | exact HB.out)) hb); clear HO306; clear HB; have HO306 := n0_; have HO310 := n1_; have HB := n2_; clear n0_ n1_ n2_; (try clear hb); (try clear hb2); (try clear hk); (try clear hi); (try clear ho0)))
        go_loopg [8] k (fun kq v8 w' => ∃ (x8_1 : Int), v8 = .int .i64 x8_1 ∧ Aside0 (deckleref03_Decode.l0 kq a0 t307 t308 x8_1 = some (r1, r2, r3)) ∧ Aside0 (kq ≤ k) ∧ Aside0 (Kd.R (Kd.int .i64) 3 w' w.heap.size (fun _ => True) v309 t308) ∧ Aside0 (Below w.heap.size w w'))
        case atStart => exact ⟨(0), (by first | rfl | (simp; done) | (simp [*]; done)), H', ⟨Nat.le_refl _⟩, ⟨by (with_reducible repeat (first | apply Kd.R_alloc | apply Kd.R_drewN | apply Kd.R_drew)); exact Kd.R_mono HO310.out (fun _ hk => trivial)⟩, ⟨by repeat (first | (with_reducible first | exact HB.out | apply below_alloc | apply pw_below_drewN | apply below_drew1) | exact HB.out)⟩⟩
        case round =>
          clear H'
          try clear c1
          try clear c2
          try clear c2b0
          try clear c2b1
          try clear p2
          try clear c3
          try clear c5
          try clear c5b0
          try clear c5b1
          try clear c6
          try clear c6b0
          try clear c6b1
          try clear c7
          try clear c7b0
          try clear c7b1
          try clear c8
          try clear c8b0
          try clear c8b1
          try clear c15
          try clear c15b0
          obtain ⟨x8_1, rfl, HA, HK1, HO_7, HB⟩ := hrel
          cases gk with
          | zero => exact absurd HA.out (by simp [deckleref03_Decode.l0])
          | succ k1 =>
            have H := HA.out
            clear HA
            simp only [deckleref03_Decode.l0] at H
            by_cases c24 : x8_1 < 64
            · rw [if_pos c24] at H
              have c24b0 : decide (x8_1 < 64) = true := decide_eq_true c24
              clear c24
              by_cases c25 : 0 ≤ x8_1
              · rw [if_pos c25] at H
                have c25b0 : decide (0 ≤ x8_1) = true := decide_eq_true c25
                clear c25
                by_cases c26 : x8_1 < (t308.length : Int)
                · rw [if_pos c26] at H
                  have c26b0 : decide (x8_1 < (t308.length : Int)) = true := decide_eq_true c26
                  clear c26
                  by_cases c27 : (rd t308 x8_1) = t307
                  · rw [if_pos c27] at H
                    have c27b0 : ((rd t308 x8_1) == t307) = true := beq_iff_eq.mpr c27
                    have c27b1 : ((rd t308 x8_1) != t307) = false := bne_eq_false_iff_eq.mpr c27
                    clear c27
                    replace H := Option.bind_eq_some_iff.mp H
                    obtain ⟨⟨t312, t313⟩, A280, H⟩ := H
                    replace H : (if 0 ≤ 8 then (if 8 ≤ (t312.size : Int) then (some (t312.extract 0 8, 3, 0)) else (none)) else (none)) = some (r1, r2, r3) := H
                    have A28 := Aside0.mk A280
                    clear A280
                    by_cases c29 : 0 ≤ 8
                    · rw [if_pos c29] at H
                      have c29b0 := eq_true c29
                      have c29b1 : decide (0 ≤ 8) = true := decide_eq_true c29
                      clear c29
                      by_cases c30 : 8 ≤ (t312.size : Int)
                      · rw [if_pos c30] at H
                        have c30b0 := eq_true c30
                        have c30b1 : decide (8 ≤ (t312.size : Int)) = true := decide_eq_true c30
                        clear c30
                        simp only [Option.some.injEq, Prod.mk.injEq] at H
                        obtain ⟨rfl, rfl, rfl⟩ := H
                        obtain ⟨Ao31, co31, eo31⟩ := Kd.R_slice HO_7.out
                        subst eo31
                        have p311 : 0 ≤ (x8_1 : Int) := of_decide_eq_true (by first | (with_reducible assumption) | assumption)
                        have q311 : x8_1 < (t308.length : Int) := of_decide_eq_true (by first | (with_reducible assumption) | assumption)
                        obtain ⟨ad311, e311, hx311_0⟩ := Kd.at_int (Kd.R_reads' HO_7.out).2.2 x8_1 p311 q311
                        cases e311
                        replace p311 := eq_true p311
                        replace q311 := eq_true q311
                        go_wp2_with (first | ((with_reducible refine gate_callee (f := 42) rfl ?_); refine goesL_ (some 42) rfl rfl Tryd.func42 (by kernel_rfl) rfl #[.string a0, .int .i64 x8_1] rfl (by (try simp only [List.map_toArray, List.map_cons, List.map_nil]); first | done | rfl | (simp only [List.length_drop, List.length_take]; rfl)) ?_; (with_reducible refine (deckleref01_Flip.calls a0 x8_1 t312 t313 _ A28.out).mono ?_); rintro e w32 ⟨rfl, hb⟩; refine ⟨_, rfl, ?_⟩; have n0_ := Aside0.mk (Kd.R_below (by (with_reducible repeat (first | apply Kd.R_alloc | apply Kd.R_drewN | apply Kd.R_drew)); exact HO_7.out) hb); have n1_ := Aside0.mk (below_step (by repeat (first | (with_reducible first | exact HB.out | apply below_alloc | apply pw_below_drewN | apply below_drew1) | exact HB.out)) hb); clear HO_7; clear HB; have HO_7 := n0_; have HB := n1_; clear n0_ n1_; (try clear hb); (try clear hb2); (try clear hk); (try clear hi)))
                        go_ret3
                        exact ⟨by first | rfl | (simp [errW_none, errW_some] <;> rfl) | (simp [*, errW_none, errW_some] <;> rfl), by repeat (first | (with_reducible first | exact HB.out | apply below_alloc | apply pw_below_drewN | apply below_drew1) | exact HB.out)⟩
                      · rw [if_neg c30] at H
                        exact absurd H (by simp)
                    · rw [if_neg c29] at H
                      exact absurd H (by simp)
                  · rw [if_neg c27] at H
                    have c27b0 : ((rd t308 x8_1) == t307) = false := beq_eq_false_iff_ne.mpr c27
                    have c27b1 : ((rd t308 x8_1) != t307) = true := bne_iff_ne.mpr c27
                    have H' := Aside0.mk H
                    clear H
                    obtain ⟨Ao33, co33, eo33⟩ := Kd.R_slice HO_7.out
                    subst eo33
                    have p311 : 0 ≤ (x8_1 : Int) := of_decide_eq_true (by first | (with_reducible assumption) | assumption)
                    have q311 : x8_1 < (t308.length : Int) := of_decide_eq_true (by first | (with_reducible assumption) | assumption)
                    obtain ⟨ad311, e311, hx311_0⟩ := Kd.at_int (Kd.R_reads' HO_7.out).2.2 x8_1 p311 q311
                    cases e311
                    replace p311 := eq_true p311
                    replace q311 := eq_true q311
                    go_wp2
                    go_roundg k1
                    case measure => have := HK1.out; omega
                    case rel => exact ⟨(wrap64 (x8_1 + 1)), (by first | rfl | (simp; done) | (simp [*]; done)), H', ⟨by have := HK1.out; omega⟩, ⟨by (with_reducible repeat (first | apply Kd.R_alloc | apply Kd.R_drewN | apply Kd.R_drew)); exact HO_7.out⟩, ⟨by repeat (first | (with_reducible first | exact HB.out | apply below_alloc | apply pw_below_drewN | apply below_drew1) | exact HB.out)⟩⟩
                · rw [if_neg c26] at H
                  exact absurd H (by simp)
              · rw [if_neg c25] at H
                exact absurd H (by simp)
            · rw [if_neg c24] at H
              have c24b0 : decide (x8_1 < 64) = false := decide_eq_false c24
              clear c24
              by_cases c34 : 0 ≤ 8
              · rw [if_pos c34] at H
                have c34b0 := eq_true c34
                have c34b1 : decide (0 ≤ 8) = true := decide_eq_true c34
                clear c34
                by_cases c35 : 8 ≤ (a0.size : Int)
                · rw [if_pos c35] at H
                  have c35b0 := eq_true c35
                  have c35b1 : decide (8 ≤ (a0.size : Int)) = true := decide_eq_true c35
                  clear c35
                  simp only [Option.some.injEq, Prod.mk.injEq] at H
                  obtain ⟨rfl, rfl, rfl⟩ := H
                  go_wp2
                  go_ret3
                  exact ⟨by first | rfl | (simp [errW_none, errW_some] <;> rfl) | (simp [*, errW_none, errW_some] <;> rfl), by repeat (first | (with_reducible first | exact HB.out | apply below_alloc | apply pw_below_drewN | apply below_drew1) | exact HB.out)⟩
                · rw [if_neg c35] at H
                  exact absurd H (by simp)
              · rw [if_neg c34] at H
                exact absurd H (by simp)
  · rw [if_neg c2] at H
    have c2b0 : ((a0.size : Int) == 9) = false := beq_eq_false_iff_ne.mpr c2
    have c2b1 : ((a0.size : Int) != 9) = true := bne_iff_ne.mpr c2
    simp only [Option.some.injEq, Prod.mk.injEq] at H
    obtain ⟨rfl, rfl, rfl⟩ := H
    go_enter Tryd.func35, Tryd.ntmps35
    go_wp2
    go_ret3
    exact ⟨by first | rfl | (simp [errW_none, errW_some] <;> rfl) | (simp [*, errW_none, errW_some] <;> rfl), by repeat (first | (with_reducible first | exact HB.out | apply below_alloc | apply pw_below_drewN | apply below_drew1) | exact HB.out)⟩

end Go.Proofs.YtbcgddacmjliaaaDoor.PF
end

section
/- Strings byte by byte: when two are the same; parts, sums and turned bits of them. -/
set_option linter.unusedVariables false
set_option linter.unusedSimpArgs false
namespace Go.Proofs.YtbcgddacmjliaaaDoor.PF
open Go.RowKit Go.Proofs.YtbcgddacmjliaaaDoor.Hw Go.Proofs.YtbcgddacmjliaaaDoorW.PrintWords Go.Proofs.YtbcgddacmjliaaaDoorW.PrintLast

theorem bn_at (s : ByteArray) (i : Nat) (h : i < s.size) : bn s i = (s[i]'h).toNat := by
  unfold bn bt
  rw [dif_pos (by simpa using h)]
  simp
theorem bn_out (s : ByteArray) (i : Nat) (h : s.size ≤ i) : bn s i = 0 := by
  unfold bn bt
  rw [dif_neg (by simp; omega)]
  rfl
theorem bext {s t : ByteArray} (h : s.size = t.size) (hb : ∀ i, i < s.size → bn s i = bn t i) : s = t := by
  apply ByteArray.ext
  apply Array.ext h
  intro i h1 h2
  have e := hb i h1
  rw [bn_at s i h1, bn_at t i h2] at e
  exact UInt8.toNat_inj.1 e
theorem bn_extract (s : ByteArray) (a b i : Nat) (h : i < b - a) (hb : b ≤ s.size) : bn (s.extract a b) i = bn s (a + i) := by
  rw [bn_at _ i (by rw [ByteArray.size_extract]; omega), bn_at s (a + i) (by omega)]
  rw [ByteArray.getElem_extract]
theorem size_extract' (s : ByteArray) (a b : Nat) (hb : b ≤ s.size) : (s.extract a b).size = b - a := by rw [ByteArray.size_extract]; omega
theorem bn_append (s t : ByteArray) (i : Nat) : bn (s ++ t) i = if i < s.size then bn s i else bn t (i - s.size) := by
  by_cases h : i < s.size
  · rw [if_pos h, bn_at _ i (by rw [ByteArray.size_append]; omega), bn_at s i h, ByteArray.getElem_append_left h]
  · rw [if_neg h]
    by_cases h2 : i < s.size + t.size
    · rw [bn_at _ i (by rw [ByteArray.size_append]; omega), bn_at t _ (by omega), ByteArray.getElem_append_right (by omega)]
    · rw [bn_out _ i (by rw [ByteArray.size_append]; omega), bn_out t _ (by omega)]
theorem son_size (xs : List Int) : (strOfNums xs).size = xs.length := by simp [strOfNums, ByteArray.size]
theorem bn_son (xs : List Int) (i : Nat) : bn (strOfNums xs) i = (xs.getD i 0).toNat % 256 := by
  by_cases h : i < xs.length
  · rw [bn_at _ i (by rw [son_size]; exact h)]
    simp [strOfNums, ByteArray.getElem_eq_getElem_data, List.getD_eq_getElem?_getD, h]
  · rw [bn_out _ i (by rw [son_size]; omega)]
    rw [List.getD_eq_getElem?_getD, List.getElem?_eq_none (by omega)]
    rfl
theorem bytesOf_getD (s : ByteArray) (i : Nat) : (bytesOf s).getD i 0 = ((bn s i : Nat) : Int) := by
  by_cases h : i < s.size
  · rw [bn_at s i h]
    have h' : i < s.data.size := h
    simp [bytesOf, List.getD_eq_getElem?_getD, h', ByteArray.getElem_eq_getElem_data]
    rw [Array.getElem?_eq_getElem h']
    rfl
  · rw [bn_out s i (by omega)]
    have h' : ¬ i < s.data.size := h
    rw [List.getD_eq_getElem?_getD, List.getElem?_eq_none (by simp [bytesOf]; omega)]
    rfl
theorem flipAt_size (s : ByteArray) (k : Nat) : (flipAt s k).size = s.size := by
  unfold flipAt
  rw [son_size, List.length_set, bytesOf_length]
theorem xor_lt8 : ∀ (m : Fin 8) (b : Fin 256), b.val ^^^ 2 ^ m.val < 256 := by decide +kernel
theorem bn_flipAt (s : ByteArray) (k i : Nat) (h : k / 8 < s.size) : bn (flipAt s k) i = if i = k / 8 then bn s i ^^^ 2 ^ (k % 8) else bn s i := by
  rw [flipAt_is, bn_son, List.getD_eq_getElem?_getD, List.getElem?_set]
  have hx := xor_lt8 ⟨k % 8, by omega⟩ ⟨bn s (k / 8), bn_lt s _⟩
  simp only at hx
  by_cases hi : i = k / 8
  · subst hi
    rw [if_pos rfl, if_pos rfl, bytesOf_length, if_pos h]
    simp only [Option.getD_some, Int.toNat_natCast]
    omega
  · rw [if_neg (fun x => hi x.symm), if_neg hi, ← List.getD_eq_getElem?_getD, bytesOf_getD]
    have := bn_lt s i
    simp only [Int.toNat_natCast]
    omega
end Go.Proofs.YtbcgddacmjliaaaDoor.PF
end

section
/- ham, there and back: eight bytes that are encoded are decoded, as good. -/
set_option linter.unusedVariables false
set_option linter.unusedSimpArgs false
namespace Go.Proofs.YtbcgddacmjliaaaDoor.PF
open Go.RowKit Go.Proofs.YtbcgddacmjliaaaDoor.Hw Go.Proofs.YtbcgddacmjliaaaDoorW.PrintWords Go.Proofs.YtbcgddacmjliaaaDoorW.PrintLast

/-- The check of eight bytes. -/
def chkB (s : ByteArray) : Nat := if (hamN s 8 + Lib.onesCount (hamP s 8)) % 2 = 1 then hamP s 8 + 128 else hamP s 8
theorem p_facts : ∀ p : Fin 128, Go.bits .or .u8 (p.val : Int) 128 = ((p.val + 128 : Nat) : Int) ∧ Go.bits .and .u8 ((p.val + 128 : Nat) : Int) 127 = (p.val : Int) ∧ Go.bits .and .u8 (p.val : Int) 127 = (p.val : Int) ∧ Go.bits .xor .u8 (p.val : Int) (p.val : Int) = 0 ∧ Lib.onesCount (p.val + 128) = Lib.onesCount p.val + 1 ∧ Lib.onesCount p.val ≤ 7 := by decide +kernel
theorem wrap_sum (M Q : Nat) (h : M + Q < 1000) : Int.tmod (wrap64 ((M : Int) + ((Q : Nat) : Int))) 2 = (((M + Q) % 2 : Nat) : Int) := by
  have w : wrap64 ((M : Int) + ((Q : Nat) : Int)) = ((M + Q : Nat) : Int) := by unfold wrap64; omega
  rw [w, Int.tmod_eq_emod_of_nonneg (by omega)]
  omega
theorem one_size (x : Int) : (strOfNums [x]).size = 1 := by simp [strOfNums, ByteArray.size]
theorem left_is (s : ByteArray) (hs : s.size = 8) : ham_left.f s = some (((hamP s 8 : Nat) : Int), ((hamN s 8 : Nat) : Int)) := by
  unfold ham_left.f
  rw [if_pos (by omega), if_pos (by omega)]
theorem ones_is (P : Nat) (h : P < 256) : bits_OnesCount8.f ((P : Nat) : Int) = some ((Lib.onesCount P : Nat) : Int) := by
  unfold bits_OnesCount8.f
  rw [if_pos (by omega), Int.toNat_natCast]
theorem ham_enc' (s : ByteArray) (hs : s.size = 8) (x : Int × Int) (P M Q : Nat) (h1 : x.1 = (P : Int)) (h2 : x.2 = (M : Int)) (hP : P < 128) (hM : M ≤ 64) (hQ : Q ≤ 7) (hl : ham_left.f s = some x) (ho : bits_OnesCount8.f (P : Int) = some (Q : Int)) (f1 : Go.bits .or .u8 (P : Int) 128 = ((P + 128 : Nat) : Int)) :
    ham_Encode.f s = some (s ++ strOfNums [(((if (M + Q) % 2 = 1 then P + 128 else P : Nat)) : Int)], 0) := by
  have hfin : s.size + 1 ≤ 9223372036854775807 := by omega
  unfold ham_Encode.f
  rw [if_pos (by omega), hl, Option.bind_some, h1, h2, ho, Option.bind_some, wrap_sum M Q (by omega)]
  by_cases ho : (M + Q) % 2 = 1
  · rw [if_pos ho, ho, if_pos (by rfl), f1, Option.bind_some, one_size, if_pos hfin]
  · rw [if_neg ho, if_neg (by omega), Option.bind_some, one_size, if_pos hfin]
theorem ham_enc (s : ByteArray) (hs : s.size = 8) : ham_Encode.f s = some (s ++ strOfNums [((chkB s : Nat) : Int)], 0) := by
  have hp := hamP_lt s 8 (Nat.le_refl _)
  obtain ⟨f1, f2, f3, f4, f5, f6⟩ := p_facts ⟨hamP s 8, hp⟩
  have hN := hamN_le s 8
  exact ham_enc' s hs _ (hamP s 8) (hamN s 8) (Lib.onesCount (hamP s 8)) rfl rfl hp hN f6 (left_is s hs) (ones_is _ (by omega)) f1
end Go.Proofs.YtbcgddacmjliaaaDoor.PF
end

section
/- ham: what nine bytes are: by what is left of their places and how many bits are 1; a bit turned. -/
set_option linter.unusedVariables false
set_option linter.unusedSimpArgs false
namespace Go.Proofs.YtbcgddacmjliaaaDoor.PF
open Go.RowKit Go.Proofs.YtbcgddacmjliaaaDoor.Hw Go.Proofs.YtbcgddacmjliaaaDoorW.PrintWords Go.Proofs.YtbcgddacmjliaaaDoorW.PrintLast

/-- What is left of the places of nine bytes; whether so many bits are odd. -/
def syn (c : ByteArray) : Nat := hamP c 8 ^^^ (bn c 8 % 128)
def par (c : ByteArray) : Nat := (hamN c 8 + popB (bn c 8)) % 2
def pl9 (j : Nat) : Nat := if j < 64 then plc j else if j < 71 then 2 ^ (j - 64) else 0
def unturn (d : ByteArray) (p : Nat) : ByteArray := match plcIdx ((p : Nat) : Int) with | none => d | some k => flipAt d k
theorem ones_pop : ∀ c : Fin 256, Lib.onesCount c.val = popB c.val := by decide +kernel
theorem xorB_turn : ∀ (i : Fin 8) (m : Fin 8) (c : Fin 256), xorB i.val (c.val ^^^ 2 ^ m.val) = xorB i.val c.val ^^^ plc (8 * i.val + m.val) := by decide +kernel
theorem popB_turn : ∀ (m : Fin 8) (c : Fin 256), popB (c.val ^^^ 2 ^ m.val) % 2 = (popB c.val + 1) % 2 := by decide +kernel
theorem low_turn : ∀ (m : Fin 8) (c : Fin 256), (c.val ^^^ 2 ^ m.val) % 128 = (c.val % 128) ^^^ (if m.val < 7 then 2 ^ m.val else 0) := by decide +kernel
theorem and_127 : ∀ c : Fin 256, Go.bits .and .u8 (c.val : Int) 127 = ((c.val % 128 : Nat) : Int) := by decide +kernel
theorem hamP_congr {s t : ByteArray} : ∀ n, (∀ i, i < n → bn s i = bn t i) → hamP s n = hamP t n
  | 0, _ => rfl
  | n + 1, h => by
    show hamP s n ^^^ xorB n (bn s n) = hamP t n ^^^ xorB n (bn t n)
    rw [hamP_congr n (fun i hi => h i (by omega)), h n (by omega)]
theorem hamN_congr {s t : ByteArray} : ∀ n, (∀ i, i < n → bn s i = bn t i) → hamN s n = hamN t n
  | 0, _ => rfl
  | n + 1, h => by
    show hamN s n + popB (bn s n) = hamN t n + popB (bn t n)
    rw [hamN_congr n (fun i hi => h i (by omega)), h n (by omega)]
theorem hamP_turn {s t : ByteArray} (q m : Nat) (hm : m < 8) (hq : bn t q = bn s q ^^^ 2 ^ m) (ho : ∀ i, i ≠ q → bn t i = bn s i) :
    ∀ n, n ≤ 8 → q < n → hamP t n = hamP s n ^^^ plc (8 * q + m)
  | 0, _, h => by omega
  | n + 1, h8, h => by
    show hamP t n ^^^ xorB n (bn t n) = (hamP s n ^^^ xorB n (bn s n)) ^^^ plc (8 * q + m)
    by_cases e : q = n
    · subst e
      have x := xorB_turn ⟨q, by omega⟩ ⟨m, hm⟩ ⟨bn s q, bn_lt s q⟩
      simp only at x
      rw [hq, x, hamP_congr (t := s) q (fun i hi => ho i (by omega)), Nat.xor_assoc]
    · rw [hamP_turn q m hm hq ho n (by omega) (by omega), ho n (by omega), Nat.xor_assoc, Nat.xor_assoc, Nat.xor_comm (plc (8 * q + m))]
theorem hamN_turn {s t : ByteArray} (q m : Nat) (hm : m < 8) (hq : bn t q = bn s q ^^^ 2 ^ m) (ho : ∀ i, i ≠ q → bn t i = bn s i) :
    ∀ n, q < n → hamN t n % 2 = (hamN s n + 1) % 2
  | 0, h => by omega
  | n + 1, h => by
    show (hamN t n + popB (bn t n)) % 2 = (hamN s n + popB (bn s n) + 1) % 2
    by_cases e : q = n
    · subst e
      have x := popB_turn ⟨m, hm⟩ ⟨bn s q, bn_lt s q⟩
      simp only at x
      rw [hamN_congr (t := s) q (fun i hi => ho i (by omega)), hq]
      omega
    · have := hamN_turn q m hm hq ho n (by omega)
      rw [ho n (by omega)]
      omega
/-- A bit turned of nine bytes. -/
theorem syn_turn (c : ByteArray) (hc : c.size = 9) (j : Nat) (hj : j < 72) : syn (flipAt c j) = syn c ^^^ pl9 j := by
  have hb : ∀ i, bn (flipAt c j) i = if i = j / 8 then bn c i ^^^ 2 ^ (j % 8) else bn c i := fun i => bn_flipAt c j i (by omega)
  have hq : bn (flipAt c j) (j / 8) = bn c (j / 8) ^^^ 2 ^ (j % 8) := by rw [hb, if_pos rfl]
  have ho : ∀ i, i ≠ j / 8 → bn (flipAt c j) i = bn c i := fun i hi => by rw [hb, if_neg hi]
  unfold syn pl9
  by_cases h64 : j < 64
  · rw [if_pos h64, ho 8 (by omega), hamP_turn (j / 8) (j % 8) (by omega) hq ho 8 (by omega) (by omega), show 8 * (j / 8) + j % 8 = j by omega, Nat.xor_assoc, Nat.xor_assoc, Nat.xor_comm (plc j)]
  · rw [if_neg h64, hamP_congr (t := c) 8 (fun i hi => ho i (by omega)), show j / 8 = 8 by omega] at *
    have x := low_turn ⟨j % 8, by omega⟩ ⟨bn c 8, bn_lt c 8⟩
    simp only at x
    rw [hq, x, Nat.xor_assoc, show j - 64 = j % 8 by omega]
    by_cases h7 : j % 8 < 7
    · rw [if_pos h7, if_pos (by omega)]
    · rw [if_neg h7, if_neg (by omega)]
theorem par_turn (c : ByteArray) (hc : c.size = 9) (j : Nat) (hj : j < 72) : par (flipAt c j) = 1 - par c := by
  have hb : ∀ i, bn (flipAt c j) i = if i = j / 8 then bn c i ^^^ 2 ^ (j % 8) else bn c i := fun i => bn_flipAt c j i (by omega)
  have hq : bn (flipAt c j) (j / 8) = bn c (j / 8) ^^^ 2 ^ (j % 8) := by rw [hb, if_pos rfl]
  have ho : ∀ i, i ≠ j / 8 → bn (flipAt c j) i = bn c i := fun i hi => by rw [hb, if_neg hi]
  unfold par
  have x := hamN_turn (j / 8) (j % 8) (by omega) hq ho 9 (by omega)
  have e1 : hamN (flipAt c j) 9 = hamN (flipAt c j) 8 + popB (bn (flipAt c j) 8) := rfl
  have e2 : hamN c 9 = hamN c 8 + popB (bn c 8) := rfl
  rw [e1, e2] at x
  omega
theorem syn_lt (c : ByteArray) : syn c < 128 := Nat.xor_lt_two_pow (n := 7) (hamP_lt c 8 (Nat.le_refl _)) (Nat.mod_lt _ (by decide))
theorem xor_u8 (a b : Nat) (ha : a < 128) (hb : b < 128) : Go.bits .xor .u8 ((a : Nat) : Int) ((b : Nat) : Int) = ((a ^^^ b : Nat) : Int) := u8_xor a b (by omega) (by omega)
theorem j0_is (k : Nat) (d : ByteArray) (y : Int) (b g : Bool) : ham_Decode.j0 (k + 1) d y b g = if g = true then (some (d, 2, 0)) else (if b = true then (if y > 71 then (some ((⟨#[]⟩ : ByteArray), 4, 0)) else ((ham_turned.f d y).bind fun t125 => (some (t125, 3, 0)))) else (some ((⟨#[]⟩ : ByteArray), 4, 0))) := rfl
theorem ham_dec' (c : ByteArray) (hc : c.size = 9) (k : Nat) (x : Int × Int) (P M Q L Y : Nat) (h1 : x.1 = (P : Int)) (h2 : x.2 = (M : Int)) (hM : M ≤ 64) (hQ : Q ≤ 8) (hY : Y < 128)
    (hl : ham_left.f (c.extract 0 8) = some x) (ho : bits_OnesCount8.f (bt c 8) = some (Q : Int)) (ha : Go.bits .and .u8 (bt c 8) 127 = (L : Int)) (hx : Go.bits .xor .u8 (P : Int) (L : Int) = (Y : Int)) (ht : ham_turned.f (c.extract 0 8) (Y : Int) = some (unturn (c.extract 0 8) Y)) :
    ham_Decode.f (k + 1) c = some (if (M + Q) % 2 = 0 then (if Y = 0 then (c.extract 0 8, 2, 0) else (⟨#[]⟩, 4, 0)) else if 71 < Y then (⟨#[]⟩, 4, 0) else (unturn (c.extract 0 8) Y, 3, 0)) := by
  unfold ham_Decode.f
  rw [if_pos (by omega), if_pos (by omega), if_pos (by omega), hl, Option.bind_some, if_pos (by omega), ho, Option.bind_some, h1, h2, wrap_sum M Q (by omega), ha, hx]
  by_cases e : (M + Q) % 2 = 1
  · rw [e, if_pos (by rfl), j0_is, if_neg (by decide : ¬ (false = true)), if_pos (by rfl), if_neg (by decide : ¬ (1 : Nat) = 0)]
    by_cases h71 : 71 < Y
    · rw [if_pos (by omega), if_pos h71]
    · rw [if_neg (by omega), if_neg h71, ht, Option.bind_some]
  · have e0 : (M + Q) % 2 = 0 := by omega
    rw [e0, if_neg (by decide), j0_is, if_pos rfl]
    by_cases hy : Y = 0
    · rw [if_pos hy, hy, if_pos (by rfl)]
    · rw [if_neg hy, if_neg (by simp; omega), if_neg (by decide)]
/-- What nine bytes are. -/
theorem ham_dec (c : ByteArray) (hc : c.size = 9) (k : Nat) : ham_Decode.f (k + 1) c = some (if par c = 0 then (if syn c = 0 then (c.extract 0 8, 2, 0) else (⟨#[]⟩, 4, 0)) else if 71 < syn c then (⟨#[]⟩, 4, 0) else (unturn (c.extract 0 8) (syn c), 3, 0)) := by
  have hd : (c.extract 0 8).size = 8 := size_extract' c 0 8 (by omega)
  have h8 : bt c 8 = ((bn c 8 : Nat) : Int) := bn_bt c 8
  have eP : hamP (c.extract 0 8) 8 = hamP c 8 := hamP_congr 8 (fun i hi => by rw [bn_extract c 0 8 i (by omega) (by omega), Nat.zero_add])
  have eN : hamN (c.extract 0 8) 8 = hamN c 8 := hamN_congr 8 (fun i hi => by rw [bn_extract c 0 8 i (by omega) (by omega), Nat.zero_add])
  have ha := and_127 ⟨bn c 8, bn_lt c 8⟩
  have ho := ones_pop ⟨bn c 8, bn_lt c 8⟩
  have hl := hamP_lt c 8 (Nat.le_refl _)
  have hN := hamN_le c 8
  have hp8 := popB_le ⟨bn c 8, bn_lt c 8⟩
  have hcl := bn_lt c 8
  simp only at ha ho hp8
  have hx : Go.bits .xor .u8 ((hamP c 8 : Nat) : Int) ((bn c 8 % 128 : Nat) : Int) = ((syn c : Nat) : Int) := xor_u8 _ _ hl (Nat.mod_lt _ (by decide))
  have hs := syn_lt c
  have ht : ham_turned.f (c.extract 0 8) (syn c : Nat) = some (unturn (c.extract 0 8) (syn c)) := by
    unfold ham_turned.f unturn
    rw [if_pos ⟨hd, by omega⟩]
    rfl
  have hL := left_is (c.extract 0 8) hd
  rw [eP, eN] at hL
  have hO := ones_is (bn c 8) hcl
  rw [ho, ← h8] at hO
  rw [← h8] at ha
  exact ham_dec' c hc k _ (hamP c 8) (hamN c 8) (popB (bn c 8)) (bn c 8 % 128) (syn c) rfl rfl hN hp8 hs hL hO ha hx ht
/-- The words of the code: nothing is left, an even number of bits. -/
structure IsCode (c : ByteArray) : Prop where
  size : c.size = 9
  syn0 : syn c = 0
  par0 : par c = 0
theorem IsCode.good {c : ByteArray} (h : IsCode c) (k : Nat) : ham_Decode.f (k + 1) c = some (c.extract 0 8, 2, 0) := by
  rw [ham_dec c h.size, h.syn0, h.par0]; rfl
theorem pl9_facts : ∀ j : Fin 72, pl9 j.val ≤ 71 ∧ (j.val < 64 → plcIdx ((pl9 j.val : Nat) : Int) = some j.val) ∧ (64 ≤ j.val → plcIdx ((pl9 j.val : Nat) : Int) = none) := by decide +kernel
theorem pl9_ne : ∀ (i j : Fin 72), i ≠ j → pl9 i.val ≠ pl9 j.val := by decide +kernel
theorem IsCode.one {c : ByteArray} (h : IsCode c) (j : Nat) (hj : j < 72) (k : Nat) : ham_Decode.f (k + 1) (flipAt c j) = some (c.extract 0 8, 3, 0) := by
  obtain ⟨h1, h2, h3⟩ := pl9_facts ⟨j, hj⟩
  simp only at h1 h2 h3
  have hz : (flipAt c j).size = 9 := by rw [flipAt_size, h.size]
  rw [ham_dec _ hz, par_turn c h.size j hj, syn_turn c h.size j hj, h.syn0, h.par0, Nat.zero_xor, if_neg (by decide), if_neg (by omega)]
  congr 2
  unfold unturn
  have hcs := h.size
  have hd : ((flipAt c j).extract 0 8).size = 8 := size_extract' _ 0 8 (by omega)
  by_cases h64 : j < 64
  · rw [h2 h64]
    show flipAt ((flipAt c j).extract 0 8) j = _
    apply bext
    · rw [flipAt_size, hd, size_extract' _ 0 8 (by omega)]
    · intro i hi
      rw [flipAt_size, hd] at hi
      rw [bn_flipAt _ _ _ (by rw [hd]; omega), bn_extract _ 0 8 i (by omega) (by omega), bn_extract c 0 8 i (by omega) (by omega), Nat.zero_add, bn_flipAt _ _ _ (by omega)]
      by_cases hi2 : i = j / 8
      · rw [if_pos hi2, if_pos hi2, Nat.xor_assoc, Nat.xor_self, Nat.xor_zero]
      · rw [if_neg hi2, if_neg hi2]
  · rw [h3 (by omega)]
    show (flipAt c j).extract 0 8 = _
    apply bext
    · rw [hd, size_extract' _ 0 8 (by omega)]
    · intro i hi
      rw [hd] at hi
      rw [bn_extract _ 0 8 i (by omega) (by omega), bn_extract c 0 8 i (by omega) (by omega), Nat.zero_add, bn_flipAt _ _ _ (by omega), if_neg (by omega)]
theorem xor_0 {a b : Nat} (h : a ^^^ b = 0) : a = b := by
  have := congrArg (· ^^^ b) h
  simpa [Nat.xor_assoc] using this
theorem IsCode.two {c : ByteArray} (h : IsCode c) (i j : Nat) (hi : i < 72) (hj : j < 72) (hij : i ≠ j) (k : Nat) : ham_Decode.f (k + 1) (flipAt (flipAt c i) j) = some (⟨#[]⟩, 4, 0) := by
  have hz : (flipAt c i).size = 9 := by rw [flipAt_size, h.size]
  have hz2 : (flipAt (flipAt c i) j).size = 9 := by rw [flipAt_size, hz]
  have hne := pl9_ne ⟨i, hi⟩ ⟨j, hj⟩ (by simpa using hij)
  simp only at hne
  rw [ham_dec _ hz2, par_turn _ hz j hj, par_turn c h.size i hi, h.par0, if_pos (by decide), syn_turn _ hz j hj, syn_turn c h.size i hi, h.syn0, Nat.zero_xor, if_neg (fun e => hne (xor_0 e))]
end Go.Proofs.YtbcgddacmjliaaaDoor.PF
end
