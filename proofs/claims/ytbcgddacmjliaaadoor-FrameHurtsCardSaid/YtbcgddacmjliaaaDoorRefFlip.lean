/- The document's Flip, by hand. -/
import Derived.ArgAppend
import Derived.Below
import Derived.BigQuiet
import Derived.Carry
import Derived.Deep.AppendLies
import Derived.Deep.CutBlock
import Derived.Deep.DeepCutAuto
import Derived.Deep.Draws
import Derived.Deep.LoopGhost
import Derived.Deep.OwnRows
import Derived.Deep.QuietTactic
import Derived.Deep.RegionHeld3
import Derived.Deep.RegionWith
import Derived.KernelRfl
import Derived.Laws.BitsLemmas
import Derived.Laws.BytesArg
import Derived.Laws.IdiomCopy
import Derived.Laws.MakeOwn
import Derived.Laws.OwnMore
import Derived.Laws.Rows
import Derived.Laws.Slices
import Derived.Lib.AppendStr
import Derived.Lib.BufferMore
import Derived.Lib.ConvBytes
import Derived.Lib.Hide
import Derived.Lib.LazyBuf
import Derived.Maps.AppendAt
import Derived.OpenShut
import Derived.OrdersHeld
import Derived.Outline
import Derived.OwnWalk
import Derived.OwnWalkIn
import Derived.RegionTactic
import Derived.RowKit3
import Derived.StillTailTactics
import Derived.Tactics
import Derived.WalkKit
import Derived.WideLaws
import Derived.Test.YtbcgddacmjliaaaDoorProg
import Derived.Test.YtbcgddacmjliaaaDoorHam
import Derived.IntWalk
import Derived.Test.YtbcgddacmjliaaaDoorBytes
import Derived.Test.YtbcgddacmjliaaaDoorPFy1
set_option linter.unusedVariables false
set_option linter.unusedSimpArgs false
namespace Go.Proofs.YtbcgddacmjliaaaDoor.PF
open Go.RowKit Go.Shelf Go.Proofs.YtbcgddacmjliaaaDoorW.PrintWords Go.Proofs.YtbcgddacmjliaaaDoor.Hw

theorem power8 : ∀ m : Fin 8, deckleref01_Power.f 16 ((m.val : Nat) : Int) = some (((2 ^ m.val : Nat) : Int)) := by decide +kernel
theorem bit8 : ∀ (m : Fin 8) (b : Fin 256), deckleref01_Bit.f 16 ((b.val : Nat) : Int) ((m.val : Nat) : Int) = some (((b.val / 2 ^ m.val % 2 : Nat) : Int)) := by decide +kernel
theorem xor8 : ∀ (m : Fin 8) (b : Fin 256), b.val ^^^ 2 ^ m.val = if b.val / 2 ^ m.val % 2 = 1 then b.val - 2 ^ m.val else b.val + 2 ^ m.val := by decide +kernel
theorem le8 : ∀ (m : Fin 8) (b : Fin 256), (b.val / 2 ^ m.val % 2 = 1 → 2 ^ m.val ≤ b.val) ∧ (b.val / 2 ^ m.val % 2 ≠ 1 → b.val + 2 ^ m.val ≤ 255) := by decide +kernel
theorem pow8 : ∀ m : Fin 8, 1 ≤ 2 ^ m.val ∧ 2 ^ m.val ≤ 128 := by decide
theorem cell_bn (s : ByteArray) (j : Nat) (hj : j < s.size) : ((s.data.toList.getD j 0).toNat : Int) = ((bn s j : Nat) : Int) := by
  rw [← bn_bt, ← rd_bytesOf]
  unfold rd bytesOf
  rw [Int.toNat_natCast, List.getD_eq_getElem?_getD, List.getD_eq_getElem?_getD, List.getElem?_map, List.getElem?_eq_getElem (by rw [data_length]; exact hj)]
  rfl
theorem flipAt_is (s : ByteArray) (k : Nat) : flipAt s k = strOfNums ((bytesOf s).set (k / 8) (((bn s (k / 8) ^^^ 2 ^ (k % 8) : Nat) : Int))) := by
  unfold flipAt
  have e1 : (k : Int) / 8 = ((k / 8 : Nat) : Int) := by omega
  have hp := pow8 ⟨k % 8, by omega⟩
  simp only at hp
  have e2 : ((2 : Int) ^ (k % 8)) % 256 = ((2 ^ (k % 8) : Nat) : Int) := by
    have : ((2 : Int) ^ (k % 8)) = ((2 ^ (k % 8) : Nat) : Int) := by simp
    rw [this]; omega
  rw [e1, e2, bn_bt, u8_xor _ _ (bn_lt _ _) (by omega)]
set_option maxHeartbeats 4000000 in
set_option maxRecDepth 100000 in
theorem refFlip_yes (s : ByteArray) (k : Nat) (w : World) (hs : s.size ≤ 140737488355328) (hk : k / 8 < s.size) :
    Calls Tryd.prog 42 #[.string s, .int .i64 k] w fun e w' => e = .returned (.tuple #[.string (flipAt s k), .int .i64 0]) ∧ Below w.heap.size w w' := by
  have hF := flipAt_is s k
  have hcv := Lib.run_convert_string_bytes (P := Tryd.prog) w 9 46 5 s Tryd.underlying9 Tryd.underlying46 Tryd.underlying5
  have hm : k % 8 < 8 := by omega
  have hb := bn_lt s (k / 8)
  have hP := power8 ⟨k % 8, hm⟩
  have hB := bit8 ⟨k % 8, hm⟩ ⟨bn s (k / 8), hb⟩
  have hX := xor8 ⟨k % 8, hm⟩ ⟨bn s (k / 8), hb⟩
  have hL := le8 ⟨k % 8, hm⟩ ⟨bn s (k / 8), hb⟩
  have hp := pow8 ⟨k % 8, hm⟩
  have hcell := Lib.bytesWorld_cell w 5 s (k / 8) hk
  rw [cell_bn s (k / 8) hk] at hcell
  have hfr := bw_frozen w 5 s (k / 8) hk
  have hrd := bytes_reads w 5 s (by omega)
  simp only at hP hB hX hL hp
  obtain ⟨m, hme⟩ : ∃ m, m = k % 8 := ⟨_, rfl⟩
  obtain ⟨b, hbe⟩ : ∃ b, b = bn s (k / 8) := ⟨_, rfl⟩
  obtain ⟨q, hqe⟩ : ∃ q, q = k / 8 := ⟨_, rfl⟩
  have km : (k : Int) % 8 = (m : Nat) := by omega
  have kq : (k : Int) / 8 = (q : Nat) := by omega
  rw [← hme] at hP hB hX hL hp hF
  rw [← hqe] at hk hcell hfr hF hbe
  rw [← hqe] at hB hX hL
  rw [← hbe] at hB hX hL hcell hF
  obtain ⟨p, hpe⟩ : ∃ p, p = 2 ^ m := ⟨_, rfl⟩
  rw [← hpe] at hP hB hX hL hp hF
  obtain ⟨p0, p1⟩ := hp
  have HBW := Aside0.mk (bw_below w 5 s)
  have HF := Lib.hid hF
  have HP := Aside0.mk hP
  have HBB := Aside0.mk hB
  obtain ⟨C, hC⟩ : ∃ C, C = grownCap w s.size 0 5 := ⟨_, rfl⟩
  rw [← hC] at hcv
  have d1 : decide ((k : Int) < 0) = false := decide_eq_false (by omega)
  have d2 : decide ((s.size : Int) ≤ (q : Int)) = false := decide_eq_false (by omega)
  have j1 : (q : Int) < (s.size : Int) := by omega
  have hb255 : b < 256 := by rw [hbe, hqe]; exact bn_lt _ _
  clear hP hB hme hbe hqe hpe hF hC
  obtain ⟨w1, hW⟩ : ∃ w1, w1 = Lib.bytesWorld w 5 s := ⟨_, rfl⟩
  rw [← hW] at hcell hfr hrd hcv HBW
  have hbl : w.heap.size < w1.heap.size := World.block_lt_of_cell? w1 _ hcell
  clear hW
  have hp256 : (p : Int) % 256 = p := by omega
  have key : ∀ (x : Nat), (w1.cell? ⟨w.heap.size, q, none⟩ = some (.int .u8 b)) → ∀ w3, Below w1.heap.size w1 w3 → (w3.cell? ⟨w.heap.size, q, none⟩ = some (.int .u8 b)) ∧ w3.frozen? ⟨w.heap.size, q, none⟩ = false ∧
      (convert 46 9 (.slice (some ⟨w.heap.size, 0, none⟩) s.size C)).run Tryd.prog (w3.setCell ⟨w.heap.size, q, none⟩ (.int .u8 x)) = .ok (.string (strOfNums ((bytesOf s).set q x))) (w3.setCell ⟨w.heap.size, q, none⟩ (.int .u8 x)) := fun x _ w3 hb3 =>
    ⟨(hb3.cell (p := ⟨w.heap.size, q, none⟩) hbl).trans hcell, (hb3.frozen (p := ⟨w.heap.size, q, none⟩) hbl).trans hfr,
      string_of_reads (P := Tryd.prog) (dst := 9) (c := C) Tryd.underlying46 Tryd.underlying5 Tryd.underlying9 (reads_set (hrd.below hb3) q hk x)⟩
  have KEY := Aside0.mk key
  clear key hrd
  go_enter Tryd.func42, Tryd.ntmps42
  go_wp2_with fail
  try rw [km]
  refine (deckleref01_Power.calls 16 (m : Int) (p : Int) _ HP.out).mono ?_
  rintro e w2 ⟨rfl, hb2'⟩
  have hb2 : Below w1.heap.size w1 w2 := hb2'.below
  clear hb2'
  obtain ⟨k1, k2, _⟩ := KEY.out 0 hcell w2 hb2
  go_wp2_with fail
  try rw [km]
  refine (deckleref01_Bit.calls 16 (b : Int) (m : Int) _ _ HBB.out).mono ?_
  rintro e w3 ⟨rfl, hb3'⟩
  have hb3 : Below w2.heap.size w2 w3 := hb3'.below
  clear hb3'
  have hb4 := below_then hb2 hb2.size hb3
  have HB4 := Aside0.mk (below_then HBW.out HBW.out.size hb4)
  have HB4' := Aside0.mk hb4
  clear hb2 hb3 hb4 k1 k2 hfr
  by_cases hbit : b / p % 2 = 1
  · have hx : b ^^^ p = b - p := by rw [hX, if_pos hbit]
    have hle := hL.1 hbit
    obtain ⟨k1, k2, k3⟩ := KEY.out (b - p) hcell w3 HB4'.out
    rw [hx] at HF
    have hc : ((b - p : Nat) : Int) = (b : Int) - (p : Int) := by omega
    rw [hc] at k3 HF
    have d3 : (((b / p % 2 : Nat) : Int) == 1) = true := by rw [hbit]; rfl
    clear hX hx hL hbit hc hcell
    go_wp2_with fail
    go_ret2
    exact ⟨by rw [HF.out]; rfl, (below_then HB4.out (by have := HB4.out.size; omega) (Below.refl _ _)).setCell (p := ⟨w.heap.size, q, none⟩) (Nat.le_refl _) _⟩
  · have hx : b ^^^ p = b + p := by rw [hX, if_neg hbit]
    have hle := hL.2 hbit
    obtain ⟨k1, k2, k3⟩ := KEY.out (b + p) hcell w3 HB4'.out
    rw [hx] at HF
    have hc : ((b + p : Nat) : Int) = (b : Int) + (p : Int) := by omega
    rw [hc] at k3 HF
    have d3 : (((b / p % 2 : Nat) : Int) == 1) = false := by simp only [beq_eq_false_iff_ne]; omega
    clear hX hx hL hbit hc hcell
    go_wp2_with fail
    go_ret2
    exact ⟨by rw [HF.out]; rfl, (below_then HB4.out (by have := HB4.out.size; omega) (Below.refl _ _)).setCell (p := ⟨w.heap.size, q, none⟩) (Nat.le_refl _) _⟩
def deckleref01_Flip.f (s : ByteArray) (k : Int) : Option (ByteArray × Int) := if s.size ≤ 140737488355328 ∧ k ≤ 9223372036854775807 then some (if k < 0 ∨ (s.size : Int) ≤ k / 8 then (⟨#[]⟩, 1) else (flipAt s k.toNat, 0)) else none
set_option maxHeartbeats 2000000 in
set_option maxRecDepth 100000 in
theorem deckleref01_Flip.calls (s : ByteArray) (k : Int) (r1 : ByteArray) (r2 : Int) (w : World) (h : deckleref01_Flip.f s k = some (r1, r2)) :
    Calls Tryd.prog 42 #[.string s, .int .i64 k] w fun e w' => e = .returned (.tuple #[.string r1, .int .i64 r2]) ∧ Below w.heap.size w w' := by
  unfold deckleref01_Flip.f at h
  by_cases hs : s.size ≤ 140737488355328 ∧ k ≤ 9223372036854775807
  · rw [if_pos hs] at h
    obtain ⟨hs, hk63⟩ := hs
    by_cases hk : k < 0 ∨ (s.size : Int) ≤ k / 8
    · rw [if_pos hk] at h
      simp only [Option.some.injEq, Prod.mk.injEq] at h
      obtain ⟨rfl, rfl⟩ := h
      by_cases h0 : k < 0
      · have d1 : decide (k < 0) = true := decide_eq_true h0
        clear hk
        go_enter Tryd.func42, Tryd.ntmps42
        go_wp2_with fail
        go_ret2
        exact ⟨rfl, Below.refl _ _⟩
      · have d1 : decide (k < 0) = false := decide_eq_false h0
        have h1 : (s.size : Int) ≤ k / 8 := hk.resolve_left h0
        have h2 : 0 ≤ k := by omega
        have d2 : decide ((s.size : Int) ≤ k / 8) = true := decide_eq_true h1
        clear hk
        go_enter Tryd.func42, Tryd.ntmps42
        go_wp2_with fail
        go_ret2
        exact ⟨rfl, Below.refl _ _⟩
    · rw [if_neg hk] at h
      simp only [Option.some.injEq, Prod.mk.injEq] at h
      obtain ⟨rfl, rfl⟩ := h
      obtain ⟨n, rfl⟩ : ∃ n : Nat, k = n := ⟨k.toNat, by omega⟩
      rw [Int.toNat_natCast]
      exact refFlip_yes s n w hs (by omega)
  · rw [if_neg hs] at h; cases h
end Go.Proofs.YtbcgddacmjliaaaDoor.PF
