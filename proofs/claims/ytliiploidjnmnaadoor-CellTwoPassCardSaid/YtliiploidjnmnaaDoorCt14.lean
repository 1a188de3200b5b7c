/- The law's proof: words, contracts of the functions that it reaches, plain lemmas. -/
import Derived.ArgAppend
import Derived.Below
import Derived.BigQuiet
import Derived.Carry
import Derived.Deep.AppendLies
import Derived.Deep.CutBlock
import Derived.Deep.DeepCutAuto
import Derived.Deep.Draws
import Derived.Deep.LoopGhost
import Derived.Deep.OwnRows
import Derived.Deep.QuietTactic
import Derived.Deep.RegionHeld3
import Derived.Deep.RegionWith
import Derived.KernelRfl
import Derived.Laws.BitsLemmas
import Derived.Laws.BytesArg
import Derived.Laws.IdiomCopy
import Derived.Laws.MakeOwn
import Derived.Laws.OwnMore
import Derived.Laws.Rows
import Derived.Laws.Slices
import Derived.Lib.AppendStr
import Derived.Lib.BufferMore
import Derived.Lib.ConvBytes
import Derived.Lib.Hide
import Derived.Lib.LazyBuf
import Derived.Maps.AppendAt
import Derived.OpenShut
import Derived.OrdersHeld
import Derived.Outline
import Derived.OwnWalk
import Derived.OwnWalkIn
import Derived.RegionTactic
import Derived.RowKit3
import Derived.StillTailTactics
import Derived.Tactics
import Derived.WalkKit
import Derived.WideLaws
import Derived.Test.YtliiploidjnmnaaDoorProg
import Derived.Test.YtliiploidjnmnaaDoorCt13
import Derived.IntWalk
import Derived.Test.YtliiploidjnmnaaDoorCt9
section
/- Package bits, by hand: Zeros: how many bits are 0, by a table of half bytes. -/
set_option linter.unusedVariables false
set_option linter.unusedSimpArgs false
namespace Go.Proofs.YtliiploidjnmnaaDoor.PF
open Go.RowKit Go.Shelf Go.Proofs.YtliiploidjnmnaaDoorW.PrintWords Go.Proofs.YtliiploidjnmnaaDoor.Hw

def clr (i : Nat) : Nat := (clrT.getD i 0).toNat
theorem clr_is : ∀ i : Fin 16, clrT.getD i.val 0 = ((clr i.val : Nat) : Int) ∧ clr i.val ≤ 4 := by decide
def zerB (c : Nat) : Nat := clr (c % 16) + clr (c / 16)
def zerGo (s : ByteArray) : Nat → Nat
  | 0 => 0
  | k + 1 => zerGo s k + zerB (bn s k)
theorem zerGo_le (s : ByteArray) : ∀ k, zerGo s k ≤ 8 * k
  | 0 => by show 0 ≤ 8 * 0; omega
  | k + 1 => by
    have h1 := zerGo_le s k
    have h2 := (clr_is ⟨bn s k % 16, by omega⟩).2
    have h3 := (clr_is ⟨bn s k / 16, by have := bn_lt s k; omega⟩).2
    simp only at h2 h3
    unfold zerGo zerB
    omega
def bits_Zeros.f (s : ByteArray) : Option Int := if s.size ≤ 140737488355328 then some ((zerGo s s.size : Nat) : Int) else none
set_option maxHeartbeats 4000000 in
set_option maxRecDepth 100000 in
theorem bits_Zeros.calls (s : ByteArray) (r : Int) (w : World) (h : bits_Zeros.f s = some r) (HL : Aside0 (Laid w) := by first | exact HL | exact Hw.laid_at HL (by repeat (first | (with_reducible first | exact HB.out | apply below_alloc | apply pw_below_drewN | apply below_drew1) | exact HB.out | exact Below.refl _ _ | refine below_set ?_ (by apply Aside0.out; assumption)))) :
    Calls Tryd.prog 70 #[.string s] w fun e w' => e = .returned (.int .i64 r) ∧ Below w.heap.size w w' := by
  unfold bits_Zeros.f at h
  by_cases hs : s.size ≤ 140737488355328
  · rw [if_pos hs] at h
    obtain rfl := Option.some.inj h
    clear h
    go_enter Tryd.func70, Tryd.ntmps70
    go_wp2_with fail
    go_loopw [3, 7] (fun v3 v7 wr => ∃ (k : Nat), k ≤ s.size ∧ v7 = .int .i64 k ∧ v3 = .int .i64 (zerGo s k : Nat) ∧ Aside0 (Below w.heap.size w wr)) (fun _ v7 _ => s.size - (intOf v7).toNat)
    case atStart => exact ⟨0, by omega, rfl, rfl, ⟨Below.refl _ _⟩⟩
    case round =>
      obtain ⟨k, hk, rfl, rfl, HB⟩ := hrel
      by_cases hlt : k < s.size
      · have dl : decide ((k : Int) < (s.size : Int)) = true := decide_eq_true (by omega)
        have hb : ((s[k]'hlt).toNat : Int) = (bn s k : Nat) := by
          have h1 := bt_at s (k : Int) (by simpa using hlt)
          rw [← bn_bt]
          simpa using h1
        have hcl := bn_lt s k
        have hzl := zerGo_le s k
        have hz1 : zerGo s (k + 1) = zerGo s k + (clr (bn s k % 16) + clr (bn s k / 16)) := rfl
        obtain ⟨c, hc⟩ : ∃ c, c = bn s k := ⟨_, rfl⟩
        obtain ⟨z, hz⟩ : ∃ z, z = zerGo s k := ⟨_, rfl⟩
        rw [← hc] at hb hcl hz1
        rw [← hz] at hzl hz1 ⊢
        have h15 := u8_and15 (x := (c : Int)) (by omega) (by omega)
        have HLr := HL.out.below HB.out (Nat.le_refl _)
        have p1 := HLr.clr (c % 16) (by show c % 16 < 16; omega)
        have p2 := HLr.clr (c / 16) (by show c / 16 < 16; omega)
        obtain ⟨q1, l1⟩ := clr_is ⟨c % 16, by omega⟩
        obtain ⟨q2, l2⟩ := clr_is ⟨c / 16, by omega⟩
        simp only at q1 l1 q2 l2
        rw [q1] at p1
        rw [q2] at p2
        obtain ⟨x, hx⟩ : ∃ x, x = clr (c % 16) := ⟨_, rfl⟩
        obtain ⟨y, hy⟩ : ∃ y, y = clr (c / 16) := ⟨_, rfl⟩
        rw [← hx] at p1 l1 hz1
        rw [← hy] at p2 l2 hz1
        have HZ := Lib.hid hz1
        have e1 : ((c : Int) % 16).toNat = c % 16 := by omega
        have e2 : ((c : Int) / 16).toNat = c / 16 := by omega
        have j1 : 0 ≤ (c : Int) % 16 := by omega
        have j2 : (c : Int) % 16 < 16 := by omega
        have j3 : 0 ≤ (c : Int) / 16 := by omega
        have j4 : (c : Int) / 16 < 16 := by omega
        have i1 : (0 : Int) ≤ (k : Int) := by omega
        have i2 : (k : Int) < (s.size : Int) := by omega
        rw [← e1] at p1
        rw [← e2] at p2
        clear hz1 hx hy hc hz q1 q2 e1 e2 HLr
        go_wp2_with fail
        have s1 : IntKind.i64.wrap ((x : Int) + (y : Int)) = (x : Int) + (y : Int) := IntWalk.i64_in _ (by omega)
        have s2 : IntKind.i64.wrap ((z : Int) + ((x : Int) + (y : Int))) = (z : Int) + ((x : Int) + (y : Int)) := IntWalk.i64_in _ (by omega)
        go_quiet (fail)
        clear s1 s2
        go_wp2_with fail
        go_roundw
        case rel => exact ⟨k + 1, by omega, by go_num, by rw [HZ.out]; go_num, ⟨pw_below_drewN HB.out _⟩⟩
        case measure => simp [intOf]; omega
      · obtain rfl : k = s.size := by omega
        have dl : decide ((s.size : Int) < (s.size : Int)) = false := decide_eq_false (by omega)
        go_wp2_with fail
        go_ret
        exact ⟨rfl, HB.out⟩
  · rw [if_neg hs] at h; cases h
end Go.Proofs.YtliiploidjnmnaaDoor.PF
end

section
/- A bit of a string turned, by hand: ham.turned. -/
set_option linter.unusedVariables false
set_option linter.unusedSimpArgs false
namespace Go.Proofs.YtliiploidjnmnaaDoor.PF
open Go.RowKit Go.Shelf Go.Proofs.YtliiploidjnmnaaDoorW.PrintWords Go.Proofs.YtliiploidjnmnaaDoor.Hw

set_option maxHeartbeats 4000000 in
set_option maxRecDepth 100000 in
theorem turned_hit (s : ByteArray) (p : Int) (w : World) (hs : s.size = 8) (HL : Aside0 (Laid w)) (k : Nat) (hk : k < 64) (hp : (plc k : Nat) = p) (hno : ∀ j, j < k → plc j ≠ p.toNat) :
    Calls Tryd.prog 74 #[.string s, .int .u8 p] w fun e w' => e = .returned (.string (flipAt s k)) ∧ Below w.heap.size w w' := by
  go_enter Tryd.func74, Tryd.ntmps74
  go_wp2_with fail
  go_loop [5] (fun v5 => ∃ (i : Nat), i ≤ k ∧ v5 = .int .i64 i) (fun v5 => 64 - (intOf v5).toNat)
  case atStart => exact ⟨0, by omega, rfl⟩
  case round =>
    obtain ⟨i, hi, rfl⟩ := hrel
    have hlt : i < 64 := by omega
    have dl : decide ((i : Int) < 64) = true := decide_eq_true (by omega)
    obtain ⟨pe, pl⟩ := plc_is ⟨i, hlt⟩
    simp only at pe pl
    have p2 := HL.out.plc i hlt
    rw [pe] at p2
    by_cases he : i = k
    · have hq : (((plc i : Nat) : Int) == p) = true := by rw [he]; simpa using hp
      subst he
      have hcv := Lib.run_convert_string_bytes (P := Tryd.prog) w 9 91 5 s Tryd.underlying9 Tryd.underlying91 Tryd.underlying5
      have hq8 : i / 8 < s.size := by omega
      have hcell := Lib.bytesWorld_cell w 5 s (i / 8) hq8
      have hbt : ((s.data.toList.getD (i / 8) 0).toNat : Int) = bt s ((i / 8 : Nat) : Int) := by
        have h1 := rd_bytesOf s ((i / 8 : Nat) : Int)
        rw [← h1]
        unfold rd bytesOf
        rw [Int.toNat_natCast, List.getD_eq_getElem?_getD, List.getD_eq_getElem?_getD, List.getElem?_map, List.getElem?_eq_getElem (by rw [data_length]; exact hq8)]
        rfl
      rw [hbt] at hcell
      have hfr := bw_frozen w 5 s (i / 8) hq8
      have hrd := bw_set w 5 s (by omega) (i / 8) hq8 (bits .xor .u8 (bt s ((i : Int) / 8)) (2 ^ (i % 8) % 256))
      have hst := string_of_reads (P := Tryd.prog) (dst := 9) (c := grownCap w s.size 0 5) Tryd.underlying91 Tryd.underlying5 Tryd.underlying9 hrd
      have HBW := Aside0.mk (bw_below w 5 s)
      have i1 : 0 ≤ (i : Int) := by omega
      have e1 : ((i : Int) / 8).toNat = i / 8 := by omega
      have j1 : (i : Int) / 8 < (s.size : Int) := by omega
      have j0 : 0 ≤ (i : Int) / 8 := by omega
      clear hrd pe hs hp hbt
      go_wp2_with fail
      go_ret
      refine ⟨rfl, ?_⟩
      exact HBW.out.setCell (p := ⟨w.heap.size, i / 8, none⟩) (Nat.le_refl _) _
    · have hq : (((plc i : Nat) : Int) == p) = false := by
        have := hno i (by omega)
        simp only [beq_eq_false_iff_ne]; omega
      clear pe
      go_wp2_with fail
      go_round
      case rel => exact ⟨i + 1, by omega, by go_num⟩
      case measure => simp [intOf]; omega
set_option maxHeartbeats 4000000 in
set_option maxRecDepth 100000 in
theorem turned_miss (s : ByteArray) (p : Int) (w : World) (HL : Aside0 (Laid w)) (hp0 : 0 ≤ p) (hno : ∀ j, j < 64 → plc j ≠ p.toNat) :
    Calls Tryd.prog 74 #[.string s, .int .u8 p] w fun e w' => e = .returned (.string s) ∧ Below w.heap.size w w' := by
  go_enter Tryd.func74, Tryd.ntmps74
  go_wp2_with fail
  go_loop [5] (fun v5 => ∃ (i : Nat), i ≤ 64 ∧ v5 = .int .i64 i) (fun v5 => 64 - (intOf v5).toNat)
  case atStart => exact ⟨0, by omega, rfl⟩
  case round =>
    obtain ⟨i, hi, rfl⟩ := hrel
    by_cases hlt : i < 64
    · have dl : decide ((i : Int) < 64) = true := decide_eq_true (by omega)
      obtain ⟨pe, pl⟩ := plc_is ⟨i, hlt⟩
      simp only at pe pl
      have p2 := HL.out.plc i hlt
      rw [pe] at p2
      have hq : (((plc i : Nat) : Int) == p) = false := by
        have := hno i (by omega)
        simp only [beq_eq_false_iff_ne]; omega
      clear pe
      go_wp2_with fail
      go_round
      case rel => exact ⟨i + 1, by omega, by go_num⟩
      case measure => simp [intOf]; omega
    · obtain rfl : i = 64 := by omega
      have dl : decide (((64 : Nat) : Int) < 64) = false := by decide
      go_wp2_with fail
      go_ret
      exact ⟨rfl, Below.refl _ _⟩
/-- Which bit has a place. -/
def plcIdx (p : Int) : Option Nat := (List.range 64).find? (fun k => ((plc k : Nat) : Int) == p)
def ham_turned.f (s : ByteArray) (p : Int) : Option ByteArray := if s.size = 8 ∧ 0 ≤ p then some (match plcIdx p with | none => s | some k => flipAt s k) else none
theorem ham_turned.calls (s : ByteArray) (p : Int) (r : ByteArray) (w : World) (h : ham_turned.f s p = some r) (HL : Aside0 (Laid w) := by first | exact HL | exact Hw.laid_at HL (by repeat (first | (with_reducible first | exact HB.out | apply below_alloc | apply pw_below_drewN | apply below_drew1) | exact HB.out | exact Below.refl _ _ | refine below_set ?_ (by apply Aside0.out; assumption)))) :
    Calls Tryd.prog 74 #[.string s, .int .u8 p] w fun e w' => e = .returned (.string r) ∧ Below w.heap.size w w' := by
  unfold ham_turned.f at h
  by_cases hs : s.size = 8 ∧ 0 ≤ p
  · rw [if_pos hs] at h
    obtain rfl := Option.some.inj h
    cases hx : plcIdx p with
    | none =>
      refine turned_miss s p w HL hs.2 (fun j hj e => ?_)
      have := List.find?_eq_none.1 hx j (List.mem_range.2 hj)
      simp only [beq_iff_eq] at this
      omega
    | some k =>
      have h1 := List.find?_some hx
      have h2 := List.mem_range.1 (List.mem_of_find?_eq_some hx)
      simp only [beq_iff_eq] at h1
      refine turned_hit s p w hs.1 HL k h2 h1 (fun j hj e => ?_)
      have h3 : plcIdx p = some k := hx
      unfold plcIdx at h3
      rw [List.find?_eq_some_iff_append] at h3
      obtain ⟨_, pre, post, hab, hall⟩ := h3
      have hlen : pre.length = k := by
        have h4 : (List.range 64)[pre.length]? = some k := by rw [hab]; simp
        have h5 : pre.length < 64 := by
          have := congrArg List.length hab
          simp at this
          omega
        rw [List.getElem?_range h5] at h4
        exact Option.some.inj h4
      have hmem : j ∈ pre := by
        have h4 : (List.range 64)[j]? = pre[j]? := by rw [hab, List.getElem?_append_left (by omega)]
        rw [List.getElem?_range (by omega)] at h4
        exact List.mem_of_getElem? h4.symm
      have := hall j hmem
      simp only [Bool.not_eq_true', beq_eq_false_iff_ne] at this
      omega
  · rw [if_neg hs] at h; cases h
end Go.Proofs.YtliiploidjnmnaaDoor.PF
end
