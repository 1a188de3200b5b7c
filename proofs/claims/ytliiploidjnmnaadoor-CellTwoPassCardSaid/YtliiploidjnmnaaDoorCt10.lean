/- The law's proof: words, contracts of the functions that it reaches, plain lemmas. -/
import Derived.ArgAppend
import Derived.Below
import Derived.BigQuiet
import Derived.Carry
import Derived.Deep.AppendLies
import Derived.Deep.CutBlock
import Derived.Deep.DeepCutAuto
import Derived.Deep.Draws
import Derived.Deep.LoopGhost
import Derived.Deep.OwnRows
import Derived.Deep.QuietTactic
import Derived.Deep.RegionHeld3
import Derived.Deep.RegionWith
import Derived.KernelRfl
import Derived.Laws.BitsLemmas
import Derived.Laws.BytesArg
import Derived.Laws.IdiomCopy
import Derived.Laws.MakeOwn
import Derived.Laws.OwnMore
import Derived.Laws.Rows
import Derived.Laws.Slices
import Derived.Lib.AppendStr
import Derived.Lib.BufferMore
import Derived.Lib.ConvBytes
import Derived.Lib.Hide
import Derived.Lib.LazyBuf
import Derived.Maps.AppendAt
import Derived.OpenShut
import Derived.OrdersHeld
import Derived.Outline
import Derived.OwnWalk
import Derived.OwnWalkIn
import Derived.RegionTactic
import Derived.RowKit3
import Derived.StillTailTactics
import Derived.Tactics
import Derived.WalkKit
import Derived.WideLaws
import Derived.Test.YtliiploidjnmnaaDoorProg
import Derived.Test.YtliiploidjnmnaaDoorCt9
section
/- Package crc, by hand: More: the state behind bytes, by a table of half bytes. -/
set_option linter.unusedVariables false
set_option linter.unusedSimpArgs false
namespace Go.Proofs.YtliiploidjnmnaaDoor.PF
open Go.RowKit Go.Proofs.YtliiploidjnmnaaDoorW.PrintWords Go.Proofs.YtliiploidjnmnaaDoor.Hw

/-- A half byte's step. -/
def crcHalf (s : Int) : Int := bits .xor .u32 (crcT.getD (s % 16).toNat 0) (s / 16)
def crcByte (s c : Int) : Int := crcHalf (crcHalf (bits .xor .u32 s c))
def crcGo (s : Int) (a : ByteArray) : Nat → Int
  | 0 => s
  | k + 1 => crcByte (crcGo s a k) (bt a k)
theorem wraps_u32 (n : Int) (h₀ : 0 ≤ n) (h₁ : n < 2 ^ 32) : IntKind.u32.wrap n = n := by rw [IntKind.wrap_u32]; omega
theorem u32_and15 (x : Int) (h₀ : 0 ≤ x) (h₁ : x < 4294967296) : bits .and .u32 x 15 = x % 16 := bits_mask .u32 32 (by decide) wraps_u32 4 (by decide) x h₀ h₁
theorem u32_range (op : BinOp) (a b : Int) : 0 ≤ bits op .u32 a b ∧ bits op .u32 a b < 4294967296 := by
  have h : ∀ n : Int, 0 ≤ IntKind.u32.wrap n ∧ IntKind.u32.wrap n < 4294967296 := fun n => by rw [IntKind.wrap_u32]; omega
  exact h _
theorem crcHalf_range (s : Int) : 0 ≤ crcHalf s ∧ crcHalf s < 4294967296 := u32_range _ _ _
def crc_More.f (s : Int) (a : ByteArray) : Option Int := if 0 ≤ s ∧ s < 4294967296 then (if a.size ≤ 140737488355328 then some (crcGo s a a.size) else none) else none
set_option maxHeartbeats 2000000 in
set_option maxRecDepth 100000 in
theorem crc_More.calls (s : Int) (a : ByteArray) (r : Int) (w : World) (h : crc_More.f s a = some r) (HL : Aside0 (Laid w) := by first | exact HL | exact Hw.laid_at HL (by repeat (first | (with_reducible first | exact HB.out | apply below_alloc | apply pw_below_drewN | apply below_drew1) | exact HB.out | exact Below.refl _ _ | refine below_set ?_ (by apply Aside0.out; assumption)))) :
    Calls Tryd.prog 105 #[.int .u32 s, .string a] w fun e w' => e = .returned (.int .u32 r) ∧ Below w.heap.size w w' := by
  unfold crc_More.f at h
  by_cases hs : 0 ≤ s ∧ s < 4294967296
  · rw [if_pos hs] at h
    by_cases ha : a.size ≤ 140737488355328
    · rw [if_pos ha] at h
      obtain rfl := Option.some.inj h
      obtain ⟨s0, s1⟩ := hs
      clear h
      go_enter Tryd.func105, Tryd.ntmps105
      go_wp2_with fail
      go_loop [0, 8] (fun v0 v8 => ∃ (k : Nat) (x : Int), k ≤ a.size ∧ 0 ≤ x ∧ x < 4294967296 ∧ v8 = .int .i64 k ∧ v0 = .int .u32 x ∧ Aside0 (x = crcGo s a k)) (fun _ v8 => a.size - (intOf v8).toNat)
      case atStart => exact ⟨0, s, by omega, s0, s1, rfl, rfl, ⟨rfl⟩⟩
      case round =>
        obtain ⟨k, x, hk, x0, x1, rfl, rfl, HX⟩ := hrel
        by_cases hlt : k < a.size
        · have dl : decide ((k : Int) < (a.size : Int)) = true := decide_eq_true (by omega)
          obtain ⟨c, hc⟩ : ∃ c, c = bt a k := ⟨_, rfl⟩
          have hb : ((a[k]'hlt).toNat : Int) % 4294967296 = c := by
            have h1 := bt_at a (k : Int) (by simpa using hlt)
            have h2 := bt_range a k
            have h3 : ((a[k]'hlt).toNat : Int) = bt a k := by simpa using h1
            rw [h3, hc]; omega
          obtain ⟨y, hy⟩ : ∃ y, bits .xor .u32 x c = y := ⟨_, rfl⟩
          obtain ⟨y0, y1⟩ : 0 ≤ y ∧ y < 4294967296 := by rw [← hy]; exact u32_range _ _ _
          have e1 := u32_and15 y y0 y1
          have p1 := HL.out.crc (y % 16).toNat (by show (y % 16).toNat < 16; omega)
          obtain ⟨t1, ht1⟩ : ∃ t, t = crcT.getD (y % 16).toNat 0 := ⟨_, rfl⟩
          rw [← ht1] at p1
          obtain ⟨z, hz⟩ : ∃ z, bits .xor .u32 t1 (y / 16) = z := ⟨_, rfl⟩
          obtain ⟨z0, z1⟩ : 0 ≤ z ∧ z < 4294967296 := by rw [← hz]; exact u32_range _ _ _
          have e2 := u32_and15 z z0 z1
          have p2 := HL.out.crc (z % 16).toNat (by show (z % 16).toNat < 16; omega)
          obtain ⟨t2, ht2⟩ : ∃ t, t = crcT.getD (z % 16).toNat 0 := ⟨_, rfl⟩
          rw [← ht2] at p2
          obtain ⟨u, hu⟩ : ∃ u, bits .xor .u32 t2 (z / 16) = u := ⟨_, rfl⟩
          obtain ⟨u0, u1⟩ : 0 ≤ u ∧ u < 4294967296 := by rw [← hu]; exact u32_range _ _ _
          have hG : crcGo s a (k + 1) = u := by
            show crcByte (crcGo s a k) (bt a k) = u
            rw [← HX.out, ← hc]
            show crcHalf (crcHalf (bits .xor .u32 x c)) = u
            rw [hy]
            have hh : crcHalf y = z := by rw [← hz, ht1]; rfl
            rw [hh, ← hu, ht2]; rfl
          have HG := Aside0.mk hG.symm
          have i1 : 0 ≤ y % 16 := by omega
          have i2 : y % 16 < 16 := by omega
          have i3 : 0 ≤ z % 16 := by omega
          have i4 : z % 16 < 16 := by omega
          clear hc ht1 ht2 hG HX
          go_wp2_with fail
          go_round
          case rel => exact ⟨k + 1, u, by omega, u0, u1, by go_num, rfl, HG⟩
          case measure => simp [intOf]; omega
        · obtain rfl : k = a.size := by omega
          have dl : decide ((a.size : Int) < (a.size : Int)) = false := decide_eq_false (by omega)
          go_wp2_with fail
          go_ret
          exact ⟨by rw [HX.out]; rfl, Below.refl _ _⟩
    · rw [if_neg ha] at h; cases h
  · rw [if_neg hs] at h; cases h
theorem u32_not (x : Int) (h0 : 0 ≤ x) (h1 : x < 4294967296) : bits .xor .u32 IntKind.u32.max x = 4294967295 - x := by
  obtain ⟨n, rfl⟩ := Int.eq_ofNat_of_zero_le h0
  have hn : n < 4294967296 := by omega
  have e1 : BitVec.ofInt 32 IntKind.u32.max = BitVec.allOnes 32 := by decide
  show IntKind.u32.wrap ((BitVec.ofInt 32 IntKind.u32.max ^^^ BitVec.ofInt 32 (n : Int)).toNat : Nat) = _
  rw [e1, BitVec.allOnes_xor, BitVec.toNat_not, BitVec.ofInt_natCast, BitVec.toNat_ofNat, IntKind.wrap_u32]
  omega
theorem ret_u32 {a b : Int} (h : a = b) : Ending.returned (.int .u32 a) = .returned (.int .u32 b) := by rw [h]
theorem crcGo_range (s : Int) (a : ByteArray) (h0 : 0 ≤ s) (h1 : s < 4294967296) : ∀ k, 0 ≤ crcGo s a k ∧ crcGo s a k < 4294967296
  | 0 => ⟨h0, h1⟩
  | k + 1 => crcHalf_range _
def crc_Sum.f (a : ByteArray) : Option Int := if a.size ≤ 140737488355328 then some (4294967295 - crcGo 4294967295 a a.size) else none
set_option maxHeartbeats 2000000 in
theorem crc_Sum.calls (a : ByteArray) (r : Int) (w : World) (h : crc_Sum.f a = some r) (HL : Aside0 (Laid w) := by first | exact HL | exact Hw.laid_at HL (by repeat (first | (with_reducible first | exact HB.out | apply below_alloc | apply pw_below_drewN | apply below_drew1) | exact HB.out | exact Below.refl _ _ | refine below_set ?_ (by apply Aside0.out; assumption)))) :
    Calls Tryd.prog 95 #[.string a] w fun e w' => e = .returned (.int .u32 r) ∧ Below w.heap.size w w' := by
  unfold crc_Sum.f at h
  by_cases ha : a.size ≤ 140737488355328
  · rw [if_pos ha] at h
    obtain rfl := Option.some.inj h
    have hm : crc_More.f 4294967295 a = some (crcGo 4294967295 a a.size) := by
      unfold crc_More.f
      rw [if_pos (by omega), if_pos ha]
    obtain ⟨g0, g1⟩ := crcGo_range 4294967295 a (by omega) (by omega) a.size
    obtain ⟨x, hx⟩ : ∃ x, x = crcGo 4294967295 a a.size := ⟨_, rfl⟩
    rw [← hx] at hm g0 g1 ⊢
    have HM := Aside0.mk hm
    clear hm hx
    go_enter Tryd.func95, Tryd.ntmps95
    go_wp2_with fail
    refine (crc_More.calls 4294967295 a x w HM.out HL).mono ?_
    rintro e w1 ⟨rfl, hb⟩
    have HB := Aside0.mk hb
    clear hb
    go_wp2_with fail
    go_ret
    all_goals exact ⟨ret_u32 (u32_not x g0 g1), HB.out⟩
  · rw [if_neg ha] at h; cases h
end Go.Proofs.YtliiploidjnmnaaDoor.PF
end
