/- The law's proof: words, contracts of the functions that it reaches, plain lemmas. -/
import Derived.ArgAppend
import Derived.Below
import Derived.BigQuiet
import Derived.Carry
import Derived.Deep.AppendLies
import Derived.Deep.CutBlock
import Derived.Deep.DeepCutAuto
import Derived.Deep.Draws
import Derived.Deep.LoopGhost
import Derived.Deep.OwnRows
import Derived.Deep.QuietTactic
import Derived.Deep.RegionHeld3
import Derived.Deep.RegionWith
import Derived.KernelRfl
import Derived.Laws.BitsLemmas
import Derived.Laws.BytesArg
import Derived.Laws.IdiomCopy
import Derived.Laws.MakeOwn
import Derived.Laws.OwnMore
import Derived.Laws.Rows
import Derived.Laws.Slices
import Derived.Lib.AppendStr
import Derived.Lib.BufferMore
import Derived.Lib.ConvBytes
import Derived.Lib.Hide
import Derived.Lib.LazyBuf
import Derived.Maps.AppendAt
import Derived.OpenShut
import Derived.OrdersHeld
import Derived.Outline
import Derived.OwnWalk
import Derived.OwnWalkIn
import Derived.RegionTactic
import Derived.RowKit3
import Derived.StillTailTactics
import Derived.Tactics
import Derived.WalkKit
import Derived.WideLaws
import Derived.Test.YtliiploidjnmnaaDoorCt3
import Derived.Test.YtliiploidjnmnaaDoorCt2
import Derived.Test.YtliiploidjnmnaaDoorCt9
import Derived.Test.YtliiploidjnmnaaDoorCt5
import Derived.Test.YtliiploidjnmnaaDoorProg
section
/- strings.Builder, as the walks meet it: it holds a string. -/
set_option linter.unusedVariables false
set_option linter.unusedSimpArgs false
namespace Go.Proofs.YtliiploidjnmnaaDoor.Hw
open Go.RowKit Go.Shelf Go.Proofs.YtliiploidjnmnaaDoorW.PrintWords Go.Proofs.YtliiploidjnmnaaDoor.Mem

/-- A Builder that the call has made holds s. -/
def Bld (B b : Nat) (s : ByteArray) (w : World) : Prop := Lib.IsBuilder 93 5 B b (Lib.strCells s) w ∧ B ≤ w.heap.size
theorem ownsRow_below {w w1 : World} {B : Nat} {e : TypeId} {v : Value} {n : Nat} {xs : List Value} (h : w.ownsRow B e 1 v n xs) (hb : Below w.heap.size w w1) : w1.ownsRow B e 1 v n xs := by
  obtain ⟨h1, h2⟩ := h
  refine ⟨h1, ?_⟩
  rcases h2 with h2 | ⟨g, cap, cur, r1, r2, r3, r⟩
  · exact .inl h2
  · refine .inr ⟨g, cap, cur, r1, r2, ?_, r⟩
    exact (hb.block g (blk_lt r3)).trans r3
theorem at_below {w w1 : World} {T e : TypeId} {B b : Nat} {p : Value} {bs : List Value} (h : Lib.BuilderAt T e B b p bs w) (hb : Below w.heap.size w w1) : Lib.BuilderAt T e B b p bs w1 := by
  have hl := h.lt
  obtain ⟨h1, v, h2, h3, h4⟩ := h
  exact ⟨h1, v, (hb.block b hl).trans h2, ownsRow_below h3 hb, h4⟩
theorem Bld.below {B b : Nat} {s : ByteArray} {w w1 : World} (h : Bld B b s w) (hb : Below w.heap.size w w1) : Bld B b s w1 :=
  ⟨h.1.elim (fun k => .inl (at_below k hb)) (fun k => .inr (at_below k hb)), Nat.le_trans h.2 hb.size⟩
theorem Bld.new {B : Nat} {w : World} (hB : B ≤ w.heap.size) : Bld B w.heap.size ⟨#[]⟩ (w.alloc (.cells #[.pointer none, .slice none 0 0] 93)) := by
  refine ⟨.inl ?_, by rw [World.size_alloc]; omega⟩
  exact ⟨hB, .slice none 0 0, Go.heap_alloc_new w _, World.ownsRow_nil _ _ _ _, by simp [Value.ownBlock]⟩
theorem Bld.drew {B b : Nat} {s : ByteArray} {w : World} (h : Bld B b s w) : Bld B b s w.drew := h.below ⟨rfl, rfl, rfl, Nat.le_refl _, fun _ _ => rfl⟩
theorem strCells_push (s : ByteArray) (c : UInt8) : Lib.strCells (s.push c) = Lib.strCells s ++ [.int .u8 (c.toNat : Int)] := by
  simp [Lib.strCells, ByteArray.push]
theorem strCells_append (s t : ByteArray) : Lib.strCells (s ++ t) = Lib.strCells s ++ Lib.strCells t := by
  simp [Lib.strCells]
theorem bld_str {B b : Nat} {s t : ByteArray} {w : World} (h : Bld B b s w) (hl : s.size + t.size ≤ 140737488355328) :
    Calls Tryd.prog 56 #[.pointer (some ⟨b, 0, none⟩), .string t] w fun e w' => e = .returned (.tuple #[.int .i64 t.size, .nilIface]) ∧ Bld B b (s ++ t) w' ∧ Below B w w' := by
  refine (Any.Builder_WriteString lays166 extra166 B b (Lib.strCells s) t w h.1 (by rw [Lib.strCells_length]; exact hl) h.2).mono ?_
  rintro e w' ⟨h1, h2, h3⟩
  exact ⟨h1, ⟨.inr (by rw [strCells_append]; exact h2), Nat.le_trans h.2 h3.size⟩, h3⟩
theorem bld_byte {B b : Nat} {s : ByteArray} {w : World} (h : Bld B b s w) (c : UInt8) (hl : s.size + 1 ≤ 140737488355328) :
    Calls Tryd.prog 110 #[.pointer (some ⟨b, 0, none⟩), .int .u8 (c.toNat : Int)] w fun e w' => e = .returned .nilIface ∧ Bld B b (s.push c) w' ∧ Below B w w' := by
  refine (Any.Builder_WriteByte lays167 extra167 B b (Lib.strCells s) (c.toNat : Int) w h.1 (by rw [Lib.strCells_length]; exact hl) h.2).mono ?_
  rintro e w' ⟨h1, h2, h3⟩
  exact ⟨h1, ⟨.inr (by rw [strCells_push]; exact h2), Nat.le_trans h.2 h3.size⟩, h3⟩
theorem bld_string {B b : Nat} {s : ByteArray} {w : World} (h : Bld B b s w) :
    Calls Tryd.prog 58 #[.pointer (some ⟨b, 0, none⟩)] w fun e w' => e = .returned (.string s) ∧ Below B w w' := by
  refine (Any.Builder_String_any lays169 extra169 B b s.data.toList w h.1 h.2).mono ?_
  rintro e w' ⟨h1, h2⟩
  exact ⟨h1, h2⟩
end Go.Proofs.YtliiploidjnmnaaDoor.Hw
end

section
/- Package bits, by hand: Put: a number's bytes, the lowest first. -/
set_option linter.unusedVariables false
set_option linter.unusedSimpArgs false
namespace Go.Proofs.YtliiploidjnmnaaDoor.PF
open Go.RowKit Go.Shelf Go.Proofs.YtliiploidjnmnaaDoorW.PrintWords Go.Proofs.YtliiploidjnmnaaDoor.Mem Go.Proofs.YtliiploidjnmnaaDoor.Hw

/-- A number's bytes, so many, the lowest first. -/
def leBytes (v : Int) : Nat → List UInt8
  | 0 => []
  | n + 1 => leBytes v n ++ [UInt8.ofNat (v / 256 ^ n % 256).toNat]
theorem leBytes_length (v : Int) : ∀ n, (leBytes v n).length = n
  | 0 => rfl
  | n + 1 => by simp [leBytes, leBytes_length v n]
abbrev leStr (v : Int) (n : Nat) : ByteArray := ⟨(leBytes v n).toArray⟩
theorem leStr_push (v : Int) (n : Nat) : (leStr v n).push (UInt8.ofNat (v / 256 ^ n % 256).toNat) = leStr v (n + 1) := by
  simp [leStr, leBytes, ByteArray.push]
theorem leStr_size (v : Int) (n : Nat) : (leStr v n).size = n := by
  show (leBytes v n).toArray.size = n
  simp [leBytes_length]
theorem u8_ofInt (x : Int) : ((UInt8.ofNat (x % 256).toNat).toNat : Int) = x % 256 := by
  rw [UInt8.toNat_ofNat']
  omega
/-- Why a number has no bytes. -/
def putNo (v n : Int) : Prop := n < 1 ∨ 8 < n ∨ (n < 8 ∧ v / 2 ^ (n * 8).toNat ≠ 0)
instance (v n : Int) : Decidable (putNo v n) := by unfold putNo; infer_instance
def bits_Put.f (v n : Int) : Option (ByteArray × Int) := if 0 ≤ v ∧ v < 18446744073709551616 then some (if putNo v n then (⟨#[]⟩, 1) else (leStr v n.toNat, 0)) else none
set_option maxHeartbeats 2000000 in
set_option maxRecDepth 100000 in
theorem put_loop (v : Int) (n : Nat) (w : World) (h0 : 0 ≤ v) (h1 : v < 18446744073709551616) (hn1 : 1 ≤ n) (hn8 : n ≤ 8) (hno : n < 8 → v / 2 ^ (n * 8) = 0) :
    Calls Tryd.prog 108 #[.int .u64 v, .int .i64 n] w fun e w' => e = .returned (.tuple #[.string (leStr v n), .int .i64 0]) ∧ Below w.heap.size w w' := by
  have d1 : decide ((n : Int) < 1) = false := decide_eq_false (by omega)
  have d2 : decide (8 < (n : Int)) = false := decide_eq_false (by omega)
  have HBN := Aside0.mk (Bld.new (B := w.heap.size) (w := w) (Nat.le_refl _))
  have HN := Aside0.mk hno
  clear hno
  obtain ⟨B, hB⟩ : ∃ B, B = w.heap.size := ⟨_, rfl⟩
  by_cases h8 : n < 8
  all_goals
    first
      | (have d3 : decide ((n : Int) < 8) = true := decide_eq_true (by omega)
         have hz := HN.out h8)
      | (have d3 : decide ((n : Int) < 8) = false := decide_eq_false (by omega)
         have hz : True := trivial)
    go_enter Tryd.func108, Tryd.ntmps108
    go_wp2_with fail
    clear hz
    go_loopw [0, 26] (fun v0 v26 wr => ∃ k : Nat, k ≤ n ∧ v26 = .int .i64 k ∧ v0 = .int .u64 (v / 256 ^ k) ∧ Aside0 (Bld w.heap.size w.heap.size (leStr v k) wr) ∧ Aside0 (Below w.heap.size w wr)) (fun _ v26 _ => n - (intOf v26).toNat)
    case atStart => exact ⟨0, by omega, rfl, by simp, HBN, ⟨(Below.refl _ _).alloc (Nat.le_refl _) _⟩⟩
    case round =>
      clear HBN
      obtain ⟨k, hk, rfl, rfl, HBN, HB⟩ := hrel
      have q0 : 0 ≤ v / 256 ^ k := Int.ediv_nonneg h0 (Int.pow_nonneg (by decide))
      have q1 : v / 256 ^ k < 18446744073709551616 := Int.lt_of_le_of_lt (Int.ediv_le_self _ h0) h1
      have hq : v / 256 ^ k / 256 = v / 256 ^ (k + 1) := by rw [Int.pow_succ, Int.ediv_ediv_of_nonneg (Int.pow_nonneg (by decide))]
      have hpu := leStr_push v k
      have hc := u8_ofInt (v / 256 ^ k)
      have hsz := leStr_size v k
      obtain ⟨q, hqe⟩ : ∃ q, q = v / 256 ^ k := ⟨_, rfl⟩
      obtain ⟨c, hce⟩ : ∃ c, c = UInt8.ofNat (q % 256).toNat := ⟨_, rfl⟩
      rw [← hqe] at q0 q1 hq hpu hc ⊢
      rw [← hce] at hpu hc
      have HQ := Lib.hid hq
      have HPU := Lib.hid hpu
      have HC := Lib.hid hc
      have HSZ := Lib.hid hsz
      clear hq hpu hc hqe hce hsz
      by_cases hlt : k < n
      · have dl : decide ((k : Int) < (n : Int)) = true := decide_eq_true (by omega)
        go_wp2_with fail
        rw [← HC.out]
        refine (bld_byte HBN.out c (by rw [HSZ.out]; omega)).mono ?_
        rintro e w1 ⟨rfl, hb, hw⟩
        rw [HPU.out] at hb
        have HX := Aside0.mk hb
        have HY := Aside0.mk (HB.out.trans hw)
        clear hb hw HB HBN
        go_wp2_with fail
        go_roundw
        case rel => exact ⟨k + 1, by omega, by go_num, by rw [HQ.out], HX, HY⟩
        case measure => simp [intOf]; omega
      · obtain rfl : k = n := by omega
        have dl : decide ((k : Int) < (k : Int)) = false := decide_eq_false (by omega)
        go_wp2_with fail
        refine (bld_string HBN.out).mono ?_
        rintro e w1 ⟨rfl, hw⟩
        have HY := Aside0.mk (HB.out.trans hw)
        clear hw HB HBN
        go_wp2_with fail
        go_ret2
        exact ⟨rfl, HY.out⟩
set_option maxHeartbeats 2000000 in
set_option maxRecDepth 100000 in
theorem bits_Put.calls (v n : Int) (r1 : ByteArray) (r2 : Int) (w : World) (h : bits_Put.f v n = some (r1, r2)) :
    Calls Tryd.prog 108 #[.int .u64 v, .int .i64 n] w fun e w' => e = .returned (.tuple #[.string r1, .int .i64 r2]) ∧ Below w.heap.size w w' := by
  unfold bits_Put.f at h
  by_cases hv : 0 ≤ v ∧ v < 18446744073709551616
  · rw [if_pos hv] at h
    obtain ⟨h0, h1⟩ := hv
    by_cases hno : putNo v n
    · rw [if_pos hno] at h
      simp only [Option.some.injEq, Prod.mk.injEq] at h
      obtain ⟨rfl, rfl⟩ := h
      unfold putNo at hno
      by_cases e1 : n < 1
      · have d1 : decide (n < 1) = true := decide_eq_true e1
        clear hno
        go_enter Tryd.func108, Tryd.ntmps108
        go_wp2_with fail
        go_ret2
        exact ⟨rfl, Below.refl _ _⟩
      · have d1 : decide (n < 1) = false := decide_eq_false e1
        by_cases e2 : 8 < n
        · have d2 : decide (8 < n) = true := decide_eq_true e2
          clear hno
          go_enter Tryd.func108, Tryd.ntmps108
          go_wp2_with fail
          go_ret2
          exact ⟨rfl, Below.refl _ _⟩
        · have d2 : decide (8 < n) = false := decide_eq_false e2
          obtain ⟨e3, e4⟩ : n < 8 ∧ v / 2 ^ (n * 8).toNat ≠ 0 := by
            rcases hno with h | h | h
            · exact absurd h e1
            · exact absurd h e2
            · exact h
          have d3 : decide (n < 8) = true := decide_eq_true e3
          clear hno
          go_enter Tryd.func108, Tryd.ntmps108
          go_wp2_with fail
          go_ret2
          exact ⟨rfl, Below.refl _ _⟩
    · rw [if_neg hno] at h
      simp only [Option.some.injEq, Prod.mk.injEq] at h
      obtain ⟨rfl, rfl⟩ := h
      unfold putNo at hno
      obtain ⟨m, rfl⟩ : ∃ m : Nat, n = m := ⟨n.toNat, by omega⟩
      refine put_loop v m w h0 h1 (by omega) (by omega) (fun h8 => ?_)
      have e : ((m : Int) * 8).toNat = m * 8 := by omega
      rw [e] at hno
      refine Decidable.byContradiction fun hne => hno (.inr (.inr ⟨by omega, hne⟩))
  · rw [if_neg hv] at h
    cases h
end Go.Proofs.YtliiploidjnmnaaDoor.PF
end

section
/- Package ham, by hand: what is left of the places of all bits that are 1; a bit turned by its place. -/
set_option linter.unusedVariables false
set_option linter.unusedSimpArgs false
namespace Go.Proofs.YtliiploidjnmnaaDoor.PF
open Go.RowKit Go.Shelf Go.Proofs.YtliiploidjnmnaaDoorW.PrintWords Go.Proofs.YtliiploidjnmnaaDoor.Hw

theorem bits_xor (k : IntKind) (j : Nat) (hj : j ≤ k.bits) (hk : ∀ n : Int, 0 ≤ n → n < 2 ^ j → k.wrap n = n) (a b : Nat) (ha : a < 2 ^ j) (hb : b < 2 ^ j) : bits .xor k a b = ((a ^^^ b : Nat) : Int) := by
  have hp : 2 ^ j ≤ 2 ^ k.bits := Nat.pow_le_pow_right (by decide) hj
  have ha' : a % 2 ^ k.bits = a := Nat.mod_eq_of_lt (Nat.lt_of_lt_of_le ha hp)
  have hb' : b % 2 ^ k.bits = b := Nat.mod_eq_of_lt (Nat.lt_of_lt_of_le hb hp)
  simp only [bits, BitVec.ofInt_natCast, BitVec.toNat_xor, BitVec.toNat_ofNat, ha', hb']
  exact hk _ (Int.natCast_nonneg _) (by exact_mod_cast Nat.xor_lt_two_pow ha hb)
theorem u8_xor (a b : Nat) (ha : a < 256) (hb : b < 256) : bits .xor .u8 a b = ((a ^^^ b : Nat) : Int) := bits_xor .u8 8 (by decide) wraps_u8 a b ha hb
theorem u8_and (a b : Nat) (ha : a < 256) (hb : b < 256) : bits .and .u8 a b = ((a &&& b : Nat) : Int) := (bits_nat .u8 8 (by decide) wraps_u8 a b ha hb).1
def plc (i : Nat) : Nat := (plcT.getD i 0).toNat
theorem plc_is : ∀ i : Fin 64, plcT.getD i.val 0 = ((plc i.val : Nat) : Int) ∧ plc i.val < 72 := by decide
/-- What a byte's bits leave, and how many they are. -/
def xorB (i c : Nat) : Nat := (List.range 8).foldl (fun p k => if c.testBit k then p ^^^ plc (8 * i + k) else p) 0
def popB (c : Nat) : Nat := (List.range 8).foldl (fun p k => if c.testBit k then p + 1 else p) 0
theorem stepB : ∀ (c : Fin 256), c.val ≠ 0 → Lib.trailingZeros8 c.val < 8 ∧ c.val &&& (c.val - 1) < c.val ∧ popB c.val = 1 + popB (c.val &&& (c.val - 1)) := by decide +kernel
theorem stepX : ∀ (i : Fin 8) (c : Fin 256), c.val ≠ 0 → xorB i.val c.val = plc (8 * i.val + Lib.trailingZeros8 c.val) ^^^ xorB i.val (c.val &&& (c.val - 1)) := by decide +kernel
theorem xorB_lt : ∀ (i : Fin 8) (c : Fin 256), xorB i.val c.val < 128 := by decide +kernel
theorem popB_le : ∀ (c : Fin 256), popB c.val ≤ 8 := by decide +kernel
theorem xorB_0 : ∀ (i : Fin 8), xorB i.val 0 = 0 := by decide +kernel
/-- A byte of a string. -/
def bn (s : ByteArray) (i : Nat) : Nat := (bt s i).toNat
theorem bn_lt (s : ByteArray) (i : Nat) : bn s i < 256 := by have := bt_range s i; unfold bn; omega
theorem bn_bt (s : ByteArray) (i : Nat) : bt s i = ((bn s i : Nat) : Int) := by have := bt_range s i; unfold bn; omega
def hamP (s : ByteArray) : Nat → Nat
  | 0 => 0
  | k + 1 => hamP s k ^^^ xorB k (bn s k)
def hamN (s : ByteArray) : Nat → Nat
  | 0 => 0
  | k + 1 => hamN s k + popB (bn s k)
theorem hamP_lt (s : ByteArray) : ∀ k, k ≤ 8 → hamP s k < 128
  | 0, _ => by show 0 < 128; omega
  | k + 1, h => by
    have h1 := hamP_lt s k (by omega)
    have h2 := xorB_lt ⟨k, by omega⟩ ⟨bn s k, bn_lt s k⟩
    exact Nat.xor_lt_two_pow (n := 7) h1 h2
theorem hamN_le (s : ByteArray) : ∀ k, hamN s k ≤ 8 * k
  | 0 => by show 0 ≤ 8 * 0; omega
  | k + 1 => by
    have h1 := hamN_le s k
    have h2 := popB_le ⟨bn s k, bn_lt s k⟩
    unfold hamN
    simp only at h2
    omega
def ham_left.f (s : ByteArray) : Option (Int × Int) := if 8 ≤ s.size then (if s.size ≤ 140737488355328 then some (((hamP s 8 : Nat) : Int), ((hamN s 8 : Nat) : Int)) else none) else none
set_option maxHeartbeats 4000000 in
set_option maxRecDepth 100000 in
theorem ham_left.calls (s : ByteArray) (r1 r2 : Int) (w : World) (h : ham_left.f s = some (r1, r2)) (HL : Aside0 (Laid w) := by first | exact HL | exact Hw.laid_at HL (by repeat (first | (with_reducible first | exact HB.out | apply below_alloc | apply pw_below_drewN | apply below_drew1) | exact HB.out | exact Below.refl _ _ | refine below_set ?_ (by apply Aside0.out; assumption)))) :
    Calls Tryd.prog 72 #[.string s] w fun e w' => e = .returned (.tuple #[.int .u8 r1, .int .i64 r2]) ∧ Below w.heap.size w w' := by
  unfold ham_left.f at h
  by_cases h8 : 8 ≤ s.size
  · rw [if_pos h8] at h
    by_cases hs : s.size ≤ 140737488355328
    · rw [if_pos hs] at h
      simp only [Option.some.injEq, Prod.mk.injEq] at h
      obtain ⟨rfl, rfl⟩ := h
      go_enter Tryd.func72, Tryd.ntmps72
      go_wp2_with fail
      go_loop [4, 5, 8] (fun v4 v5 v8 => ∃ (k : Nat), k ≤ 8 ∧ v8 = .int .i64 k ∧ v4 = .int .u8 (hamP s k : Nat) ∧ v5 = .int .i64 (hamN s k : Nat)) (fun _ _ v8 => 8 - (intOf v8).toNat)
      case atStart => exact ⟨0, by omega, rfl, rfl, rfl⟩
      case round =>
        obtain ⟨k, hk, rfl, rfl, rfl⟩ := hrel
        by_cases hlt : k < 8
        · have dl : decide ((k : Int) < 8) = true := decide_eq_true (by omega)
          have hks : k < s.size := by omega
          have hb : ((s[k]'hks).toNat : Int) = (bn s k : Nat) := by
            have h1 := bt_at s (k : Int) (by simpa using hks)
            rw [← bn_bt]
            simpa using h1
          have hpl := hamP_lt s k (by omega)
          have hnl := hamN_le s k
          have hcl := bn_lt s k
          have hp1 : hamP s (k + 1) = hamP s k ^^^ xorB k (bn s k) := rfl
          have hn1 : hamN s (k + 1) = hamN s k + popB (bn s k) := rfl
          obtain ⟨p0, hp0⟩ : ∃ p, p = hamP s k := ⟨_, rfl⟩
          obtain ⟨n0, hn0⟩ : ∃ n, n = hamN s k := ⟨_, rfl⟩
          obtain ⟨c0, hc0⟩ : ∃ c, c = bn s k := ⟨_, rfl⟩
          rw [← hp0] at hpl hp1 ⊢
          rw [← hn0] at hnl hn1 ⊢
          rw [← hc0] at hb hcl hp1 hn1
          have HP1 := Lib.hid hp1
          have HN1 := Lib.hid hn1
          clear hp1 hn1 hp0 hn0 hc0
          go_wp2_with fail
          go_loop [4, 5, 7] (fun v4 v5 v7 => ∃ (p n c : Nat), p < 128 ∧ n ≤ 72 ∧ c < 256 ∧ v4 = .int .u8 (p : Nat) ∧ v5 = .int .i64 (n : Nat) ∧ v7 = .int .u8 (c : Nat) ∧ Aside0 (p ^^^ xorB k c = p0 ^^^ xorB k c0 ∧ n + popB c = n0 + popB c0)) (fun _ _ v7 => (intOf v7).toNat)
          case atStart => exact ⟨p0, n0, c0, hpl, by omega, hcl, rfl, rfl, rfl, ⟨rfl, rfl⟩⟩
          case round =>
            obtain ⟨p, n, c, p1, n1, c1, rfl, rfl, rfl, HI⟩ := hrel
            by_cases hc : c = 0
            · subst hc
              have hx : hamP s (k + 1) = p := by
                rw [HP1.out, ← HI.out.1, xorB_0 ⟨k, hlt⟩]; simp
              have hy : hamN s (k + 1) = n := by
                rw [HN1.out, ← HI.out.2]; rfl
              have HX := Lib.hid hx
              have HY := Lib.hid hy
              clear hx hy
              go_wp2_with fail
              go_round
              case rel => exact ⟨k + 1, by omega, by go_num, by rw [HX.out], by rw [HY.out]⟩
              case measure => simp [intOf]; omega
            · obtain ⟨t1, d1, q1⟩ := stepB ⟨c, c1⟩ hc
              have x1 := stepX ⟨k, hlt⟩ ⟨c, c1⟩ hc
              have hcne : ((c : Int) != 0) = true := by simpa using hc
              have hcne2 : ((c : Int) == 0) = false := by simpa using hc
              simp only at t1 d1 q1 x1
              obtain ⟨tz, htz⟩ : ∃ t, t = Lib.trailingZeros8 c := ⟨_, rfl⟩
              obtain ⟨c', hc'⟩ : ∃ x, x = c &&& (c - 1) := ⟨_, rfl⟩
              rw [← htz] at t1 x1
              rw [← hc'] at d1 q1 x1
              obtain ⟨pe, pl⟩ := plc_is ⟨8 * k + tz, by omega⟩
              simp only at pe pl
              have p2 := HL.out.plc (8 * k + tz) (by show 8 * k + tz < 64; omega)
              rw [pe] at p2
              obtain ⟨pv, hpv⟩ : ∃ x, x = plc (8 * k + tz) := ⟨_, rfl⟩
              rw [← hpv] at p2 pl x1
              have hx := u8_xor p pv (by omega) (by omega)
              have ha := u8_and c (c - 1) c1 (by omega)
              have hcs : ((c - 1 : Nat) : Int) = (c : Int) - 1 := by omega
              rw [hcs, ← hc'] at ha
              have hp3 : p ^^^ pv < 128 := by
                have hv : pv < 128 := by omega
                exact Nat.xor_lt_two_pow (n := 7) p1 hv
              obtain ⟨p', hp'⟩ : ∃ x, x = p ^^^ pv := ⟨_, rfl⟩
              rw [← hp'] at hx hp3
              have hI1 : p' ^^^ xorB k c' = p0 ^^^ xorB k c0 := by rw [hp', Nat.xor_assoc, ← x1]; exact HI.out.1
              have hI2 : (n + 1) + popB c' = n0 + popB c0 := by have := HI.out.2; omega
              have hnb : n ≤ 71 := by
                have e1 := HI.out.2
                have e2 := popB_le ⟨c0, hcl⟩
                simp only at e2
                omega
              have HJ := Aside0.mk (And.intro hI1 hI2)
              have htc : ((tz : Nat) : Int) = (Lib.trailingZeros8 ((c : Nat) : Int).toNat : Nat) := by rw [Int.toNat_natCast, htz]
              have HTC := Lib.hid htc
              have ec : ((8 * k + tz : Nat) : Int) = 8 * (k : Int) + tz := by omega
              have et : (8 * (k : Int) + tz).toNat = 8 * k + tz := by omega
              clear q1 x1 hpv hp' hI1 hI2 htc htz hc' pe HI ec
              go_wp2_with fail
              refine (Any.bits_TrailingZeros8 lays136 (c : Int) w (by omega) (by omega)).mono ?_
              rintro e w' ⟨rfl, rfl⟩
              rw [← HTC.out]
              go_wp2_with fail
              go_round
              case rel => exact ⟨p', n + 1, c', hp3, by omega, by omega, rfl, by go_num, rfl, HJ⟩
              case measure => simp [intOf]; omega
        · obtain rfl : k = 8 := by omega
          have dl : decide (((8 : Nat) : Int) < 8) = false := by decide
          go_wp2_with fail
          go_ret2
          exact ⟨rfl, Below.refl _ _⟩
    · rw [if_neg hs] at h; cases h
  · rw [if_neg h8] at h; cases h
def bits_OnesCount8.f (a : Int) : Option Int := if 0 ≤ a ∧ a ≤ 255 then some (Lib.onesCount a.toNat : Nat) else none
theorem bits_OnesCount8.calls (a : Int) (r : Int) (w : World) (h : bits_OnesCount8.f a = some r) :
    Calls Tryd.prog 73 #[.int .u8 a] w fun e w' => e = .returned (.int .i64 r) ∧ Below w.heap.size w w' := by
  unfold bits_OnesCount8.f at h
  by_cases ha : 0 ≤ a ∧ a ≤ 255
  · rw [if_pos ha] at h
    obtain rfl := Option.some.inj h
    refine (Any.bits_OnesCount8 lays135 a w ha.1 ha.2).mono ?_
    rintro e w1 ⟨h1, rfl⟩
    exact ⟨h1, Below.refl _ _⟩
  · rw [if_neg ha] at h; cases h
end Go.Proofs.YtliiploidjnmnaaDoor.PF
end
