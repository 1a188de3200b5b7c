/- The law's proof: words, contracts of the functions that it reaches, plain lemmas. -/
import Derived.ArgAppend
import Derived.Below
import Derived.BigQuiet
import Derived.Carry
import Derived.Deep.AppendLies
import Derived.Deep.CutBlock
import Derived.Deep.DeepCutAuto
import Derived.Deep.Draws
import Derived.Deep.LoopGhost
import Derived.Deep.OwnRows
import Derived.Deep.QuietTactic
import Derived.Deep.RegionHeld3
import Derived.Deep.RegionWith
import Derived.KernelRfl
import Derived.Laws.BitsLemmas
import Derived.Laws.BytesArg
import Derived.Laws.IdiomCopy
import Derived.Laws.MakeOwn
import Derived.Laws.OwnMore
import Derived.Laws.Rows
import Derived.Laws.Slices
import Derived.Lib.AppendStr
import Derived.Lib.BufferMore
import Derived.Lib.ConvBytes
import Derived.Lib.Hide
import Derived.Lib.LazyBuf
import Derived.Maps.AppendAt
import Derived.OpenShut
import Derived.OrdersHeld
import Derived.Outline
import Derived.OwnWalk
import Derived.OwnWalkIn
import Derived.RegionTactic
import Derived.RowKit3
import Derived.StillTailTactics
import Derived.Tactics
import Derived.WalkKit
import Derived.WideLaws
import Derived.Test.YteofihmeiikhbaaDoorSb4
import Derived.Test.YteofihmeiikhbaaDoorSb2
import Derived.Test.YteofihmeiikhbaaDoorSb11
import Derived.Test.YteofihmeiikhbaaDoorSb6
section
/- strings.Builder, as the walks meet it: it holds a string. -/
set_option linter.unusedVariables false
set_option linter.unusedSimpArgs false
namespace Go.Proofs.YteofihmeiikhbaaDoor.Hw
open Go.RowKit Go.Shelf Go.Proofs.YteofihmeiikhbaaDoorW.PrintWords Go.Proofs.YteofihmeiikhbaaDoor.Mem

/-- A Builder that the call has made holds s. -/
def Bld (B b : Nat) (s : ByteArray) (w : World) : Prop := Lib.IsBuilder 45 5 B b (Lib.strCells s) w ∧ B ≤ w.heap.size
theorem ownsRow_below {w w1 : World} {B : Nat} {e : TypeId} {v : Value} {n : Nat} {xs : List Value} (h : w.ownsRow B e 1 v n xs) (hb : Below w.heap.size w w1) : w1.ownsRow B e 1 v n xs := by
  obtain ⟨h1, h2⟩ := h
  refine ⟨h1, ?_⟩
  rcases h2 with h2 | ⟨g, cap, cur, r1, r2, r3, r⟩
  · exact .inl h2
  · refine .inr ⟨g, cap, cur, r1, r2, ?_, r⟩
    exact (hb.block g (blk_lt r3)).trans r3
theorem at_below {w w1 : World} {T e : TypeId} {B b : Nat} {p : Value} {bs : List Value} (h : Lib.BuilderAt T e B b p bs w) (hb : Below w.heap.size w w1) : Lib.BuilderAt T e B b p bs w1 := by
  have hl := h.lt
  obtain ⟨h1, v, h2, h3, h4⟩ := h
  exact ⟨h1, v, (hb.block b hl).trans h2, ownsRow_below h3 hb, h4⟩
theorem Bld.below {B b : Nat} {s : ByteArray} {w w1 : World} (h : Bld B b s w) (hb : Below w.heap.size w w1) : Bld B b s w1 :=
  ⟨h.1.elim (fun k => .inl (at_below k hb)) (fun k => .inr (at_below k hb)), Nat.le_trans h.2 hb.size⟩
theorem Bld.new {B : Nat} {w : World} (hB : B ≤ w.heap.size) : Bld B w.heap.size ⟨#[]⟩ (w.alloc (.cells #[.pointer none, .slice none 0 0] 45)) := by
  refine ⟨.inl ?_, by rw [World.size_alloc]; omega⟩
  exact ⟨hB, .slice none 0 0, Go.heap_alloc_new w _, World.ownsRow_nil _ _ _ _, by simp [Value.ownBlock]⟩
theorem Bld.drew {B b : Nat} {s : ByteArray} {w : World} (h : Bld B b s w) : Bld B b s w.drew := h.below ⟨rfl, rfl, rfl, Nat.le_refl _, fun _ _ => rfl⟩
theorem strCells_push (s : ByteArray) (c : UInt8) : Lib.strCells (s.push c) = Lib.strCells s ++ [.int .u8 (c.toNat : Int)] := by
  simp [Lib.strCells, ByteArray.push]
theorem bld_byte {B b : Nat} {s : ByteArray} {w : World} (h : Bld B b s w) (c : UInt8) (hl : s.size + 1 ≤ 140737488355328) :
    Calls Tryd.prog 39 #[.pointer (some ⟨b, 0, none⟩), .int .u8 (c.toNat : Int)] w fun e w' => e = .returned .nilIface ∧ Bld B b (s.push c) w' ∧ Below B w w' := by
  refine (Any.Builder_WriteByte lays167 extra167 B b (Lib.strCells s) (c.toNat : Int) w h.1 (by rw [Lib.strCells_length]; exact hl) h.2).mono ?_
  rintro e w' ⟨h1, h2, h3⟩
  exact ⟨h1, ⟨.inr (by rw [strCells_push]; exact h2), Nat.le_trans h.2 h3.size⟩, h3⟩
theorem bld_string {B b : Nat} {s : ByteArray} {w : World} (h : Bld B b s w) :
    Calls Tryd.prog 21 #[.pointer (some ⟨b, 0, none⟩)] w fun e w' => e = .returned (.string s) ∧ Below B w w' := by
  refine (Any.Builder_String_any lays169 extra169 B b s.data.toList w h.1 h.2).mono ?_
  rintro e w' ⟨h1, h2⟩
  exact ⟨h1, h2⟩
end Go.Proofs.YteofihmeiikhbaaDoor.Hw
end

section
/- Package bits, by hand: Put: a number's bytes, the lowest first. -/
set_option linter.unusedVariables false
set_option linter.unusedSimpArgs false
namespace Go.Proofs.YteofihmeiikhbaaDoor.PG
open Go.RowKit Go.Shelf Go.Proofs.YteofihmeiikhbaaDoorW.PrintWords Go.Proofs.YteofihmeiikhbaaDoor.Mem Go.Proofs.YteofihmeiikhbaaDoor.Hw

/-- A number's bytes, so many, the lowest first. -/
def leBytes (v : Int) : Nat → List UInt8
  | 0 => []
  | n + 1 => leBytes v n ++ [UInt8.ofNat (v / 256 ^ n % 256).toNat]
theorem leBytes_length (v : Int) : ∀ n, (leBytes v n).length = n
  | 0 => rfl
  | n + 1 => by simp [leBytes, leBytes_length v n]
abbrev leStr (v : Int) (n : Nat) : ByteArray := ⟨(leBytes v n).toArray⟩
theorem leStr_push (v : Int) (n : Nat) : (leStr v n).push (UInt8.ofNat (v / 256 ^ n % 256).toNat) = leStr v (n + 1) := by
  simp [leStr, leBytes, ByteArray.push]
theorem leStr_size (v : Int) (n : Nat) : (leStr v n).size = n := by
  show (leBytes v n).toArray.size = n
  simp [leBytes_length]
theorem u8_ofInt (x : Int) : ((UInt8.ofNat (x % 256).toNat).toNat : Int) = x % 256 := by
  rw [UInt8.toNat_ofNat']
  omega
/-- Why a number has no bytes. -/
def putNo (v n : Int) : Prop := n < 1 ∨ 8 < n ∨ (n < 8 ∧ v / 2 ^ (n * 8).toNat ≠ 0)
instance (v n : Int) : Decidable (putNo v n) := by unfold putNo; infer_instance
def bits_Put.f (v n : Int) : Option (ByteArray × Int) := if 0 ≤ v ∧ v < 18446744073709551616 then some (if putNo v n then (⟨#[]⟩, 1) else (leStr v n.toNat, 0)) else none
set_option maxHeartbeats 2000000 in
set_option maxRecDepth 100000 in
theorem put_loop (v : Int) (n : Nat) (w : World) (h0 : 0 ≤ v) (h1 : v < 18446744073709551616) (hn1 : 1 ≤ n) (hn8 : n ≤ 8) (hno : n < 8 → v / 2 ^ (n * 8) = 0) :
    Calls Tryd.prog 19 #[.int .u64 v, .int .i64 n] w fun e w' => e = .returned (.tuple #[.string (leStr v n), .int .i64 0]) ∧ Below w.heap.size w w' := by
  have d1 : decide ((n : Int) < 1) = false := decide_eq_false (by omega)
  have d2 : decide (8 < (n : Int)) = false := decide_eq_false (by omega)
  have HBN := Aside0.mk (Bld.new (B := w.heap.size) (w := w) (Nat.le_refl _))
  have HN := Aside0.mk hno
  clear hno
  obtain ⟨B, hB⟩ : ∃ B, B = w.heap.size := ⟨_, rfl⟩
  by_cases h8 : n < 8
  all_goals
    first
      | (have d3 : decide ((n : Int) < 8) = true := decide_eq_true (by omega)
         have hz := HN.out h8)
      | (have d3 : decide ((n : Int) < 8) = false := decide_eq_false (by omega)
         have hz : True := trivial)
    go_enter Tryd.func19, Tryd.ntmps19
    go_wp2_with fail
    clear hz
    go_loopw [0, 26] (fun v0 v26 wr => ∃ k : Nat, k ≤ n ∧ v26 = .int .i64 k ∧ v0 = .int .u64 (v / 256 ^ k) ∧ Aside0 (Bld w.heap.size w.heap.size (leStr v k) wr) ∧ Aside0 (Below w.heap.size w wr)) (fun _ v26 _ => n - (intOf v26).toNat)
    case atStart => exact ⟨0, by omega, rfl, by simp, HBN, ⟨(Below.refl _ _).alloc (Nat.le_refl _) _⟩⟩
    case round =>
      clear HBN
      obtain ⟨k, hk, rfl, rfl, HBN, HB⟩ := hrel
      have q0 : 0 ≤ v / 256 ^ k := Int.ediv_nonneg h0 (Int.pow_nonneg (by decide))
      have q1 : v / 256 ^ k < 18446744073709551616 := Int.lt_of_le_of_lt (Int.ediv_le_self _ h0) h1
      have hq : v / 256 ^ k / 256 = v / 256 ^ (k + 1) := by rw [Int.pow_succ, Int.ediv_ediv_of_nonneg (Int.pow_nonneg (by decide))]
      have hpu := leStr_push v k
      have hc := u8_ofInt (v / 256 ^ k)
      have hsz := leStr_size v k
      obtain ⟨q, hqe⟩ : ∃ q, q = v / 256 ^ k := ⟨_, rfl⟩
      obtain ⟨c, hce⟩ : ∃ c, c = UInt8.ofNat (q % 256).toNat := ⟨_, rfl⟩
      rw [← hqe] at q0 q1 hq hpu hc ⊢
      rw [← hce] at hpu hc
      have HQ := Lib.hid hq
      have HPU := Lib.hid hpu
      have HC := Lib.hid hc
      have HSZ := Lib.hid hsz
      clear hq hpu hc hqe hce hsz
      by_cases hlt : k < n
      · have dl : decide ((k : Int) < (n : Int)) = true := decide_eq_true (by omega)
        go_wp2_with fail
        rw [← HC.out]
        refine (bld_byte HBN.out c (by rw [HSZ.out]; omega)).mono ?_
        rintro e w1 ⟨rfl, hb, hw⟩
        rw [HPU.out] at hb
        have HX := Aside0.mk hb
        have HY := Aside0.mk (HB.out.trans hw)
        clear hb hw HB HBN
        go_wp2_with fail
        go_roundw
        case rel => exact ⟨k + 1, by omega, by go_num, by rw [HQ.out], HX, HY⟩
        case measure => simp [intOf]; omega
      · obtain rfl : k = n := by omega
        have dl : decide ((k : Int) < (k : Int)) = false := decide_eq_false (by omega)
        go_wp2_with fail
        refine (bld_string HBN.out).mono ?_
        rintro e w1 ⟨rfl, hw⟩
        have HY := Aside0.mk (HB.out.trans hw)
        clear hw HB HBN
        go_wp2_with fail
        go_ret2
        exact ⟨rfl, HY.out⟩
set_option maxHeartbeats 2000000 in
set_option maxRecDepth 100000 in
theorem bits_Put.calls (v n : Int) (r1 : ByteArray) (r2 : Int) (w : World) (h : bits_Put.f v n = some (r1, r2)) :
    Calls Tryd.prog 19 #[.int .u64 v, .int .i64 n] w fun e w' => e = .returned (.tuple #[.string r1, .int .i64 r2]) ∧ Below w.heap.size w w' := by
  unfold bits_Put.f at h
  by_cases hv : 0 ≤ v ∧ v < 18446744073709551616
  · rw [if_pos hv] at h
    obtain ⟨h0, h1⟩ := hv
    by_cases hno : putNo v n
    · rw [if_pos hno] at h
      simp only [Option.some.injEq, Prod.mk.injEq] at h
      obtain ⟨rfl, rfl⟩ := h
      unfold putNo at hno
      by_cases e1 : n < 1
      · have d1 : decide (n < 1) = true := decide_eq_true e1
        clear hno
        go_enter Tryd.func19, Tryd.ntmps19
        go_wp2_with fail
        go_ret2
        exact ⟨rfl, Below.refl _ _⟩
      · have d1 : decide (n < 1) = false := decide_eq_false e1
        by_cases e2 : 8 < n
        · have d2 : decide (8 < n) = true := decide_eq_true e2
          clear hno
          go_enter Tryd.func19, Tryd.ntmps19
          go_wp2_with fail
          go_ret2
          exact ⟨rfl, Below.refl _ _⟩
        · have d2 : decide (8 < n) = false := decide_eq_false e2
          obtain ⟨e3, e4⟩ : n < 8 ∧ v / 2 ^ (n * 8).toNat ≠ 0 := by
            rcases hno with h | h | h
            · exact absurd h e1
            · exact absurd h e2
            · exact h
          have d3 : decide (n < 8) = true := decide_eq_true e3
          clear hno
          go_enter Tryd.func19, Tryd.ntmps19
          go_wp2_with fail
          go_ret2
          exact ⟨rfl, Below.refl _ _⟩
    · rw [if_neg hno] at h
      simp only [Option.some.injEq, Prod.mk.injEq] at h
      obtain ⟨rfl, rfl⟩ := h
      unfold putNo at hno
      obtain ⟨m, rfl⟩ : ∃ m : Nat, n = m := ⟨n.toNat, by omega⟩
      refine put_loop v m w h0 h1 (by omega) (by omega) (fun h8 => ?_)
      have e : ((m : Int) * 8).toNat = m * 8 := by omega
      rw [e] at hno
      refine Decidable.byContradiction fun hne => hno (.inr (.inr ⟨by omega, hne⟩))
  · rw [if_neg hv] at h
    cases h
end Go.Proofs.YteofihmeiikhbaaDoor.PG
end
