/- The law's proof: words, contracts of the functions that it reaches, plain lemmas. -/
import Derived.Test.YteofihmeiikhbaaDoorSb10
import Derived.Test.YteofihmeiikhbaaDoorSb13
import Derived.Test.YteofihmeiikhbaaDoorSb8
section
/- Numbers as bytes, there and back, in plain words. -/
set_option linter.unusedVariables false
set_option linter.unusedSimpArgs false
namespace Go.Proofs.YteofihmeiikhbaaDoor.PG
open Go.RowKit Go.Proofs.YteofihmeiikhbaaDoor.Hw Go.Proofs.YteofihmeiikhbaaDoorW.PrintWords Go.Proofs.YteofihmeiikhbaaDoorW.PrintLast

def bn (s : ByteArray) (i : Nat) : Nat := (bt s i).toNat
theorem bn_lt (s : ByteArray) (i : Nat) : bn s i < 256 := by have := bt_range s i; unfold bn; omega
theorem bn_bt (s : ByteArray) (i : Nat) : bt s i = ((bn s i : Nat) : Int) := by have := bt_range s i; unfold bn; omega
theorem bn_at (s : ByteArray) (i : Nat) (h : i < s.size) : bn s i = (s[i]'h).toNat := by
  unfold bn bt
  rw [dif_pos (by simpa using h)]
  simp
theorem bn_out (s : ByteArray) (i : Nat) (h : s.size ≤ i) : bn s i = 0 := by
  unfold bn bt
  rw [dif_neg (by simp; omega)]
  rfl
theorem bext {s t : ByteArray} (h : s.size = t.size) (hb : ∀ i, i < s.size → bn s i = bn t i) : s = t := by
  apply ByteArray.ext
  apply Array.ext h
  intro i h1 h2
  have e := hb i h1
  rw [bn_at s i h1, bn_at t i h2] at e
  exact UInt8.toNat_inj.1 e
theorem bn_extract (s : ByteArray) (a b i : Nat) (h : i < b - a) (hb : b ≤ s.size) : bn (s.extract a b) i = bn s (a + i) := by
  rw [bn_at _ i (by rw [ByteArray.size_extract]; omega), bn_at s (a + i) (by omega)]
  rw [ByteArray.getElem_extract]
theorem size_extract' (s : ByteArray) (a b : Nat) (hb : b ≤ s.size) : (s.extract a b).size = b - a := by rw [ByteArray.size_extract]; omega
theorem bn_append (s t : ByteArray) (i : Nat) : bn (s ++ t) i = if i < s.size then bn s i else bn t (i - s.size) := by
  by_cases h : i < s.size
  · rw [if_pos h, bn_at _ i (by rw [ByteArray.size_append]; omega), bn_at s i h, ByteArray.getElem_append_left h]
  · rw [if_neg h]
    by_cases h2 : i < s.size + t.size
    · rw [bn_at _ i (by rw [ByteArray.size_append]; omega), bn_at t _ (by omega), ByteArray.getElem_append_right (by omega)]
    · rw [bn_out _ i (by rw [ByteArray.size_append]; omega), bn_out t _ (by omega)]
theorem w64' (x : Int) (h : -9223372036854775808 ≤ x ∧ x ≤ 9223372036854775807) : wrap64 x = x := by unfold wrap64; omega
/-- The number of some bytes, the lowest first. -/
def leV (s : ByteArray) : Nat → Nat
  | 0 => 0
  | i + 1 => leV s i + bn s i * 256 ^ i
theorem leV_lt (s : ByteArray) : ∀ n, leV s n < 256 ^ n
  | 0 => by show 0 < 1; omega
  | n + 1 => by
    have h1 := leV_lt s n
    have h2 := bn_lt s n
    have h3 : bn s n * 256 ^ n ≤ 255 * 256 ^ n := Nat.mul_le_mul_right _ (by omega)
    show leV s n + bn s n * 256 ^ n < 256 ^ (n + 1)
    rw [Nat.pow_succ]
    omega
theorem leV_byte (s : ByteArray) (n : Nat) : ∀ m i, m ≤ n → i < m → leV s m / 256 ^ i % 256 = bn s i
  | 0, _, _, h => by omega
  | m + 1, i, hm, h => by
    show (leV s m + bn s m * 256 ^ m) / 256 ^ i % 256 = bn s i
    have hp : 0 < 256 ^ i := Nat.pow_pos (by decide)
    by_cases e : i = m
    · subst e
      rw [Nat.add_mul_div_right _ _ hp, Nat.div_eq_of_lt (leV_lt s i), Nat.zero_add, Nat.mod_eq_of_lt (bn_lt s i)]
    · have e2 : 256 ^ m = 256 ^ (m - i - 1) * 256 * 256 ^ i := by
        rw [Nat.mul_assoc, ← Nat.pow_succ', ← Nat.pow_add]; congr 1; omega
      rw [e2, ← Nat.mul_assoc, Nat.add_mul_div_right _ _ hp, ← Nat.mul_assoc, Nat.add_mul_mod_self_right]
      exact leV_byte s n m i (by omega) (by omega)
theorem leV_congr {s t : ByteArray} : ∀ n, (∀ i, i < n → bn s i = bn t i) → leV s n = leV t n
  | 0, _ => rfl
  | n + 1, h => by
    show leV s n + bn s n * 256 ^ n = leV t n + bn t n * 256 ^ n
    rw [leV_congr n (fun i hi => h i (by omega)), h n (by omega)]
/-- The same number, from the highest byte on. -/
def gV (s : ByteArray) (n : Nat) : Nat → Nat
  | 0 => 0
  | t + 1 => gV s n t * 256 + bn s (n - 1 - t)
theorem gV_le (s : ByteArray) (n : Nat) : ∀ t, t ≤ n → gV s n t * 256 ^ (n - t) + leV s (n - t) = leV s n
  | 0, _ => by simp [gV]
  | t + 1, h => by
    have ih := gV_le s n t (by omega)
    have e : n - t = (n - (t + 1)) + 1 := by omega
    rw [e] at ih
    show (gV s n t * 256 + bn s (n - 1 - t)) * 256 ^ (n - (t + 1)) + _ = _
    rw [← ih]
    show _ = gV s n t * 256 ^ (n - (t + 1) + 1) + (leV s (n - (t + 1)) + bn s (n - (t + 1)) * 256 ^ (n - (t + 1)))
    rw [show n - 1 - t = n - (t + 1) by omega, Nat.pow_succ, Nat.add_mul, Nat.mul_assoc, Nat.mul_comm 256]
    omega
theorem wraps_u64 (n : Int) (h₀ : 0 ≤ n) (h₁ : n < 2 ^ 64) : IntKind.u64.wrap n = n := by
  have h2 : n < 18446744073709551616 := by simpa using h₁
  simp [IntKind.wrap, IntKind.bits, IntKind.signed]
  omega
theorem or_u64 (x b : Nat) (hb : b < 256) (hx : x * 256 < 18446744073709551616) : Go.bits .or .u64 (IntKind.u64.wrap ((x : Int) * 256)) (IntKind.u64.wrap (b : Int)) = ((x * 256 + b : Nat) : Int) := by
  have q : (2 : Int) ^ 64 = 18446744073709551616 := by decide
  have q' : (2 : Nat) ^ 64 = 18446744073709551616 := by decide
  have w1 : IntKind.u64.wrap ((x : Int) * 256) = ((x * 256 : Nat) : Int) := by
    rw [show (x : Int) * 256 = ((x * 256 : Nat) : Int) by omega]
    exact wraps_u64 _ (by omega) (by omega)
  have w2 : IntKind.u64.wrap (b : Int) = (b : Int) := wraps_u64 _ (by omega) (by omega)
  rw [w1, w2, (bits_nat .u64 64 (by decide) wraps_u64 _ _ (by omega) (by omega)).2]
  have e : x * 256 ||| b = x * 256 + b := by
    have := Nat.shiftLeft_add_eq_or_of_lt (i := 8) (b := b) (by omega) x
    rw [Nat.shiftLeft_eq] at this
    exact this.symm
  rw [e]
theorem get_loop (s : ByteArray) (n : Nat) (hs : s.size = n) (h8 : n ≤ 8) : ∀ t k, t ≤ n → bits_Get.l0 (t + 1 + k) s ((gV s n (n - t) : Nat) : Int) ((t : Int) - 1) = some (((leV s n : Nat) : Int), 0)
  | 0, k, _ => by
    have e := gV_le s n n (Nat.le_refl _)
    rw [Nat.sub_self] at e
    have e2 : gV s n n = leV s n := by rw [← e]; simp [leV]
    rw [show 0 + 1 + k = k + 1 by omega, bits_Get.l0, if_neg (by omega), Nat.sub_zero, e2]
  | t + 1, k, h => by
    have hb : bt s (((t + 1 : Nat) : Int) - 1) = ((bn s t : Nat) : Int) := by rw [show ((t + 1 : Nat) : Int) - 1 = (t : Int) by omega]; exact bn_bt s t
    have hg := gV_le s n (n - (t + 1)) (by omega)
    have hlt := leV_lt s n
    have hlim : gV s n (n - (t + 1)) * 256 < 18446744073709551616 := by
      have p1 : 256 ^ n ≤ 256 ^ 8 := Nat.pow_le_pow_right (by decide) h8
      have p2 : 256 ^ 1 ≤ 256 ^ (n - (n - (t + 1))) := Nat.pow_le_pow_right (by decide) (by omega)
      have p3 : gV s n (n - (t + 1)) * 256 ≤ gV s n (n - (t + 1)) * 256 ^ (n - (n - (t + 1))) := Nat.mul_le_mul_left _ (by simpa using p2)
      have p4 : (256 : Nat) ^ 8 = 18446744073709551616 := by decide
      omega
    rw [show t + 1 + 1 + k = (t + 1 + k) + 1 by omega, bits_Get.l0, if_pos (by omega), if_pos (by omega), if_pos (by omega), hb, or_u64 _ _ (bn_lt s t) hlim]
    have e : gV s n (n - (t + 1)) * 256 + bn s t = gV s n (n - t) := by
      rw [show n - t = (n - (t + 1)) + 1 by omega]
      show _ = gV s n (n - (t + 1)) * 256 + bn s (n - 1 - (n - (t + 1)))
      rw [show n - 1 - (n - (t + 1)) = t by omega]
    rw [e, w64' _ (by omega), show ((t + 1 : Nat) : Int) - 1 - 1 = (t : Int) - 1 by omega]
    exact get_loop s n hs h8 t k (by omega)
theorem get_is (s : ByteArray) (h1 : 1 ≤ s.size) (h8 : s.size ≤ 8) (k : Nat) (hk : 12 ≤ k) : bits_Get.f k s = some (((leV s s.size : Nat) : Int), 0) := by
  obtain ⟨k, rfl⟩ : ∃ q, k = q + 12 := ⟨k - 12, by omega⟩
  unfold bits_Get.f
  rw [if_neg (by omega), show decide ((s.size : Int) > 8) = false from decide_eq_false (by omega), bits_Get.j0, if_neg (by decide), w64' _ (by omega)]
  have := get_loop s s.size rfl h8 s.size (k + 11 - s.size - 1) (Nat.le_refl _)
  rw [Nat.sub_self, show s.size + 1 + (k + 11 - s.size - 1) = k + 11 by omega] at this
  exact this
theorem bn_le (v : Int) (h0 : 0 ≤ v) : ∀ n i, i < n → bn (leStr v n) i = v.toNat / 256 ^ i % 256
  | 0, _, h => by omega
  | n + 1, i, h => by
    have hz : (leStr v (n + 1)).size = n + 1 := leStr_size v (n + 1)
    rw [bn_at _ i (by omega), ByteArray.getElem_eq_getElem_data]
    have e : (leBytes v (n + 1)) = leBytes v n ++ [UInt8.ofNat (v / 256 ^ n % 256).toNat] := rfl
    simp only [leStr, List.getElem_toArray, e]
    by_cases hi : i < n
    · rw [List.getElem_append_left (by rw [leBytes_length]; exact hi)]
      have := bn_le v h0 n i hi
      rw [bn_at _ i (by rw [leStr_size]; exact hi), ByteArray.getElem_eq_getElem_data] at this
      simpa [leStr] using this
    · obtain rfl : i = n := by omega
      rw [List.getElem_append_right (by rw [leBytes_length]; omega)]
      simp only [leBytes_length, Nat.sub_self, List.getElem_cons_zero]
      obtain ⟨u, rfl⟩ := Int.eq_ofNat_of_zero_le h0
      have e2 : ((u : Int) / 256 ^ i % 256).toNat = u / 256 ^ i % 256 := by
        have : ((u : Int) / 256 ^ i % 256) = ((u / 256 ^ i % 256 : Nat) : Int) := by rw [Int.natCast_emod, Int.natCast_ediv, Int.natCast_pow]; rfl
        rw [this, Int.toNat_natCast]
      rw [e2, UInt8.toNat_ofNat', Int.toNat_natCast, Nat.mod_eq_of_lt (by show _ < 256; omega)]
theorem leV_le (v : Nat) (n : Nat) : ∀ m, m ≤ n → leV (leStr (v : Int) n) m = v % 256 ^ m
  | 0, _ => by show 0 = v % 1; omega
  | m + 1, h => by
    show leV (leStr (v : Int) n) m + bn (leStr (v : Int) n) m * 256 ^ m = _
    rw [leV_le v n m (by omega), bn_le (v : Int) (by omega) n m (by omega), Int.toNat_natCast, Nat.pow_succ, Nat.mod_mul, Nat.mul_comm (256 ^ m)]
end Go.Proofs.YteofihmeiikhbaaDoor.PG
end

section
/- Package snap in plain words: what is durable, as bytes, and back. -/
set_option linter.unusedVariables false
set_option linter.unusedSimpArgs false
namespace Go.Proofs.YteofihmeiikhbaaDoor.PG
open Go.RowKit Go.Proofs.YteofihmeiikhbaaDoor.Hw Go.Proofs.YteofihmeiikhbaaDoorW.PrintWords Go.Proofs.YteofihmeiikhbaaDoorW.PrintLast

/-- A geometry. -/
structure G6 where
  b : Int
  l : Int
  y : Int
  s : Int
  p : Int
  w : Int
def G6.Ok (G : G6) : Prop := GeoOk G.b G.l G.y G.s G.p G.w
instance (G : G6) : Decidable G.Ok := by unfold G6.Ok; infer_instance
/-- What is durable. -/
structure Dur where
  fl : List Int
  co : List Int
  sl : List Int
  tl : List Int
def inL (l : List Int) (n m : Int) : Prop := (∀ x ∈ l, 0 ≤ x ∧ x ≤ m) ∧ (l.length : Int) = n
instance (l : List Int) (n m : Int) : Decidable (inL l n m) := by unfold inL; infer_instance
def FitsD (G : G6) (s : Dur) : Prop := G.Ok ∧ inL s.fl G.s 281474976710655 ∧ inL s.co G.b 4294967295 ∧ inL s.sl G.b 16777215 ∧ inL s.tl G.b 16777215
instance (G : G6) (s : Dur) : Decidable (FitsD G s) := by unfold FitsD; infer_instance
/-- So many floors. -/
def flS (l : List Int) : Nat → ByteArray
  | 0 => ⟨#[]⟩
  | i + 1 => flS l i ++ leStr (l.getD i 0) 6
/-- And so many blocks. -/
def blS (s : Dur) (n : Nat) : Nat → ByteArray
  | 0 => flS s.fl n
  | i + 1 => blS s n i ++ leStr (s.co.getD i 0) 4 ++ leStr (s.sl.getD i 0) 3 ++ leStr (s.tl.getD i 0) 3
theorem flS_size (l : List Int) : ∀ i, (flS l i).size = 6 * i
  | 0 => rfl
  | i + 1 => by
    show (flS l i ++ leStr _ 6).size = _
    rw [ByteArray.size_append, flS_size l i, leStr_size]
    omega
theorem blS_size (s : Dur) (n : Nat) : ∀ i, (blS s n i).size = 6 * n + 10 * i
  | 0 => by show (flS s.fl n).size = _; rw [flS_size]; rfl
  | i + 1 => by
    show (blS s n i ++ leStr _ 4 ++ leStr _ 3 ++ leStr _ 3).size = _
    rw [ByteArray.size_append, ByteArray.size_append, ByteArray.size_append, blS_size s n i, leStr_size, leStr_size, leStr_size]
    omega
theorem flS_bn (l : List Int) : ∀ i j, j < 6 * i → bn (flS l i) j = bn (leStr (l.getD (j / 6) 0) 6) (j % 6)
  | 0, j, h => by omega
  | i + 1, j, h => by
    show bn (flS l i ++ leStr _ 6) j = _
    rw [bn_append, flS_size]
    by_cases c : j < 6 * i
    · rw [if_pos c]; exact flS_bn l i j c
    · rw [if_neg c, show j / 6 = i by omega, show j % 6 = j - 6 * i by omega]
theorem blS_bn_lo (s : Dur) (n : Nat) : ∀ i j, j < 6 * n → bn (blS s n i) j = bn (flS s.fl n) j
  | 0, j, h => rfl
  | i + 1, j, h => by
    show bn (blS s n i ++ leStr _ 4 ++ leStr _ 3 ++ leStr _ 3) j = _
    have h0 := blS_size s n i
    rw [bn_append, bn_append, bn_append, ByteArray.size_append, ByteArray.size_append, leStr_size, leStr_size, h0, if_pos (by omega), if_pos (by omega), if_pos (by omega)]
    exact blS_bn_lo s n i j h
/-- The byte r of the block q. -/
def blB (s : Dur) (q r : Nat) : Nat := if r < 4 then bn (leStr (s.co.getD q 0) 4) r else if r < 7 then bn (leStr (s.sl.getD q 0) 3) (r - 4) else bn (leStr (s.tl.getD q 0) 3) (r - 7)
theorem blS_bn_hi (s : Dur) (n : Nat) : ∀ i q r, q < i → r < 10 → bn (blS s n i) (6 * n + 10 * q + r) = blB s q r
  | 0, q, r, h, _ => by omega
  | i + 1, q, r, h, hr => by
    show bn (blS s n i ++ leStr _ 4 ++ leStr _ 3 ++ leStr _ 3) _ = _
    have h0 := blS_size s n i
    rw [bn_append, bn_append, bn_append, ByteArray.size_append, ByteArray.size_append, leStr_size, leStr_size, h0]
    by_cases c : q < i
    · rw [if_pos (by omega), if_pos (by omega), if_pos (by omega)]
      exact blS_bn_hi s n i q r c hr
    · obtain rfl : q = i := by omega
      unfold blB
      by_cases c4 : r < 4
      · rw [if_pos (by omega), if_pos (by omega), if_neg (by omega), if_pos c4]; congr 1; omega
      · by_cases c7 : r < 7
        · rw [if_pos (by omega), if_neg (by omega), if_neg c4, if_pos c7]; congr 1; omega
        · rw [if_neg (by omega), if_neg c4, if_neg c7]; congr 1; omega
def zeroS (m : Nat) : ByteArray := ⟨(Lib.repeatL [0] m).toArray⟩
theorem zeroS_size (m : Nat) : (zeroS m).size = m := by
  show (Lib.repeatL [0] m).toArray.size = m
  rw [List.size_toArray, Lib.repeatL_length]
  simp
theorem repeat0 : ∀ m : Nat, Lib.repeatL [(0 : UInt8)] m = List.replicate m 0
  | 0 => rfl
  | m + 1 => by
    have := repeat0 m
    rw [List.replicate_succ, ← this]
    rfl
theorem zeroS_bn (m j : Nat) : bn (zeroS m) j = 0 := by
  by_cases h : j < m
  · rw [bn_at _ j (by rw [zeroS_size]; exact h), ByteArray.getElem_eq_getElem_data]
    simp only [zeroS, List.getElem_toArray, repeat0, List.getElem_replicate]
    rfl
  · exact bn_out _ _ (by rw [zeroS_size]; omega)
def snN (G : G6) : Nat := (snapsOf G.b G.y G.s).toNat
/-- All bytes. -/
def allS (G : G6) (s : Dur) : ByteArray := blS s G.s.toNat G.b.toNat ++ zeroS (snN G * G.y.toNat - (6 * G.s.toNat + 10 * G.b.toNat))
theorem G6.Ok.nums {G : G6} (h : G.Ok) : (8 ≤ G.b ∧ G.b ≤ 64) ∧ (16 ≤ G.y ∧ G.y ≤ 256) ∧ (1 ≤ G.s ∧ G.s ≤ 4096) ∧ (6 ≤ G.l ∧ G.l ≤ 64) := by
  have hs := h.1
  unfold SizesOk at hs
  exact ⟨by omega, by omega, by omega, by omega⟩
theorem snN_room {G : G6} (h : G.Ok) : 6 * G.s.toNat + 10 * G.b.toNat ≤ snN G * G.y.toNat ∧ snN G * G.y.toNat < 6 * G.s.toNat + 10 * G.b.toNat + G.y.toNat ∧ (snapsOf G.b G.y G.s) = (snN G : Int) ∧ snN G ≤ 60 ∧ 1 ≤ snN G := by
  obtain ⟨h1, h2, h3, h4⟩ := h.nums
  have h5 := h.2.2.2
  have hy : 0 < G.y := by omega
  have h0 : 0 ≤ snapsOf G.b G.y G.s := Int.ediv_nonneg (by omega) (by omega)
  have e : (snapsOf G.b G.y G.s) = (snN G : Int) := by unfold snN; omega
  have q1 := Int.mul_ediv_add_emod (6 * G.s + 10 * G.b + G.y - 1) G.y
  have q2 := Int.emod_nonneg (6 * G.s + 10 * G.b + G.y - 1) (show G.y ≠ 0 by omega)
  have q3 := Int.emod_lt_of_pos (6 * G.s + 10 * G.b + G.y - 1) hy
  have q4 : (6 * G.s + 10 * G.b + G.y - 1) / G.y = (snN G : Int) := e
  rw [q4] at q1
  have ey : (G.y.toNat : Int) = G.y := by omega
  have q5 : ((snN G * G.y.toNat : Nat) : Int) = G.y * (snN G : Int) := by rw [Int.natCast_mul, ey, Int.mul_comm]
  have h6 : snN G ≤ 60 := by omega
  refine ⟨by omega, by omega, e, h6, ?_⟩
  by_cases c : snN G = 0
  · rw [c] at q5; rw [c] at q1; omega
  · omega
theorem allS_size {G : G6} (h : G.Ok) (s : Dur) : (allS G s).size = snN G * G.y.toNat := by
  unfold allS
  rw [ByteArray.size_append, blS_size, zeroS_size]
  have := (snN_room h).1
  omega
theorem allS_bn_fl {G : G6} (s : Dur) (j : Nat) (h : j < 6 * G.s.toNat) : bn (allS G s) j = bn (leStr (s.fl.getD (j / 6) 0) 6) (j % 6) := by
  unfold allS
  rw [bn_append, blS_size, if_pos (by omega), blS_bn_lo _ _ _ _ h, flS_bn _ _ _ h]
theorem allS_bn_bl {G : G6} (s : Dur) (q r : Nat) (h : q < G.b.toNat) (hr : r < 10) : bn (allS G s) (6 * G.s.toNat + 10 * q + r) = blB s q r := by
  unfold allS
  rw [bn_append, blS_size, if_pos (by omega), blS_bn_hi _ _ _ _ _ h hr]
theorem allS_bn_z {G : G6} (s : Dur) (j : Nat) (h : 6 * G.s.toNat + 10 * G.b.toNat ≤ j) : bn (allS G s) j = 0 := by
  unfold allS
  rw [bn_append, blS_size, if_neg (by omega), zeroS_bn]
/-- The number of the bytes a to b. -/
def parts (s : ByteArray) (a b : Nat) : Nat := leV (s.extract a b) (b - a)
theorem parts_lt (s : ByteArray) (a b : Nat) : parts s a b < 256 ^ (b - a) := leV_lt _ _
theorem parts_bn (s : ByteArray) (a b i : Nat) (hb : b ≤ s.size) (hi : i < b - a) : bn (leStr ((parts s a b : Nat) : Int) (b - a)) i = bn s (a + i) := by
  rw [bn_le _ (by omega) _ _ hi, Int.toNat_natCast]
  unfold parts
  rw [leV_byte _ (b - a) (b - a) i (Nat.le_refl _) hi, bn_extract s a b i hi hb]
theorem parts_le (s : ByteArray) (a n : Nat) (v : Int) (h0 : 0 ≤ v) (hv : v.toNat < 256 ^ n) (hb : a + n ≤ s.size) (h : ∀ i, i < n → bn s (a + i) = bn (leStr v n) i) : ((parts s a (a + n) : Nat) : Int) = v := by
  unfold parts
  rw [show a + n - a = n by omega, leV_congr (t := leStr v n) n (fun i hi => by rw [bn_extract _ _ _ _ (by omega) hb]; exact h i hi)]
  obtain ⟨u, rfl⟩ := Int.eq_ofNat_of_zero_le h0
  have := leV_le u n n (Nat.le_refl _)
  rw [this, Nat.mod_eq_of_lt (by simpa using hv)]
/-- What some bytes hold. -/
def takeD (G : G6) (A : ByteArray) : Dur where
  fl := (List.range G.s.toNat).map fun i => ((parts A (6 * i) (6 * i + 6) : Nat) : Int)
  co := (List.range G.b.toNat).map fun i => ((parts A (6 * G.s.toNat + 10 * i) (6 * G.s.toNat + 10 * i + 4) : Nat) : Int)
  sl := (List.range G.b.toNat).map fun i => ((parts A (6 * G.s.toNat + 10 * i + 4) (6 * G.s.toNat + 10 * i + 7) : Nat) : Int)
  tl := (List.range G.b.toNat).map fun i => ((parts A (6 * G.s.toNat + 10 * i + 7) (6 * G.s.toNat + 10 * i + 10) : Nat) : Int)
/-- Only noughts are left. -/
def restZ (G : G6) (A : ByteArray) : Prop := ∀ j, 6 * G.s.toNat + 10 * G.b.toNat ≤ j → j < A.size → bn A j = 0
theorem map_range_getD (f : Nat → Int) (n i : Nat) (h : i < n) : ((List.range n).map f).getD i 0 = f i := by
  rw [List.getD_eq_getElem?_getD, List.getElem?_map, List.getElem?_range h]; rfl
theorem list_range {l : List Int} {n : Nat} (f : Nat → Int) (hl : l.length = n) (h : ∀ i, i < n → f i = l.getD i 0) : (List.range n).map f = l := by
  apply List.ext_getElem (by simp [hl])
  intro i h1 h2
  rw [List.getElem_map, List.getElem_range, h i (by omega), List.getD_eq_getElem?_getD, List.getElem?_eq_getElem h2]; rfl
theorem inL_getD {l : List Int} {n m : Int} (h : inL l n m) (hm : 0 ≤ m) (i : Nat) : 0 ≤ l.getD i 0 ∧ l.getD i 0 ≤ m := by
  rw [List.getD_eq_getElem?_getD]
  by_cases c : i < l.length
  · rw [List.getElem?_eq_getElem c]
    exact h.1 _ (List.getElem_mem c)
  · rw [List.getElem?_eq_none (by omega)]
    exact ⟨Int.le_refl _, hm⟩
/-- There and back. -/
theorem take_all {G : G6} {s : Dur} (h : FitsD G s) : takeD G (allS G s) = s ∧ restZ G (allS G s) := by
  obtain ⟨hok, h1, h2, h3, h4⟩ := h
  have hn := hok.nums
  have hz := allS_size hok s
  have hr := (snN_room hok).1
  refine ⟨?_, fun j hj _ => allS_bn_z s j hj⟩
  have p6 : (256 : Nat) ^ 6 = 281474976710656 := by decide
  have p4 : (256 : Nat) ^ 4 = 4294967296 := by decide
  have p3 : (256 : Nat) ^ 3 = 16777216 := by decide
  unfold takeD
  cases s with
  | mk fl co sl tl =>
    congr 1
    · refine list_range _ (by have := h1.2; simp only at this ⊢; omega) (fun i hi => ?_)
      have hb : 0 ≤ fl.getD i 0 ∧ fl.getD i 0 ≤ 281474976710655 := inL_getD h1 (by decide) i
      refine parts_le _ _ 6 _ hb.1 (by omega) (by omega) (fun j hj => ?_)
      rw [allS_bn_fl _ _ (by omega), show (6 * i + j) / 6 = i by omega, show (6 * i + j) % 6 = j by omega]
    · refine list_range _ (by have := h2.2; simp only at this ⊢; omega) (fun i hi => ?_)
      have hb : 0 ≤ co.getD i 0 ∧ co.getD i 0 ≤ 4294967295 := inL_getD h2 (by decide) i
      refine parts_le _ _ 4 _ hb.1 (by omega) (by omega) (fun j hj => ?_)
      rw [allS_bn_bl _ i j hi (by omega), blB, if_pos hj]
    · refine list_range _ (by have := h3.2; simp only at this ⊢; omega) (fun i hi => ?_)
      have hb : 0 ≤ sl.getD i 0 ∧ sl.getD i 0 ≤ 16777215 := inL_getD h3 (by decide) i
      refine parts_le _ _ 3 _ hb.1 (by omega) (by omega) (fun j hj => ?_)
      rw [show 6 * G.s.toNat + 10 * i + 4 + j = 6 * G.s.toNat + 10 * i + (4 + j) by omega, allS_bn_bl _ i (4 + j) hi (by omega), blB, if_neg (by omega), if_pos (by omega), show 4 + j - 4 = j by omega]
    · refine list_range _ (by have := h4.2; simp only at this ⊢; omega) (fun i hi => ?_)
      have hb : 0 ≤ tl.getD i 0 ∧ tl.getD i 0 ≤ 16777215 := inL_getD h4 (by decide) i
      refine parts_le _ _ 3 _ hb.1 (by omega) (by omega) (fun j hj => ?_)
      rw [show 6 * G.s.toNat + 10 * i + 7 + j = 6 * G.s.toNat + 10 * i + (7 + j) by omega, allS_bn_bl _ i (7 + j) hi (by omega), blB, if_neg (by omega), if_neg (by omega), show 7 + j - 7 = j by omega]
theorem inL_range (f : Nat → Nat) (n : Nat) (N m : Int) (hN : (n : Int) = N) (h : ∀ i, i < n → ((f i : Nat) : Int) ≤ m) : inL ((List.range n).map fun i => ((f i : Nat) : Int)) N m := by
  refine ⟨fun x hx => ?_, by simp [hN]⟩
  obtain ⟨i, hi, rfl⟩ := List.mem_map.1 hx
  exact ⟨by omega, h i (List.mem_range.1 hi)⟩
/-- Back, and there again. -/
theorem all_take {G : G6} {A : ByteArray} (hok : G.Ok) (hA : A.size = snN G * G.y.toNat) (hz : restZ G A) : FitsD G (takeD G A) ∧ allS G (takeD G A) = A := by
  have hn := hok.nums
  have hr := (snN_room hok).1
  have p6 : (256 : Nat) ^ 6 = 281474976710656 := by decide
  have p4 : (256 : Nat) ^ 4 = 4294967296 := by decide
  have p3 : (256 : Nat) ^ 3 = 16777216 := by decide
  constructor
  · refine ⟨hok, ?_, ?_, ?_, ?_⟩
    · refine inL_range _ _ _ _ (by omega) (fun i _ => ?_)
      have := parts_lt A (6 * i) (6 * i + 6)
      rw [show 6 * i + 6 - 6 * i = 6 by omega] at this
      omega
    · refine inL_range _ _ _ _ (by omega) (fun i _ => ?_)
      have := parts_lt A (6 * G.s.toNat + 10 * i) (6 * G.s.toNat + 10 * i + 4)
      rw [show 6 * G.s.toNat + 10 * i + 4 - (6 * G.s.toNat + 10 * i) = 4 by omega] at this
      omega
    · refine inL_range _ _ _ _ (by omega) (fun i _ => ?_)
      have := parts_lt A (6 * G.s.toNat + 10 * i + 4) (6 * G.s.toNat + 10 * i + 7)
      rw [show 6 * G.s.toNat + 10 * i + 7 - (6 * G.s.toNat + 10 * i + 4) = 3 by omega] at this
      omega
    · refine inL_range _ _ _ _ (by omega) (fun i _ => ?_)
      have := parts_lt A (6 * G.s.toNat + 10 * i + 7) (6 * G.s.toNat + 10 * i + 10)
      rw [show 6 * G.s.toNat + 10 * i + 10 - (6 * G.s.toNat + 10 * i + 7) = 3 by omega] at this
      omega
  · refine bext (by rw [allS_size hok, hA]) (fun j hj => ?_)
    rw [allS_size hok] at hj
    by_cases c1 : j < 6 * G.s.toNat
    · rw [allS_bn_fl _ _ c1]
      unfold takeD
      rw [map_range_getD _ _ _ (by omega)]
      have := parts_bn A (6 * (j / 6)) (6 * (j / 6) + 6) (j % 6) (by omega) (by omega)
      rw [show 6 * (j / 6) + 6 - 6 * (j / 6) = 6 by omega] at this
      rw [this]; congr 1; omega
    · by_cases c2 : 6 * G.s.toNat + 10 * G.b.toNat ≤ j
      · rw [allS_bn_z _ _ c2, hz j c2 (by omega)]
      · obtain ⟨q, r, rfl, hr10⟩ : ∃ q r, j = 6 * G.s.toNat + 10 * q + r ∧ r < 10 := ⟨(j - 6 * G.s.toNat) / 10, (j - 6 * G.s.toNat) % 10, by omega, by omega⟩
        have hq : q < G.b.toNat := by omega
        rw [allS_bn_bl _ q r hq hr10]
        unfold blB takeD
        by_cases c4 : r < 4
        · rw [if_pos c4, map_range_getD _ _ _ hq]
          have := parts_bn A (6 * G.s.toNat + 10 * q) (6 * G.s.toNat + 10 * q + 4) r (by omega) (by omega)
          rw [show 6 * G.s.toNat + 10 * q + 4 - (6 * G.s.toNat + 10 * q) = 4 by omega] at this
          exact this
        · by_cases c7 : r < 7
          · rw [if_neg c4, if_pos c7, map_range_getD _ _ _ hq]
            have := parts_bn A (6 * G.s.toNat + 10 * q + 4) (6 * G.s.toNat + 10 * q + 7) (r - 4) (by omega) (by omega)
            rw [show 6 * G.s.toNat + 10 * q + 7 - (6 * G.s.toNat + 10 * q + 4) = 3 by omega] at this
            rw [this]; congr 1; omega
          · rw [if_neg c4, if_neg c7, map_range_getD _ _ _ hq]
            have := parts_bn A (6 * G.s.toNat + 10 * q + 7) (6 * G.s.toNat + 10 * q + 10) (r - 7) (by omega) (by omega)
            rw [show 6 * G.s.toNat + 10 * q + 10 - (6 * G.s.toNat + 10 * q + 7) = 3 by omega] at this
            rw [this]; congr 1; omega
/-- The pages of some bytes. -/
def pagesOf (A : ByteArray) (y k : Nat) : List ByteArray := (List.range k).map fun j => A.extract (j * y) (j * y + y)
/-- The bytes of some pages. -/
def catP : List ByteArray → ByteArray
  | [] => ⟨#[]⟩
  | p :: l => p ++ catP l
theorem catP_size (y : Nat) : ∀ l : List ByteArray, (∀ p ∈ l, p.size = y) → (catP l).size = l.length * y
  | [], _ => by rw [List.length_nil, Nat.zero_mul]; rfl
  | p :: l, h => by
    show (p ++ catP l).size = _
    rw [ByteArray.size_append, h p (by simp), catP_size y l (fun q hq => h q (by simp [hq])), List.length_cons, Nat.succ_mul]
    omega
theorem catP_bn (y : Nat) (hy : 0 < y) : ∀ (l : List ByteArray) (j : Nat), (∀ p ∈ l, p.size = y) → j < l.length * y → bn (catP l) j = bn (l.getD (j / y) ⟨#[]⟩) (j % y)
  | [], j, _, h => by simp at h
  | p :: l, j, h, hj => by
    show bn (p ++ catP l) j = _
    rw [bn_append, h p (by simp)]
    by_cases c : j < y
    · rw [if_pos c, Nat.div_eq_of_lt c, Nat.mod_eq_of_lt c]; rfl
    · rw [if_neg c, catP_bn y hy l (j - y) (fun q hq => h q (by simp [hq])) (by rw [List.length_cons, Nat.succ_mul] at hj; omega)]
      have e1 : j / y = (j - y) / y + 1 := by
        have h2 := Nat.add_div_right (j - y) hy
        rw [Nat.sub_add_cancel (by omega)] at h2
        exact h2
      have e2 : j % y = (j - y) % y := by
        have h2 := Nat.add_mod_right (j - y) y
        rw [Nat.sub_add_cancel (by omega)] at h2
        exact h2
      rw [e1, e2]
      rfl
theorem pages_len (A : ByteArray) (y k : Nat) : (pagesOf A y k).length = k := by simp [pagesOf]
theorem pages_size (A : ByteArray) (y k : Nat) (hA : A.size = k * y) : ∀ p ∈ pagesOf A y k, p.size = y := by
  intro p hp
  obtain ⟨j, hj, rfl⟩ := List.mem_map.1 hp
  have hj := List.mem_range.1 hj
  have : (j + 1) * y ≤ k * y := Nat.mul_le_mul_right _ hj
  rw [Nat.succ_mul] at this
  rw [ByteArray.size_extract]
  omega
theorem pages_getD (A : ByteArray) (y k j : Nat) (h : j < k) : (pagesOf A y k).getD j ⟨#[]⟩ = A.extract (j * y) (j * y + y) := by
  unfold pagesOf
  rw [List.getD_eq_getElem?_getD, List.getElem?_map, List.getElem?_range h]; rfl
theorem cat_pages (A : ByteArray) (y k : Nat) (hy : 0 < y) (hA : A.size = k * y) : catP (pagesOf A y k) = A := by
  have hs := pages_size A y k hA
  have hz := catP_size y _ hs
  rw [pages_len] at hz
  refine bext (by omega) (fun j hj => ?_)
  have hd : j / y < k := Nat.div_lt_of_lt_mul (by rw [Nat.mul_comm]; omega)
  have hm := Nat.mod_lt j hy
  have hdm : j / y * y + j % y = j := by rw [Nat.mul_comm]; exact Nat.div_add_mod j y
  have h1 : (j / y + 1) * y ≤ k * y := Nat.mul_le_mul_right _ hd
  rw [Nat.succ_mul] at h1
  rw [catP_bn y hy _ j hs (by rw [pages_len]; omega), pages_getD _ _ _ _ hd, bn_extract _ _ _ _ (by omega) (by omega), hdm]
theorem pages_cat (l : List ByteArray) (y : Nat) (hy : 0 < y) (h : ∀ p ∈ l, p.size = y) : pagesOf (catP l) y l.length = l := by
  have hz := catP_size y l h
  apply List.ext_getElem (by rw [pages_len])
  intro i h1 h2
  have h3 := pages_size (catP l) y l.length hz
  have e1 : (pagesOf (catP l) y l.length)[i] = (catP l).extract (i * y) (i * y + y) := by simp [pagesOf]
  have hiy : (i + 1) * y ≤ l.length * y := Nat.mul_le_mul_right _ h2
  rw [Nat.succ_mul] at hiy
  have hsz : (l[i]).size = y := h _ (List.getElem_mem h2)
  rw [e1]
  refine bext (by rw [ByteArray.size_extract, hsz]; omega) (fun j hj => ?_)
  rw [ByteArray.size_extract] at hj
  rw [bn_extract _ _ _ _ (by omega) (by omega), catP_bn y hy l _ h (by omega), Nat.mul_comm i y, Nat.mul_add_div hy, Nat.mul_add_mod, Nat.div_eq_of_lt (by omega), Nat.mod_eq_of_lt (by omega), Nat.add_zero, List.getD_eq_getElem?_getD, List.getElem?_eq_getElem h2]
  rfl
/-- What Put and Take come to. -/
def putD (G : G6) (s : Dur) : List ByteArray × Int := if G.Ok then (if FitsD G s then (pagesOf (allS G s) G.y.toNat (snN G), 0) else ([], 130)) else ([], 60)
def nilD : Dur := ⟨[], [], [], []⟩
def PagesOk (G : G6) (l : List ByteArray) : Prop := l.length = snN G ∧ (∀ p ∈ l, p.size = G.y.toNat) ∧ restZ G (catP l)
open Classical in
noncomputable def takeP (G : G6) (l : List ByteArray) : Dur × Int := if G.Ok then (if PagesOk G l then (takeD G (catP l), 0) else (nilD, 130)) else (nilD, 60)
theorem put_take {G : G6} {s : Dur} (h : FitsD G s) : takeP G (putD G s).1 = (s, 0) ∧ (putD G s).2 = 0 := by
  have hok := h.1
  have hy : 0 < G.y.toNat := by have := hok.nums; omega
  obtain ⟨h1, h2⟩ := take_all h
  have e : putD G s = (pagesOf (allS G s) G.y.toNat (snN G), 0) := by unfold putD; rw [if_pos hok, if_pos h]
  have hc := cat_pages (allS G s) G.y.toNat (snN G) hy (allS_size hok s)
  rw [e]
  refine ⟨?_, rfl⟩
  unfold takeP
  rw [if_pos hok, if_pos ⟨pages_len _ _ _, pages_size _ _ _ (allS_size hok s), by rw [hc]; exact h2⟩, hc, h1]
theorem take_put {G : G6} {l : List ByteArray} (h : (takeP G l).2 = 0) : putD G (takeP G l).1 = (l, 0) ∧ FitsD G (takeP G l).1 := by
  unfold takeP at h ⊢
  by_cases hok : G.Ok
  · rw [if_pos hok] at h ⊢
    by_cases hp : PagesOk G l
    · rw [if_pos hp]
      obtain ⟨h1, h2, h3⟩ := hp
      have hy : 0 < G.y.toNat := by have := hok.nums; omega
      have hz := catP_size G.y.toNat l h2
      rw [h1] at hz
      obtain ⟨h4, h5⟩ := all_take hok hz h3
      have hpc := pages_cat l G.y.toNat hy h2
      rw [h1] at hpc
      refine ⟨?_, h4⟩
      unfold putD
      rw [if_pos hok, if_pos h4, h5, hpc]
    · rw [if_neg hp] at h; cases h
  · rw [if_neg hok] at h; cases h
end Go.Proofs.YteofihmeiikhbaaDoor.PG
end

section
/- Package snap: Fits in plain words; the document's, too. -/
set_option linter.unusedVariables false
set_option linter.unusedSimpArgs false
namespace Go.Proofs.YteofihmeiikhbaaDoor.PG
open Go.RowKit Go.Proofs.YteofihmeiikhbaaDoor.Hw Go.Proofs.YteofihmeiikhbaaDoorW.PrintWords Go.Proofs.YteofihmeiikhbaaDoorW.PrintLast

theorem rd_getD (l : List Int) (i : Nat) : rd l (i : Int) = l.getD i 0 := by unfold rd; rw [Int.toNat_natCast]
theorem inL_iff (l : List Int) (n m : Int) : inL l n m ↔ (∀ i, i < l.length → 0 ≤ l.getD i 0 ∧ l.getD i 0 ≤ m) ∧ (l.length : Int) = n := by
  unfold inL
  refine and_congr_left fun _ => ⟨fun h i hi => ?_, fun h x hx => ?_⟩
  · rw [List.getD_eq_getElem?_getD, List.getElem?_eq_getElem hi]; exact h _ (List.getElem_mem hi)
  · obtain ⟨i, hi, rfl⟩ := List.getElem_of_mem hx
    have := h i hi
    rw [List.getD_eq_getElem?_getD, List.getElem?_eq_getElem hi] at this
    exact this
theorem within_l0 (l : List Int) (n m : Int) (hl : l.length ≤ 9223372036854775807) : ∀ (d k i : Nat), l.length - i = d → i ≤ l.length → d < k → (∀ q, q < i → 0 ≤ l.getD q 0 ∧ l.getD q 0 ≤ m) → snap_within.l0 k l n m l (l.length : Int) i = some (decide (inL l n m))
  | 0, k, i, hd, hi, hk, hq => by
    obtain ⟨k, rfl⟩ : ∃ q, k = q + 1 := ⟨k - 1, by omega⟩
    obtain rfl : i = l.length := by omega
    rw [snap_within.l0, if_neg (by omega)]
    congr 1
    rw [Bool.eq_iff_iff, beq_iff_eq, decide_eq_true_eq, inL_iff]
    exact ⟨fun h => ⟨hq, h⟩, fun h => h.2⟩
  | d + 1, k, i, hd, hi, hk, hq => by
    obtain ⟨k, rfl⟩ : ∃ q, k = q + 1 := ⟨k - 1, by omega⟩
    rw [snap_within.l0, if_pos (by omega), if_pos (by omega), if_pos (by omega), rd_getD]
    by_cases c1 : l.getD i 0 < 0
    · rw [if_pos c1, decide_eq_false (fun h => by have := ((inL_iff l n m).1 h).1 i (by omega); omega)]
    · rw [if_neg c1]
      by_cases c2 : l.getD i 0 > m
      · rw [if_pos c2, decide_eq_false (fun h => by have := ((inL_iff l n m).1 h).1 i (by omega); omega)]
      · rw [if_neg c2, w64 (by omega) (by omega), show (i : Int) + 1 = ((i + 1 : Nat) : Int) by omega]
        refine within_l0 l n m hl d k (i + 1) (by omega) (by omega) (by omega) (fun q h => ?_)
        by_cases e : q = i
        · rw [e]; omega
        · exact hq q (by omega)
theorem within_is (l : List Int) (n m : Int) (hl : l.length ≤ 9223372036854775807) (k : Nat) (hk : l.length < k) : snap_within.f k l n m = some (decide (inL l n m)) :=
  within_l0 l n m hl l.length k 0 (by omega) (by omega) hk (fun q h => by omega)
theorem fits_is (G : G6) (s : Dur) (hb : (Lit.int .i64 G.b).wf = true) (hl : (Lit.int .i64 G.l).wf = true) (h0 : s.fl.length ≤ 9223372036854775807) (h1 : s.co.length ≤ 9223372036854775807) (h2 : s.sl.length ≤ 9223372036854775807) (h3 : s.tl.length ≤ 9223372036854775807)
    (k : Nat) (hk : s.fl.length + s.co.length + s.sl.length + s.tl.length + 8 < k) : snap_Fits.f k G.b G.l G.y G.s G.p G.w s.fl s.co s.sl s.tl = some (decide (FitsD G s)) := by
  unfold snap_Fits.f
  rw [check_some G.b G.l G.y G.s G.p G.w hb hl k (by omega), Option.bind_some]
  by_cases hok : G.Ok
  · rw [if_pos (show GeoOk G.b G.l G.y G.s G.p G.w from hok), if_pos rfl, within_is _ _ _ h0 k (by omega), Option.bind_some]
    by_cases c1 : inL s.fl G.s 281474976710655
    · rw [decide_eq_true c1, if_pos rfl, within_is _ _ _ h1 k (by omega), Option.bind_some]
      by_cases c2 : inL s.co G.b 4294967295
      · rw [decide_eq_true c2, if_pos rfl, within_is _ _ _ h2 k (by omega), Option.bind_some]
        by_cases c3 : inL s.sl G.b 16777215
        · rw [decide_eq_true c3, if_pos rfl, within_is _ _ _ h3 k (by omega), Option.bind_some]
          congr 1
          rw [decide_eq_decide]
          exact ⟨fun h => ⟨hok, c1, c2, c3, h⟩, fun h => h.2.2.2.2⟩
        · rw [decide_eq_false c3, if_neg (by decide), decide_eq_false (fun h => c3 h.2.2.2.1)]
      · rw [decide_eq_false c2, if_neg (by decide), decide_eq_false (fun h => c2 h.2.2.1)]
    · rw [decide_eq_false c1, if_neg (by decide), decide_eq_false (fun h => c1 h.2.1)]
  · rw [if_neg (show ¬ GeoOk G.b G.l G.y G.s G.p G.w from hok), if_neg (by decide), decide_eq_false (fun h => hok h.1)]
end Go.Proofs.YteofihmeiikhbaaDoor.PG
end
