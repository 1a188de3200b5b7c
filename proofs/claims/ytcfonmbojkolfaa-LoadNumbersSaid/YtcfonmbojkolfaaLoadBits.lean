/- The reference's shifts and exclusive ors, bit by bit, are the machine's. -/
import Derived.Test.YtcfonmbojkolfaaPLx8
import Derived.Test.YtcfonmbojkolfaaLoadA
import Derived.Laws.BitsAllLaws
namespace Go.Proofs.Ytcfonmbojkolfaa.PL
open Go.RowKit Go.Proofs.YtcfonmbojkolfaaW.PrintWords

theorem wrap_small {x : Int} (h0 : -9223372036854775808 ≤ x) (h1 : x ≤ 9223372036854775807) : wrap64 x = x := by unfold wrap64; omega
theorem u64_small {x : Int} (h0 : 0 ≤ x) (h1 : x < 18446744073709551616) : IntKind.u64.wrap x = x := by
  rw [IntKind.wrap_u64]; omega
theorem u64_nat (n : Nat) (h : n < 2 ^ 64) : IntKind.u64.wrap (n : Int) = n := by
  rw [IntKind.wrap_u64]; omega
theorem u64_mod (x : Nat) : IntKind.u64.wrap (x : Int) = ((x % 2 ^ 64 : Nat) : Int) := by
  rw [IntKind.wrap_u64]; omega

theorem power_l0 (n : Nat) (hn : n ≤ 63) : ∀ (d k i : Nat), n - i = d → i ≤ n → d < k → deckleref01_Power.l0 k n ((2 ^ i : Nat) : Int) i = some ((2 ^ n : Nat) : Int) := by
  intro d
  induction d with
  | zero =>
    intro k i hd hi hk
    obtain ⟨k, rfl⟩ : ∃ m, k = m + 1 := ⟨k - 1, by omega⟩
    obtain rfl : i = n := by omega
    simp only [deckleref01_Power.l0]
    rw [if_neg (by omega)]
  | succ d ih =>
    intro k i hd hi hk
    obtain ⟨k, rfl⟩ : ∃ m, k = m + 1 := ⟨k - 1, by omega⟩
    have hp : (2 : Nat) ^ (i + 1) ≤ 2 ^ 63 := Nat.pow_le_pow_right (by omega) (by omega)
    have e : (((2 ^ i : Nat) : Int) * 2) = ((2 ^ (i + 1) : Nat) : Int) := by rw [Nat.pow_succ]; omega
    simp only [deckleref01_Power.l0]
    rw [if_pos (by omega), e, u64_nat _ (by omega), wrap_small (by omega) (by omega), show (i : Int) + 1 = ((i + 1 : Nat) : Int) by omega]
    exact ih k (i + 1) (by omega) (by omega) (by omega)

theorem power_some (n k : Nat) (hn : n ≤ 63) (hk : 64 ≤ k) : deckleref01_Power.f k n = some ((2 ^ n : Nat) : Int) := by
  unfold deckleref01_Power.f
  have := power_l0 n hn n k 0 (by omega) (by omega) (by omega)
  simpa using this

theorem bit_some (v n k : Nat) (hv : v < 2 ^ 64) (hn : n ≤ 63) (hk : 64 ≤ k) : deckleref01_Bit.f k v n = some ((v / 2 ^ n % 2 : Nat) : Int) := by
  unfold deckleref01_Bit.f
  rw [power_some n k hn hk]
  have hp : 0 < (2 : Nat) ^ n := Nat.pow_pos (by omega)
  have hd : v / 2 ^ n ≤ v := Nat.div_le_self _ _
  simp only [Option.bind_some]
  rw [if_neg (by omega), Int.tdiv_eq_ediv_of_nonneg (by omega), show ((v : Int) / ((2 ^ n : Nat) : Int)) = ((v / 2 ^ n : Nat) : Int) by simp, u64_nat _ (by omega), Int.tmod_eq_emod_of_nonneg (Int.natCast_nonneg _)]
  congr 1

theorem xor_bit (a b i : Nat) : (a ^^^ b) / 2 ^ i % 2 = if a / 2 ^ i % 2 = b / 2 ^ i % 2 then 0 else 1 := by
  have h := Nat.testBit_xor a b i
  simp only [Nat.testBit_eq_decide_div_mod_eq] at h
  have h1 := Nat.mod_two_eq_zero_or_one ((a ^^^ b) / 2 ^ i)
  have h2 := Nat.mod_two_eq_zero_or_one (a / 2 ^ i)
  have h3 := Nat.mod_two_eq_zero_or_one (b / 2 ^ i)
  rcases h1 with h1 | h1 <;> rcases h2 with h2 | h2 <;> rcases h3 with h3 | h3 <;> simp_all

theorem xor_l0 (a b : Nat) (ha : a < 2 ^ 64) (hb : b < 2 ^ 64) : ∀ (d k i : Nat), 64 - i = d → i ≤ 64 → d + 64 < k → deckleref41_xor.l0 k a b (((a ^^^ b) % 2 ^ i : Nat) : Int) i = some ((a ^^^ b : Nat) : Int) := by
  have hab : a ^^^ b < 2 ^ 64 := Nat.xor_lt_two_pow ha hb
  intro d
  induction d with
  | zero =>
    intro k i hd hi hk
    obtain ⟨k, rfl⟩ : ∃ m, k = m + 1 := ⟨k - 1, by omega⟩
    obtain rfl : i = 64 := by omega
    simp only [deckleref41_xor.l0]
    rw [if_neg (by omega), Nat.mod_eq_of_lt hab]
  | succ d ih =>
    intro k i hd hi hk
    obtain ⟨k, rfl⟩ : ∃ m, k = m + 1 := ⟨k - 1, by omega⟩
    have hp : (2 : Nat) ^ i ≤ 2 ^ 63 := Nat.pow_le_pow_right (by omega) (by omega)
    have hm : (a ^^^ b) % 2 ^ i < 2 ^ i := Nat.mod_lt _ (Nat.pow_pos (by omega))
    have hs := Nat.mod_pow_succ (x := a ^^^ b) (b := 2) (k := i)
    rw [xor_bit] at hs
    simp only [deckleref41_xor.l0]
    rw [if_pos (by omega), bit_some a i k ha (by omega) (by omega), bit_some b i k hb (by omega) (by omega)]
    simp only [Option.bind_some]
    rw [wrap_small (by omega) (by omega), show (i : Int) + 1 = ((i + 1 : Nat) : Int) by omega]
    by_cases c : a / 2 ^ i % 2 = b / 2 ^ i % 2
    · rw [if_pos c] at hs
      rw [if_pos (by omega), ← ih k (i + 1) (by omega) (by omega) (by omega), hs]
      simp
    · rw [if_neg c] at hs
      rw [if_neg (by omega), power_some i k (by omega) (by omega)]
      simp only [Option.bind_some]
      rw [u64_small (by omega) (by omega), ← ih k (i + 1) (by omega) (by omega) (by omega), hs]
      congr 1
      omega

theorem xor_some (a b k : Nat) (ha : a < 2 ^ 64) (hb : b < 2 ^ 64) (hk : 130 ≤ k) : deckleref41_xor.f k a b = some ((a ^^^ b : Nat) : Int) := by
  unfold deckleref41_xor.f
  have := xor_l0 a b ha hb 64 k 0 (by omega) (by omega) (by omega)
  simpa [Nat.mod_one] using this

/-- Shifted up: what is out behind i bits. -/
theorem up_l0 (x s : Nat) (hx : x < 2 ^ 64) (hs : s ≤ 63) : ∀ (d k i : Nat), 64 - i = d → i ≤ 64 → d + 64 < k → deckleref41_shift.l0 k x s ((x % 2 ^ i * 2 ^ s % 2 ^ 64 : Nat) : Int) i = some ((x * 2 ^ s % 2 ^ 64 : Nat) : Int) := by
  intro d
  induction d with
  | zero =>
    intro k i hd hi hk
    obtain ⟨k, rfl⟩ : ∃ m, k = m + 1 := ⟨k - 1, by omega⟩
    obtain rfl : i = 64 := by omega
    simp only [deckleref41_shift.l0]
    rw [if_neg (by omega), Nat.mod_eq_of_lt hx]
  | succ d ih =>
    intro k i hd hi hk
    obtain ⟨k, rfl⟩ : ∃ m, k = m + 1 := ⟨k - 1, by omega⟩
    have hsx := Nat.mod_pow_succ (x := x) (b := 2) (k := i)
    have hbit := Nat.mod_two_eq_zero_or_one (x / 2 ^ i)
    have hstep : x % 2 ^ (i + 1) * 2 ^ s = x % 2 ^ i * 2 ^ s + 2 ^ (i + s) * (x / 2 ^ i % 2) := by
      rw [hsx, Nat.add_mul, Nat.pow_add, Nat.mul_assoc, Nat.mul_assoc, Nat.mul_comm (x / 2 ^ i % 2)]
    simp only [deckleref41_shift.l0]
    rw [if_pos (by omega), wrap_small (x := (i : Int) + s) (by omega) (by omega), if_pos (by omega), wrap_small (by omega) (by omega), show (i : Int) + 1 = ((i + 1 : Nat) : Int) by omega, show (i : Int) + s = ((i + s : Nat) : Int) by omega]
    by_cases c : i + s < 64
    · have hp : (2 : Nat) ^ (i + s) ≤ 2 ^ 63 := Nat.pow_le_pow_right (by omega) (by omega)
      have hlow : x % 2 ^ i * 2 ^ s < 2 ^ (i + s) := by
        rw [Nat.pow_add]; exact Nat.mul_lt_mul_of_pos_right (Nat.mod_lt _ (Nat.pow_pos (by omega))) (Nat.pow_pos (by omega))
      rw [if_pos (by omega), bit_some x i k hx (by omega) (by omega)]
      simp only [Option.bind_some]
      rcases hbit with hb | hb
      · rw [hb] at hstep
        rw [if_neg (by omega), ← ih k (i + 1) (by omega) (by omega) (by omega), hstep]
        simp
      · rw [hb] at hstep
        have hfin : (x % 2 ^ i * 2 ^ s + 2 ^ (i + s) * 1) % 2 ^ 64 = x % 2 ^ i * 2 ^ s + 2 ^ (i + s) := by rw [Nat.mul_one]; exact Nat.mod_eq_of_lt (by omega)
        rw [if_pos (by omega), power_some (i + s) k (by omega) (by omega)]
        simp only [Option.bind_some]
        rw [← ih k (i + 1) (by omega) (by omega) (by omega), hstep, Nat.mod_eq_of_lt (a := x % 2 ^ i * 2 ^ s) (by omega), ← Int.natCast_add, u64_nat _ (by omega), hfin]
    · have hz : 2 ^ (i + s) * (x / 2 ^ i % 2) % 2 ^ 64 = 0 := by
        have : i + s = 64 + (i + s - 64) := by omega
        rw [this, Nat.pow_add, Nat.mul_assoc, Nat.mul_mod_right]
      rw [if_neg (by omega), ← ih k (i + 1) (by omega) (by omega) (by omega), hstep, Nat.add_mod, hz]
      simp

theorem up_some (x s k : Nat) (hx : x < 2 ^ 64) (hs : s ≤ 63) (hk : 130 ≤ k) : deckleref41_shift.f k x s = some ((x * 2 ^ s % 2 ^ 64 : Nat) : Int) := by
  unfold deckleref41_shift.f
  have := up_l0 x s hx hs 64 k 0 (by omega) (by omega) (by omega)
  simpa [Nat.mod_one] using this

/-- Shifted down by seven. -/
theorem down_l0 (x : Nat) (hx : x < 2 ^ 64) : ∀ (d k i : Nat), 64 - i = d → i ≤ 64 → d + 64 < k → deckleref41_shift.l0 k x (-7) ((x % 2 ^ i / 128 : Nat) : Int) i = some ((x / 128 : Nat) : Int) := by
  intro d
  induction d with
  | zero =>
    intro k i hd hi hk
    obtain ⟨k, rfl⟩ : ∃ m, k = m + 1 := ⟨k - 1, by omega⟩
    obtain rfl : i = 64 := by omega
    simp only [deckleref41_shift.l0]
    rw [if_neg (by omega), Nat.mod_eq_of_lt hx]
  | succ d ih =>
    intro k i hd hi hk
    obtain ⟨k, rfl⟩ : ∃ m, k = m + 1 := ⟨k - 1, by omega⟩
    have hsx := Nat.mod_pow_succ (x := x) (b := 2) (k := i)
    have hbit := Nat.mod_two_eq_zero_or_one (x / 2 ^ i)
    have hm : x % 2 ^ i < 2 ^ i := Nat.mod_lt _ (Nat.pow_pos (by omega))
    simp only [deckleref41_shift.l0]
    rw [if_pos (by omega), wrap_small (x := (i : Int) + (-7)) (by omega) (by omega), wrap_small (by omega) (by omega), show (i : Int) + 1 = ((i + 1 : Nat) : Int) by omega]
    by_cases c : 7 ≤ i
    · have hpow : (2 : Nat) ^ i = 128 * 2 ^ (i - 7) := by
        rw [show i = 7 + (i - 7) by omega, Nat.pow_add]; simp
      have hp : (2 : Nat) ^ (i - 7) ≤ 2 ^ 63 := Nat.pow_le_pow_right (by omega) (by omega)
      rw [if_pos (by omega), if_pos (by omega), bit_some x i k hx (by omega) (by omega)]
      simp only [Option.bind_some]
      rcases hbit with hb | hb
      · rw [hb] at hsx
        rw [if_neg (by omega), ← ih k (i + 1) (by omega) (by omega) (by omega), hsx]
        simp
      · rw [hb] at hsx
        have hdiv : x % 2 ^ (i + 1) / 128 = x % 2 ^ i / 128 + 2 ^ (i - 7) := by rw [hsx, hpow]; omega
        rw [if_pos (by omega), show (i : Int) + (-7) = ((i - 7 : Nat) : Int) by omega, power_some (i - 7) k (by omega) (by omega)]
        simp only [Option.bind_some]
        have : x % 2 ^ i / 128 < 2 ^ (i - 7) := by omega
        rw [u64_small (by omega) (by omega), ← ih k (i + 1) (by omega) (by omega) (by omega), hdiv]
        congr 1
    · have hp : (2 : Nat) ^ (i + 1) ≤ 2 ^ 7 := Nat.pow_le_pow_right (by omega) (by omega)
      have hm2 : x % 2 ^ (i + 1) < 2 ^ (i + 1) := Nat.mod_lt _ (Nat.pow_pos (by omega))
      have hp2 : (2 : Nat) ^ i ≤ 2 ^ (i + 1) := Nat.pow_le_pow_right (by omega) (by omega)
      rw [if_neg (by omega), ← ih k (i + 1) (by omega) (by omega) (by omega), Nat.div_eq_of_lt (a := x % 2 ^ (i + 1)) (by omega), Nat.div_eq_of_lt (by omega)]

theorem down_some (x k : Nat) (hx : x < 2 ^ 64) (hk : 130 ≤ k) : deckleref41_shift.f k x (-7) = some ((x / 128 : Nat) : Int) := by
  unfold deckleref41_shift.f
  have := down_l0 x hx 64 k 0 (by omega) (by omega) (by omega)
  simpa [Nat.mod_one] using this

theorem ref_next (x : Int) (h0 : 0 ≤ x) (h1 : x ≤ 18446744073709551615) (k : Nat) (hk : 130 ≤ k) : deckleref41_Next.f k x = some (LoadA.nextNum x) := by
  obtain ⟨n, rfl⟩ : ∃ n : Nat, x = n := ⟨x.toNat, by omega⟩
  have hn : n < 2 ^ 64 := by omega
  have m1 : n * 2 ^ 13 % 2 ^ 64 < 2 ^ 64 := Nat.mod_lt _ (by omega)
  have a1 : n ^^^ n * 2 ^ 13 % 2 ^ 64 < 2 ^ 64 := Nat.xor_lt_two_pow hn m1
  have a2 : (n ^^^ n * 2 ^ 13 % 2 ^ 64) / 128 < 2 ^ 64 := by omega
  have e1 : IntKind.u64.wrap ((n : Int) * 8192) = ((n * 2 ^ 13 % 2 ^ 64 : Nat) : Int) := by
    rw [show (n : Int) * 8192 = ((n * 2 ^ 13 : Nat) : Int) by omega]; exact u64_mod _
  unfold deckleref41_Next.f LoadA.nextNum
  simp only
  rw [show (13 : Int) = ((13 : Nat) : Int) by rfl, up_some n 13 k hn (by omega) hk]
  simp only [Option.bind_some]
  rw [xor_some n _ k hn m1 hk]
  simp only [Option.bind_some]
  rw [e1, u64_xor_nat n _ (by omega) (by omega)]
  generalize hA : n ^^^ n * 2 ^ 13 % 2 ^ 64 = A at *
  rw [down_some A k a1 hk]
  simp only [Option.bind_some]
  rw [xor_some A _ k a1 a2 hk]
  simp only [Option.bind_some]
  rw [show ((A : Int) / 128) = ((A / 128 : Nat) : Int) by omega, u64_xor_nat A _ (by omega) (by omega)]
  have b1 : A ^^^ A / 128 < 2 ^ 64 := Nat.xor_lt_two_pow a1 a2
  generalize hB : A ^^^ A / 128 = C at *
  have m2 : C * 2 ^ 17 % 2 ^ 64 < 2 ^ 64 := Nat.mod_lt _ (by omega)
  rw [show (17 : Int) = ((17 : Nat) : Int) by rfl, up_some C 17 k b1 (by omega) hk]
  simp only [Option.bind_some]
  rw [xor_some C _ k b1 m2 hk]
  simp only [Option.bind_some]
  have e2 : IntKind.u64.wrap ((C : Int) * 131072) = ((C * 2 ^ 17 % 2 ^ 64 : Nat) : Int) := by
    rw [show (C : Int) * 131072 = ((C * 2 ^ 17 : Nat) : Int) by omega]; exact u64_mod _
  rw [e2, u64_xor_nat C _ (by omega) (by omega)]
end Go.Proofs.Ytcfonmbojkolfaa.PL
