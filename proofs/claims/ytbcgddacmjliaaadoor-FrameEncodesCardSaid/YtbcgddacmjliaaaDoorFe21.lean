/- The law's proof: words, contracts of the functions that it reaches, plain lemmas. -/
import Derived.Test.YtbcgddacmjliaaaDoorFe20
import Derived.Test.YtbcgddacmjliaaaDoorFe13
import Derived.Test.YtbcgddacmjliaaaDoorFe7
import Derived.Test.YtbcgddacmjliaaaDoorFe12
import Derived.Test.YtbcgddacmjliaaaDoorFe19
section
/- tag and sum in plain words: the number of some bytes, a tag's bytes there and back, what is sealed. -/
set_option linter.unusedVariables false
set_option linter.unusedSimpArgs false
namespace Go.Proofs.YtbcgddacmjliaaaDoor.PF
open Go.RowKit Go.Proofs.YtbcgddacmjliaaaDoor.Hw Go.Proofs.YtbcgddacmjliaaaDoorW.PrintWords Go.Proofs.YtbcgddacmjliaaaDoorW.PrintLast

theorem w64' (x : Int) (h : -9223372036854775808 ≤ x ∧ x ≤ 9223372036854775807) : wrap64 x = x := by unfold wrap64; omega
/-- The number of some bytes, the lowest first. -/
def leV (s : ByteArray) : Nat → Nat
  | 0 => 0
  | i + 1 => leV s i + bn s i * 256 ^ i
/-- The same number, from the highest byte on. -/
def gV (s : ByteArray) (n : Nat) : Nat → Nat
  | 0 => 0
  | t + 1 => gV s n t * 256 + bn s (n - 1 - t)
theorem wraps_u64 (n : Int) (h₀ : 0 ≤ n) (h₁ : n < 2 ^ 64) : IntKind.u64.wrap n = n := by
  have h2 : n < 18446744073709551616 := by simpa using h₁
  simp [IntKind.wrap, IntKind.bits, IntKind.signed]
  omega
/-- The number of the bytes a to b. -/
def parts (s : ByteArray) (a b : Nat) : Nat := leV (s.extract a b) (b - a)
theorem bn_le (v : Int) (h0 : 0 ≤ v) : ∀ n i, i < n → bn (leStr v n) i = v.toNat / 256 ^ i % 256
  | 0, _, h => by omega
  | n + 1, i, h => by
    have hz : (leStr v (n + 1)).size = n + 1 := leStr_size v (n + 1)
    rw [bn_at _ i (by omega), ByteArray.getElem_eq_getElem_data]
    have e : (leBytes v (n + 1)) = leBytes v n ++ [UInt8.ofNat (v / 256 ^ n % 256).toNat] := rfl
    simp only [leStr, List.getElem_toArray, e]
    by_cases hi : i < n
    · rw [List.getElem_append_left (by rw [leBytes_length]; exact hi)]
      have := bn_le v h0 n i hi
      rw [bn_at _ i (by rw [leStr_size]; exact hi), ByteArray.getElem_eq_getElem_data] at this
      simpa [leStr] using this
    · obtain rfl : i = n := by omega
      rw [List.getElem_append_right (by rw [leBytes_length]; omega)]
      simp only [leBytes_length, Nat.sub_self, List.getElem_cons_zero]
      obtain ⟨u, rfl⟩ := Int.eq_ofNat_of_zero_le h0
      have e2 : ((u : Int) / 256 ^ i % 256).toNat = u / 256 ^ i % 256 := by
        have : ((u : Int) / 256 ^ i % 256) = ((u / 256 ^ i % 256 : Nat) : Int) := by rw [Int.natCast_emod, Int.natCast_ediv, Int.natCast_pow]; rfl
        rw [this, Int.toNat_natCast]
      rw [e2, UInt8.toNat_ofNat', Int.toNat_natCast, Nat.mod_eq_of_lt (by show _ < 256; omega)]
/-- Lists of numbers as bytes. -/
theorem son_app (xs ys : List Int) : strOfNums (xs ++ ys) = strOfNums xs ++ strOfNums ys := by
  apply ByteArray.ext
  rw [ByteArray.data_append]
  simp [strOfNums]
theorem son_le (v : Int) (n : Nat) : strOfNums (leInts v n) = leStr v n := by
  unfold leInts strOfNums leStr
  rw [List.map_map]
  congr 2
  conv => rhs; rw [← List.map_id (leBytes v n)]
  apply List.map_congr_left
  intro a _
  simp
theorem tag_bytes (k l s e : Int) : strOfNums (tagInts k l s e) = strOfNums [27, k] ++ leStr l 2 ++ leStr s 6 ++ leStr e 4 ++ strOfNums [0, 0] := by
  unfold tagInts
  rw [son_app, son_app, son_app, son_app, son_le, son_le, son_le]
theorem tag_size (k l s e : Int) : (strOfNums (tagInts k l s e)).size = 16 := by
  rw [tag_bytes]
  simp only [ByteArray.size_append, son_size, leStr_size]
  rfl
/-- What sixteen bytes are as a tag. -/
structure TagOk (s : ByteArray) : Prop where
  magic : bn s 0 = 27
  end0 : bn s 14 = 0
  end1 : bn s 15 = 0
  may : mayT (bn s 1 : Nat) (parts s 2 4 : Nat) (parts s 4 10 : Nat) (parts s 10 14 : Nat) = true
instance (s : ByteArray) : Decidable (TagOk s) := decidable_of_iff (bn s 0 = 27 ∧ bn s 14 = 0 ∧ bn s 15 = 0 ∧ mayT (bn s 1 : Nat) (parts s 2 4 : Nat) (parts s 4 10 : Nat) (parts s 10 14 : Nat) = true) ⟨fun ⟨a, b, c, d⟩ => ⟨a, b, c, d⟩, fun ⟨a, b, c, d⟩ => ⟨a, b, c, d⟩⟩
/-- The four bytes of a sum. -/
def sum4 (x : ByteArray) : ByteArray := strOfNums [(4294967295 - crcGo 4294967295 x x.size) % 256, ((4294967295 - crcGo 4294967295 x x.size) / 256) % 256, ((4294967295 - crcGo 4294967295 x x.size) / 65536) % 256, ((4294967295 - crcGo 4294967295 x x.size) / 16777216) % 256]
theorem sum4_size (x : ByteArray) : (sum4 x).size = 4 := by unfold sum4; rw [son_size]; rfl
theorem sum_is (x : ByteArray) (h : x.size ≤ 1000000) : crc_Sum.f x = some (4294967295 - crcGo 4294967295 x x.size) := by
  unfold crc_Sum.f
  rw [if_pos (by omega)]
theorem tail_is (x : ByteArray) : crc_tail.f (4294967295 - crcGo 4294967295 x x.size) = some (sum4 x) := rfl
theorem seal_is (x : ByteArray) (h : x.size ≤ 1000000) : crc_Seal.f x = some (x ++ sum4 x) := by
  unfold crc_Seal.f
  rw [sum_is x h, Option.bind_some, tail_is, Option.bind_some, sum4_size, if_pos (by omega)]
/-- Sealed bytes. -/
def Sealed (a : ByteArray) : Prop := 4 ≤ a.size ∧ sum4 (a.extract 0 (a.size - 4)) = a.extract (a.size - 4) a.size
instance (a : ByteArray) : Decidable (Sealed a) := inferInstanceAs (Decidable (_ ∧ _))
end Go.Proofs.YtbcgddacmjliaaaDoor.PF
end
