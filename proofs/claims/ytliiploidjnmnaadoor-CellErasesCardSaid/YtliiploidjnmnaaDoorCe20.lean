/- The law's proof: words, contracts of the functions that it reaches, plain lemmas. -/
import Derived.Test.YtliiploidjnmnaaDoorCe19
import Derived.Test.YtliiploidjnmnaaDoorCe11
import Derived.Test.YtliiploidjnmnaaDoorCe7
import Derived.Test.YtliiploidjnmnaaDoorCe10
import Derived.Test.YtliiploidjnmnaaDoorCe17
section
/- tag and sum in plain words: the number of some bytes, a tag's bytes there and back, what is sealed. -/
set_option linter.unusedVariables false
set_option linter.unusedSimpArgs false
namespace Go.Proofs.YtliiploidjnmnaaDoor.PF
open Go.RowKit Go.Proofs.YtliiploidjnmnaaDoor.Hw Go.Proofs.YtliiploidjnmnaaDoorW.PrintWords Go.Proofs.YtliiploidjnmnaaDoorW.PrintLast

/-- The number of some bytes, the lowest first. -/
def leV (s : ByteArray) : Nat → Nat
  | 0 => 0
  | i + 1 => leV s i + bn s i * 256 ^ i
/-- The same number, from the highest byte on. -/
def gV (s : ByteArray) (n : Nat) : Nat → Nat
  | 0 => 0
  | t + 1 => gV s n t * 256 + bn s (n - 1 - t)
/-- The number of the bytes a to b. -/
def parts (s : ByteArray) (a b : Nat) : Nat := leV (s.extract a b) (b - a)
/-- Lists of numbers as bytes. -/
theorem son_app (xs ys : List Int) : strOfNums (xs ++ ys) = strOfNums xs ++ strOfNums ys := by
  apply ByteArray.ext
  rw [ByteArray.data_append]
  simp [strOfNums]
theorem son_le (v : Int) (n : Nat) : strOfNums (leInts v n) = leStr v n := by
  unfold leInts strOfNums leStr
  rw [List.map_map]
  congr 2
  conv => rhs; rw [← List.map_id (leBytes v n)]
  apply List.map_congr_left
  intro a _
  simp
theorem tag_bytes (k l s e : Int) : strOfNums (tagInts k l s e) = strOfNums [27, k] ++ leStr l 2 ++ leStr s 6 ++ leStr e 4 ++ strOfNums [0, 0] := by
  unfold tagInts
  rw [son_app, son_app, son_app, son_app, son_le, son_le, son_le]
theorem tag_size (k l s e : Int) : (strOfNums (tagInts k l s e)).size = 16 := by
  rw [tag_bytes]
  simp only [ByteArray.size_append, son_size, leStr_size]
  rfl
/-- A tag's bytes, one by one. -/
theorem tag_bn (k l s e : Int) (i : Nat) : bn (strOfNums (tagInts k l s e)) i = if i < 2 then bn (strOfNums [27, k]) i else if i < 4 then bn (leStr l 2) (i - 2) else if i < 10 then bn (leStr s 6) (i - 4) else if i < 14 then bn (leStr e 4) (i - 10) else bn (strOfNums [0, 0]) (i - 14) := by
  rw [tag_bytes]
  simp only [bn_append, ByteArray.size_append, son_size, leStr_size, List.length_cons, List.length_nil]
  repeat' split
  all_goals first | omega | rfl | (congr 1)
/-- What sixteen bytes are as a tag. -/
structure TagOk (s : ByteArray) : Prop where
  magic : bn s 0 = 27
  end0 : bn s 14 = 0
  end1 : bn s 15 = 0
  may : mayT (bn s 1 : Nat) (parts s 2 4 : Nat) (parts s 4 10 : Nat) (parts s 10 14 : Nat) = true
instance (s : ByteArray) : Decidable (TagOk s) := decidable_of_iff (bn s 0 = 27 ∧ bn s 14 = 0 ∧ bn s 15 = 0 ∧ mayT (bn s 1 : Nat) (parts s 2 4 : Nat) (parts s 4 10 : Nat) (parts s 10 14 : Nat) = true) ⟨fun ⟨a, b, c, d⟩ => ⟨a, b, c, d⟩, fun ⟨a, b, c, d⟩ => ⟨a, b, c, d⟩⟩
/-- The four bytes of a sum. -/
def sum4 (x : ByteArray) : ByteArray := strOfNums [(4294967295 - crcGo 4294967295 x x.size) % 256, ((4294967295 - crcGo 4294967295 x x.size) / 256) % 256, ((4294967295 - crcGo 4294967295 x x.size) / 65536) % 256, ((4294967295 - crcGo 4294967295 x x.size) / 16777216) % 256]
theorem sum4_size (x : ByteArray) : (sum4 x).size = 4 := by unfold sum4; rw [son_size]; rfl
theorem sum_is (x : ByteArray) (h : x.size ≤ 1000000) : crc_Sum.f x = some (4294967295 - crcGo 4294967295 x x.size) := by
  unfold crc_Sum.f
  rw [if_pos (by omega)]
theorem tail_is (x : ByteArray) : crc_tail.f (4294967295 - crcGo 4294967295 x x.size) = some (sum4 x) := rfl
theorem seal_is (x : ByteArray) (h : x.size ≤ 1000000) : crc_Seal.f x = some (x ++ sum4 x) := by
  unfold crc_Seal.f
  rw [sum_is x h, Option.bind_some, tail_is, Option.bind_some, sum4_size, if_pos (by omega)]
/-- Sealed bytes. -/
def Sealed (a : ByteArray) : Prop := 4 ≤ a.size ∧ sum4 (a.extract 0 (a.size - 4)) = a.extract (a.size - 4) a.size
instance (a : ByteArray) : Decidable (Sealed a) := inferInstanceAs (Decidable (_ ∧ _))
theorem app_extract_l (x y : ByteArray) (a b : Nat) (h : b ≤ x.size) : (x ++ y).extract a b = x.extract a b := by
  have hz : (x ++ y).size = x.size + y.size := ByteArray.size_append
  apply bext
  · rw [size_extract' _ _ _ (by omega), size_extract' _ _ _ h]
  · intro i hi
    rw [size_extract' _ _ _ (by omega)] at hi
    rw [bn_extract _ a b i hi (by omega), bn_extract _ a b i hi h, bn_append, if_pos (by omega)]
theorem app_extract_r (x y : ByteArray) (a b : Nat) (ha : x.size ≤ a) (hb : b ≤ x.size + y.size) : (x ++ y).extract a b = y.extract (a - x.size) (b - x.size) := by
  have hz : (x ++ y).size = x.size + y.size := ByteArray.size_append
  apply bext
  · rw [size_extract' _ _ _ (by omega), size_extract' _ _ _ (by omega)]; omega
  · intro i hi
    rw [size_extract' _ _ _ (by omega)] at hi
    rw [bn_extract _ a b i hi (by omega), bn_extract _ _ _ i (by omega) (by omega), bn_append, if_neg (by omega)]
    congr 1
    omega
theorem ext_all (x : ByteArray) : x.extract 0 x.size = x := by
  apply bext
  · rw [size_extract' _ _ _ (Nat.le_refl _)]; omega
  · intro i hi
    rw [size_extract' _ _ _ (Nat.le_refl _)] at hi
    rw [bn_extract _ _ _ i hi (Nat.le_refl _), Nat.zero_add]
end Go.Proofs.YtliiploidjnmnaaDoor.PF
end
