/- The law's proof: words, contracts of the functions that it reaches, plain lemmas. -/
import Derived.Test.YtliiploidjnmnaaDoorCt19
import Derived.Test.YtliiploidjnmnaaDoorCt11
import Derived.Test.YtliiploidjnmnaaDoorCt7
import Derived.Test.YtliiploidjnmnaaDoorCt10
import Derived.Test.YtliiploidjnmnaaDoorCt17
section
/- tag and sum in plain words: the number of some bytes, a tag's bytes there and back, what is sealed. -/
set_option linter.unusedVariables false
set_option linter.unusedSimpArgs false
namespace Go.Proofs.YtliiploidjnmnaaDoor.PF
open Go.RowKit Go.Proofs.YtliiploidjnmnaaDoor.Hw Go.Proofs.YtliiploidjnmnaaDoorW.PrintWords Go.Proofs.YtliiploidjnmnaaDoorW.PrintLast

theorem tl_inj (a b : ByteArray) : a.toList = b.toList ↔ a = b := by
  rw [ByteArray.toList_eq, ByteArray.toList_eq]
  exact ⟨fun h => ByteArray.ext (Array.toList_inj.1 h), fun h => by rw [h]⟩
theorem w64' (x : Int) (h : -9223372036854775808 ≤ x ∧ x ≤ 9223372036854775807) : wrap64 x = x := by unfold wrap64; omega
/-- The number of some bytes, the lowest first. -/
def leV (s : ByteArray) : Nat → Nat
  | 0 => 0
  | i + 1 => leV s i + bn s i * 256 ^ i
theorem leV_lt (s : ByteArray) : ∀ n, leV s n < 256 ^ n
  | 0 => by show 0 < 1; omega
  | n + 1 => by
    have h1 := leV_lt s n
    have h2 := bn_lt s n
    have h3 : bn s n * 256 ^ n ≤ 255 * 256 ^ n := Nat.mul_le_mul_right _ (by omega)
    show leV s n + bn s n * 256 ^ n < 256 ^ (n + 1)
    rw [Nat.pow_succ]
    omega
theorem leV_byte (s : ByteArray) (n : Nat) : ∀ m i, m ≤ n → i < m → leV s m / 256 ^ i % 256 = bn s i
  | 0, _, _, h => by omega
  | m + 1, i, hm, h => by
    show (leV s m + bn s m * 256 ^ m) / 256 ^ i % 256 = bn s i
    have hp : 0 < 256 ^ i := Nat.pow_pos (by decide)
    by_cases e : i = m
    · subst e
      rw [Nat.add_mul_div_right _ _ hp, Nat.div_eq_of_lt (leV_lt s i), Nat.zero_add, Nat.mod_eq_of_lt (bn_lt s i)]
    · have e2 : 256 ^ m = 256 ^ (m - i - 1) * 256 * 256 ^ i := by
        rw [Nat.mul_assoc, ← Nat.pow_succ', ← Nat.pow_add]; congr 1; omega
      rw [e2, ← Nat.mul_assoc, Nat.add_mul_div_right _ _ hp, ← Nat.mul_assoc, Nat.add_mul_mod_self_right]
      exact leV_byte s n m i (by omega) (by omega)
theorem leV_congr {s t : ByteArray} : ∀ n, (∀ i, i < n → bn s i = bn t i) → leV s n = leV t n
  | 0, _ => rfl
  | n + 1, h => by
    show leV s n + bn s n * 256 ^ n = leV t n + bn t n * 256 ^ n
    rw [leV_congr n (fun i hi => h i (by omega)), h n (by omega)]
/-- The same number, from the highest byte on. -/
def gV (s : ByteArray) (n : Nat) : Nat → Nat
  | 0 => 0
  | t + 1 => gV s n t * 256 + bn s (n - 1 - t)
theorem gV_le (s : ByteArray) (n : Nat) : ∀ t, t ≤ n → gV s n t * 256 ^ (n - t) + leV s (n - t) = leV s n
  | 0, _ => by simp [gV]
  | t + 1, h => by
    have ih := gV_le s n t (by omega)
    have e : n - t = (n - (t + 1)) + 1 := by omega
    rw [e] at ih
    show (gV s n t * 256 + bn s (n - 1 - t)) * 256 ^ (n - (t + 1)) + _ = _
    rw [← ih]
    show _ = gV s n t * 256 ^ (n - (t + 1) + 1) + (leV s (n - (t + 1)) + bn s (n - (t + 1)) * 256 ^ (n - (t + 1)))
    rw [show n - 1 - t = n - (t + 1) by omega, Nat.pow_succ, Nat.add_mul, Nat.mul_assoc, Nat.mul_comm 256]
    omega
theorem wraps_u64 (n : Int) (h₀ : 0 ≤ n) (h₁ : n < 2 ^ 64) : IntKind.u64.wrap n = n := by
  have h2 : n < 18446744073709551616 := by simpa using h₁
  simp [IntKind.wrap, IntKind.bits, IntKind.signed]
  omega
theorem or_u64 (x b : Nat) (hb : b < 256) (hx : x * 256 < 18446744073709551616) : Go.bits .or .u64 (IntKind.u64.wrap ((x : Int) * 256)) (IntKind.u64.wrap (b : Int)) = ((x * 256 + b : Nat) : Int) := by
  have q : (2 : Int) ^ 64 = 18446744073709551616 := by decide
  have q' : (2 : Nat) ^ 64 = 18446744073709551616 := by decide
  have w1 : IntKind.u64.wrap ((x : Int) * 256) = ((x * 256 : Nat) : Int) := by
    rw [show (x : Int) * 256 = ((x * 256 : Nat) : Int) by omega]
    exact wraps_u64 _ (by omega) (by omega)
  have w2 : IntKind.u64.wrap (b : Int) = (b : Int) := wraps_u64 _ (by omega) (by omega)
  rw [w1, w2, (bits_nat .u64 64 (by decide) wraps_u64 _ _ (by omega) (by omega)).2]
  have e : x * 256 ||| b = x * 256 + b := by
    have := Nat.shiftLeft_add_eq_or_of_lt (i := 8) (b := b) (by omega) x
    rw [Nat.shiftLeft_eq] at this
    exact this.symm
  rw [e]
theorem get_loop (s : ByteArray) (n : Nat) (hs : s.size = n) (h8 : n ≤ 8) : ∀ t k, t ≤ n → bits_Get.l0 (t + 1 + k) s ((gV s n (n - t) : Nat) : Int) ((t : Int) - 1) = some (((leV s n : Nat) : Int), 0)
  | 0, k, _ => by
    have e := gV_le s n n (Nat.le_refl _)
    rw [Nat.sub_self] at e
    have e2 : gV s n n = leV s n := by rw [← e]; simp [leV]
    rw [show 0 + 1 + k = k + 1 by omega, bits_Get.l0, if_neg (by omega), Nat.sub_zero, e2]
  | t + 1, k, h => by
    have hb : bt s (((t + 1 : Nat) : Int) - 1) = ((bn s t : Nat) : Int) := by rw [show ((t + 1 : Nat) : Int) - 1 = (t : Int) by omega]; exact bn_bt s t
    have hg := gV_le s n (n - (t + 1)) (by omega)
    have hlt := leV_lt s n
    have hlim : gV s n (n - (t + 1)) * 256 < 18446744073709551616 := by
      have p1 : 256 ^ n ≤ 256 ^ 8 := Nat.pow_le_pow_right (by decide) h8
      have p2 : 256 ^ 1 ≤ 256 ^ (n - (n - (t + 1))) := Nat.pow_le_pow_right (by decide) (by omega)
      have p3 : gV s n (n - (t + 1)) * 256 ≤ gV s n (n - (t + 1)) * 256 ^ (n - (n - (t + 1))) := Nat.mul_le_mul_left _ (by simpa using p2)
      have p4 : (256 : Nat) ^ 8 = 18446744073709551616 := by decide
      omega
    rw [show t + 1 + 1 + k = (t + 1 + k) + 1 by omega, bits_Get.l0, if_pos (by omega), if_pos (by omega), if_pos (by omega), hb, or_u64 _ _ (bn_lt s t) hlim]
    have e : gV s n (n - (t + 1)) * 256 + bn s t = gV s n (n - t) := by
      rw [show n - t = (n - (t + 1)) + 1 by omega]
      show _ = gV s n (n - (t + 1)) * 256 + bn s (n - 1 - (n - (t + 1)))
      rw [show n - 1 - (n - (t + 1)) = t by omega]
    rw [e, w64' _ (by omega), show ((t + 1 : Nat) : Int) - 1 - 1 = (t : Int) - 1 by omega]
    exact get_loop s n hs h8 t k (by omega)
theorem get_is (s : ByteArray) (h1 : 1 ≤ s.size) (h8 : s.size ≤ 8) (k : Nat) (hk : 12 ≤ k) : bits_Get.f k s = some (((leV s s.size : Nat) : Int), 0) := by
  obtain ⟨k, rfl⟩ : ∃ q, k = q + 12 := ⟨k - 12, by omega⟩
  unfold bits_Get.f
  rw [if_neg (by omega), show decide ((s.size : Int) > 8) = false from decide_eq_false (by omega), bits_Get.j0, if_neg (by decide), w64' _ (by omega)]
  have := get_loop s s.size rfl h8 s.size (k + 11 - s.size - 1) (Nat.le_refl _)
  rw [Nat.sub_self, show s.size + 1 + (k + 11 - s.size - 1) = k + 11 by omega] at this
  exact this
/-- The number of the bytes a to b. -/
def parts (s : ByteArray) (a b : Nat) : Nat := leV (s.extract a b) (b - a)
theorem parts_lt (s : ByteArray) (a b : Nat) : parts s a b < 256 ^ (b - a) := leV_lt _ _
theorem part_is (s : ByteArray) (a b : Nat) (hab : a < b) (h7 : b - a ≤ 7) (hb : b ≤ s.size) (k : Nat) (hk : 12 ≤ k) : tag_part.f k s (a : Int) (b : Int) = some ((parts s a b : Nat) : Int) := by
  have hz := size_extract' s a b hb
  have hlt := parts_lt s a b
  have p1 : (256 : Nat) ^ (b - a) ≤ 256 ^ 7 := Nat.pow_le_pow_right (by decide) h7
  have p4 : (256 : Nat) ^ 7 = 72057594037927936 := by decide
  unfold tag_part.f
  rw [if_pos (by omega), if_pos (by omega), if_pos (by omega), Int.toNat_natCast, Int.toNat_natCast, get_is _ (by omega) (by omega) k hk, Option.bind_some, hz, w64' _ (by unfold parts at hlt; constructor <;> simp only <;> omega)]
  rfl
theorem bn_le (v : Int) (h0 : 0 ≤ v) : ∀ n i, i < n → bn (leStr v n) i = v.toNat / 256 ^ i % 256
  | 0, _, h => by omega
  | n + 1, i, h => by
    have hz : (leStr v (n + 1)).size = n + 1 := leStr_size v (n + 1)
    rw [bn_at _ i (by omega), ByteArray.getElem_eq_getElem_data]
    have e : (leBytes v (n + 1)) = leBytes v n ++ [UInt8.ofNat (v / 256 ^ n % 256).toNat] := rfl
    simp only [leStr, List.getElem_toArray, e]
    by_cases hi : i < n
    · rw [List.getElem_append_left (by rw [leBytes_length]; exact hi)]
      have := bn_le v h0 n i hi
      rw [bn_at _ i (by rw [leStr_size]; exact hi), ByteArray.getElem_eq_getElem_data] at this
      simpa [leStr] using this
    · obtain rfl : i = n := by omega
      rw [List.getElem_append_right (by rw [leBytes_length]; omega)]
      simp only [leBytes_length, Nat.sub_self, List.getElem_cons_zero]
      obtain ⟨u, rfl⟩ := Int.eq_ofNat_of_zero_le h0
      have e2 : ((u : Int) / 256 ^ i % 256).toNat = u / 256 ^ i % 256 := by
        have : ((u : Int) / 256 ^ i % 256) = ((u / 256 ^ i % 256 : Nat) : Int) := by rw [Int.natCast_emod, Int.natCast_ediv, Int.natCast_pow]; rfl
        rw [this, Int.toNat_natCast]
      rw [e2, UInt8.toNat_ofNat', Int.toNat_natCast, Nat.mod_eq_of_lt (by show _ < 256; omega)]
theorem leV_le (v : Nat) (n : Nat) : ∀ m, m ≤ n → leV (leStr (v : Int) n) m = v % 256 ^ m
  | 0, _ => by show 0 = v % 1; omega
  | m + 1, h => by
    show leV (leStr (v : Int) n) m + bn (leStr (v : Int) n) m * 256 ^ m = _
    rw [leV_le v n m (by omega), bn_le (v : Int) (by omega) n m (by omega), Int.toNat_natCast, Nat.pow_succ, Nat.mod_mul, Nat.mul_comm (256 ^ m)]
/-- Lists of numbers as bytes. -/
theorem son_app (xs ys : List Int) : strOfNums (xs ++ ys) = strOfNums xs ++ strOfNums ys := by
  apply ByteArray.ext
  rw [ByteArray.data_append]
  simp [strOfNums]
theorem son_le (v : Int) (n : Nat) : strOfNums (leInts v n) = leStr v n := by
  unfold leInts strOfNums leStr
  rw [List.map_map]
  congr 2
  conv => rhs; rw [← List.map_id (leBytes v n)]
  apply List.map_congr_left
  intro a _
  simp
theorem tag_bytes (k l s e : Int) : strOfNums (tagInts k l s e) = strOfNums [27, k] ++ leStr l 2 ++ leStr s 6 ++ leStr e 4 ++ strOfNums [0, 0] := by
  unfold tagInts
  rw [son_app, son_app, son_app, son_app, son_le, son_le, son_le]
theorem tag_size (k l s e : Int) : (strOfNums (tagInts k l s e)).size = 16 := by
  rw [tag_bytes]
  simp only [ByteArray.size_append, son_size, leStr_size]
  rfl
/-- A tag's bytes, one by one. -/
theorem tag_bn (k l s e : Int) (i : Nat) : bn (strOfNums (tagInts k l s e)) i = if i < 2 then bn (strOfNums [27, k]) i else if i < 4 then bn (leStr l 2) (i - 2) else if i < 10 then bn (leStr s 6) (i - 4) else if i < 14 then bn (leStr e 4) (i - 10) else bn (strOfNums [0, 0]) (i - 14) := by
  rw [tag_bytes]
  simp only [bn_append, ByteArray.size_append, son_size, leStr_size, List.length_cons, List.length_nil]
  repeat' split
  all_goals first | omega | rfl | (congr 1)
/-- What sixteen bytes are as a tag. -/
structure TagOk (s : ByteArray) : Prop where
  magic : bn s 0 = 27
  end0 : bn s 14 = 0
  end1 : bn s 15 = 0
  may : mayT (bn s 1 : Nat) (parts s 2 4 : Nat) (parts s 4 10 : Nat) (parts s 10 14 : Nat) = true
instance (s : ByteArray) : Decidable (TagOk s) := decidable_of_iff (bn s 0 = 27 ∧ bn s 14 = 0 ∧ bn s 15 = 0 ∧ mayT (bn s 1 : Nat) (parts s 2 4 : Nat) (parts s 4 10 : Nat) (parts s 10 14 : Nat) = true) ⟨fun ⟨a, b, c, d⟩ => ⟨a, b, c, d⟩, fun ⟨a, b, c, d⟩ => ⟨a, b, c, d⟩⟩
theorem parts_bn (s : ByteArray) (a b i : Nat) (hb : b ≤ s.size) (hi : i < b - a) : bn (leStr ((parts s a b : Nat) : Int) (b - a)) i = bn s (a + i) := by
  rw [bn_le _ (by omega) _ _ hi, Int.toNat_natCast]
  unfold parts
  rw [leV_byte _ (b - a) (b - a) i (Nat.le_refl _) hi, bn_extract s a b i hi hb]
theorem parts_one (s : ByteArray) (h : 2 ≤ s.size) : parts s 1 2 = bn s 1 := by
  unfold parts
  show 0 + bn (s.extract 1 2) 0 * 256 ^ 0 = bn s 1
  rw [bn_extract s 1 2 0 (by omega) h, Nat.zero_add, Nat.pow_zero, Nat.mul_one]
theorem tag_back (s : ByteArray) (hs : s.size = 16) : strOfNums (tagInts (bn s 1 : Nat) (parts s 2 4 : Nat) (parts s 4 10 : Nat) (parts s 10 14 : Nat)) = s ↔ bn s 0 = 27 ∧ bn s 14 = 0 ∧ bn s 15 = 0 := by
  have b1 := bn_lt s 1
  constructor
  · intro h
    have e := fun i => congrArg (fun x => bn x i) h
    simp only [tag_bn] at e
    have e0 := e 0
    have e14 := e 14
    have e15 := e 15
    simp [bn_son] at e0 e14 e15
    omega
  · rintro ⟨h0, h14, h15⟩
    apply bext (by rw [tag_size, hs])
    intro i hi
    rw [tag_size] at hi
    rw [tag_bn]
    split
    · rw [bn_son]
      rcases (by omega : i = 0 ∨ i = 1) with rfl | rfl
      · rw [h0]; rfl
      · simp; omega
    · split
      · rw [parts_bn s 2 4 (i - 2) (by omega) (by omega)]; congr 1; omega
      · split
        · rw [parts_bn s 4 10 (i - 4) (by omega) (by omega)]; congr 1; omega
        · split
          · rw [parts_bn s 10 14 (i - 10) (by omega) (by omega)]; congr 1; omega
          · rw [bn_son]
            rcases (by omega : i = 14 ∨ i = 15) with rfl | rfl
            · rw [h14]; rfl
            · rw [h15]; rfl
theorem tag_dec (s : ByteArray) (hs : s.size = 16) (k : Nat) (hk : 12 ≤ k) : tag_Decode.f k s = some (if TagOk s then (((bn s 1 : Nat) : Int), ((parts s 2 4 : Nat) : Int), ((parts s 4 10 : Nat) : Int), ((parts s 10 14 : Nat) : Int), (0 : Int)) else (0, 0, 0, 0, 3)) := by
  have p1 := part_is s 1 2 (by omega) (by omega) (by omega) k hk
  rw [parts_one s (by omega)] at p1
  have p2 := part_is s 2 4 (by omega) (by omega) (by omega) k hk
  have p3 := part_is s 4 10 (by omega) (by omega) (by omega) k hk
  have p4 := part_is s 10 14 (by omega) (by omega) (by omega) k hk
  have hb := tag_back s hs
  unfold tag_Decode.f
  rw [if_pos (by omega), show (1 : Int) = ((1 : Nat) : Int) from rfl, show (2 : Int) = ((2 : Nat) : Int) from rfl, show (4 : Int) = ((4 : Nat) : Int) from rfl, show (10 : Int) = ((10 : Nat) : Int) from rfl, show (14 : Int) = ((14 : Nat) : Int) from rfl, p1, Option.bind_some, p2, Option.bind_some, p3, Option.bind_some, p4, Option.bind_some]
  unfold tag_Encode.f
  rw [Option.bind_some]
  by_cases hm : mayT (bn s 1 : Nat) (parts s 2 4 : Nat) (parts s 4 10 : Nat) (parts s 10 14 : Nat) = true
  · rw [if_pos hm, if_pos (by rfl)]
    by_cases hq : strOfNums (tagInts (bn s 1 : Nat) (parts s 2 4 : Nat) (parts s 4 10 : Nat) (parts s 10 14 : Nat)) = s
    · rw [if_pos ((tl_inj _ _).2 hq), if_pos ⟨(hb.1 hq).1, (hb.1 hq).2.1, (hb.1 hq).2.2, hm⟩]
    · rw [if_neg (fun h => hq ((tl_inj _ _).1 h)), if_neg (fun h => hq (hb.2 ⟨h.magic, h.end0, h.end1⟩))]
  · rw [if_neg hm, if_neg (by decide), if_neg (fun h => hm h.may)]
/-- A tag that may be, there and back. -/
theorem tag_parts (k l s e : Int) (hm : mayT k l s e = true) : TagOk (strOfNums (tagInts k l s e)) ∧ ((bn (strOfNums (tagInts k l s e)) 1 : Nat) : Int) = k ∧ ((parts (strOfNums (tagInts k l s e)) 2 4 : Nat) : Int) = l ∧ ((parts (strOfNums (tagInts k l s e)) 4 10 : Nat) : Int) = s ∧ ((parts (strOfNums (tagInts k l s e)) 10 14 : Nat) : Int) = e := by
  have h := of_decide_eq_true hm
  obtain ⟨⟨k0, k1⟩, ⟨l0, l1⟩, ⟨s0, s1⟩, e0, e1⟩ := h
  obtain ⟨k, rfl⟩ := Int.eq_ofNat_of_zero_le (by omega : 0 ≤ k)
  obtain ⟨l, rfl⟩ := Int.eq_ofNat_of_zero_le l0
  obtain ⟨s, rfl⟩ := Int.eq_ofNat_of_zero_le s0
  obtain ⟨e, rfl⟩ := Int.eq_ofNat_of_zero_le e0
  have hz := tag_size k l s e
  have hk : bn (strOfNums (tagInts k l s e)) 1 = k := by
    rw [tag_bn, if_pos (by decide), bn_son]
    simp
    omega
  have pp : ∀ a b v, a < b → b ≤ 16 → (∀ i, i < b - a → bn (strOfNums (tagInts k l s e)) (a + i) = bn (leStr ((v : Nat) : Int) (b - a)) i) → v < 256 ^ (b - a) → parts (strOfNums (tagInts k l s e)) a b = v := by
    intro a b v hab hb hi hv
    unfold parts
    rw [leV_congr (t := leStr ((v : Nat) : Int) (b - a)) (b - a) (fun i h => by rw [bn_extract _ a b i h (by omega)]; exact hi i h), leV_le v (b - a) (b - a) (Nat.le_refl _), Nat.mod_eq_of_lt hv]
  have q1 : (256 : Nat) ^ (4 - 2) = 65536 := by decide
  have q2 : (256 : Nat) ^ (10 - 4) = 281474976710656 := by decide
  have q3 : (256 : Nat) ^ (14 - 10) = 4294967296 := by decide
  have hl : parts (strOfNums (tagInts k l s e)) 2 4 = l := pp 2 4 l (by omega) (by omega) (fun i hi => by rw [tag_bn, if_neg (by omega), if_pos (by omega), show 2 + i - 2 = i by omega]) (by omega)
  have hs : parts (strOfNums (tagInts k l s e)) 4 10 = s := pp 4 10 s (by omega) (by omega) (fun i hi => by rw [tag_bn, if_neg (by omega), if_neg (by omega), if_pos (by omega), show 4 + i - 4 = i by omega]) (by omega)
  have he : parts (strOfNums (tagInts k l s e)) 10 14 = e := pp 10 14 e (by omega) (by omega) (fun i hi => by rw [tag_bn, if_neg (by omega), if_neg (by omega), if_neg (by omega), if_pos (by omega), show 10 + i - 10 = i by omega]) (by omega)
  refine ⟨⟨?_, ?_, ?_, ?_⟩, by rw [hk], by rw [hl], by rw [hs], by rw [he]⟩
  · rw [tag_bn, if_pos (by decide), bn_son]; rfl
  · rw [tag_bn, if_neg (by decide), if_neg (by decide), if_neg (by decide), if_neg (by decide), bn_son]; rfl
  · rw [tag_bn, if_neg (by decide), if_neg (by decide), if_neg (by decide), if_neg (by decide), bn_son]; rfl
  · rw [hk, hl, hs, he]; exact hm
/-- The four bytes of a sum. -/
def sum4 (x : ByteArray) : ByteArray := strOfNums [(4294967295 - crcGo 4294967295 x x.size) % 256, ((4294967295 - crcGo 4294967295 x x.size) / 256) % 256, ((4294967295 - crcGo 4294967295 x x.size) / 65536) % 256, ((4294967295 - crcGo 4294967295 x x.size) / 16777216) % 256]
theorem sum4_size (x : ByteArray) : (sum4 x).size = 4 := by unfold sum4; rw [son_size]; rfl
theorem sum_is (x : ByteArray) (h : x.size ≤ 1000000) : crc_Sum.f x = some (4294967295 - crcGo 4294967295 x x.size) := by
  unfold crc_Sum.f
  rw [if_pos (by omega)]
theorem tail_is (x : ByteArray) : crc_tail.f (4294967295 - crcGo 4294967295 x x.size) = some (sum4 x) := rfl
theorem seal_is (x : ByteArray) (h : x.size ≤ 1000000) : crc_Seal.f x = some (x ++ sum4 x) := by
  unfold crc_Seal.f
  rw [sum_is x h, Option.bind_some, tail_is, Option.bind_some, sum4_size, if_pos (by omega)]
/-- Sealed bytes. -/
def Sealed (a : ByteArray) : Prop := 4 ≤ a.size ∧ sum4 (a.extract 0 (a.size - 4)) = a.extract (a.size - 4) a.size
instance (a : ByteArray) : Decidable (Sealed a) := inferInstanceAs (Decidable (_ ∧ _))
theorem whole_is (a : ByteArray) (h : a.size ≤ 1000000) : crc_Whole.f a = some (decide (Sealed a)) := by
  unfold crc_Whole.f
  by_cases h4 : (a.size : Int) < 4
  · rw [if_pos h4, decide_eq_false (fun x => by have := x.1; omega)]
  · have e : wrap64 ((a.size : Int) - 4) = ((a.size - 4 : Nat) : Int) := by rw [w64' _ (by omega)]; omega
    rw [if_neg h4, e, if_pos (by omega), if_pos (by omega), Int.toNat_natCast, sum_is _ (by rw [size_extract' _ _ _ (by omega)]; omega), Option.bind_some, tail_is, Option.bind_some]
    congr 1
    by_cases hq : sum4 (a.extract 0 (a.size - 4)) = a.extract (a.size - 4) a.size
    · rw [decide_eq_true (show Sealed a from ⟨by omega, hq⟩)]
      exact beq_iff_eq.2 ((tl_inj _ _).2 hq)
    · rw [decide_eq_false (fun x : Sealed a => hq x.2)]
      exact beq_eq_false_iff_ne.2 (fun x => hq ((tl_inj _ _).1 x))
theorem app_extract_l (x y : ByteArray) (a b : Nat) (h : b ≤ x.size) : (x ++ y).extract a b = x.extract a b := by
  have hz : (x ++ y).size = x.size + y.size := ByteArray.size_append
  apply bext
  · rw [size_extract' _ _ _ (by omega), size_extract' _ _ _ h]
  · intro i hi
    rw [size_extract' _ _ _ (by omega)] at hi
    rw [bn_extract _ a b i hi (by omega), bn_extract _ a b i hi h, bn_append, if_pos (by omega)]
theorem app_extract_r (x y : ByteArray) (a b : Nat) (ha : x.size ≤ a) (hb : b ≤ x.size + y.size) : (x ++ y).extract a b = y.extract (a - x.size) (b - x.size) := by
  have hz : (x ++ y).size = x.size + y.size := ByteArray.size_append
  apply bext
  · rw [size_extract' _ _ _ (by omega), size_extract' _ _ _ (by omega)]; omega
  · intro i hi
    rw [size_extract' _ _ _ (by omega)] at hi
    rw [bn_extract _ a b i hi (by omega), bn_extract _ _ _ i (by omega) (by omega), bn_append, if_neg (by omega)]
    congr 1
    omega
theorem ext_all (x : ByteArray) : x.extract 0 x.size = x := by
  apply bext
  · rw [size_extract' _ _ _ (Nat.le_refl _)]; omega
  · intro i hi
    rw [size_extract' _ _ _ (Nat.le_refl _)] at hi
    rw [bn_extract _ _ _ i hi (Nat.le_refl _), Nat.zero_add]
theorem seal_sealed (x : ByteArray) : Sealed (x ++ sum4 x) := by
  have hz : (x ++ sum4 x).size = x.size + 4 := by rw [ByteArray.size_append, sum4_size]
  refine ⟨by omega, ?_⟩
  rw [hz, Nat.add_sub_cancel, app_extract_l _ _ _ _ (Nat.le_refl _), ext_all, app_extract_r _ _ _ _ (Nat.le_refl _) (by rw [sum4_size]; omega), Nat.sub_self, Nat.add_sub_cancel_left]
  have := ext_all (sum4 x)
  rw [sum4_size] at this
  exact this.symm
end Go.Proofs.YtliiploidjnmnaaDoor.PF
end
