/- Package load: sources and loads that a walk owns; a number is never 0. -/
import Derived.Test.YtcfonmbojkolfaaLoadH
import Derived.Test.YtcfonmbojkolfaaOwn
import Derived.Laws.BitsAllLaws
set_option linter.unusedVariables false
namespace Go.Proofs.Ytcfonmbojkolfaa.LoadA
open Go.RowKit Go.Proofs.YtcfonmbojkolfaaW.PrintWords Go.Proofs.Ytcfonmbojkolfaa.Mem Go.Proofs.Ytcfonmbojkolfaa.Own Go.Proofs.Ytcfonmbojkolfaa.PL

theorem w64_mod (x : Nat) : IntKind.u64.wrap (x : Int) = ((x % 2 ^ 64 : Nat) : Int) := by
  unfold IntKind.wrap; simp [IntKind.bits, IntKind.signed]
theorem xor_ne {a b : Nat} (h : a ≠ b) : a ^^^ b ≠ 0 := by
  intro e
  apply h
  apply Nat.eq_of_testBit_eq
  intro i
  have := congrArg (fun x => x.testBit i) e
  simpa [Nat.testBit_xor] using this
theorem nextNum_pos {x : Int} (h0 : 1 ≤ x) (h1 : x ≤ 18446744073709551615) : 1 ≤ nextNum x := by
  obtain ⟨n, rfl⟩ : ∃ n : Nat, x = n := ⟨x.toNat, by omega⟩
  have hn : n < 2 ^ 64 := by omega
  have m1 : n * 2 ^ 13 % 2 ^ 64 < 2 ^ 64 := Nat.mod_lt _ (by omega)
  have a1 : n ^^^ n * 2 ^ 13 % 2 ^ 64 < 2 ^ 64 := Nat.xor_lt_two_pow hn m1
  have z1 : n ^^^ n * 2 ^ 13 % 2 ^ 64 ≠ 0 := xor_ne (by omega)
  have e1 : IntKind.u64.wrap ((n : Int) * 8192) = ((n * 2 ^ 13 % 2 ^ 64 : Nat) : Int) := by
    rw [show (n : Int) * 8192 = ((n * 2 ^ 13 : Nat) : Int) by omega]; exact w64_mod _
  unfold nextNum
  simp only
  rw [e1, u64_xor_nat n _ (by omega) (by omega)]
  generalize hA : n ^^^ n * 2 ^ 13 % 2 ^ 64 = A at *
  have a2 : A / 128 < 2 ^ 64 := by omega
  have z2 : A ^^^ A / 128 ≠ 0 := xor_ne (by omega)
  rw [show ((A : Int) / 128) = ((A / 128 : Nat) : Int) by omega, u64_xor_nat A _ (by omega) (by omega)]
  have b1 : A ^^^ A / 128 < 2 ^ 64 := Nat.xor_lt_two_pow a1 a2
  generalize hB : A ^^^ A / 128 = C at *
  have m2 : C * 2 ^ 17 % 2 ^ 64 < 2 ^ 64 := Nat.mod_lt _ (by omega)
  have z3 : C ^^^ C * 2 ^ 17 % 2 ^ 64 ≠ 0 := xor_ne (by omega)
  have e2 : IntKind.u64.wrap ((C : Int) * 131072) = ((C * 2 ^ 17 % 2 ^ 64 : Nat) : Int) := by
    rw [show (C : Int) * 131072 = ((C * 2 ^ 17 : Nat) : Int) by omega]; exact w64_mod _
  rw [e2, u64_xor_nat C _ (by omega) (by omega)]
  omega
/-- A source, a load, that a walk owns. -/
abbrev SrcA (gs : Nat) (x : Int) : Asn := Pt gs (.cells #[.int .u64 x] 93 (0, 0))
def LdA (gl gs : Nat) (L : Ld) : Asn where
  P w _ S := LoadAt w gl gs L ∧ gl ≠ gs ∧ S gl ∧ S gs
  move := fun ⟨⟨h1, h2⟩, hne, s1, s2⟩ hm => ⟨⟨(hm gl s1 (blk_lt h1)).trans h1, (hm gs s2 (blk_lt h2)).trans h2⟩, hne, s1, s2⟩
  cut := fun ⟨⟨h1, h2⟩, hne, s1, s2⟩ => ⟨⟨h1, h2⟩, hne, ⟨s1, blk_lt h1⟩, s2, blk_lt h2⟩
  mono := fun ⟨h, hne, s1, s2⟩ hs => ⟨h, hne, hs gl s1, hs gs s2⟩
  lower h _ := h
section
variable {w0 w : World} {R : List Asn}
theorem next_own (gs : Nat) (x : Int) (HO : Own.Own w0 w (SrcA gs x :: R)) :
    Calls Try.prog 27 #[.pointer (some ⟨gs, 0, none⟩)] w fun e w' => e = .returned (.int .u64 (nextNum x)) ∧ Own.Own w0 w' (SrcA gs (nextNum x) :: R) := by
  obtain ⟨S, ⟨hc, hs⟩, hb, f⟩ := HO.head
  refine (next_any gs w0.heap.size x w hc (hb gs hs).1).mono ?_
  rintro e w' ⟨rfl, hx, hm⟩
  exact ⟨rfl, f w' [SrcA gs (nextNum x)] (hm.mono (fun k hk => by rw [hk]; exact hs)) (Hold.one ⟨hx, .inl hs⟩)⟩
theorem load_own (gl gs : Nat) (L : Ld) (HO : Own.Own w0 w (LdA gl gs L :: R)) (hy0 : 0 ≤ L.y) (hy : L.y ≤ 256) (hm : 0 ≤ L.made) (hm2 : L.made < 1000000) (hs : 1 ≤ L.s) (hs2 : L.s ≤ 10000) (ha : 0 ≤ L.at_) (ha2 : L.at_ ≤ 10000) :
    Calls Try.prog 32 #[.pointer (some ⟨gl, 0, none⟩)] w fun e w' => e = .returned (doP (nextOf L).1) ∧ Own.Own w0 w' (LdA gl gs (nextOf L).2 :: R) := by
  obtain ⟨S, ⟨hc, hne, s1, s2⟩, hb, f⟩ := HO.head
  refine (next_load gl gs w0.heap.size L w hc hne (hb gl s1).1 (hb gs s2).1 hy0 hy hm hm2 hs hs2 ha ha2).mono ?_
  rintro e w' ⟨rfl, hx, hm⟩
  exact ⟨rfl, f w' [LdA gl gs (nextOf L).2] (hm.mono (fun k hk => by rcases hk with rfl | rfl; exact s1; exact s2)) (Hold.one ⟨hx, hne, .inl s1, .inl s2⟩)⟩
theorem made_own (gl gs : Nat) (L : Ld) (HO : Own.Own w0 w (LdA gl gs L :: R)) :
    Calls Try.prog 33 #[.pointer (some ⟨gl, 0, none⟩)] w fun e w' => e = .returned (.int .i64 L.made) ∧ w = w' := by
  obtain ⟨S, ⟨hc, _⟩, _⟩ := HO.head
  exact made_any gl gs L w hc.1
theorem src_own (x : Int) (hx : 0 ≤ x) (HO : Own.Own w0 w R) :
    Calls Try.prog 23 #[.int .u64 x] w fun e w' => ∃ gs, e = .returned (.pointer (some ⟨gs, 0, none⟩)) ∧ Own.Own w0 w' (SrcA gs (if x < 1 then 1 else x) :: R) := by
  refine (newsource_any x w hx).mono ?_
  rintro e w' ⟨rfl, rfl⟩
  exact ⟨_, rfl, HO.alloc _⟩
theorem new_own (b l y s p t kind seed : Int) (hb : (Lit.int .i64 b).wf = true) (hl : (Lit.int .i64 l).wf = true) (hg : GeoOk b l y s p t) (hk : 0 ≤ kind) (hk2 : kind ≤ 3) (hs : 0 ≤ seed) (HO : Own.Own w0 w R) :
    Calls Try.prog 31 #[.agg #[.int .i64 b, .int .i64 l, .int .i64 y, .int .i64 s, .int .i64 p, .int .i64 t], .int .i64 kind, .int .u64 seed] w fun e w' => ∃ gl gs, e = .returned (.tuple #[.pointer (some ⟨gl, 0, none⟩), .int .i64 0]) ∧ Own.Own w0 w' (LdA gl gs (startOf b l y s p t kind seed) :: R) := by
  refine (new_ok b l y s p t kind seed w hb hl hg hk hk2 hs).mono ?_
  rintro e w' ⟨gl, gs, rfl, h, hne, h1, h2, hb⟩
  exact ⟨gl, gs, rfl, HO.fresh (R := [LdA gl gs _]) hb (Hold.one ⟨h, hne, h1, h2⟩)⟩
end
end Go.Proofs.Ytcfonmbojkolfaa.LoadA
