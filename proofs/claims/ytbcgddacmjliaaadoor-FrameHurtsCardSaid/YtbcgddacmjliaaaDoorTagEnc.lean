/- Package tag, by hand: Encode: a tag's bytes. -/
import Derived.ArgAppend
import Derived.Below
import Derived.BigQuiet
import Derived.Carry
import Derived.Deep.AppendLies
import Derived.Deep.CutBlock
import Derived.Deep.DeepCutAuto
import Derived.Deep.Draws
import Derived.Deep.LoopGhost
import Derived.Deep.OwnRows
import Derived.Deep.QuietTactic
import Derived.Deep.RegionHeld3
import Derived.Deep.RegionWith
import Derived.KernelRfl
import Derived.Laws.BitsLemmas
import Derived.Laws.BytesArg
import Derived.Laws.IdiomCopy
import Derived.Laws.MakeOwn
import Derived.Laws.OwnMore
import Derived.Laws.Rows
import Derived.Laws.Slices
import Derived.Lib.AppendStr
import Derived.Lib.BufferMore
import Derived.Lib.ConvBytes
import Derived.Lib.Hide
import Derived.Lib.LazyBuf
import Derived.Maps.AppendAt
import Derived.OpenShut
import Derived.OrdersHeld
import Derived.Outline
import Derived.OwnWalk
import Derived.OwnWalkIn
import Derived.RegionTactic
import Derived.RowKit3
import Derived.StillTailTactics
import Derived.Tactics
import Derived.WalkKit
import Derived.WideLaws
import Derived.Test.YtbcgddacmjliaaaDoorProg
import Derived.Test.YtbcgddacmjliaaaDoorBitsPut
import Derived.Test.YtbcgddacmjliaaaDoorBytes
import Derived.Test.YtbcgddacmjliaaaDoorOwn
import Derived.Lib.BufferWrite
import Derived.Laws.CopyOwn
import Derived.Test.YtbcgddacmjliaaaDoorPFy1
import Derived.Test.YtbcgddacmjliaaaDoorPFx9
set_option linter.unusedVariables false
set_option linter.unusedSimpArgs false
namespace Go.Proofs.YtbcgddacmjliaaaDoor.PF
open Go.RowKit Go.Shelf Go.Proofs.YtbcgddacmjliaaaDoorW.PrintWords Go.Proofs.YtbcgddacmjliaaaDoor.Mem Go.Proofs.YtbcgddacmjliaaaDoor.Own Go.Proofs.YtbcgddacmjliaaaDoor.Hw

/-- May a tag be? -/
def mayT (k l s e : Int) : Bool := decide ((1 ≤ k ∧ k ≤ 4) ∧ (0 ≤ l ∧ l ≤ 4096) ∧ (0 ≤ s ∧ s ≤ 281474976710655) ∧ (0 ≤ e ∧ e ≤ 4294967295))
theorem tag_within_is (a b c : Int) : tag_within.f a b c = some (decide (b ≤ a ∧ a ≤ c)) := by
  unfold tag_within.f
  by_cases h : a ≥ b
  · rw [if_pos h]; congr 1; rw [Bool.eq_iff_iff]; simp; omega
  · rw [if_neg h, decide_eq_false (by omega)]
theorem tag_May_is (k l s e : Int) : tag_May.f k l s e = some (mayT k l s e) := by
  unfold tag_May.f mayT
  simp only [tag_within_is, Option.bind_some]
  by_cases h1 : 1 ≤ k ∧ k ≤ 4
  · rw [decide_eq_true h1, if_pos rfl]
    by_cases h2 : 0 ≤ l ∧ l ≤ 4096
    · rw [decide_eq_true h2, if_pos rfl]
      by_cases h3 : 0 ≤ s ∧ s ≤ 281474976710655
      · rw [decide_eq_true h3, if_pos rfl]
        congr 1
        rw [Bool.eq_iff_iff]
        simp only [decide_eq_true_eq]
        exact ⟨fun h => ⟨h1, h2, h3, h⟩, fun h => h.2.2.2⟩
      · rw [decide_eq_false h3, if_neg (by decide), decide_eq_false (fun h => h3 h.2.2.1)]
    · rw [decide_eq_false h2, if_neg (by decide), decide_eq_false (fun h => h2 h.2.1)]
  · rw [decide_eq_false h1, if_neg (by decide), decide_eq_false (fun h => h1 h.1)]
theorem number_is (a : Int) (n : Nat) (h0 : 0 ≤ a) (hn : 1 ≤ n) (hn8 : n ≤ 7) (h1 : a < 2 ^ (n * 8)) : tag_number.f a n = some (leStr a n) := by
  have hlt : a < 2 ^ 56 := Int.lt_of_lt_of_le h1 (by exact_mod_cast Nat.pow_le_pow_right (by decide) (by omega))
  have hlt' : a < 72057594037927936 := hlt
  have hw : IntKind.u64.wrap a = a := by
    show a % 18446744073709551616 = a
    omega
  unfold tag_number.f bits_Put.f
  rw [hw, if_pos (by omega), if_neg]
  · simp
  · unfold putNo
    have e : ((n : Int) * 8).toNat = n * 8 := by omega
    rw [e]
    rintro (h | h | ⟨_, h⟩)
    · omega
    · omega
    · exact h (Int.ediv_eq_zero_of_lt h0 h1)
theorem own_setRow {w0 w : World} {L : List Asn} {g : Nat} {cs : Array Value} {T : TypeId} (h : Own.Own w0 w (Pt g (.cells cs T (0, 0)) :: L)) (cs' : Array Value) : Own.Own w0 (w.setRow g cs') (Pt g (.cells cs' T (0, 0)) :: L) := by
  obtain ⟨S, ⟨ho, hg⟩, hb, f⟩ := h.head
  have hlt := blk_lt ho
  refine f _ [Pt g (.cells cs' T (0, 0))] ⟨Go.below_setRow (Below.refl _ _) (hb g hg).1 _, by rw [size_setRow]; exact Nat.le_refl _, fun k hk hn => ?_⟩ (Hold.one ⟨setRow_heap w g cs cs' T (0, 0) ho, .inl hg⟩)
  have : k ≠ g := fun e => hn (e ▸ hg)
  simp [World.setRow, Array.getElem?_modify, this.symm]
/-- A row of bytes. -/
def encB (xs : List Int) : Array Value := (xs.map (Value.int .u8)).toArray
def splice (xs : List Int) (o : Nat) (ys : List Int) : List Int := xs.take o ++ ys ++ xs.drop (o + ys.length)
def leInts (v : Int) (n : Nat) : List Int := (leBytes v n).map fun c => (c.toNat : Int)
/-- A tag's bytes, as numbers. -/
def tagInts (k l s e : Int) : List Int := [27, k] ++ leInts l 2 ++ leInts s 6 ++ leInts e 4 ++ [0, 0]
theorem leInts_length (v : Int) (n : Nat) : (leInts v n).length = n := by unfold leInts; rw [List.length_map, leBytes_length]
theorem splice_cells (xs : List Int) (o : Nat) (v : Int) (n : Nat) : ((encB xs).toList.take o ++ Lib.byteCells (leStr v n).data.toList ++ (encB xs).toList.drop (o + (leStr v n).size)).toArray = encB (splice xs o (leInts v n)) := by
  unfold splice encB
  rw [leInts_length, leStr_size]
  simp [Lib.byteCells, leInts, leStr]
theorem copy_eq {W : World} {g : Nat} {xs : List Int} (hx : xs.length = 16) (o n m : Nat) (v : Int) (h : W.heap[g]? = some (.cells (encB xs) 67 (0, 0))) (hm : m = 16 - o) (hon : o + n ≤ 16) :
    (Builtin.copy_ #[46, 9] 3 #[.slice (some ⟨g, o, none⟩) m m, .string (leStr v n)]).run Tryd.prog W = .ok (goInt n) (W.setRow g (encB (splice xs o (leInts v n)))) := by
  have hc := Lib.run_copy_row_string (P := Tryd.prog) W 46 9 3 5 g o m m (leStr v n) (encB xs) 67 Tryd.underlying46 (by kernel_rfl) h (by rw [leStr_size]; omega) (by rw [leStr_size]; simp [encB, hx]; omega)
  rw [splice_cells, leStr_size] at hc
  exact hc
theorem splice_length (xs : List Int) (o : Nat) (ys : List Int) (h : o + ys.length ≤ xs.length) : (splice xs o ys).length = xs.length := by
  unfold splice
  simp
  omega
theorem reads_encB {w : World} {g : Nat} {T : TypeId} {xs : List Int} (h : w.heap[g]? = some (.cells (encB xs) T (0, 0))) (hl : xs.length ≤ 9223372036854775807) : ReadsInt w .u8 (some ⟨g, 0, none⟩) xs.length xs := by
  refine ⟨rfl, hl, fun _ => ⟨_, rfl, fun j hj => ?_⟩⟩
  have e : (⟨g, 0, none⟩ : Addr).add j = ⟨g, j, none⟩ := add0 g j
  rw [e, blk_cell h j]
  simp [encB, List.getD_eq_getElem?_getD, hj]
def tag_Encode.f (k l s e : Int) : Option (ByteArray × Int) := some (if mayT k l s e = true then (strOfNums (tagInts k l s e), 0) else (⟨#[]⟩, 1))
set_option maxHeartbeats 4000000 in
set_option maxRecDepth 100000 in
theorem tag_Encode.calls (k l s e : Int) (r1 : ByteArray) (r2 : Int) (w : World) (h : tag_Encode.f k l s e = some (r1, r2)) :
    Calls Tryd.prog 21 #[.agg #[.int .i64 k, .int .i64 l, .int .i64 s, .int .i64 e]] w fun e w' => e = .returned (.tuple #[.string r1, .int .i64 r2]) ∧ Below w.heap.size w w' := by
  unfold tag_Encode.f at h
  have hm := tag_May_is k l s e
  have HO := Aside0.mk ((Own.Own.new w).alloc (.cells #[.int .i64 k, .int .i64 l, .int .i64 s, .int .i64 e] 23))
  obtain ⟨BT, hBT⟩ : ∃ BT, BT = w.heap.size := ⟨_, rfl⟩
  rw [← hBT] at HO
  have HBT := Lib.hid hBT
  clear hBT
  cases hb : mayT k l s e with
  | false =>
    rw [hb] at hm h
    simp only [Option.some.injEq, Prod.mk.injEq, Bool.false_eq_true, if_false] at h
    obtain ⟨rfl, rfl⟩ := h
    have HM := Aside0.mk hm
    clear hm hb
    go_enter Tryd.func21, Tryd.ntmps21
    go_wp2_with fail
    refine (tag_May.calls _ _ _ _ _ _ HM.out).mono ?_
    rintro e w1 ⟨rfl, hb⟩
    have HB := Aside0.mk (HO.out.move hb)
    clear hb
    go_wp2_with fail
    go_ret2
    exact ⟨rfl, HB.out.below⟩
  | true =>
    rw [hb] at hm h
    simp only [Option.some.injEq, Prod.mk.injEq, if_true] at h
    obtain ⟨rfl, rfl⟩ := h
    have hb' : (1 ≤ k ∧ k ≤ 4) ∧ (0 ≤ l ∧ l ≤ 4096) ∧ (0 ≤ s ∧ s ≤ 281474976710655) ∧ (0 ≤ e ∧ e ≤ 4294967295) := by unfold mayT at hb; exact of_decide_eq_true hb
    obtain ⟨⟨k1, k2⟩, ⟨l1, l2⟩, ⟨s1, s2⟩, ⟨e1, e2⟩⟩ := hb'
    have n1 : tag_number.f l 2 = some (leStr l 2) := number_is l 2 l1 (by decide) (by decide) (by show l < 65536; omega)
    have n2 : tag_number.f s 6 = some (leStr s 6) := number_is s 6 s1 (by decide) (by decide) (by show s < 281474976710656; omega)
    have n3 : tag_number.f e 4 = some (leStr e 4) := number_is e 4 e1 (by decide) (by decide) (by show e < 4294967296; omega)
    have HM := Aside0.mk hm
    have N1 := Aside0.mk n1
    have N2 := Aside0.mk n2
    have N3 := Aside0.mk n3
    clear hm hb n1 n2 n3
    go_enter Tryd.func21, Tryd.ntmps21
    go_wp2_with fail
    rw [← HBT.out]
    refine (tag_May.calls _ _ _ _ _ _ HM.out).mono ?_
    rintro ee w1 ⟨rfl, hb⟩
    have HB := Aside0.mk (HO.out.move hb)
    clear hb
    obtain ⟨x0, x1, x2, x3, _, _, _, _⟩ := cells4 HB.out.pt
    go_upto_region 4 with (fail)
    have hc0 := HB.out.alloc (.cells (encB [27, k, 0, 0, 0, 0, 0, 0, 0, 0, 0, 0, 0, 0, 0, 0]) 67)
    obtain ⟨G, hG⟩ : ∃ G, G = w1.heap.size := ⟨_, rfl⟩
    rw [← hG] at hc0
    have HG := Lib.hid hG
    have HC0 := Aside0.mk hc0
    clear hc0 hG x0 x1 x2 x3 HB
    rw [← HG.out]
    change Code.wp _ _ _ _ (World.alloc w1 (.cells (encB [27, k, 0, 0, 0, 0, 0, 0, 0, 0, 0, 0, 0, 0, 0, 0]) 67))
    generalize hW : World.alloc w1 _ = w2 at HC0 ⊢
    clear hW
    obtain ⟨X0, hX0⟩ : ∃ X, X = ([27, k, 0, 0, 0, 0, 0, 0, 0, 0, 0, 0, 0, 0, 0, 0] : List Int) := ⟨_, rfl⟩
    have hx0 : X0.length = 16 := by rw [hX0]; rfl
    rw [← hX0] at HC0
    have HX0 := Lib.hid hX0
    have x0 : True := trivial
    have x1 : True := trivial
    have x2 : True := trivial
    have x3 : True := trivial
    clear hX0
    clear x0 x1 x2 x3
    obtain ⟨x0, x1, x2, x3, _, _, _, _⟩ := cells4 HC0.out.drop.pt
    go_region_with (go_at_call 44; refine (tag_number.calls l 2 _ _ N1.out).mono ?_; rintro ee w3 ⟨rfl, hb3⟩; have HD := Aside0.mk (HC0.out.drew.move hb3); have hcp := copy_eq (g := G) (xs := X0) hx0 2 2 14 l HD.out.pt (by decide) (by decide); clear hb3)
    have hcK := own_setRow HD.out (encB (splice X0 2 (leInts l 2)))
    obtain ⟨X1, hX1⟩ : ∃ X, X = splice X0 2 (leInts l 2) := ⟨_, rfl⟩
    have hx1 : X1.length = 16 := by rw [hX1, splice_length _ _ _ (by rw [leInts_length, hx0]; decide), hx0]
    rw [← hX1] at hcK ⊢
    have HX1 := Lib.hid hX1
    have HC1 := Aside0.mk hcK
    clear hX1 hcK hcp HD
    generalize hW : World.setRow w3 G _ = w4 at HC1 ⊢
    clear hW
    go_upto_region 5 with (fail)
    clear x0 x1 x2 x3
    obtain ⟨x0, x1, x2, x3, _, _, _, _⟩ := cells4 HC1.out.drop.pt
    go_region_with (go_at_call 44; refine (tag_number.calls s 6 _ _ N2.out).mono ?_; rintro ee w3 ⟨rfl, hb3⟩; have HD := Aside0.mk (HC1.out.drew.move hb3); have hcp := copy_eq (g := G) (xs := X1) hx1 4 6 12 s HD.out.pt (by decide) (by decide); clear hb3)
    have hcK := own_setRow HD.out (encB (splice X1 4 (leInts s 6)))
    obtain ⟨X2, hX2⟩ : ∃ X, X = splice X1 4 (leInts s 6) := ⟨_, rfl⟩
    have hx2 : X2.length = 16 := by rw [hX2, splice_length _ _ _ (by rw [leInts_length, hx1]; decide), hx1]
    rw [← hX2] at hcK ⊢
    have HX2 := Lib.hid hX2
    have HC2 := Aside0.mk hcK
    clear hX2 hcK hcp HD
    generalize hW : World.setRow w3 G _ = w4 at HC2 ⊢
    clear hW
    go_upto_region 6 with (fail)
    clear x0 x1 x2 x3
    obtain ⟨x0, x1, x2, x3, _, _, _, _⟩ := cells4 HC2.out.drop.pt
    go_region_with (go_at_call 44; refine (tag_number.calls e 4 _ _ N3.out).mono ?_; rintro ee w3 ⟨rfl, hb3⟩; have HD := Aside0.mk (HC2.out.drew.move hb3); have hcp := copy_eq (g := G) (xs := X2) hx2 10 4 6 e HD.out.pt (by decide) (by decide); clear hb3)
    have hcK := own_setRow HD.out (encB (splice X2 10 (leInts e 4)))
    obtain ⟨X3, hX3⟩ : ∃ X, X = splice X2 10 (leInts e 4) := ⟨_, rfl⟩
    have hx3 : X3.length = 16 := by rw [hX3, splice_length _ _ _ (by rw [leInts_length, hx2]; decide), hx2]
    rw [← hX3] at hcK ⊢
    have HX3 := Lib.hid hX3
    have HC3 := Aside0.mk hcK
    clear hX3 hcK hcp HD
    generalize hW : World.setRow w3 G _ = w4 at HC3 ⊢
    clear hW
    have hrd := reads_encB HC3.out.pt (by omega)
    rw [hx3] at hrd
    have hcv := string_of_reads (P := Tryd.prog) (dst := 9) (c := 16) Tryd.underlying46 Tryd.underlying5 Tryd.underlying9 hrd
    have hfin : X3 = tagInts k l s e := by
      rw [HX3.out, HX2.out, HX1.out, HX0.out]
      have g1 := leInts_length l 2
      have g2 := leInts_length s 6
      have g3 := leInts_length e 4
      unfold tagInts splice
      rw [g1, g2, g3]
      generalize leInts l 2 = a at *
      generalize leInts s 6 = b at *
      generalize leInts e 4 = c at *
      match a, g1, b, g2, c, g3 with
      | [a0, a1], _, [b0, b1, b2, b3, b4, b5], _, [c0, c1, c2, c3], _ => rfl
    have HF := Lib.hid hfin
    clear hrd hfin x0 x1 x2 x3
    go_wp2_with fail
    go_ret2
    exact ⟨by rw [← HF.out]; rfl, HC3.out.below⟩
end Go.Proofs.YtbcgddacmjliaaaDoor.PF
