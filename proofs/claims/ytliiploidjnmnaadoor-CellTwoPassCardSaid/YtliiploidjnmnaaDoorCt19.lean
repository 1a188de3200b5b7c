/- The law's proof: words, contracts of the functions that it reaches, plain lemmas. -/
import Derived.ArgAppend
import Derived.Below
import Derived.BigQuiet
import Derived.Carry
import Derived.Deep.AppendLies
import Derived.Deep.CutBlock
import Derived.Deep.DeepCutAuto
import Derived.Deep.Draws
import Derived.Deep.LoopGhost
import Derived.Deep.OwnRows
import Derived.Deep.QuietTactic
import Derived.Deep.RegionHeld3
import Derived.Deep.RegionWith
import Derived.KernelRfl
import Derived.Laws.BitsLemmas
import Derived.Laws.BytesArg
import Derived.Laws.IdiomCopy
import Derived.Laws.MakeOwn
import Derived.Laws.OwnMore
import Derived.Laws.Rows
import Derived.Laws.Slices
import Derived.Lib.AppendStr
import Derived.Lib.BufferMore
import Derived.Lib.ConvBytes
import Derived.Lib.Hide
import Derived.Lib.LazyBuf
import Derived.Maps.AppendAt
import Derived.OpenShut
import Derived.OrdersHeld
import Derived.Outline
import Derived.OwnWalk
import Derived.OwnWalkIn
import Derived.RegionTactic
import Derived.RowKit3
import Derived.StillTailTactics
import Derived.Tactics
import Derived.WalkKit
import Derived.WideLaws
import Derived.Test.YtliiploidjnmnaaDoorProg
import Derived.Test.YtliiploidjnmnaaDoorCt13
import Derived.Test.YtliiploidjnmnaaDoorCt9
import Derived.Test.YtliiploidjnmnaaDoorCt5
import Derived.Lib.BufferWrite
import Derived.Laws.CopyOwn
import Derived.Test.YtliiploidjnmnaaDoorCt7
import Derived.Test.YtliiploidjnmnaaDoorCt15
import Derived.Test.YtliiploidjnmnaaDoorCt3
import Derived.Test.YtliiploidjnmnaaDoorCt11
import Derived.Test.YtliiploidjnmnaaDoorCt0
section
/- Package tag, by hand: Encode: a tag's bytes. -/
set_option linter.unusedVariables false
set_option linter.unusedSimpArgs false
namespace Go.Proofs.YtliiploidjnmnaaDoor.PF
open Go.RowKit Go.Shelf Go.Proofs.YtliiploidjnmnaaDoorW.PrintWords Go.Proofs.YtliiploidjnmnaaDoor.Mem Go.Proofs.YtliiploidjnmnaaDoor.Own Go.Proofs.YtliiploidjnmnaaDoor.Hw

/-- May a tag be? -/
def mayT (k l s e : Int) : Bool := decide ((1 ≤ k ∧ k ≤ 4) ∧ (0 ≤ l ∧ l ≤ 4096) ∧ (0 ≤ s ∧ s ≤ 281474976710655) ∧ (0 ≤ e ∧ e ≤ 4294967295))
theorem tag_within_is (a b c : Int) : tag_within.f a b c = some (decide (b ≤ a ∧ a ≤ c)) := by
  unfold tag_within.f
  by_cases h : a ≥ b
  · rw [if_pos h]; congr 1; rw [Bool.eq_iff_iff]; simp; omega
  · rw [if_neg h, decide_eq_false (by omega)]
theorem tag_May_is (k l s e : Int) : tag_May.f k l s e = some (mayT k l s e) := by
  unfold tag_May.f mayT
  simp only [tag_within_is, Option.bind_some]
  by_cases h1 : 1 ≤ k ∧ k ≤ 4
  · rw [decide_eq_true h1, if_pos rfl]
    by_cases h2 : 0 ≤ l ∧ l ≤ 4096
    · rw [decide_eq_true h2, if_pos rfl]
      by_cases h3 : 0 ≤ s ∧ s ≤ 281474976710655
      · rw [decide_eq_true h3, if_pos rfl]
        congr 1
        rw [Bool.eq_iff_iff]
        simp only [decide_eq_true_eq]
        exact ⟨fun h => ⟨h1, h2, h3, h⟩, fun h => h.2.2.2⟩
      · rw [decide_eq_false h3, if_neg (by decide), decide_eq_false (fun h => h3 h.2.2.1)]
    · rw [decide_eq_false h2, if_neg (by decide), decide_eq_false (fun h => h2 h.2.1)]
  · rw [decide_eq_false h1, if_neg (by decide), decide_eq_false (fun h => h1 h.1)]
theorem number_is (a : Int) (n : Nat) (h0 : 0 ≤ a) (hn : 1 ≤ n) (hn8 : n ≤ 7) (h1 : a < 2 ^ (n * 8)) : tag_number.f a n = some (leStr a n) := by
  have hlt : a < 2 ^ 56 := Int.lt_of_lt_of_le h1 (by exact_mod_cast Nat.pow_le_pow_right (by decide) (by omega))
  have hlt' : a < 72057594037927936 := hlt
  have hw : IntKind.u64.wrap a = a := by
    show a % 18446744073709551616 = a
    omega
  unfold tag_number.f bits_Put.f
  rw [hw, if_pos (by omega), if_neg]
  · simp
  · unfold putNo
    have e : ((n : Int) * 8).toNat = n * 8 := by omega
    rw [e]
    rintro (h | h | ⟨_, h⟩)
    · omega
    · omega
    · exact h (Int.ediv_eq_zero_of_lt h0 h1)
theorem own_setRow {w0 w : World} {L : List Asn} {g : Nat} {cs : Array Value} {T : TypeId} (h : Own.Own w0 w (Pt g (.cells cs T (0, 0)) :: L)) (cs' : Array Value) : Own.Own w0 (w.setRow g cs') (Pt g (.cells cs' T (0, 0)) :: L) := by
  obtain ⟨S, ⟨ho, hg⟩, hb, f⟩ := h.head
  have hlt := blk_lt ho
  refine f _ [Pt g (.cells cs' T (0, 0))] ⟨Go.below_setRow (Below.refl _ _) (hb g hg).1 _, by rw [size_setRow]; exact Nat.le_refl _, fun k hk hn => ?_⟩ (Hold.one ⟨setRow_heap w g cs cs' T (0, 0) ho, .inl hg⟩)
  have : k ≠ g := fun e => hn (e ▸ hg)
  simp [World.setRow, Array.getElem?_modify, this.symm]
/-- A row of bytes. -/
def encB (xs : List Int) : Array Value := (xs.map (Value.int .u8)).toArray
def splice (xs : List Int) (o : Nat) (ys : List Int) : List Int := xs.take o ++ ys ++ xs.drop (o + ys.length)
def leInts (v : Int) (n : Nat) : List Int := (leBytes v n).map fun c => (c.toNat : Int)
/-- A tag's bytes, as numbers. -/
def tagInts (k l s e : Int) : List Int := [27, k] ++ leInts l 2 ++ leInts s 6 ++ leInts e 4 ++ [0, 0]
theorem leInts_length (v : Int) (n : Nat) : (leInts v n).length = n := by unfold leInts; rw [List.length_map, leBytes_length]
theorem splice_cells (xs : List Int) (o : Nat) (v : Int) (n : Nat) : ((encB xs).toList.take o ++ Lib.byteCells (leStr v n).data.toList ++ (encB xs).toList.drop (o + (leStr v n).size)).toArray = encB (splice xs o (leInts v n)) := by
  unfold splice encB
  rw [leInts_length, leStr_size]
  simp [Lib.byteCells, leInts, leStr]
theorem copy_eq {W : World} {g : Nat} {xs : List Int} (hx : xs.length = 16) (o n m : Nat) (v : Int) (h : W.heap[g]? = some (.cells (encB xs) 144 (0, 0))) (hm : m = 16 - o) (hon : o + n ≤ 16) :
    (Builtin.copy_ #[91, 9] 3 #[.slice (some ⟨g, o, none⟩) m m, .string (leStr v n)]).run Tryd.prog W = .ok (goInt n) (W.setRow g (encB (splice xs o (leInts v n)))) := by
  have hc := Lib.run_copy_row_string (P := Tryd.prog) W 91 9 3 5 g o m m (leStr v n) (encB xs) 144 Tryd.underlying91 (by kernel_rfl) h (by rw [leStr_size]; omega) (by rw [leStr_size]; simp [encB, hx]; omega)
  rw [splice_cells, leStr_size] at hc
  exact hc
theorem splice_length (xs : List Int) (o : Nat) (ys : List Int) (h : o + ys.length ≤ xs.length) : (splice xs o ys).length = xs.length := by
  unfold splice
  simp
  omega
theorem reads_encB {w : World} {g : Nat} {T : TypeId} {xs : List Int} (h : w.heap[g]? = some (.cells (encB xs) T (0, 0))) (hl : xs.length ≤ 9223372036854775807) : ReadsInt w .u8 (some ⟨g, 0, none⟩) xs.length xs := by
  refine ⟨rfl, hl, fun _ => ⟨_, rfl, fun j hj => ?_⟩⟩
  have e : (⟨g, 0, none⟩ : Addr).add j = ⟨g, j, none⟩ := add0 g j
  rw [e, blk_cell h j]
  simp [encB, List.getD_eq_getElem?_getD, hj]
def tag_Encode.f (k l s e : Int) : Option (ByteArray × Int) := some (if mayT k l s e = true then (strOfNums (tagInts k l s e), 0) else (⟨#[]⟩, 1))
set_option maxHeartbeats 4000000 in
set_option maxRecDepth 100000 in
theorem tag_Encode.calls (k l s e : Int) (r1 : ByteArray) (r2 : Int) (w : World) (h : tag_Encode.f k l s e = some (r1, r2)) :
    Calls Tryd.prog 78 #[.agg #[.int .i64 k, .int .i64 l, .int .i64 s, .int .i64 e]] w fun e w' => e = .returned (.tuple #[.string r1, .int .i64 r2]) ∧ Below w.heap.size w w' := by
  unfold tag_Encode.f at h
  have hm := tag_May_is k l s e
  have HO := Aside0.mk ((Own.Own.new w).alloc (.cells #[.int .i64 k, .int .i64 l, .int .i64 s, .int .i64 e] 55))
  obtain ⟨BT, hBT⟩ : ∃ BT, BT = w.heap.size := ⟨_, rfl⟩
  rw [← hBT] at HO
  have HBT := Lib.hid hBT
  clear hBT
  cases hb : mayT k l s e with
  | false =>
    rw [hb] at hm h
    simp only [Option.some.injEq, Prod.mk.injEq, Bool.false_eq_true, if_false] at h
    obtain ⟨rfl, rfl⟩ := h
    have HM := Aside0.mk hm
    clear hm hb
    go_enter Tryd.func78, Tryd.ntmps78
    go_wp2_with fail
    refine (tag_May.calls _ _ _ _ _ _ HM.out).mono ?_
    rintro e w1 ⟨rfl, hb⟩
    have HB := Aside0.mk (HO.out.move hb)
    clear hb
    go_wp2_with fail
    go_ret2
    exact ⟨rfl, HB.out.below⟩
  | true =>
    rw [hb] at hm h
    simp only [Option.some.injEq, Prod.mk.injEq, if_true] at h
    obtain ⟨rfl, rfl⟩ := h
    have hb' : (1 ≤ k ∧ k ≤ 4) ∧ (0 ≤ l ∧ l ≤ 4096) ∧ (0 ≤ s ∧ s ≤ 281474976710655) ∧ (0 ≤ e ∧ e ≤ 4294967295) := by unfold mayT at hb; exact of_decide_eq_true hb
    obtain ⟨⟨k1, k2⟩, ⟨l1, l2⟩, ⟨s1, s2⟩, ⟨e1, e2⟩⟩ := hb'
    have n1 : tag_number.f l 2 = some (leStr l 2) := number_is l 2 l1 (by decide) (by decide) (by show l < 65536; omega)
    have n2 : tag_number.f s 6 = some (leStr s 6) := number_is s 6 s1 (by decide) (by decide) (by show s < 281474976710656; omega)
    have n3 : tag_number.f e 4 = some (leStr e 4) := number_is e 4 e1 (by decide) (by decide) (by show e < 4294967296; omega)
    have HM := Aside0.mk hm
    have N1 := Aside0.mk n1
    have N2 := Aside0.mk n2
    have N3 := Aside0.mk n3
    clear hm hb n1 n2 n3
    go_enter Tryd.func78, Tryd.ntmps78
    go_wp2_with fail
    rw [← HBT.out]
    refine (tag_May.calls _ _ _ _ _ _ HM.out).mono ?_
    rintro ee w1 ⟨rfl, hb⟩
    have HB := Aside0.mk (HO.out.move hb)
    clear hb
    obtain ⟨x0, x1, x2, x3, _, _, _, _⟩ := cells4 HB.out.pt
    go_upto_region 4 with (fail)
    have hc0 := HB.out.alloc (.cells (encB [27, k, 0, 0, 0, 0, 0, 0, 0, 0, 0, 0, 0, 0, 0, 0]) 144)
    obtain ⟨G, hG⟩ : ∃ G, G = w1.heap.size := ⟨_, rfl⟩
    rw [← hG] at hc0
    have HG := Lib.hid hG
    have HC0 := Aside0.mk hc0
    clear hc0 hG x0 x1 x2 x3 HB
    rw [← HG.out]
    change Code.wp _ _ _ _ (World.alloc w1 (.cells (encB [27, k, 0, 0, 0, 0, 0, 0, 0, 0, 0, 0, 0, 0, 0, 0]) 144))
    generalize hW : World.alloc w1 _ = w2 at HC0 ⊢
    clear hW
    obtain ⟨X0, hX0⟩ : ∃ X, X = ([27, k, 0, 0, 0, 0, 0, 0, 0, 0, 0, 0, 0, 0, 0, 0] : List Int) := ⟨_, rfl⟩
    have hx0 : X0.length = 16 := by rw [hX0]; rfl
    rw [← hX0] at HC0
    have HX0 := Lib.hid hX0
    have x0 : True := trivial
    have x1 : True := trivial
    have x2 : True := trivial
    have x3 : True := trivial
    clear hX0
    clear x0 x1 x2 x3
    obtain ⟨x0, x1, x2, x3, _, _, _, _⟩ := cells4 HC0.out.drop.pt
    go_region_with (go_at_call 98; refine (tag_number.calls l 2 _ _ N1.out).mono ?_; rintro ee w3 ⟨rfl, hb3⟩; have HD := Aside0.mk (HC0.out.drew.move hb3); have hcp := copy_eq (g := G) (xs := X0) hx0 2 2 14 l HD.out.pt (by decide) (by decide); clear hb3)
    have hcK := own_setRow HD.out (encB (splice X0 2 (leInts l 2)))
    obtain ⟨X1, hX1⟩ : ∃ X, X = splice X0 2 (leInts l 2) := ⟨_, rfl⟩
    have hx1 : X1.length = 16 := by rw [hX1, splice_length _ _ _ (by rw [leInts_length, hx0]; decide), hx0]
    rw [← hX1] at hcK ⊢
    have HX1 := Lib.hid hX1
    have HC1 := Aside0.mk hcK
    clear hX1 hcK hcp HD
    generalize hW : World.setRow w3 G _ = w4 at HC1 ⊢
    clear hW
    go_upto_region 5 with (fail)
    clear x0 x1 x2 x3
    obtain ⟨x0, x1, x2, x3, _, _, _, _⟩ := cells4 HC1.out.drop.pt
    go_region_with (go_at_call 98; refine (tag_number.calls s 6 _ _ N2.out).mono ?_; rintro ee w3 ⟨rfl, hb3⟩; have HD := Aside0.mk (HC1.out.drew.move hb3); have hcp := copy_eq (g := G) (xs := X1) hx1 4 6 12 s HD.out.pt (by decide) (by decide); clear hb3)
    have hcK := own_setRow HD.out (encB (splice X1 4 (leInts s 6)))
    obtain ⟨X2, hX2⟩ : ∃ X, X = splice X1 4 (leInts s 6) := ⟨_, rfl⟩
    have hx2 : X2.length = 16 := by rw [hX2, splice_length _ _ _ (by rw [leInts_length, hx1]; decide), hx1]
    rw [← hX2] at hcK ⊢
    have HX2 := Lib.hid hX2
    have HC2 := Aside0.mk hcK
    clear hX2 hcK hcp HD
    generalize hW : World.setRow w3 G _ = w4 at HC2 ⊢
    clear hW
    go_upto_region 6 with (fail)
    clear x0 x1 x2 x3
    obtain ⟨x0, x1, x2, x3, _, _, _, _⟩ := cells4 HC2.out.drop.pt
    go_region_with (go_at_call 98; refine (tag_number.calls e 4 _ _ N3.out).mono ?_; rintro ee w3 ⟨rfl, hb3⟩; have HD := Aside0.mk (HC2.out.drew.move hb3); have hcp := copy_eq (g := G) (xs := X2) hx2 10 4 6 e HD.out.pt (by decide) (by decide); clear hb3)
    have hcK := own_setRow HD.out (encB (splice X2 10 (leInts e 4)))
    obtain ⟨X3, hX3⟩ : ∃ X, X = splice X2 10 (leInts e 4) := ⟨_, rfl⟩
    have hx3 : X3.length = 16 := by rw [hX3, splice_length _ _ _ (by rw [leInts_length, hx2]; decide), hx2]
    rw [← hX3] at hcK ⊢
    have HX3 := Lib.hid hX3
    have HC3 := Aside0.mk hcK
    clear hX3 hcK hcp HD
    generalize hW : World.setRow w3 G _ = w4 at HC3 ⊢
    clear hW
    have hrd := reads_encB HC3.out.pt (by omega)
    rw [hx3] at hrd
    have hcv := string_of_reads (P := Tryd.prog) (dst := 9) (c := 16) Tryd.underlying91 Tryd.underlying5 Tryd.underlying9 hrd
    have hfin : X3 = tagInts k l s e := by
      rw [HX3.out, HX2.out, HX1.out, HX0.out]
      have g1 := leInts_length l 2
      have g2 := leInts_length s 6
      have g3 := leInts_length e 4
      unfold tagInts splice
      rw [g1, g2, g3]
      generalize leInts l 2 = a at *
      generalize leInts s 6 = b at *
      generalize leInts e 4 = c at *
      match a, g1, b, g2, c, g3 with
      | [a0, a1], _, [b0, b1, b2, b3, b4, b5], _, [c0, c1, c2, c3], _ => rfl
    have HF := Lib.hid hfin
    clear hrd hfin x0 x1 x2 x3
    go_wp2_with fail
    go_ret2
    exact ⟨by rw [← HF.out]; rfl, HC3.out.below⟩
end Go.Proofs.YtliiploidjnmnaaDoor.PF
end

section
/- frame.Encode: the pages' bytes, chunk by chunk. -/
set_option linter.unusedVariables false
set_option linter.unusedSimpArgs false
namespace Go.Proofs.YtliiploidjnmnaaDoor.PF
open Go.RowKit Go.Shelf Go.Proofs.YtliiploidjnmnaaDoorW.PrintWords Go.Proofs.YtliiploidjnmnaaDoor.Mem Go.Proofs.YtliiploidjnmnaaDoor.Own Go.Proofs.YtliiploidjnmnaaDoor.Hw

/-- The first j chunks, with their checks. -/
def encAt (all : ByteArray) : Nat → Option ByteArray
  | 0 => some ⟨#[]⟩
  | j + 1 => (encAt all j).bind fun s => (ham_Encode.f (all.extract (8 * j) (8 * j + 8))).bind fun c => if s.size + c.1.size ≤ 140737488355328 then some (s ++ c.1) else none
theorem encAt_prev {all : ByteArray} {j : Nat} {r : ByteArray} (h : encAt all (j + 1) = some r) :
    ∃ s c d, encAt all j = some s ∧ ham_Encode.f (all.extract (8 * j) (8 * j + 8)) = some (c, d) ∧ s.size + c.size ≤ 140737488355328 ∧ r = s ++ c := by
  obtain ⟨s, hs, h⟩ := Option.bind_eq_some_iff.mp h
  obtain ⟨⟨c, d⟩, hc, h⟩ := Option.bind_eq_some_iff.mp h
  by_cases hl : s.size + c.size ≤ 140737488355328
  · rw [if_pos hl] at h
    exact ⟨s, c, d, hs, hc, hl, (Option.some.inj h).symm⟩
  · rw [if_neg hl] at h
    cases h
theorem encAt_le {all : ByteArray} (i : Nat) : ∀ (n : Nat) (r : ByteArray), encAt all n = some r → i ≤ n → ∃ s, encAt all i = some s
  | 0, r, h, hi => ⟨r, by rw [Nat.le_zero.1 hi]; exact h⟩
  | n + 1, r, h, hi => by
    rcases Nat.lt_or_ge n i with h1 | h1
    · have : i = n + 1 := by omega
      exact ⟨r, by rw [this]; exact h⟩
    · obtain ⟨s, _, _, hs, _⟩ := encAt_prev h
      exact encAt_le i n s hs h1
/-- Four noughts. -/
abbrev zero4 : ByteArray := ⟨#[0, 0, 0, 0]⟩
def frame_Encode.f (k l s e : Int) (a1 : ByteArray) : Option (ByteArray × Int) :=
  (frame_may.f (a1.size : Int)).bind fun m => if m = true then (tag_Encode.f k l s e).bind fun hd => if hd.2 = 0 then
    (if hd.1.size + a1.size ≤ 9223372036854775807 then (crc_Seal.f (hd.1 ++ a1)).bind fun sl => if sl.size ≤ 100000 ∧ (sl.size + 4) % 8 = 0 then (encAt (sl ++ zero4) ((sl.size + 4) / 8)).bind fun r => some (r, 0) else none else none)
    else some (⟨#[]⟩, hd.2) else some (⟨#[]⟩, 2)
theorem below_up {w w1 w2 : World} (h : Below w.heap.size w w1) (h2 : Below w1.heap.size w1 w2) : Below w.heap.size w w2 := below_step h h2
set_option maxHeartbeats 4000000 in
set_option maxRecDepth 100000 in
theorem frame_Encode.calls (k l s e : Int) (a1 : ByteArray) (r1 : ByteArray) (r2 : Int) (w : World) (h : frame_Encode.f k l s e a1 = some (r1, r2)) (HL : Aside0 (Laid w) := by first | exact HL | exact Hw.laid_at HL (by repeat (first | (with_reducible first | exact HB.out | apply below_alloc | apply pw_below_drewN | apply below_drew1) | exact HB.out | exact Below.refl _ _ | refine below_set ?_ (by apply Aside0.out; assumption)))) :
    Calls Tryd.prog 59 #[.agg #[.int .i64 k, .int .i64 l, .int .i64 s, .int .i64 e], .string a1] w fun ee w' => ee = .returned (.tuple #[.string r1, .int .i64 r2]) ∧ Below w.heap.size w w' := by
  unfold frame_Encode.f at h
  obtain ⟨m, hm, h⟩ := Option.bind_eq_some_iff.mp h
  have HM := Aside0.mk hm
  have HO := Aside0.mk ((Own.Own.new w).alloc (.cells #[.int .i64 k, .int .i64 l, .int .i64 s, .int .i64 e] 55))
  obtain ⟨BT, hBT⟩ : ∃ BT, BT = w.heap.size := ⟨_, rfl⟩
  rw [← hBT] at HO
  have HBT := Lib.hid hBT
  clear hBT hm
  cases m with
  | false =>
    simp only [Option.some.injEq, Prod.mk.injEq, Bool.false_eq_true, if_false] at h
    obtain ⟨rfl, rfl⟩ := h
    go_enter Tryd.func59, Tryd.ntmps59
    go_wp2_with fail
    refine (frame_may.calls _ _ _ HM.out).mono ?_
    rintro ee w1 ⟨rfl, hb⟩
    have HB := Aside0.mk (HO.out.move hb.below)
    clear hb
    go_wp2_with fail
    go_ret2
    exact ⟨rfl, HB.out.below⟩
  | true =>
    rw [if_pos rfl] at h
    obtain ⟨⟨hd, c⟩, ht, h⟩ := Option.bind_eq_some_iff.mp h
    have HT := Aside0.mk ht
    clear ht
    by_cases hc : c = 0
    · subst hc
      simp only [if_true] at h
      by_cases hs : hd.size + a1.size ≤ 9223372036854775807
      · rw [if_pos hs] at h
        obtain ⟨sl, hsl, h⟩ := Option.bind_eq_some_iff.mp h
        by_cases hn : sl.size ≤ 100000 ∧ (sl.size + 4) % 8 = 0
        · rw [if_pos hn] at h
          obtain ⟨r, hr, h⟩ := Option.bind_eq_some_iff.mp h
          simp only [Option.some.injEq, Prod.mk.injEq] at h
          obtain ⟨rfl, rfl⟩ := h
          obtain ⟨n, hn8⟩ : ∃ n, n = (sl.size + 4) / 8 := ⟨_, rfl⟩
          rw [← hn8] at hr
          obtain ⟨hn1, hn2⟩ := hn
          have hsz : sl.size + 4 = 8 * n := by omega
          have HN := Lib.hid hsz
          have HS := Aside0.mk hsl
          have HR := Aside0.mk hr
          have q1 : sl.size + 4 ≤ 9223372036854775807 := by omega
          have q2 : (9223372036854775807 < sl.size + 4) = False := eq_false (by omega)
          have q3 : (9223372036854775807 < hd.size + a1.size) = False := eq_false (by omega)
          have hn9 : n ≤ 20000 := by omega
          clear hsl hr hn1 hn2 hn8 hsz
          go_enter Tryd.func59, Tryd.ntmps59
          go_wp2_with fail
          rw [← HBT.out]
          refine (frame_may.calls _ _ _ HM.out).mono ?_
          rintro ee w1 ⟨rfl, hb⟩
          have HB := Aside0.mk (HO.out.move hb.below)
          clear hb
          obtain ⟨x0, x1, x2, x3, _, _, _, _⟩ := cells4 HB.out.pt
          go_wp2_with fail
          refine (tag_Encode.calls _ _ _ _ _ _ _ HT.out).mono ?_
          rintro ee w2 ⟨rfl, hb⟩
          have HB2 := Aside0.mk (HB.out.move hb).below
          clear hb x0 x1 x2 x3 HB HO
          have HB := HB2
          clear HB2
          go_wp2_with fail
          refine (crc_Seal.calls _ _ _ HS.out).mono ?_
          rintro ee w3 ⟨rfl, hb⟩
          have HB2 := Aside0.mk (below_up HB.out hb)
          clear hb HB
          have HB := HB2
          clear HB2
          have HBN := Aside0.mk (Bld.new (B := w.heap.size) (w := w3) HB.out.size)
          have hsa : (sl ++ zero4).size = 8 * n := by rw [ByteArray.size_append]; exact HN.out
          have hr2 := HR.out
          clear HR
          obtain ⟨al, hal⟩ : ∃ al, al = sl ++ zero4 := ⟨_, rfl⟩
          rw [← hal] at hsa hr2
          have HR := Aside0.mk hr2
          have HSA := Lib.hid hsa
          clear hsa hr2
          go_wp2_with fail
          change Code.wp _ _ _ _ (World.alloc _ _)
          simp only [← hal]
          clear hal
          go_loopw [10] (fun v10 wr => ∃ (i : Nat) (a : Int), i ≤ n ∧ a = 8 * (i : Int) ∧ ∃ x, v10 = .int .i64 a ∧ Aside0 (encAt al i = some x) ∧ Aside0 (Bld w.heap.size w3.heap.size x wr) ∧ Aside0 (Below w.heap.size w wr)) (fun v10 _ => 8 * n - (intOf v10).toNat)
          case atStart => exact ⟨0, 0, by omega, by omega, _, rfl, ⟨rfl⟩, HBN, ⟨HB.out.alloc HB.out.size _⟩⟩
          case round =>
            clear HBN HB
            obtain ⟨i, a, hi, ha, x, rfl, HX, HBN, HB⟩ := hrel
            by_cases hlt : i < n
            · obtain ⟨y, hy⟩ := encAt_le (i + 1) n r HR.out hlt
              obtain ⟨x', c, d, e1, e2, e3, e4⟩ := encAt_prev hy
              obtain rfl : x' = x := Option.some.inj (e1.symm.trans HX.out)
              subst e4
              have E2 := Aside0.mk e2
              have E3 := Lib.hid e3
              have HY := Aside0.mk hy
              have dl : decide (a < (al.size : Int)) = true := decide_eq_true (by have := HSA.out; omega)
              have dl2 : (a < (al.size : Int)) = True := eq_true (by have := HSA.out; omega)
              obtain ⟨b8, hb8⟩ : ∃ b8, b8 = a + 8 := ⟨_, rfl⟩
              have w8 : wrap64 (a + 8) = b8 := by rw [hb8]; unfold wrap64; have := HSA.out; omega
              have w9 : IntKind.i64.wrap (a + 8) = b8 := (Go.Proofs.YtliiploidjnmnaaDoorW.PrintLast.i64_w _).trans w8
              have f1 : (0 ≤ a) = True := eq_true (by omega)
              have f2 : (a ≤ b8) = True := eq_true (by omega)
              have f3 : (b8 ≤ (al.size : Int)) = True := eq_true (by have := HSA.out; omega)
              have g1 : a.toNat = 8 * i := by omega
              have g2 : b8.toNat = 8 * i + 8 := by omega
              have HA := Lib.hid ha
              have HB8 := Lib.hid hb8
              clear ha hb8 hy e1 e2 e3
              go_wp2_with fail
              refine (ham_Encode.calls _ _ _ _ E2.out).mono ?_
              rintro ee w5 ⟨rfl, hb⟩
              have HBN2 := Aside0.mk (HBN.out.below hb)
              have HB2 := Aside0.mk (below_up HB.out hb)
              clear hb HBN HB
              go_wp2_with fail
              refine (bld_str HBN2.out E3.out).mono ?_
              rintro ee w6 ⟨rfl, hb, hw⟩
              have HBN := Aside0.mk hb
              have HB := Aside0.mk (HB2.out.trans hw)
              clear hb hw HBN2 HB2
              go_wp2_with fail
              go_roundw
              case rel => exact ⟨i + 1, b8, by omega, by have := HA.out; have := HB8.out; omega, _, rfl, HY, HBN, HB⟩
              case measure => have := HA.out; have := HB8.out; simp [intOf]; omega
            · obtain rfl : i = n := by omega
              obtain rfl : x = r := Option.some.inj (HX.out.symm.trans HR.out)
              have dl : decide (a < (al.size : Int)) = false := decide_eq_false (by have := HSA.out; omega)
              have dl2 : (a < (al.size : Int)) = False := eq_false (by have := HSA.out; omega)
              have HA := Lib.hid ha
              clear ha
              go_wp2_with fail
              refine (bld_string HBN.out).mono ?_
              rintro ee w6 ⟨rfl, hw⟩
              have HY := Aside0.mk (HB.out.trans hw)
              clear hw
              go_wp2_with fail
              go_ret2
              exact ⟨rfl, HY.out⟩
        · rw [if_neg hn] at h
          cases h
      · rw [if_neg hs] at h
        cases h
    · rw [if_neg hc] at h
      simp only [Option.some.injEq, Prod.mk.injEq] at h
      obtain ⟨rfl, rfl⟩ := h
      have hcb : (c == 0) = false := by simpa using hc
      have hcb2 : (c != 0) = true := by simpa using hc
      go_enter Tryd.func59, Tryd.ntmps59
      go_wp2_with fail
      rw [← HBT.out]
      refine (frame_may.calls _ _ _ HM.out).mono ?_
      rintro ee w1 ⟨rfl, hb⟩
      have HB := Aside0.mk (HO.out.move hb.below)
      clear hb
      obtain ⟨x0, x1, x2, x3, _, _, _, _⟩ := cells4 HB.out.pt
      go_wp2_with fail
      refine (tag_Encode.calls _ _ _ _ _ _ _ HT.out).mono ?_
      rintro ee w2 ⟨rfl, hb⟩
      have HB2 := Aside0.mk (HB.out.move hb)
      clear hb x0 x1 x2 x3 HB
      go_wp2_with fail
      go_ret2
      exact ⟨rfl, HB2.out.below⟩
end Go.Proofs.YtliiploidjnmnaaDoor.PF
end

section
-- Written by a program (the kit's print.py, called by wip/bin/prseat.sh, mended by wip/bin/mend.py).
namespace Go.Proofs.YtliiploidjnmnaaDoor.PF
open Go.Proofs.YtliiploidjnmnaaDoor.Tf Go.RowKit Go.Proofs.YtliiploidjnmnaaDoorW.PrintWords Go.Proofs.YtliiploidjnmnaaDoorW.PrintLast Go.Proofs.YtliiploidjnmnaaDoorW.PrintMore
attribute [local go_sem] max2_int min2_int max_two min_two max_three min_three max_four min_four   -- for this text's walks alone
set_option linter.unusedVariables false
set_option linter.unusedSimpArgs false

/-! ### tag_Decode: function 77 -/
def tag_Decode.f (k : Nat) (a0 : ByteArray) : Option (Int × Int × Int × Int × Int) := if (a0.size : Int) = 16 then ((tag_part.f k a0 1 2).bind fun t409 => ((tag_part.f k a0 2 4).bind fun t410 => ((tag_part.f k a0 4 10).bind fun t411 => ((tag_part.f k a0 10 14).bind fun t412 => ((tag_Encode.f t409 t410 t411 t412).bind fun bt414 => (if bt414.2 = 0 then (if bt414.1.toList = a0.toList then (some (t409, t410, t411, t412, 0)) else (some (0, 0, 0, 0, 3))) else (some (0, 0, 0, 0, 3)))))))) else (some (0, 0, 0, 0, 3))
theorem tag_Decode.mono : ∀ a0 k, LeO (tag_Decode.f k a0) (tag_Decode.f (k + 1) a0) := by
  intro a0 k
  unfold tag_Decode.f
  repeat' first
      | (with_reducible exact tag_part.mono _ _ _ _)
      | (with_reducible exact LeO.refl _)
      | (with_reducible exact LeO.none _)
      | (with_reducible refine LeO.ite ?_ ?_)
      | (with_reducible refine LeO.bind ?_ (fun _ => ?_))
      | exact tag_part.mono _ _ _ _
      | exact LeO.none _
      | refine LeO.ite ?_ ?_
      | refine LeO.bind ?_ (fun _ => ?_)
set_option maxHeartbeats 8000000 in
set_option maxRecDepth 100000 in
theorem tag_Decode.calls (k : Nat) (a0 : ByteArray) (r1 : Int) (r2 : Int) (r3 : Int) (r4 : Int) (r5 : Int) (w : World) (h : tag_Decode.f k a0 = some (r1, r2, r3, r4, r5)) :
    Calls Tryd.prog 77 #[.string a0] w fun e w' => e = .returned (.tuple #[.agg #[.int .i64 r1, .int .i64 r2, .int .i64 r3, .int .i64 r4], .int .i64 r5]) ∧ Below w.heap.size w w' := by
  have hu55 := Tryd.underlying55
  have HB := Aside0.mk (Below.refl w.heap.size w)
  have H : (if (a0.size : Int) = 16 then ((tag_part.f k a0 1 2).bind fun t409 => ((tag_part.f k a0 2 4).bind fun t410 => ((tag_part.f k a0 4 10).bind fun t411 => ((tag_part.f k a0 10 14).bind fun t412 => ((tag_Encode.f t409 t410 t411 t412).bind fun bt414 => (if bt414.2 = 0 then (if bt414.1.toList = a0.toList then (some (t409, t410, t411, t412, 0)) else (some (0, 0, 0, 0, 3))) else (some (0, 0, 0, 0, 3)))))))) else (some (0, 0, 0, 0, 3))) = some (r1, r2, r3, r4, r5) := h
  clear h
  by_cases c2 : (a0.size : Int) = 16
  · rw [if_pos c2] at H
    have c2b0 : ((a0.size : Int) == 16) = true := beq_iff_eq.mpr c2
    have c2b1 : ((a0.size : Int) != 16) = false := bne_eq_false_iff_eq.mpr c2
    clear c2
    replace H := Option.bind_eq_some_iff.mp H
    obtain ⟨t409, A30, H⟩ := H
    replace H : ((tag_part.f k a0 2 4).bind fun t410 => ((tag_part.f k a0 4 10).bind fun t411 => ((tag_part.f k a0 10 14).bind fun t412 => ((tag_Encode.f t409 t410 t411 t412).bind fun bt414 => (if bt414.2 = 0 then (if bt414.1.toList = a0.toList then (some (t409, t410, t411, t412, 0)) else (some (0, 0, 0, 0, 3))) else (some (0, 0, 0, 0, 3))))))) = some (r1, r2, r3, r4, r5) := H
    have A3 := Aside0.mk A30
    clear A30
    replace H := Option.bind_eq_some_iff.mp H
    obtain ⟨t410, A40, H⟩ := H
    replace H : ((tag_part.f k a0 4 10).bind fun t411 => ((tag_part.f k a0 10 14).bind fun t412 => ((tag_Encode.f t409 t410 t411 t412).bind fun bt414 => (if bt414.2 = 0 then (if bt414.1.toList = a0.toList then (some (t409, t410, t411, t412, 0)) else (some (0, 0, 0, 0, 3))) else (some (0, 0, 0, 0, 3)))))) = some (r1, r2, r3, r4, r5) := H
    have A4 := Aside0.mk A40
    clear A40
    replace H := Option.bind_eq_some_iff.mp H
    obtain ⟨t411, A50, H⟩ := H
    replace H : ((tag_part.f k a0 10 14).bind fun t412 => ((tag_Encode.f t409 t410 t411 t412).bind fun bt414 => (if bt414.2 = 0 then (if bt414.1.toList = a0.toList then (some (t409, t410, t411, t412, 0)) else (some (0, 0, 0, 0, 3))) else (some (0, 0, 0, 0, 3))))) = some (r1, r2, r3, r4, r5) := H
    have A5 := Aside0.mk A50
    clear A50
    replace H := Option.bind_eq_some_iff.mp H
    obtain ⟨t412, A60, H⟩ := H
    replace H : ((tag_Encode.f t409 t410 t411 t412).bind fun bt414 => (if bt414.2 = 0 then (if bt414.1.toList = a0.toList then (some (t409, t410, t411, t412, 0)) else (some (0, 0, 0, 0, 3))) else (some (0, 0, 0, 0, 3)))) = some (r1, r2, r3, r4, r5) := H
    have A6 := Aside0.mk A60
    clear A60
    replace H := Option.bind_eq_some_iff.mp H
    obtain ⟨⟨t414, t415⟩, A70, H⟩ := H
    replace H : (if t415 = 0 then (if t414.toList = a0.toList then (some (t409, t410, t411, t412, 0)) else (some (0, 0, 0, 0, 3))) else (some (0, 0, 0, 0, 3))) = some (r1, r2, r3, r4, r5) := H
    have A7 := Aside0.mk A70
    clear A70
    by_cases c8 : t415 = 0
    · rw [if_pos c8] at H
      have c8b0 : (t415 == 0) = true := beq_iff_eq.mpr c8
      have c8b1 : (t415 != 0) = false := bne_eq_false_iff_eq.mpr c8
      clear c8
      by_cases c9 : t414.toList = a0.toList
      · rw [if_pos c9] at H
        have c9b0 : (t414.toList == a0.toList) = true := beq_iff_eq.mpr c9
        have c9b1 : (t414.toList != a0.toList) = false := bne_eq_false_iff_eq.mpr c9
        clear c9
        simp only [Option.some.injEq, Prod.mk.injEq] at H
        obtain ⟨rfl, rfl, rfl, rfl, rfl⟩ := H
        go_enter Tryd.func77, Tryd.ntmps77
        go_wp2_with (first | ((with_reducible refine gate_dst (N := 2) rfl ?_); refine box_event ?hg (N := 2) ?hd (cs := #[.int .i64 0, .int .i64 0, .int .i64 0, .int .i64 0]) (t := 55) ?hr ?_; (case hd => rfl); (case hg => rfl); (case hr => first | (go_simp; done) | (go_simp; rfl)); intro gb408 hg w10 hbox hb; have n0_ := Aside0.mk (below_step (by repeat (first | (with_reducible first | exact HB.out | apply below_alloc | apply pw_below_drewN | apply below_drew1) | exact HB.out)) hb); have n1_ := Aside0.mk (hbox); have n2_ := Aside0.mk ((by rw [hg]; exact (below_size (by repeat (first | (with_reducible first | exact HB.out | apply below_alloc | apply pw_below_drewN | apply below_drew1) | exact HB.out))) : w.heap.size ≤ gb408)); have n3_ := Aside0.mk ((by rw [hg]; exact (below_size (by repeat (first | (with_reducible first | exact HB.out | apply below_alloc | apply pw_below_drewN | apply below_drew1) | exact HB.out))) : w.heap.size ≤ gb408)); clear HB; have HB := n0_; have BK408 := n1_; have GW408 := n2_; have GE408 := n3_; clear n0_ n1_ n2_ n3_; clear hb hbox hg) | ((with_reducible refine gate_callee (f := 96) rfl ?_); refine goesL_ (some 12) rfl rfl Tryd.func96 (by kernel_rfl) rfl #[.string a0, .int .i64 1, .int .i64 2] rfl (by (try simp only [List.map_toArray, List.map_cons, List.map_nil]); first | done | rfl | (simp only [List.length_drop, List.length_take]; rfl)) ?_; (with_reducible refine (tag_part.calls k a0 1 2 t409 _ A3.out).mono ?_); rintro e w' ⟨rfl, ⟨nd, rfl⟩⟩; refine ⟨_, rfl, ?_⟩; (try (rw [drewN_self w10]; generalize hq_ : World.drewN w10 _ = w10; have n0_ : Aside0 (w10.heap[gb408]? = some (.cells #[.int .i64 0, .int .i64 0, .int .i64 0, .int .i64 0] 55 (0, 0))) := ⟨by rw [← hq_]; exact (by (with_reducible repeat (first | refine blk_drewN ?_ _ | refine blk_drew ?_ | refine blk_alloc ?_ _)); exact BK408.out)⟩; have n1_ : Aside0 (Below w.heap.size w w10) := ⟨by rw [← hq_]; exact (by repeat (first | (with_reducible first | exact HB.out | apply below_alloc | apply pw_below_drewN | apply below_drew1 | refine below_set ?_ GE408.out) | exact HB.out))⟩; clear BK408 HB hq_; have BK408 := n0_; have HB := n1_; clear n0_ n1_))) | ((with_reducible refine gate_callee (f := 96) rfl ?_); refine goesL_ (some 14) rfl rfl Tryd.func96 (by kernel_rfl) rfl #[.string a0, .int .i64 2, .int .i64 4] rfl (by (try simp only [List.map_toArray, List.map_cons, List.map_nil]); first | done | rfl | (simp only [List.length_drop, List.length_take]; rfl)) ?_; (with_reducible refine (tag_part.calls k a0 2 4 t410 _ A4.out).mono ?_); rintro e w' ⟨rfl, ⟨nd, rfl⟩⟩; refine ⟨_, rfl, ?_⟩; (try (rw [drewN_self w10]; generalize hq_ : World.drewN w10 _ = w10; have n0_ : Aside0 (w10.heap[gb408]? = some (.cells #[.int .i64 0, .int .i64 0, .int .i64 0, .int .i64 0] 55 (0, 0))) := ⟨by rw [← hq_]; exact (by (with_reducible repeat (first | refine blk_drewN ?_ _ | refine blk_drew ?_ | refine blk_alloc ?_ _)); exact BK408.out)⟩; have n1_ : Aside0 (Below w.heap.size w w10) := ⟨by rw [← hq_]; exact (by repeat (first | (with_reducible first | exact HB.out | apply below_alloc | apply pw_below_drewN | apply below_drew1 | refine below_set ?_ GE408.out) | exact HB.out))⟩; clear BK408 HB hq_; have BK408 := n0_; have HB := n1_; clear n0_ n1_))) | ((with_reducible refine gate_callee (f := 96) rfl ?_); refine goesL_ (some 16) rfl rfl Tryd.func96 (by kernel_rfl) rfl #[.string a0, .int .i64 4, .int .i64 10] rfl (by (try simp only [List.map_toArray, List.map_cons, List.map_nil]); first | done | rfl | (simp only [List.length_drop, List.length_take]; rfl)) ?_; (with_reducible refine (tag_part.calls k a0 4 10 t411 _ A5.out).mono ?_); rintro e w' ⟨rfl, ⟨nd, rfl⟩⟩; refine ⟨_, rfl, ?_⟩; (try (rw [drewN_self w10]; generalize hq_ : World.drewN w10 _ = w10; have n0_ : Aside0 (w10.heap[gb408]? = some (.cells #[.int .i64 0, .int .i64 0, .int .i64 0, .int .i64 0] 55 (0, 0))) := ⟨by rw [← hq_]; exact (by (with_reducible repeat (first | refine blk_drewN ?_ _ | refine blk_drew ?_ | refine blk_alloc ?_ _)); exact BK408.out)⟩; have n1_ : Aside0 (Below w.heap.size w w10) := ⟨by rw [← hq_]; exact (by repeat (first | (with_reducible first | exact HB.out | apply below_alloc | apply pw_below_drewN | apply below_drew1 | refine below_set ?_ GE408.out) | exact HB.out))⟩; clear BK408 HB hq_; have BK408 := n0_; have HB := n1_; clear n0_ n1_))) | ((with_reducible refine gate_callee (f := 96) rfl ?_); refine goesL_ (some 18) rfl rfl Tryd.func96 (by kernel_rfl) rfl #[.string a0, .int .i64 10, .int .i64 14] rfl (by (try simp only [List.map_toArray, List.map_cons, List.map_nil]); first | done | rfl | (simp only [List.length_drop, List.length_take]; rfl)) ?_; (with_reducible refine (tag_part.calls k a0 10 14 t412 _ A6.out).mono ?_); rintro e w' ⟨rfl, ⟨nd, rfl⟩⟩; refine ⟨_, rfl, ?_⟩; (try (rw [drewN_self w10]; generalize hq_ : World.drewN w10 _ = w10; have n0_ : Aside0 (w10.heap[gb408]? = some (.cells #[.int .i64 0, .int .i64 0, .int .i64 0, .int .i64 0] 55 (0, 0))) := ⟨by rw [← hq_]; exact (by (with_reducible repeat (first | refine blk_drewN ?_ _ | refine blk_drew ?_ | refine blk_alloc ?_ _)); exact BK408.out)⟩; have n1_ : Aside0 (Below w.heap.size w w10) := ⟨by rw [← hq_]; exact (by repeat (first | (with_reducible first | exact HB.out | apply below_alloc | apply pw_below_drewN | apply below_drew1 | refine below_set ?_ GE408.out) | exact HB.out))⟩; clear BK408 HB hq_; have BK408 := n0_; have HB := n1_; clear n0_ n1_))) | ((with_reducible refine gate_dst (N := 4) rfl ?_); refine box_event ?hg (N := 4) ?hd (cs := #[.int .i64 0, .int .i64 0, .int .i64 0, .int .i64 0]) (t := 55) ?hr ?_; (case hd => rfl); (case hg => rfl); (case hr => first | (go_simp; done) | (go_simp; rfl)); intro gb413 hg w11 hbox hb; have n0_ := Aside0.mk (blk_below (g := gb408) (o := .cells #[.int .i64 0, .int .i64 0, .int .i64 0, .int .i64 0] 55 (0, 0)) (by (with_reducible repeat (first | refine blk_drewN ?_ _ | refine blk_drew ?_ | refine blk_alloc ?_ _)); exact BK408.out) hb); have n1_ := Aside0.mk (below_step (by repeat (first | (with_reducible first | exact HB.out | apply below_alloc | apply pw_below_drewN | apply below_drew1 | refine below_set ?_ GE408.out) | exact HB.out)) hb); have n2_ := Aside0.mk (hbox); have n3_ := Aside0.mk ((by rw [hg]; exact (below_size (by repeat (first | (with_reducible first | exact HB.out | apply below_alloc | apply pw_below_drewN | apply below_drew1 | refine below_set ?_ GE408.out) | exact HB.out))) : w.heap.size ≤ gb413)); have n4_ := Aside0.mk ((by rw [hg]; exact (below_size (by repeat (first | (with_reducible first | exact HB.out | apply below_alloc | apply pw_below_drewN | apply below_drew1 | refine below_set ?_ GE408.out) | exact HB.out))) : w.heap.size ≤ gb413)); have n5_ := Aside0.mk ((by rw [hg]; exact Nat.ne_of_lt (blk_lt (g := gb408) (o := .cells #[.int .i64 0, .int .i64 0, .int .i64 0, .int .i64 0] 55 (0, 0)) (by (with_reducible repeat (first | refine blk_drewN ?_ _ | refine blk_drew ?_ | refine blk_alloc ?_ _)); exact BK408.out)) : gb408 ≠ gb413)); have n6_ := Aside0.mk ((by rw [hg]; exact Nat.ne_of_gt (blk_lt (g := gb408) (o := .cells #[.int .i64 0, .int .i64 0, .int .i64 0, .int .i64 0] 55 (0, 0)) (by (with_reducible repeat (first | refine blk_drewN ?_ _ | refine blk_drew ?_ | refine blk_alloc ?_ _)); exact BK408.out)) : gb413 ≠ gb408)); clear BK408; clear HB; have BK408 := n0_; have HB := n1_; have BK413 := n2_; have GW413 := n3_; have GE413 := n4_; have NB408_413 := n5_; have NB413_408 := n6_; clear n0_ n1_ n2_ n3_ n4_ n5_ n6_; clear hb hbox hg; have hnb12 := NB413_408.out; have hnc12 := NB408_413.out; have hcz13_0 : w11.cell? ⟨gb413, 0, none⟩ = some (.int .i64 0) := (blk_cell BK413.out 0).trans rfl; have hcz13_1 : w11.cell? ⟨gb413, 1, none⟩ = some (.int .i64 0) := (blk_cell BK413.out 1).trans rfl; have hcz13_2 : w11.cell? ⟨gb413, 2, none⟩ = some (.int .i64 0) := (blk_cell BK413.out 2).trans rfl; have hcz13_3 : w11.cell? ⟨gb413, 3, none⟩ = some (.int .i64 0) := (blk_cell BK413.out 3).trans rfl; have hfz13_0 := blk_frozen BK413.out 0; have hfz13_1 := blk_frozen BK413.out 1; have hfz13_2 := blk_frozen BK413.out 2; have hfz13_3 := blk_frozen BK413.out 3) | ((with_reducible refine gate_callee (f := 78) rfl ?_); refine goesL_ (some 22) rfl rfl Tryd.func78 (by kernel_rfl) rfl #[.agg #[.int .i64 t409, .int .i64 t410, .int .i64 t411, .int .i64 t412]] rfl (by (try simp only [List.map_toArray, List.map_cons, List.map_nil]); first | done | rfl | (simp only [List.length_drop, List.length_take]; rfl)) ?_; (with_reducible refine (tag_Encode.calls t409 t410 t411 t412 t414 t415 _ A7.out).mono ?_); rintro e w14 ⟨rfl, hb⟩; refine ⟨_, rfl, ?_⟩; have n0_ := Aside0.mk (blk_below (g := gb408) (o := .cells #[.int .i64 0, .int .i64 0, .int .i64 0, .int .i64 0] 55 (0, 0)) (by (with_reducible repeat (first | refine blk_drewN ?_ _ | refine blk_drew ?_ | refine blk_alloc ?_ _)); refine blk_far ?_ NB408_413.out _; (with_reducible repeat (first | refine blk_drewN ?_ _ | refine blk_drew ?_ | refine blk_alloc ?_ _)); refine blk_far ?_ NB408_413.out _; (with_reducible repeat (first | refine blk_drewN ?_ _ | refine blk_drew ?_ | refine blk_alloc ?_ _)); refine blk_far ?_ NB408_413.out _; (with_reducible repeat (first | refine blk_drewN ?_ _ | refine blk_drew ?_ | refine blk_alloc ?_ _)); refine blk_far ?_ NB408_413.out _; (with_reducible repeat (first | refine blk_drewN ?_ _ | refine blk_drew ?_ | refine blk_alloc ?_ _)); exact BK408.out) hb); have n1_ := Aside0.mk (blk_below (g := gb413) (o := .cells #[.int .i64 t409, .int .i64 t410, .int .i64 t411, .int .i64 t412] 55 (0, 0)) (by (with_reducible repeat (first | refine blk_drewN ?_ _ | refine blk_drew ?_ | refine blk_alloc ?_ _)); refine blk_put (cs := #[.int .i64 t409, .int .i64 t410, .int .i64 t411, .int .i64 0]) ?_ 3 _ rfl; (with_reducible repeat (first | refine blk_drewN ?_ _ | refine blk_drew ?_ | refine blk_alloc ?_ _)); refine blk_put (cs := #[.int .i64 t409, .int .i64 t410, .int .i64 0, .int .i64 0]) ?_ 2 _ rfl; (with_reducible repeat (first | refine blk_drewN ?_ _ | refine blk_drew ?_ | refine blk_alloc ?_ _)); refine blk_put (cs := #[.int .i64 t409, .int .i64 0, .int .i64 0, .int .i64 0]) ?_ 1 _ rfl; (with_reducible repeat (first | refine blk_drewN ?_ _ | refine blk_drew ?_ | refine blk_alloc ?_ _)); refine blk_put (cs := #[.int .i64 0, .int .i64 0, .int .i64 0, .int .i64 0]) ?_ 0 _ rfl; (with_reducible repeat (first | refine blk_drewN ?_ _ | refine blk_drew ?_ | refine blk_alloc ?_ _)); exact BK413.out) hb); have n2_ := Aside0.mk (below_step (by repeat (first | (with_reducible first | exact HB.out | apply below_alloc | apply pw_below_drewN | apply below_drew1 | refine below_set ?_ GE408.out | refine below_set ?_ GE413.out) | exact HB.out)) hb); clear BK408; clear BK413; clear HB; have BK408 := n0_; have BK413 := n1_; have HB := n2_; clear n0_ n1_ n2_; (try clear hb); (try clear hb2); (try clear hk); (try clear hi); have hcz15_0 : w14.cell? ⟨gb413, 0, none⟩ = some (.int .i64 t409) := (blk_cell BK413.out 0).trans rfl; have hcz15_1 : w14.cell? ⟨gb413, 1, none⟩ = some (.int .i64 t410) := (blk_cell BK413.out 1).trans rfl; have hcz15_2 : w14.cell? ⟨gb413, 2, none⟩ = some (.int .i64 t411) := (blk_cell BK413.out 2).trans rfl; have hcz15_3 : w14.cell? ⟨gb413, 3, none⟩ = some (.int .i64 t412) := (blk_cell BK413.out 3).trans rfl; have hfz15_0 := blk_frozen BK413.out 0; have hfz15_1 := blk_frozen BK413.out 1; have hfz15_2 := blk_frozen BK413.out 2; have hfz15_3 := blk_frozen BK413.out 3; have hcz16_0 : w14.cell? ⟨gb408, 0, none⟩ = some (.int .i64 0) := (blk_cell BK408.out 0).trans rfl; have hcz16_1 : w14.cell? ⟨gb408, 1, none⟩ = some (.int .i64 0) := (blk_cell BK408.out 1).trans rfl; have hcz16_2 : w14.cell? ⟨gb408, 2, none⟩ = some (.int .i64 0) := (blk_cell BK408.out 2).trans rfl; have hcz16_3 : w14.cell? ⟨gb408, 3, none⟩ = some (.int .i64 0) := (blk_cell BK408.out 3).trans rfl; have hfz16_0 := blk_frozen BK408.out 0; have hfz16_1 := blk_frozen BK408.out 1; have hfz16_2 := blk_frozen BK408.out 2; have hfz16_3 := blk_frozen BK408.out 3))
        refine bodyPost_ret (results_ct rfl _ _ gb408 55 #[.int .i64 t409, .int .i64 t410, .int .i64 t411, .int .i64 t412] (0, 0) _ rfl (by (with_reducible repeat (first | refine blk_drewN ?_ _ | refine blk_drew ?_ | refine blk_alloc ?_ _)); refine blk_put (cs := #[.int .i64 t409, .int .i64 t410, .int .i64 t411, .int .i64 0]) ?_ 3 _ rfl; (with_reducible repeat (first | refine blk_drewN ?_ _ | refine blk_drew ?_ | refine blk_alloc ?_ _)); refine blk_put (cs := #[.int .i64 t409, .int .i64 t410, .int .i64 0, .int .i64 0]) ?_ 2 _ rfl; (with_reducible repeat (first | refine blk_drewN ?_ _ | refine blk_drew ?_ | refine blk_alloc ?_ _)); refine blk_put (cs := #[.int .i64 t409, .int .i64 0, .int .i64 0, .int .i64 0]) ?_ 1 _ rfl; (with_reducible repeat (first | refine blk_drewN ?_ _ | refine blk_drew ?_ | refine blk_alloc ?_ _)); refine blk_put (cs := #[.int .i64 0, .int .i64 0, .int .i64 0, .int .i64 0]) ?_ 0 _ rfl; (with_reducible repeat (first | refine blk_drewN ?_ _ | refine blk_drew ?_ | refine blk_alloc ?_ _)); exact BK408.out) Tryd.underlying55 rfl (by kernel_rfl)) rfl ?_
        exact ⟨by first | rfl | (simp [errW_none, errW_some] <;> rfl) | (simp [*, errW_none, errW_some] <;> rfl), by repeat (first | (with_reducible first | exact HB.out | apply below_alloc | apply pw_below_drewN | apply below_drew1 | refine below_set ?_ GE408.out | refine below_set ?_ GE413.out) | exact HB.out)⟩
      · rw [if_neg c9] at H
        have c9b0 : (t414.toList == a0.toList) = false := beq_eq_false_iff_ne.mpr c9
        have c9b1 : (t414.toList != a0.toList) = true := bne_iff_ne.mpr c9
        simp only [Option.some.injEq, Prod.mk.injEq] at H
        obtain ⟨rfl, rfl, rfl, rfl, rfl⟩ := H
        go_enter Tryd.func77, Tryd.ntmps77
        go_wp2_with (first | ((with_reducible refine gate_dst (N := 2) rfl ?_); refine box_event ?hg (N := 2) ?hd (cs := #[.int .i64 0, .int .i64 0, .int .i64 0, .int .i64 0]) (t := 55) ?hr ?_; (case hd => rfl); (case hg => rfl); (case hr => first | (go_simp; done) | (go_simp; rfl)); intro gb408 hg w17 hbox hb; have n0_ := Aside0.mk (below_step (by repeat (first | (with_reducible first | exact HB.out | apply below_alloc | apply pw_below_drewN | apply below_drew1) | exact HB.out)) hb); have n1_ := Aside0.mk (hbox); have n2_ := Aside0.mk ((by rw [hg]; exact (below_size (by repeat (first | (with_reducible first | exact HB.out | apply below_alloc | apply pw_below_drewN | apply below_drew1) | exact HB.out))) : w.heap.size ≤ gb408)); have n3_ := Aside0.mk ((by rw [hg]; exact (below_size (by repeat (first | (with_reducible first | exact HB.out | apply below_alloc | apply pw_below_drewN | apply below_drew1) | exact HB.out))) : w.heap.size ≤ gb408)); clear HB; have HB := n0_; have BK408 := n1_; have GW408 := n2_; have GE408 := n3_; clear n0_ n1_ n2_ n3_; clear hb hbox hg) | ((with_reducible refine gate_callee (f := 96) rfl ?_); refine goesL_ (some 12) rfl rfl Tryd.func96 (by kernel_rfl) rfl #[.string a0, .int .i64 1, .int .i64 2] rfl (by (try simp only [List.map_toArray, List.map_cons, List.map_nil]); first | done | rfl | (simp only [List.length_drop, List.length_take]; rfl)) ?_; (with_reducible refine (tag_part.calls k a0 1 2 t409 _ A3.out).mono ?_); rintro e w' ⟨rfl, ⟨nd, rfl⟩⟩; refine ⟨_, rfl, ?_⟩; (try (rw [drewN_self w17]; generalize hq_ : World.drewN w17 _ = w17; have n0_ : Aside0 (w17.heap[gb408]? = some (.cells #[.int .i64 0, .int .i64 0, .int .i64 0, .int .i64 0] 55 (0, 0))) := ⟨by rw [← hq_]; exact (by (with_reducible repeat (first | refine blk_drewN ?_ _ | refine blk_drew ?_ | refine blk_alloc ?_ _)); exact BK408.out)⟩; have n1_ : Aside0 (Below w.heap.size w w17) := ⟨by rw [← hq_]; exact (by repeat (first | (with_reducible first | exact HB.out | apply below_alloc | apply pw_below_drewN | apply below_drew1 | refine below_set ?_ GE408.out) | exact HB.out))⟩; clear BK408 HB hq_; have BK408 := n0_; have HB := n1_; clear n0_ n1_))) | ((with_reducible refine gate_callee (f := 96) rfl ?_); refine goesL_ (some 14) rfl rfl Tryd.func96 (by kernel_rfl) rfl #[.string a0, .int .i64 2, .int .i64 4] rfl (by (try simp only [List.map_toArray, List.map_cons, List.map_nil]); first | done | rfl | (simp only [List.length_drop, List.length_take]; rfl)) ?_; (with_reducible refine (tag_part.calls k a0 2 4 t410 _ A4.out).mono ?_); rintro e w' ⟨rfl, ⟨nd, rfl⟩⟩; refine ⟨_, rfl, ?_⟩; (try (rw [drewN_self w17]; generalize hq_ : World.drewN w17 _ = w17; have n0_ : Aside0 (w17.heap[gb408]? = some (.cells #[.int .i64 0, .int .i64 0, .int .i64 0, .int .i64 0] 55 (0, 0))) := ⟨by rw [← hq_]; exact (by (with_reducible repeat (first | refine blk_drewN ?_ _ | refine blk_drew ?_ | refine blk_alloc ?_ _)); exact BK408.out)⟩; have n1_ : Aside0 (Below w.heap.size w w17) := ⟨by rw [← hq_]; exact (by repeat (first | (with_reducible first | exact HB.out | apply below_alloc | apply pw_below_drewN | apply below_drew1 | refine below_set ?_ GE408.out) | exact HB.out))⟩; clear BK408 HB hq_; have BK408 := n0_; have HB := n1_; clear n0_ n1_))) | ((with_reducible refine gate_callee (f := 96) rfl ?_); refine goesL_ (some 16) rfl rfl Tryd.func96 (by kernel_rfl) rfl #[.string a0, .int .i64 4, .int .i64 10] rfl (by (try simp only [List.map_toArray, List.map_cons, List.map_nil]); first | done | rfl | (simp only [List.length_drop, List.length_take]; rfl)) ?_; (with_reducible refine (tag_part.calls k a0 4 10 t411 _ A5.out).mono ?_); rintro e w' ⟨rfl, ⟨nd, rfl⟩⟩; refine ⟨_, rfl, ?_⟩; (try (rw [drewN_self w17]; generalize hq_ : World.drewN w17 _ = w17; have n0_ : Aside0 (w17.heap[gb408]? = some (.cells #[.int .i64 0, .int .i64 0, .int .i64 0, .int .i64 0] 55 (0, 0))) := ⟨by rw [← hq_]; exact (by (with_reducible repeat (first | refine blk_drewN ?_ _ | refine blk_drew ?_ | refine blk_alloc ?_ _)); exact BK408.out)⟩; have n1_ : Aside0 (Below w.heap.size w w17) := ⟨by rw [← hq_]; exact (by repeat (first | (with_reducible first | exact HB.out | apply below_alloc | apply pw_below_drewN | apply below_drew1 | refine below_set ?_ GE408.out) | exact HB.out))⟩; clear BK408 HB hq_; have BK408 := n0_; have HB := n1_; clear n0_ n1_))) | ((with_reducible refine gate_callee (f := 96) rfl ?_); refine goesL_ (some 18) rfl rfl Tryd.func96 (by kernel_rfl) rfl #[.string a0, .int .i64 10, .int .i64 14] rfl (by (try simp only [List.map_toArray, List.map_cons, List.map_nil]); first | done | rfl | (simp only [List.length_drop, List.length_take]; rfl)) ?_; (with_reducible refine (tag_part.calls k a0 10 14 t412 _ A6.out).mono ?_); rintro e w' ⟨rfl, ⟨nd, rfl⟩⟩; refine ⟨_, rfl, ?_⟩; (try (rw [drewN_self w17]; generalize hq_ : World.drewN w17 _ = w17; have n0_ : Aside0 (w17.heap[gb408]? = some (.cells #[.int .i64 0, .int .i64 0, .int .i64 0, .int .i64 0] 55 (0, 0))) := ⟨by rw [← hq_]; exact (by (with_reducible repeat (first | refine blk_drewN ?_ _ | refine blk_drew ?_ | refine blk_alloc ?_ _)); exact BK408.out)⟩; have n1_ : Aside0 (Below w.heap.size w w17) := ⟨by rw [← hq_]; exact (by repeat (first | (with_reducible first | exact HB.out | apply below_alloc | apply pw_below_drewN | apply below_drew1 | refine below_set ?_ GE408.out) | exact HB.out))⟩; clear BK408 HB hq_; have BK408 := n0_; have HB := n1_; clear n0_ n1_))) | ((with_reducible refine gate_dst (N := 4) rfl ?_); refine box_event ?hg (N := 4) ?hd (cs := #[.int .i64 0, .int .i64 0, .int .i64 0, .int .i64 0]) (t := 55) ?hr ?_; (case hd => rfl); (case hg => rfl); (case hr => first | (go_simp; done) | (go_simp; rfl)); intro gb413 hg w18 hbox hb; have n0_ := Aside0.mk (blk_below (g := gb408) (o := .cells #[.int .i64 0, .int .i64 0, .int .i64 0, .int .i64 0] 55 (0, 0)) (by (with_reducible repeat (first | refine blk_drewN ?_ _ | refine blk_drew ?_ | refine blk_alloc ?_ _)); exact BK408.out) hb); have n1_ := Aside0.mk (below_step (by repeat (first | (with_reducible first | exact HB.out | apply below_alloc | apply pw_below_drewN | apply below_drew1 | refine below_set ?_ GE408.out) | exact HB.out)) hb); have n2_ := Aside0.mk (hbox); have n3_ := Aside0.mk ((by rw [hg]; exact (below_size (by repeat (first | (with_reducible first | exact HB.out | apply below_alloc | apply pw_below_drewN | apply below_drew1 | refine below_set ?_ GE408.out) | exact HB.out))) : w.heap.size ≤ gb413)); have n4_ := Aside0.mk ((by rw [hg]; exact (below_size (by repeat (first | (with_reducible first | exact HB.out | apply below_alloc | apply pw_below_drewN | apply below_drew1 | refine below_set ?_ GE408.out) | exact HB.out))) : w.heap.size ≤ gb413)); have n5_ := Aside0.mk ((by rw [hg]; exact Nat.ne_of_lt (blk_lt (g := gb408) (o := .cells #[.int .i64 0, .int .i64 0, .int .i64 0, .int .i64 0] 55 (0, 0)) (by (with_reducible repeat (first | refine blk_drewN ?_ _ | refine blk_drew ?_ | refine blk_alloc ?_ _)); exact BK408.out)) : gb408 ≠ gb413)); have n6_ := Aside0.mk ((by rw [hg]; exact Nat.ne_of_gt (blk_lt (g := gb408) (o := .cells #[.int .i64 0, .int .i64 0, .int .i64 0, .int .i64 0] 55 (0, 0)) (by (with_reducible repeat (first | refine blk_drewN ?_ _ | refine blk_drew ?_ | refine blk_alloc ?_ _)); exact BK408.out)) : gb413 ≠ gb408)); clear BK408; clear HB; have BK408 := n0_; have HB := n1_; have BK413 := n2_; have GW413 := n3_; have GE413 := n4_; have NB408_413 := n5_; have NB413_408 := n6_; clear n0_ n1_ n2_ n3_ n4_ n5_ n6_; clear hb hbox hg; have hnb19 := NB413_408.out; have hnc19 := NB408_413.out; have hcz20_0 : w18.cell? ⟨gb413, 0, none⟩ = some (.int .i64 0) := (blk_cell BK413.out 0).trans rfl; have hcz20_1 : w18.cell? ⟨gb413, 1, none⟩ = some (.int .i64 0) := (blk_cell BK413.out 1).trans rfl; have hcz20_2 : w18.cell? ⟨gb413, 2, none⟩ = some (.int .i64 0) := (blk_cell BK413.out 2).trans rfl; have hcz20_3 : w18.cell? ⟨gb413, 3, none⟩ = some (.int .i64 0) := (blk_cell BK413.out 3).trans rfl; have hfz20_0 := blk_frozen BK413.out 0; have hfz20_1 := blk_frozen BK413.out 1; have hfz20_2 := blk_frozen BK413.out 2; have hfz20_3 := blk_frozen BK413.out 3) | ((with_reducible refine gate_callee (f := 78) rfl ?_); refine goesL_ (some 22) rfl rfl Tryd.func78 (by kernel_rfl) rfl #[.agg #[.int .i64 t409, .int .i64 t410, .int .i64 t411, .int .i64 t412]] rfl (by (try simp only [List.map_toArray, List.map_cons, List.map_nil]); first | done | rfl | (simp only [List.length_drop, List.length_take]; rfl)) ?_; (with_reducible refine (tag_Encode.calls t409 t410 t411 t412 t414 t415 _ A7.out).mono ?_); rintro e w21 ⟨rfl, hb⟩; refine ⟨_, rfl, ?_⟩; have n0_ := Aside0.mk (blk_below (g := gb408) (o := .cells #[.int .i64 0, .int .i64 0, .int .i64 0, .int .i64 0] 55 (0, 0)) (by (with_reducible repeat (first | refine blk_drewN ?_ _ | refine blk_drew ?_ | refine blk_alloc ?_ _)); refine blk_far ?_ NB408_413.out _; (with_reducible repeat (first | refine blk_drewN ?_ _ | refine blk_drew ?_ | refine blk_alloc ?_ _)); refine blk_far ?_ NB408_413.out _; (with_reducible repeat (first | refine blk_drewN ?_ _ | refine blk_drew ?_ | refine blk_alloc ?_ _)); refine blk_far ?_ NB408_413.out _; (with_reducible repeat (first | refine blk_drewN ?_ _ | refine blk_drew ?_ | refine blk_alloc ?_ _)); refine blk_far ?_ NB408_413.out _; (with_reducible repeat (first | refine blk_drewN ?_ _ | refine blk_drew ?_ | refine blk_alloc ?_ _)); exact BK408.out) hb); have n1_ := Aside0.mk (blk_below (g := gb413) (o := .cells #[.int .i64 t409, .int .i64 t410, .int .i64 t411, .int .i64 t412] 55 (0, 0)) (by (with_reducible repeat (first | refine blk_drewN ?_ _ | refine blk_drew ?_ | refine blk_alloc ?_ _)); refine blk_put (cs := #[.int .i64 t409, .int .i64 t410, .int .i64 t411, .int .i64 0]) ?_ 3 _ rfl; (with_reducible repeat (first | refine blk_drewN ?_ _ | refine blk_drew ?_ | refine blk_alloc ?_ _)); refine blk_put (cs := #[.int .i64 t409, .int .i64 t410, .int .i64 0, .int .i64 0]) ?_ 2 _ rfl; (with_reducible repeat (first | refine blk_drewN ?_ _ | refine blk_drew ?_ | refine blk_alloc ?_ _)); refine blk_put (cs := #[.int .i64 t409, .int .i64 0, .int .i64 0, .int .i64 0]) ?_ 1 _ rfl; (with_reducible repeat (first | refine blk_drewN ?_ _ | refine blk_drew ?_ | refine blk_alloc ?_ _)); refine blk_put (cs := #[.int .i64 0, .int .i64 0, .int .i64 0, .int .i64 0]) ?_ 0 _ rfl; (with_reducible repeat (first | refine blk_drewN ?_ _ | refine blk_drew ?_ | refine blk_alloc ?_ _)); exact BK413.out) hb); have n2_ := Aside0.mk (below_step (by repeat (first | (with_reducible first | exact HB.out | apply below_alloc | apply pw_below_drewN | apply below_drew1 | refine below_set ?_ GE408.out | refine below_set ?_ GE413.out) | exact HB.out)) hb); clear BK408; clear BK413; clear HB; have BK408 := n0_; have BK413 := n1_; have HB := n2_; clear n0_ n1_ n2_; (try clear hb); (try clear hb2); (try clear hk); (try clear hi); have hcz22_0 : w21.cell? ⟨gb408, 0, none⟩ = some (.int .i64 0) := (blk_cell BK408.out 0).trans rfl; have hcz22_1 : w21.cell? ⟨gb408, 1, none⟩ = some (.int .i64 0) := (blk_cell BK408.out 1).trans rfl; have hcz22_2 : w21.cell? ⟨gb408, 2, none⟩ = some (.int .i64 0) := (blk_cell BK408.out 2).trans rfl; have hcz22_3 : w21.cell? ⟨gb408, 3, none⟩ = some (.int .i64 0) := (blk_cell BK408.out 3).trans rfl; have hfz22_0 := blk_frozen BK408.out 0; have hfz22_1 := blk_frozen BK408.out 1; have hfz22_2 := blk_frozen BK408.out 2; have hfz22_3 := blk_frozen BK408.out 3))
        refine bodyPost_ret (results_ct rfl _ _ gb408 55 #[.int .i64 0, .int .i64 0, .int .i64 0, .int .i64 0] (0, 0) _ rfl (by (with_reducible repeat (first | refine blk_drewN ?_ _ | refine blk_drew ?_ | refine blk_alloc ?_ _)); refine blk_put (cs := #[.int .i64 0, .int .i64 0, .int .i64 0, .int .i64 0]) ?_ 3 _ rfl; (with_reducible repeat (first | refine blk_drewN ?_ _ | refine blk_drew ?_ | refine blk_alloc ?_ _)); refine blk_put (cs := #[.int .i64 0, .int .i64 0, .int .i64 0, .int .i64 0]) ?_ 2 _ rfl; (with_reducible repeat (first | refine blk_drewN ?_ _ | refine blk_drew ?_ | refine blk_alloc ?_ _)); refine blk_put (cs := #[.int .i64 0, .int .i64 0, .int .i64 0, .int .i64 0]) ?_ 1 _ rfl; (with_reducible repeat (first | refine blk_drewN ?_ _ | refine blk_drew ?_ | refine blk_alloc ?_ _)); refine blk_put (cs := #[.int .i64 0, .int .i64 0, .int .i64 0, .int .i64 0]) ?_ 0 _ rfl; (with_reducible repeat (first | refine blk_drewN ?_ _ | refine blk_drew ?_ | refine blk_alloc ?_ _)); exact BK408.out) Tryd.underlying55 rfl (by kernel_rfl)) rfl ?_
        exact ⟨by first | rfl | (simp [errW_none, errW_some] <;> rfl) | (simp [*, errW_none, errW_some] <;> rfl), by repeat (first | (with_reducible first | exact HB.out | apply below_alloc | apply pw_below_drewN | apply below_drew1 | refine below_set ?_ GE408.out | refine below_set ?_ GE413.out) | exact HB.out)⟩
    · rw [if_neg c8] at H
      have c8b0 : (t415 == 0) = false := beq_eq_false_iff_ne.mpr c8
      have c8b1 : (t415 != 0) = true := bne_iff_ne.mpr c8
      simp only [Option.some.injEq, Prod.mk.injEq] at H
      obtain ⟨rfl, rfl, rfl, rfl, rfl⟩ := H
      go_enter Tryd.func77, Tryd.ntmps77
      go_wp2_with (first | ((with_reducible refine gate_dst (N := 2) rfl ?_); refine box_event ?hg (N := 2) ?hd (cs := #[.int .i64 0, .int .i64 0, .int .i64 0, .int .i64 0]) (t := 55) ?hr ?_; (case hd => rfl); (case hg => rfl); (case hr => first | (go_simp; done) | (go_simp; rfl)); intro gb408 hg w23 hbox hb; have n0_ := Aside0.mk (below_step (by repeat (first | (with_reducible first | exact HB.out | apply below_alloc | apply pw_below_drewN | apply below_drew1) | exact HB.out)) hb); have n1_ := Aside0.mk (hbox); have n2_ := Aside0.mk ((by rw [hg]; exact (below_size (by repeat (first | (with_reducible first | exact HB.out | apply below_alloc | apply pw_below_drewN | apply below_drew1) | exact HB.out))) : w.heap.size ≤ gb408)); have n3_ := Aside0.mk ((by rw [hg]; exact (below_size (by repeat (first | (with_reducible first | exact HB.out | apply below_alloc | apply pw_below_drewN | apply below_drew1) | exact HB.out))) : w.heap.size ≤ gb408)); clear HB; have HB := n0_; have BK408 := n1_; have GW408 := n2_; have GE408 := n3_; clear n0_ n1_ n2_ n3_; clear hb hbox hg) | ((with_reducible refine gate_callee (f := 96) rfl ?_); refine goesL_ (some 12) rfl rfl Tryd.func96 (by kernel_rfl) rfl #[.string a0, .int .i64 1, .int .i64 2] rfl (by (try simp only [List.map_toArray, List.map_cons, List.map_nil]); first | done | rfl | (simp only [List.length_drop, List.length_take]; rfl)) ?_; (with_reducible refine (tag_part.calls k a0 1 2 t409 _ A3.out).mono ?_); rintro e w' ⟨rfl, ⟨nd, rfl⟩⟩; refine ⟨_, rfl, ?_⟩; (try (rw [drewN_self w23]; generalize hq_ : World.drewN w23 _ = w23; have n0_ : Aside0 (w23.heap[gb408]? = some (.cells #[.int .i64 0, .int .i64 0, .int .i64 0, .int .i64 0] 55 (0, 0))) := ⟨by rw [← hq_]; exact (by (with_reducible repeat (first | refine blk_drewN ?_ _ | refine blk_drew ?_ | refine blk_alloc ?_ _)); exact BK408.out)⟩; have n1_ : Aside0 (Below w.heap.size w w23) := ⟨by rw [← hq_]; exact (by repeat (first | (with_reducible first | exact HB.out | apply below_alloc | apply pw_below_drewN | apply below_drew1 | refine below_set ?_ GE408.out) | exact HB.out))⟩; clear BK408 HB hq_; have BK408 := n0_; have HB := n1_; clear n0_ n1_))) | ((with_reducible refine gate_callee (f := 96) rfl ?_); refine goesL_ (some 14) rfl rfl Tryd.func96 (by kernel_rfl) rfl #[.string a0, .int .i64 2, .int .i64 4] rfl (by (try simp only [List.map_toArray, List.map_cons, List.map_nil]); first | done | rfl | (simp only [List.length_drop, List.length_take]; rfl)) ?_; (with_reducible refine (tag_part.calls k a0 2 4 t410 _ A4.out).mono ?_); rintro e w' ⟨rfl, ⟨nd, rfl⟩⟩; refine ⟨_, rfl, ?_⟩; (try (rw [drewN_self w23]; generalize hq_ : World.drewN w23 _ = w23; have n0_ : Aside0 (w23.heap[gb408]? = some (.cells #[.int .i64 0, .int .i64 0, .int .i64 0, .int .i64 0] 55 (0, 0))) := ⟨by rw [← hq_]; exact (by (with_reducible repeat (first | refine blk_drewN ?_ _ | refine blk_drew ?_ | refine blk_alloc ?_ _)); exact BK408.out)⟩; have n1_ : Aside0 (Below w.heap.size w w23) := ⟨by rw [← hq_]; exact (by repeat (first | (with_reducible first | exact HB.out | apply below_alloc | apply pw_below_drewN | apply below_drew1 | refine below_set ?_ GE408.out) | exact HB.out))⟩; clear BK408 HB hq_; have BK408 := n0_; have HB := n1_; clear n0_ n1_))) | ((with_reducible refine gate_callee (f := 96) rfl ?_); refine goesL_ (some 16) rfl rfl Tryd.func96 (by kernel_rfl) rfl #[.string a0, .int .i64 4, .int .i64 10] rfl (by (try simp only [List.map_toArray, List.map_cons, List.map_nil]); first | done | rfl | (simp only [List.length_drop, List.length_take]; rfl)) ?_; (with_reducible refine (tag_part.calls k a0 4 10 t411 _ A5.out).mono ?_); rintro e w' ⟨rfl, ⟨nd, rfl⟩⟩; refine ⟨_, rfl, ?_⟩; (try (rw [drewN_self w23]; generalize hq_ : World.drewN w23 _ = w23; have n0_ : Aside0 (w23.heap[gb408]? = some (.cells #[.int .i64 0, .int .i64 0, .int .i64 0, .int .i64 0] 55 (0, 0))) := ⟨by rw [← hq_]; exact (by (with_reducible repeat (first | refine blk_drewN ?_ _ | refine blk_drew ?_ | refine blk_alloc ?_ _)); exact BK408.out)⟩; have n1_ : Aside0 (Below w.heap.size w w23) := ⟨by rw [← hq_]; exact (by repeat (first | (with_reducible first | exact HB.out | apply below_alloc | apply pw_below_drewN | apply below_drew1 | refine below_set ?_ GE408.out) | exact HB.out))⟩; clear BK408 HB hq_; have BK408 := n0_; have HB := n1_; clear n0_ n1_))) | ((with_reducible refine gate_callee (f := 96) rfl ?_); refine goesL_ (some 18) rfl rfl Tryd.func96 (by kernel_rfl) rfl #[.string a0, .int .i64 10, .int .i64 14] rfl (by (try simp only [List.map_toArray, List.map_cons, List.map_nil]); first | done | rfl | (simp only [List.length_drop, List.length_take]; rfl)) ?_; (with_reducible refine (tag_part.calls k a0 10 14 t412 _ A6.out).mono ?_); rintro e w' ⟨rfl, ⟨nd, rfl⟩⟩; refine ⟨_, rfl, ?_⟩; (try (rw [drewN_self w23]; generalize hq_ : World.drewN w23 _ = w23; have n0_ : Aside0 (w23.heap[gb408]? = some (.cells #[.int .i64 0, .int .i64 0, .int .i64 0, .int .i64 0] 55 (0, 0))) := ⟨by rw [← hq_]; exact (by (with_reducible repeat (first | refine blk_drewN ?_ _ | refine blk_drew ?_ | refine blk_alloc ?_ _)); exact BK408.out)⟩; have n1_ : Aside0 (Below w.heap.size w w23) := ⟨by rw [← hq_]; exact (by repeat (first | (with_reducible first | exact HB.out | apply below_alloc | apply pw_below_drewN | apply below_drew1 | refine below_set ?_ GE408.out) | exact HB.out))⟩; clear BK408 HB hq_; have BK408 := n0_; have HB := n1_; clear n0_ n1_))) | ((with_reducible refine gate_dst (N := 4) rfl ?_); refine box_event ?hg (N := 4) ?hd (cs := #[.int .i64 0, .int .i64 0, .int .i64 0, .int .i64 0]) (t := 55) ?hr ?_; (case hd => rfl); (case hg => rfl); (case hr => first | (go_simp; done) | (go_simp; rfl)); intro gb413 hg w24 hbox hb; have n0_ := Aside0.mk (blk_below (g := gb408) (o := .cells #[.int .i64 0, .int .i64 0, .int .i64 0, .int .i64 0] 55 (0, 0)) (by (with_reducible repeat (first | refine blk_drewN ?_ _ | refine blk_drew ?_ | refine blk_alloc ?_ _)); exact BK408.out) hb); have n1_ := Aside0.mk (below_step (by repeat (first | (with_reducible first | exact HB.out | apply below_alloc | apply pw_below_drewN | apply below_drew1 | refine below_set ?_ GE408.out) | exact HB.out)) hb); have n2_ := Aside0.mk (hbox); have n3_ := Aside0.mk ((by rw [hg]; exact (below_size (by repeat (first | (with_reducible first | exact HB.out | apply below_alloc | apply pw_below_drewN | apply below_drew1 | refine below_set ?_ GE408.out) | exact HB.out))) : w.heap.size ≤ gb413)); have n4_ := Aside0.mk ((by rw [hg]; exact (below_size (by repeat (first | (with_reducible first | exact HB.out | apply below_alloc | apply pw_below_drewN | apply below_drew1 | refine below_set ?_ GE408.out) | exact HB.out))) : w.heap.size ≤ gb413)); have n5_ := Aside0.mk ((by rw [hg]; exact Nat.ne_of_lt (blk_lt (g := gb408) (o := .cells #[.int .i64 0, .int .i64 0, .int .i64 0, .int .i64 0] 55 (0, 0)) (by (with_reducible repeat (first | refine blk_drewN ?_ _ | refine blk_drew ?_ | refine blk_alloc ?_ _)); exact BK408.out)) : gb408 ≠ gb413)); have n6_ := Aside0.mk ((by rw [hg]; exact Nat.ne_of_gt (blk_lt (g := gb408) (o := .cells #[.int .i64 0, .int .i64 0, .int .i64 0, .int .i64 0] 55 (0, 0)) (by (with_reducible repeat (first | refine blk_drewN ?_ _ | refine blk_drew ?_ | refine blk_alloc ?_ _)); exact BK408.out)) : gb413 ≠ gb408)); clear BK408; clear HB; have BK408 := n0_; have HB := n1_; have BK413 := n2_; have GW413 := n3_; have GE413 := n4_; have NB408_413 := n5_; have NB413_408 := n6_; clear n0_ n1_ n2_ n3_ n4_ n5_ n6_; clear hb hbox hg; have hnb25 := NB413_408.out; have hnc25 := NB408_413.out; have hcz26_0 : w24.cell? ⟨gb413, 0, none⟩ = some (.int .i64 0) := (blk_cell BK413.out 0).trans rfl; have hcz26_1 : w24.cell? ⟨gb413, 1, none⟩ = some (.int .i64 0) := (blk_cell BK413.out 1).trans rfl; have hcz26_2 : w24.cell? ⟨gb413, 2, none⟩ = some (.int .i64 0) := (blk_cell BK413.out 2).trans rfl; have hcz26_3 : w24.cell? ⟨gb413, 3, none⟩ = some (.int .i64 0) := (blk_cell BK413.out 3).trans rfl; have hfz26_0 := blk_frozen BK413.out 0; have hfz26_1 := blk_frozen BK413.out 1; have hfz26_2 := blk_frozen BK413.out 2; have hfz26_3 := blk_frozen BK413.out 3) | ((with_reducible refine gate_callee (f := 78) rfl ?_); refine goesL_ (some 22) rfl rfl Tryd.func78 (by kernel_rfl) rfl #[.agg #[.int .i64 t409, .int .i64 t410, .int .i64 t411, .int .i64 t412]] rfl (by (try simp only [List.map_toArray, List.map_cons, List.map_nil]); first | done | rfl | (simp only [List.length_drop, List.length_take]; rfl)) ?_; (with_reducible refine (tag_Encode.calls t409 t410 t411 t412 t414 t415 _ A7.out).mono ?_); rintro e w27 ⟨rfl, hb⟩; refine ⟨_, rfl, ?_⟩; have n0_ := Aside0.mk (blk_below (g := gb408) (o := .cells #[.int .i64 0, .int .i64 0, .int .i64 0, .int .i64 0] 55 (0, 0)) (by (with_reducible repeat (first | refine blk_drewN ?_ _ | refine blk_drew ?_ | refine blk_alloc ?_ _)); refine blk_far ?_ NB408_413.out _; (with_reducible repeat (first | refine blk_drewN ?_ _ | refine blk_drew ?_ | refine blk_alloc ?_ _)); refine blk_far ?_ NB408_413.out _; (with_reducible repeat (first | refine blk_drewN ?_ _ | refine blk_drew ?_ | refine blk_alloc ?_ _)); refine blk_far ?_ NB408_413.out _; (with_reducible repeat (first | refine blk_drewN ?_ _ | refine blk_drew ?_ | refine blk_alloc ?_ _)); refine blk_far ?_ NB408_413.out _; (with_reducible repeat (first | refine blk_drewN ?_ _ | refine blk_drew ?_ | refine blk_alloc ?_ _)); exact BK408.out) hb); have n1_ := Aside0.mk (blk_below (g := gb413) (o := .cells #[.int .i64 t409, .int .i64 t410, .int .i64 t411, .int .i64 t412] 55 (0, 0)) (by (with_reducible repeat (first | refine blk_drewN ?_ _ | refine blk_drew ?_ | refine blk_alloc ?_ _)); refine blk_put (cs := #[.int .i64 t409, .int .i64 t410, .int .i64 t411, .int .i64 0]) ?_ 3 _ rfl; (with_reducible repeat (first | refine blk_drewN ?_ _ | refine blk_drew ?_ | refine blk_alloc ?_ _)); refine blk_put (cs := #[.int .i64 t409, .int .i64 t410, .int .i64 0, .int .i64 0]) ?_ 2 _ rfl; (with_reducible repeat (first | refine blk_drewN ?_ _ | refine blk_drew ?_ | refine blk_alloc ?_ _)); refine blk_put (cs := #[.int .i64 t409, .int .i64 0, .int .i64 0, .int .i64 0]) ?_ 1 _ rfl; (with_reducible repeat (first | refine blk_drewN ?_ _ | refine blk_drew ?_ | refine blk_alloc ?_ _)); refine blk_put (cs := #[.int .i64 0, .int .i64 0, .int .i64 0, .int .i64 0]) ?_ 0 _ rfl; (with_reducible repeat (first | refine blk_drewN ?_ _ | refine blk_drew ?_ | refine blk_alloc ?_ _)); exact BK413.out) hb); have n2_ := Aside0.mk (below_step (by repeat (first | (with_reducible first | exact HB.out | apply below_alloc | apply pw_below_drewN | apply below_drew1 | refine below_set ?_ GE408.out | refine below_set ?_ GE413.out) | exact HB.out)) hb); clear BK408; clear BK413; clear HB; have BK408 := n0_; have BK413 := n1_; have HB := n2_; clear n0_ n1_ n2_; (try clear hb); (try clear hb2); (try clear hk); (try clear hi); have hcz28_0 : w27.cell? ⟨gb408, 0, none⟩ = some (.int .i64 0) := (blk_cell BK408.out 0).trans rfl; have hcz28_1 : w27.cell? ⟨gb408, 1, none⟩ = some (.int .i64 0) := (blk_cell BK408.out 1).trans rfl; have hcz28_2 : w27.cell? ⟨gb408, 2, none⟩ = some (.int .i64 0) := (blk_cell BK408.out 2).trans rfl; have hcz28_3 : w27.cell? ⟨gb408, 3, none⟩ = some (.int .i64 0) := (blk_cell BK408.out 3).trans rfl; have hfz28_0 := blk_frozen BK408.out 0; have hfz28_1 := blk_frozen BK408.out 1; have hfz28_2 := blk_frozen BK408.out 2; have hfz28_3 := blk_frozen BK408.out 3))
      refine bodyPost_ret (results_ct rfl _ _ gb408 55 #[.int .i64 0, .int .i64 0, .int .i64 0, .int .i64 0] (0, 0) _ rfl (by (with_reducible repeat (first | refine blk_drewN ?_ _ | refine blk_drew ?_ | refine blk_alloc ?_ _)); refine blk_put (cs := #[.int .i64 0, .int .i64 0, .int .i64 0, .int .i64 0]) ?_ 3 _ rfl; (with_reducible repeat (first | refine blk_drewN ?_ _ | refine blk_drew ?_ | refine blk_alloc ?_ _)); refine blk_put (cs := #[.int .i64 0, .int .i64 0, .int .i64 0, .int .i64 0]) ?_ 2 _ rfl; (with_reducible repeat (first | refine blk_drewN ?_ _ | refine blk_drew ?_ | refine blk_alloc ?_ _)); refine blk_put (cs := #[.int .i64 0, .int .i64 0, .int .i64 0, .int .i64 0]) ?_ 1 _ rfl; (with_reducible repeat (first | refine blk_drewN ?_ _ | refine blk_drew ?_ | refine blk_alloc ?_ _)); refine blk_put (cs := #[.int .i64 0, .int .i64 0, .int .i64 0, .int .i64 0]) ?_ 0 _ rfl; (with_reducible repeat (first | refine blk_drewN ?_ _ | refine blk_drew ?_ | refine blk_alloc ?_ _)); exact BK408.out) Tryd.underlying55 rfl (by kernel_rfl)) rfl ?_
      exact ⟨by first | rfl | (simp [errW_none, errW_some] <;> rfl) | (simp [*, errW_none, errW_some] <;> rfl), by repeat (first | (with_reducible first | exact HB.out | apply below_alloc | apply pw_below_drewN | apply below_drew1 | refine below_set ?_ GE408.out | refine below_set ?_ GE413.out) | exact HB.out)⟩
  · rw [if_neg c2] at H
    have c2b0 : ((a0.size : Int) == 16) = false := beq_eq_false_iff_ne.mpr c2
    have c2b1 : ((a0.size : Int) != 16) = true := bne_iff_ne.mpr c2
    simp only [Option.some.injEq, Prod.mk.injEq] at H
    obtain ⟨rfl, rfl, rfl, rfl, rfl⟩ := H
    go_enter Tryd.func77, Tryd.ntmps77
    go_wp2_with (first | ((with_reducible refine gate_dst (N := 2) rfl ?_); refine box_event ?hg (N := 2) ?hd (cs := #[.int .i64 0, .int .i64 0, .int .i64 0, .int .i64 0]) (t := 55) ?hr ?_; (case hd => rfl); (case hg => rfl); (case hr => first | (go_simp; done) | (go_simp; rfl)); intro gb408 hg w29 hbox hb; have n0_ := Aside0.mk (below_step (by repeat (first | (with_reducible first | exact HB.out | apply below_alloc | apply pw_below_drewN | apply below_drew1) | exact HB.out)) hb); have n1_ := Aside0.mk (hbox); have n2_ := Aside0.mk ((by rw [hg]; exact (below_size (by repeat (first | (with_reducible first | exact HB.out | apply below_alloc | apply pw_below_drewN | apply below_drew1) | exact HB.out))) : w.heap.size ≤ gb408)); have n3_ := Aside0.mk ((by rw [hg]; exact (below_size (by repeat (first | (with_reducible first | exact HB.out | apply below_alloc | apply pw_below_drewN | apply below_drew1) | exact HB.out))) : w.heap.size ≤ gb408)); clear HB; have HB := n0_; have BK408 := n1_; have GW408 := n2_; have GE408 := n3_; clear n0_ n1_ n2_ n3_; clear hb hbox hg; have hcz30_0 : w29.cell? ⟨gb408, 0, none⟩ = some (.int .i64 0) := (blk_cell BK408.out 0).trans rfl; have hcz30_1 : w29.cell? ⟨gb408, 1, none⟩ = some (.int .i64 0) := (blk_cell BK408.out 1).trans rfl; have hcz30_2 : w29.cell? ⟨gb408, 2, none⟩ = some (.int .i64 0) := (blk_cell BK408.out 2).trans rfl; have hcz30_3 : w29.cell? ⟨gb408, 3, none⟩ = some (.int .i64 0) := (blk_cell BK408.out 3).trans rfl; have hfz30_0 := blk_frozen BK408.out 0; have hfz30_1 := blk_frozen BK408.out 1; have hfz30_2 := blk_frozen BK408.out 2; have hfz30_3 := blk_frozen BK408.out 3))
    refine bodyPost_ret (results_ct rfl _ _ gb408 55 #[.int .i64 0, .int .i64 0, .int .i64 0, .int .i64 0] (0, 0) _ rfl (by (with_reducible repeat (first | refine blk_drewN ?_ _ | refine blk_drew ?_ | refine blk_alloc ?_ _)); refine blk_put (cs := #[.int .i64 0, .int .i64 0, .int .i64 0, .int .i64 0]) ?_ 3 _ rfl; (with_reducible repeat (first | refine blk_drewN ?_ _ | refine blk_drew ?_ | refine blk_alloc ?_ _)); refine blk_put (cs := #[.int .i64 0, .int .i64 0, .int .i64 0, .int .i64 0]) ?_ 2 _ rfl; (with_reducible repeat (first | refine blk_drewN ?_ _ | refine blk_drew ?_ | refine blk_alloc ?_ _)); refine blk_put (cs := #[.int .i64 0, .int .i64 0, .int .i64 0, .int .i64 0]) ?_ 1 _ rfl; (with_reducible repeat (first | refine blk_drewN ?_ _ | refine blk_drew ?_ | refine blk_alloc ?_ _)); refine blk_put (cs := #[.int .i64 0, .int .i64 0, .int .i64 0, .int .i64 0]) ?_ 0 _ rfl; (with_reducible repeat (first | refine blk_drewN ?_ _ | refine blk_drew ?_ | refine blk_alloc ?_ _)); exact BK408.out) Tryd.underlying55 rfl (by kernel_rfl)) rfl ?_
    exact ⟨by first | rfl | (simp [errW_none, errW_some] <;> rfl) | (simp [*, errW_none, errW_some] <;> rfl), by repeat (first | (with_reducible first | exact HB.out | apply below_alloc | apply pw_below_drewN | apply below_drew1 | refine below_set ?_ GE408.out) | exact HB.out)⟩

end Go.Proofs.YtliiploidjnmnaaDoor.PF
end

section
-- Written by a program (the kit's print.py, called by wip/bin/prseat.sh, mended by wip/bin/mend.py).
namespace Go.Proofs.YtliiploidjnmnaaDoor.PF
open Go.Proofs.YtliiploidjnmnaaDoor.Tf Go.RowKit Go.Proofs.YtliiploidjnmnaaDoorW.PrintWords Go.Proofs.YtliiploidjnmnaaDoorW.PrintLast Go.Proofs.YtliiploidjnmnaaDoorW.PrintMore
attribute [local go_sem] max2_int min2_int max_two min_two max_three min_three max_four min_four   -- for this text's walks alone
set_option linter.unusedVariables false
set_option linter.unusedSimpArgs false

/-! ### frame_whole: function 57 -/
def frame_whole.j0 : Nat → ByteArray → Int → Int → Bool → Option (Int × Int × Int × Int × Int × ByteArray)
  | 0, _, _, _, _ => none
  | k + 1, x0, x1, x5, x21 => if x21 = true then (some (4, 0, 0, 0, 0, (⟨#[]⟩ : ByteArray))) else (if 0 ≤ 16 then (if 16 ≤ (x0.size : Int) then ((tag_Decode.f k (x0.extract 0 16)).bind fun bt418 => (if bt418.2.2.2.2 = 0 then (if 16 ≤ (wrap64 (x5 - 4)) then (if (wrap64 (x5 - 4)) ≤ (x0.size : Int) then (some (x1, bt418.1, bt418.2.1, bt418.2.2.1, bt418.2.2.2.1, x0.extract 16 ((wrap64 (x5 - 4)) : Int).toNat)) else (none)) else (none)) else (some (4, 0, 0, 0, 0, (⟨#[]⟩ : ByteArray))))) else (none)) else (none))
def frame_whole.f (k : Nat) (a0 : ByteArray) (a1 : Int) : Option (Int × Int × Int × Int × Int × ByteArray) := if 0 ≤ (wrap64 ((a0.size : Int) - 4)) then (if (wrap64 ((a0.size : Int) - 4)) ≤ (a0.size : Int) then (if (a0.extract ((wrap64 ((a0.size : Int) - 4)) : Int).toNat a0.size).toList = ([0, 0, 0, 0] : List UInt8) then ((crc_Whole.f (a0.extract 0 ((wrap64 ((a0.size : Int) - 4)) : Int).toNat)).bind fun t417 => (frame_whole.j0 k a0 a1 (wrap64 ((a0.size : Int) - 4)) (!t417))) else (frame_whole.j0 k a0 a1 (wrap64 ((a0.size : Int) - 4)) true)) else (none)) else (none)
theorem frame_whole.mono_l : ∀ k, (∀ y0 y1 y2 y3, LeO (frame_whole.j0 k y0 y1 y2 y3) (frame_whole.j0 (k + 1) y0 y1 y2 y3))
  | 0 => fun _ _ _ _ r h => by simp [frame_whole.j0] at h
  | k + 1 => by
    have ih0 := frame_whole.mono_l k
    · intro y0 y1 y2 y3
      unfold frame_whole.j0
      repeat' first
      | (with_reducible exact ih0 _ _ _ _)
      | (with_reducible exact tag_Decode.mono _ _)
      | (with_reducible exact LeO.refl _)
      | (with_reducible exact LeO.none _)
      | (with_reducible refine LeO.ite ?_ ?_)
      | (with_reducible refine LeO.bind ?_ (fun _ => ?_))
      | exact ih0 _ _ _ _
      | exact tag_Decode.mono _ _
      | exact LeO.none _
      | refine LeO.ite ?_ ?_
      | refine LeO.bind ?_ (fun _ => ?_)
theorem frame_whole.mono : ∀ a0 a1 k, LeO (frame_whole.f k a0 a1) (frame_whole.f (k + 1) a0 a1) := by
  intro a0 a1 k
  have ih0 := frame_whole.mono_l k
  unfold frame_whole.f
  repeat' first
      | (with_reducible exact ih0 _ _ _ _)
      | (with_reducible exact tag_Decode.mono _ _)
      | (with_reducible exact LeO.refl _)
      | (with_reducible exact LeO.none _)
      | (with_reducible refine LeO.ite ?_ ?_)
      | (with_reducible refine LeO.bind ?_ (fun _ => ?_))
      | exact ih0 _ _ _ _
      | exact tag_Decode.mono _ _
      | exact LeO.none _
      | refine LeO.ite ?_ ?_
      | refine LeO.bind ?_ (fun _ => ?_)
def frame_whole.T7 : Bool × List (List Nat × List Nat) := (true, [([], []), ([], []), ([], []), ([], []), ([3], [3]), ([2, 4], [2, 4]), ([0, 1, 5], [0, 1, 5]), ([6, 0, 1, 2, 3, 4, 5, 6], [6])])
def frame_whole.B7 : List Nat := [0, 0, 0, 0, 8, 28, 63, 127]
theorem frame_whole.tab7 : rtab .any (opsOf Tryd.f57 7) = frame_whole.T7 := by kernel_rfl
theorem frame_whole.bits7 : waitsOk frame_whole.T7.2 frame_whole.B7 = true := by kernel_rfl
set_option maxHeartbeats 8000000 in
set_option maxRecDepth 100000 in
theorem frame_whole.calls (k : Nat) (a0 : ByteArray) (a1 : Int) (r1 : Int) (r2 : Int) (r3 : Int) (r4 : Int) (r5 : Int) (r6 : ByteArray) (w : World) (h : frame_whole.f k a0 a1 = some (r1, r2, r3, r4, r5, r6)) (HL : Aside0 (Hw.Laid w) := by first | exact HL | exact Hw.laid_at HL (by repeat (first | (with_reducible first | exact HB.out | apply below_alloc | apply pw_below_drewN | apply below_drew1) | exact HB.out | exact Below.refl _ _ | refine below_set ?_ (by apply Aside0.out; assumption)))) :
    Calls Tryd.prog 57 #[.string a0, .int .i64 a1] w fun e w' => e = .returned (.agg #[.int .i64 r1, .int .i64 r2, .int .i64 r3, .int .i64 r4, .int .i64 r5, .string r6]) ∧ Below w.heap.size w w' := by
  have hu57 := Tryd.underlying57
  have hu55 := Tryd.underlying55
  have HB := Aside0.mk (Below.refl w.heap.size w)
  have H : (if 0 ≤ (wrap64 ((a0.size : Int) - 4)) then (if (wrap64 ((a0.size : Int) - 4)) ≤ (a0.size : Int) then (if (a0.extract ((wrap64 ((a0.size : Int) - 4)) : Int).toNat a0.size).toList = ([0, 0, 0, 0] : List UInt8) then ((crc_Whole.f (a0.extract 0 ((wrap64 ((a0.size : Int) - 4)) : Int).toNat)).bind fun t417 => (frame_whole.j0 k a0 a1 (wrap64 ((a0.size : Int) - 4)) (!t417))) else (frame_whole.j0 k a0 a1 (wrap64 ((a0.size : Int) - 4)) true)) else (none)) else (none)) = some (r1, r2, r3, r4, r5, r6) := h
  clear h
  have HC3 := Aside0.mk H
  clear H
  go_enter Tryd.func57, Tryd.ntmps57
  go_upto_region 2 with (first | ((with_reducible refine gate_dst (N := 4) rfl ?_); refine box_event ?hg (N := 4) ?hd (cs := #[.int .i64 0, .int .i64 0, .int .i64 0, .int .i64 0, .int .i64 0, .string (⟨#[]⟩ : ByteArray)]) (t := 57) ?hr ?_; (case hd => rfl); (case hg => rfl); (case hr => first | (go_simp; done) | (go_simp; rfl)); intro gb416 hg w4 hbox hb; have n0_ := Aside0.mk (below_step (by repeat (first | (with_reducible first | exact HB.out | apply below_alloc | apply pw_below_drewN | apply below_drew1) | exact HB.out)) hb); have n1_ := Aside0.mk (hbox); have n2_ := Aside0.mk ((by rw [hg]; exact (below_size (by repeat (first | (with_reducible first | exact HB.out | apply below_alloc | apply pw_below_drewN | apply below_drew1) | exact HB.out))) : w.heap.size ≤ gb416)); have n3_ := Aside0.mk ((by rw [hg]; exact (below_size (by repeat (first | (with_reducible first | exact HB.out | apply below_alloc | apply pw_below_drewN | apply below_drew1) | exact HB.out))) : w.heap.size ≤ gb416)); clear HB; have HB := n0_; have BK416 := n1_; have GW416 := n2_; have GE416 := n3_; clear n0_ n1_ n2_ n3_; clear hb hbox hg))
  (try simp only [Act.put, List.setIfInBounds_toArray, List.set_cons_zero, List.set_cons_succ])
  go_cut [21] (fun v21 wc => ∃ (kq : Nat) (x21_2 : Bool), v21 = .bool x21_2 ∧ Aside0 (frame_whole.j0 kq a0 a1 (wrap64 ((a0.size : Int) - 4)) x21_2 = some (r1, r2, r3, r4, r5, r6)) ∧ Aside0 (kq ≤ k) ∧ Aside0 (wc.heap[gb416]? = some (.cells #[.int .i64 0, .int .i64 0, .int .i64 0, .int .i64 0, .int .i64 0, .string (⟨#[]⟩ : ByteArray)] 57 (0, 0))) ∧ Aside0 (Below w.heap.size w wc))
  case first =>
    have H := HC3.out
    clear HC3
    obtain ⟨ji5, hji5⟩ : ∃ j_ : Int, (wrap64 ((a0.size : Int) - 4)) = j_ := ⟨_, rfl⟩
    replace H : (if 0 ≤ (ji5) then (if (ji5) ≤ (a0.size : Int) then (if (a0.extract ((ji5) : Int).toNat a0.size).toList = ([0, 0, 0, 0] : List UInt8) then ((crc_Whole.f (a0.extract 0 ((ji5) : Int).toNat)).bind fun t417 => (frame_whole.j0 k a0 a1 ji5 (!t417))) else (frame_whole.j0 k a0 a1 ji5 true)) else (none)) else (none)) = some (r1, r2, r3, r4, r5, r6) := by first | (rw [hji5] at H; exact H) | (simp only [hji5] at H ⊢; exact H)
    have hji5w : (IntKind.i64.wrap ((a0.size : Int) - 4)) = ji5 := (i64_w _).trans hji5
    by_cases c6 : 0 ≤ (ji5)
    · rw [if_pos c6] at H
      have c6b0 := eq_true c6
      have c6b1 : decide (0 ≤ (ji5)) = true := decide_eq_true c6
      clear c6
      by_cases c7 : (ji5) ≤ (a0.size : Int)
      · rw [if_pos c7] at H
        have c7b0 := eq_true c7
        have c7b1 : decide ((ji5) ≤ (a0.size : Int)) = true := decide_eq_true c7
        clear c7
        by_cases c8 : (a0.extract ((ji5) : Int).toNat a0.size).toList = ([0, 0, 0, 0] : List UInt8)
        · rw [if_pos c8] at H
          have c8b0 : ((a0.extract ((ji5) : Int).toNat a0.size).toList == ([0, 0, 0, 0] : List UInt8)) = true := beq_iff_eq.mpr c8
          have c8b1 : ((a0.extract ((ji5) : Int).toNat a0.size).toList != ([0, 0, 0, 0] : List UInt8)) = false := bne_eq_false_iff_eq.mpr c8
          clear c8
          (first | rw [c8b0] | (simp only [i64_w, i32_w]; rw [c8b0]) | skip)
          have c9b0 := eq_true (of_decide_eq_true (by first | (with_reducible assumption) | assumption) : 0 ≤ (ji5))
          have c10b0 := eq_true (of_decide_eq_true (by first | (with_reducible assumption) | assumption) : (ji5) ≤ (a0.size : Int))
          replace H := Option.bind_eq_some_iff.mp H
          obtain ⟨t417, A110, H⟩ := H
          replace H : (frame_whole.j0 k a0 a1 ji5 (!t417)) = some (r1, r2, r3, r4, r5, r6) := H
          have A11 := Aside0.mk A110
          clear A110
          have H' := Aside0.mk H
          clear H
          go_wp2_with (first | (go_at_call 76; (with_reducible refine (crc_Whole.calls (a0.extract 0 ((ji5) : Int).toNat) t417 _ A11.out).mono ?_); rintro e w12 ⟨rfl, hb⟩; have n0_ := Aside0.mk (blk_below (g := gb416) (o := .cells #[.int .i64 0, .int .i64 0, .int .i64 0, .int .i64 0, .int .i64 0, .string (⟨#[]⟩ : ByteArray)] 57 (0, 0)) (by (with_reducible repeat (first | refine blk_drewN ?_ _ | refine blk_drew ?_ | refine blk_alloc ?_ _)); exact BK416.out) hb); have n1_ := Aside0.mk (below_step (by repeat (first | (with_reducible first | exact HB.out | apply below_alloc | apply pw_below_drewN | apply below_drew1 | refine below_set ?_ GE416.out) | exact HB.out)) hb); clear BK416; clear HB; have BK416 := n0_; have HB := n1_; clear n0_ n1_; (try clear hb); (try clear hb2); (try clear hk); (try clear hi)))
          subst hji5
          go_meet
          case rel => exact ⟨_, (!t417), (by first | rfl | (simp; done) | (simp [*]; done)), H', ⟨by first | omega | exact Nat.le_refl _⟩, ⟨by (with_reducible repeat (first | refine blk_drewN ?_ _ | refine blk_drew ?_ | refine blk_alloc ?_ _)); exact BK416.out⟩, ⟨by repeat (first | (with_reducible first | exact HB.out | apply below_alloc | apply pw_below_drewN | apply below_drew1 | refine below_set ?_ GE416.out) | exact HB.out)⟩⟩
        · rw [if_neg c8] at H
          have c8b0 : ((a0.extract ((ji5) : Int).toNat a0.size).toList == ([0, 0, 0, 0] : List UInt8)) = false := beq_eq_false_iff_ne.mpr c8
          have c8b1 : ((a0.extract ((ji5) : Int).toNat a0.size).toList != ([0, 0, 0, 0] : List UInt8)) = true := bne_iff_ne.mpr c8
          (first | rw [c8b0] | (simp only [i64_w, i32_w]; rw [c8b0]) | skip)
          have H' := Aside0.mk H
          clear H
          go_wp2
          subst hji5
          go_meet
          case rel => exact ⟨_, (true), (by first | rfl | (simp; done) | (simp [*]; done)), H', ⟨by first | omega | exact Nat.le_refl _⟩, ⟨by (with_reducible repeat (first | refine blk_drewN ?_ _ | refine blk_drew ?_ | refine blk_alloc ?_ _)); exact BK416.out⟩, ⟨by repeat (first | (with_reducible first | exact HB.out | apply below_alloc | apply pw_below_drewN | apply below_drew1 | refine below_set ?_ GE416.out) | exact HB.out)⟩⟩
      · rw [if_neg c7] at H
        exact absurd H (by simp)
    · rw [if_neg c6] at H
      exact absurd H (by simp)
  case rest =>
    clear HC3
    try clear c1
    try clear p2
    try clear c5
    try clear c6
    try clear c6b0
    try clear c6b1
    try clear p6
    try clear c7
    try clear c7b0
    try clear c7b1
    try clear c8
    try clear c8b0
    try clear c8b1
    try clear c9
    try clear c9b0
    try clear c10
    try clear c10b0
    obtain ⟨kq, x21_2, rfl, HA, HJ2, BK416, HB⟩ := hcut
    cases kq with
    | zero => exact absurd HA.out (by simp [frame_whole.j0])
    | succ kj2 =>
      have H := HA.out
      clear HA
      simp only [frame_whole.j0] at H
      by_cases c13 : x21_2 = true
      · subst c13
        have H1 : (some (4, 0, 0, 0, 0, (⟨#[]⟩ : ByteArray))) = some (r1, r2, r3, r4, r5, r6) := by rw [if_pos rfl] at H; exact H
        clear H
        have H := H1
        clear H1
        simp only [Option.some.injEq, Prod.mk.injEq] at H
        obtain ⟨rfl, rfl, rfl, rfl, rfl, rfl⟩ := H
        have hcz14_0 : wc.cell? ⟨gb416, 0, none⟩ = some (.int .i64 0) := (blk_cell BK416.out 0).trans rfl
        have hcz14_1 : wc.cell? ⟨gb416, 1, none⟩ = some (.int .i64 0) := (blk_cell BK416.out 1).trans rfl
        have hcz14_2 : wc.cell? ⟨gb416, 2, none⟩ = some (.int .i64 0) := (blk_cell BK416.out 2).trans rfl
        have hcz14_3 : wc.cell? ⟨gb416, 3, none⟩ = some (.int .i64 0) := (blk_cell BK416.out 3).trans rfl
        have hcz14_4 : wc.cell? ⟨gb416, 4, none⟩ = some (.int .i64 0) := (blk_cell BK416.out 4).trans rfl
        have hcz14_5 : wc.cell? ⟨gb416, 5, none⟩ = some (.string (⟨#[]⟩ : ByteArray)) := (blk_cell BK416.out 5).trans rfl
        have hfz14_0 := blk_frozen BK416.out 0
        have hfz14_1 := blk_frozen BK416.out 1
        have hfz14_2 := blk_frozen BK416.out 2
        have hfz14_3 := blk_frozen BK416.out 3
        have hfz14_4 := blk_frozen BK416.out 4
        have hfz14_5 := blk_frozen BK416.out 5
        go_wp2
        refine bodyPost_ret (results_cell_row rfl _ _ gb416 57 #[.int .i64 4, .int .i64 0, .int .i64 0, .int .i64 0, .int .i64 0, .string (⟨#[]⟩ : ByteArray)] (0, 0) _ rfl (by (with_reducible repeat (first | refine blk_drewN ?_ _ | refine blk_drew ?_ | refine blk_alloc ?_ _)); refine blk_put (cs := #[.int .i64 4, .int .i64 0, .int .i64 0, .int .i64 0, .int .i64 0, .string (⟨#[]⟩ : ByteArray)]) ?_ 5 _ rfl; (with_reducible repeat (first | refine blk_drewN ?_ _ | refine blk_drew ?_ | refine blk_alloc ?_ _)); refine blk_put (cs := #[.int .i64 4, .int .i64 0, .int .i64 0, .int .i64 0, .int .i64 0, .string (⟨#[]⟩ : ByteArray)]) ?_ 4 _ rfl; (with_reducible repeat (first | refine blk_drewN ?_ _ | refine blk_drew ?_ | refine blk_alloc ?_ _)); refine blk_put (cs := #[.int .i64 4, .int .i64 0, .int .i64 0, .int .i64 0, .int .i64 0, .string (⟨#[]⟩ : ByteArray)]) ?_ 3 _ rfl; (with_reducible repeat (first | refine blk_drewN ?_ _ | refine blk_drew ?_ | refine blk_alloc ?_ _)); refine blk_put (cs := #[.int .i64 4, .int .i64 0, .int .i64 0, .int .i64 0, .int .i64 0, .string (⟨#[]⟩ : ByteArray)]) ?_ 2 _ rfl; (with_reducible repeat (first | refine blk_drewN ?_ _ | refine blk_drew ?_ | refine blk_alloc ?_ _)); refine blk_put (cs := #[.int .i64 4, .int .i64 0, .int .i64 0, .int .i64 0, .int .i64 0, .string (⟨#[]⟩ : ByteArray)]) ?_ 1 _ rfl; (with_reducible repeat (first | refine blk_drewN ?_ _ | refine blk_drew ?_ | refine blk_alloc ?_ _)); refine blk_put (cs := #[.int .i64 0, .int .i64 0, .int .i64 0, .int .i64 0, .int .i64 0, .string (⟨#[]⟩ : ByteArray)]) ?_ 0 _ rfl; (with_reducible repeat (first | refine blk_drewN ?_ _ | refine blk_drew ?_ | refine blk_alloc ?_ _)); exact BK416.out) Tryd.underlying57 rfl (by kernel_rfl)) rfl ?_
        exact ⟨by first | rfl | (simp [errW_none, errW_some] <;> rfl) | (simp [*, errW_none, errW_some] <;> rfl), by repeat (first | (with_reducible first | exact HB.out | apply below_alloc | apply pw_below_drewN | apply below_drew1 | refine below_set ?_ GE416.out) | exact HB.out)⟩
      · replace c13 := Bool.eq_false_iff.mpr c13
        subst c13
        have H1 : (if 0 ≤ 16 then (if 16 ≤ (a0.size : Int) then ((tag_Decode.f kj2 (a0.extract 0 16)).bind fun bt418 => (if bt418.2.2.2.2 = 0 then (if 16 ≤ (wrap64 ((wrap64 ((a0.size : Int) - 4)) - 4)) then (if (wrap64 ((wrap64 ((a0.size : Int) - 4)) - 4)) ≤ (a0.size : Int) then (some (a1, bt418.1, bt418.2.1, bt418.2.2.1, bt418.2.2.2.1, a0.extract 16 ((wrap64 ((wrap64 ((a0.size : Int) - 4)) - 4)) : Int).toNat)) else (none)) else (none)) else (some (4, 0, 0, 0, 0, (⟨#[]⟩ : ByteArray))))) else (none)) else (none)) = some (r1, r2, r3, r4, r5, r6) := by rw [if_neg (show ¬ (false = true) by decide)] at H; exact H
        clear H
        have H := H1
        clear H1
        by_cases c15 : 0 ≤ 16
        · rw [if_pos c15] at H
          have c15b0 := eq_true c15
          have c15b1 : decide (0 ≤ 16) = true := decide_eq_true c15
          clear c15
          by_cases c16 : 16 ≤ (a0.size : Int)
          · rw [if_pos c16] at H
            have c16b0 := eq_true c16
            have c16b1 : decide (16 ≤ (a0.size : Int)) = true := decide_eq_true c16
            clear c16
            replace H := Option.bind_eq_some_iff.mp H
            obtain ⟨⟨t418, t419, t420, t421, t422⟩, A170, H⟩ := H
            replace H : (if t422 = 0 then (if 16 ≤ (wrap64 ((wrap64 ((a0.size : Int) - 4)) - 4)) then (if (wrap64 ((wrap64 ((a0.size : Int) - 4)) - 4)) ≤ (a0.size : Int) then (some (a1, t418, t419, t420, t421, a0.extract 16 ((wrap64 ((wrap64 ((a0.size : Int) - 4)) - 4)) : Int).toNat)) else (none)) else (none)) else (some (4, 0, 0, 0, 0, (⟨#[]⟩ : ByteArray)))) = some (r1, r2, r3, r4, r5, r6) := H
            have A17 := Aside0.mk A170
            clear A170
            by_cases c18 : t422 = 0
            · rw [if_pos c18] at H
              have c18b0 : (t422 == 0) = true := beq_iff_eq.mpr c18
              have c18b1 : (t422 != 0) = false := bne_eq_false_iff_eq.mpr c18
              clear c18
              by_cases c19 : 16 ≤ (wrap64 ((wrap64 ((a0.size : Int) - 4)) - 4))
              · rw [if_pos c19] at H
                have c19b0 := eq_true c19
                have c19b1 : decide (16 ≤ (wrap64 ((wrap64 ((a0.size : Int) - 4)) - 4))) = true := decide_eq_true c19
                clear c19
                by_cases c20 : (wrap64 ((wrap64 ((a0.size : Int) - 4)) - 4)) ≤ (a0.size : Int)
                · rw [if_pos c20] at H
                  have c20b0 := eq_true c20
                  have c20b1 : decide ((wrap64 ((wrap64 ((a0.size : Int) - 4)) - 4)) ≤ (a0.size : Int)) = true := decide_eq_true c20
                  clear c20
                  simp only [Option.some.injEq, Prod.mk.injEq] at H
                  obtain ⟨rfl, rfl, rfl, rfl, rfl, rfl⟩ := H
                  try go_wp2_with (first | ((with_reducible refine gate_callee (f := 77) rfl ?_); refine goesL_ (some 26) rfl rfl Tryd.func77 (by kernel_rfl) rfl #[.string (a0.extract 0 16)] rfl (by (try simp only [List.map_toArray, List.map_cons, List.map_nil]); first | done | rfl | (simp only [List.length_drop, List.length_take]; rfl)) ?_; (with_reducible refine (tag_Decode.calls kj2 (a0.extract 0 16) t418 t419 t420 t421 t422 _ A17.out).mono ?_); rintro e w21 ⟨rfl, hb⟩; refine ⟨_, rfl, ?_⟩; have n0_ := Aside0.mk (blk_below (g := gb416) (o := .cells #[.int .i64 0, .int .i64 0, .int .i64 0, .int .i64 0, .int .i64 0, .string (⟨#[]⟩ : ByteArray)] 57 (0, 0)) (by (with_reducible repeat (first | refine blk_drewN ?_ _ | refine blk_drew ?_ | refine blk_alloc ?_ _)); exact BK416.out) hb); have n1_ := Aside0.mk (below_step (by repeat (first | (with_reducible first | exact HB.out | apply below_alloc | apply pw_below_drewN | apply below_drew1 | refine below_set ?_ GE416.out) | exact HB.out)) hb); clear BK416; clear HB; have BK416 := n0_; have HB := n1_; clear n0_ n1_; (try clear hb); (try clear hb2); (try clear hk); (try clear hi)) | ((with_reducible refine gate_dst (N := 6) rfl ?_); refine box_event ?hg (N := 6) ?hd (cs := #[.int .i64 0, .int .i64 0, .int .i64 0, .int .i64 0]) (t := 55) ?hr ?_; (case hd => rfl); (case hg => rfl); (case hr => first | (go_simp; done) | (go_simp; rfl)); intro gb423 hg w22 hbox hb; have n0_ := Aside0.mk (blk_below (g := gb416) (o := .cells #[.int .i64 0, .int .i64 0, .int .i64 0, .int .i64 0, .int .i64 0, .string (⟨#[]⟩ : ByteArray)] 57 (0, 0)) (by (with_reducible repeat (first | refine blk_drewN ?_ _ | refine blk_drew ?_ | refine blk_alloc ?_ _)); exact BK416.out) hb); have n1_ := Aside0.mk (below_step (by repeat (first | (with_reducible first | exact HB.out | apply below_alloc | apply pw_below_drewN | apply below_drew1 | refine below_set ?_ GE416.out) | exact HB.out)) hb); have n2_ := Aside0.mk (hbox); have n3_ := Aside0.mk ((by rw [hg]; exact (below_size (by repeat (first | (with_reducible first | exact HB.out | apply below_alloc | apply pw_below_drewN | apply below_drew1 | refine below_set ?_ GE416.out) | exact HB.out))) : w.heap.size ≤ gb423)); have n4_ := Aside0.mk ((by rw [hg]; exact (below_size (by repeat (first | (with_reducible first | exact HB.out | apply below_alloc | apply pw_below_drewN | apply below_drew1 | refine below_set ?_ GE416.out) | exact HB.out))) : w.heap.size ≤ gb423)); have n5_ := Aside0.mk ((by rw [hg]; exact Nat.ne_of_lt (blk_lt (g := gb416) (o := .cells #[.int .i64 0, .int .i64 0, .int .i64 0, .int .i64 0, .int .i64 0, .string (⟨#[]⟩ : ByteArray)] 57 (0, 0)) (by (with_reducible repeat (first | refine blk_drewN ?_ _ | refine blk_drew ?_ | refine blk_alloc ?_ _)); exact BK416.out)) : gb416 ≠ gb423)); have n6_ := Aside0.mk ((by rw [hg]; exact Nat.ne_of_gt (blk_lt (g := gb416) (o := .cells #[.int .i64 0, .int .i64 0, .int .i64 0, .int .i64 0, .int .i64 0, .string (⟨#[]⟩ : ByteArray)] 57 (0, 0)) (by (with_reducible repeat (first | refine blk_drewN ?_ _ | refine blk_drew ?_ | refine blk_alloc ?_ _)); exact BK416.out)) : gb423 ≠ gb416)); clear BK416; clear HB; have BK416 := n0_; have HB := n1_; have BK423 := n2_; have GW423 := n3_; have GE423 := n4_; have NB416_423 := n5_; have NB423_416 := n6_; clear n0_ n1_ n2_ n3_ n4_ n5_ n6_; clear hb hbox hg; have hnb23 := NB423_416.out; have hnc23 := NB416_423.out; have hcz24_0 : w22.cell? ⟨gb423, 0, none⟩ = some (.int .i64 0) := (blk_cell BK423.out 0).trans rfl; have hcz24_1 : w22.cell? ⟨gb423, 1, none⟩ = some (.int .i64 0) := (blk_cell BK423.out 1).trans rfl; have hcz24_2 : w22.cell? ⟨gb423, 2, none⟩ = some (.int .i64 0) := (blk_cell BK423.out 2).trans rfl; have hcz24_3 : w22.cell? ⟨gb423, 3, none⟩ = some (.int .i64 0) := (blk_cell BK423.out 3).trans rfl; have hfz24_0 := blk_frozen BK423.out 0; have hfz24_1 := blk_frozen BK423.out 1; have hfz24_2 := blk_frozen BK423.out 2; have hfz24_3 := blk_frozen BK423.out 3))
                  have n0_ : Aside0 (((((w22.setCell ⟨gb423, 0, none⟩ (.int .i64 t418)).setCell ⟨gb423, 1, none⟩ (.int .i64 t419)).setCell ⟨gb423, 2, none⟩ (.int .i64 t420)).setCell ⟨gb423, 3, none⟩ (.int .i64 t421)).heap[gb416]? = some (.cells #[.int .i64 0, .int .i64 0, .int .i64 0, .int .i64 0, .int .i64 0, .string (⟨#[]⟩ : ByteArray)] 57 (0, 0))) := ⟨by (with_reducible repeat (first | refine blk_drewN ?_ _ | refine blk_drew ?_ | refine blk_alloc ?_ _)); refine blk_far ?_ NB416_423.out _; (with_reducible repeat (first | refine blk_drewN ?_ _ | refine blk_drew ?_ | refine blk_alloc ?_ _)); refine blk_far ?_ NB416_423.out _; (with_reducible repeat (first | refine blk_drewN ?_ _ | refine blk_drew ?_ | refine blk_alloc ?_ _)); refine blk_far ?_ NB416_423.out _; (with_reducible repeat (first | refine blk_drewN ?_ _ | refine blk_drew ?_ | refine blk_alloc ?_ _)); refine blk_far ?_ NB416_423.out _; (with_reducible repeat (first | refine blk_drewN ?_ _ | refine blk_drew ?_ | refine blk_alloc ?_ _)); exact BK416.out⟩
                  have n1_ : Aside0 (((((w22.setCell ⟨gb423, 0, none⟩ (.int .i64 t418)).setCell ⟨gb423, 1, none⟩ (.int .i64 t419)).setCell ⟨gb423, 2, none⟩ (.int .i64 t420)).setCell ⟨gb423, 3, none⟩ (.int .i64 t421)).heap[gb423]? = some (.cells #[.int .i64 t418, .int .i64 t419, .int .i64 t420, .int .i64 t421] 55 (0, 0))) := ⟨by (with_reducible repeat (first | refine blk_drewN ?_ _ | refine blk_drew ?_ | refine blk_alloc ?_ _)); refine blk_put (cs := #[.int .i64 t418, .int .i64 t419, .int .i64 t420, .int .i64 0]) ?_ 3 _ rfl; (with_reducible repeat (first | refine blk_drewN ?_ _ | refine blk_drew ?_ | refine blk_alloc ?_ _)); refine blk_put (cs := #[.int .i64 t418, .int .i64 t419, .int .i64 0, .int .i64 0]) ?_ 2 _ rfl; (with_reducible repeat (first | refine blk_drewN ?_ _ | refine blk_drew ?_ | refine blk_alloc ?_ _)); refine blk_put (cs := #[.int .i64 t418, .int .i64 0, .int .i64 0, .int .i64 0]) ?_ 1 _ rfl; (with_reducible repeat (first | refine blk_drewN ?_ _ | refine blk_drew ?_ | refine blk_alloc ?_ _)); refine blk_put (cs := #[.int .i64 0, .int .i64 0, .int .i64 0, .int .i64 0]) ?_ 0 _ rfl; (with_reducible repeat (first | refine blk_drewN ?_ _ | refine blk_drew ?_ | refine blk_alloc ?_ _)); exact BK423.out⟩
                  have n2_ : Aside0 (Below w.heap.size w ((((w22.setCell ⟨gb423, 0, none⟩ (.int .i64 t418)).setCell ⟨gb423, 1, none⟩ (.int .i64 t419)).setCell ⟨gb423, 2, none⟩ (.int .i64 t420)).setCell ⟨gb423, 3, none⟩ (.int .i64 t421))) := ⟨by repeat (first | (with_reducible first | exact HB.out | apply below_alloc | apply pw_below_drewN | apply below_drew1 | refine below_set ?_ GE416.out | refine below_set ?_ GE423.out) | exact HB.out)⟩
                  (try clear BK416)
                  (try clear BK423)
                  (try clear HB)
                  generalize ((((w22.setCell ⟨gb423, 0, none⟩ (.int .i64 t418)).setCell ⟨gb423, 1, none⟩ (.int .i64 t419)).setCell ⟨gb423, 2, none⟩ (.int .i64 t420)).setCell ⟨gb423, 3, none⟩ (.int .i64 t421)) = w25 at n0_ n1_ n2_ ⊢
                  have BK416 := n0_
                  have BK423 := n1_
                  have HB := n2_
                  clear n0_ n1_ n2_
                  have n0_ := Aside0.mk (blk_drew BK416.out)
                  have n1_ := Aside0.mk (blk_drew BK423.out)
                  have n2_ := Aside0.mk (below_drew1 HB.out)
                  clear BK416
                  clear BK423
                  clear HB
                  have BK416 := n0_
                  have BK423 := n1_
                  have HB := n2_
                  clear n0_ n1_ n2_
                  refine start_ (n := 8) (S := fun w' => w'.cell? ⟨gb423, 0, none⟩ = some (.int .i64 t418) ∧ w'.cell? ⟨gb423, 1, none⟩ = some (.int .i64 t419) ∧ w'.cell? ⟨gb423, 2, none⟩ = some (.int .i64 t420) ∧ w'.cell? ⟨gb423, 3, none⟩ = some (.int .i64 t421)) (ds := []) (tfA 0 8) (by kernel_rfl) rfl rfl ⟨(blk_cell BK423.out 0).trans rfl, (blk_cell BK423.out 1).trans rfl, (blk_cell BK423.out 2).trans rfl, (blk_cell BK423.out 3).trans rfl⟩ (fun hHeld => ?_); refine with_tabW frame_whole.tab7 frame_whole.bits7 (fun HT_ HW_ => ?_)
                  generalize w25.drew = w26 at BK416 BK423 HB hHeld ⊢
                  refine pure_ (i := 0) (N := some 32) (v := ?_) (a' := ?_) (tfA 1 8) rfl rfl (any_of HT_.out (by kernel_rfl)) (fun _ _ _ h => h) (Or.inl ⟨by rfl, ?_⟩) ?_ ?_
                  rotate_left
                  · intro w'; go_simp; with_reducible rfl
                  rotate_left
                  · simp only [Act.put, sib, sc0, sc1, i64_w, i32_w]; rfl
                  refine pure_ (i := 2) (N := some 34) (v := ?_) (a' := ?_) #[true, false, true, false, false, false, false, false] rfl rfl (any_of HT_.out (by kernel_rfl)) (fun _ _ _ h => h) (Or.inl ⟨by rfl, ?_⟩) ?_ ?_
                  rotate_left
                  · intro w'; go_simp; with_reducible rfl
                  rotate_left
                  · simp only [Act.put, sib, sc0, sc1, i64_w, i32_w]; rfl
                  refine pure_ (i := 3) (N := some 35) (v := ?_) (a' := ?_) #[true, false, true, true, false, false, false, false] rfl rfl (any_of HT_.out (by kernel_rfl)) (fun _ _ _ h => h) (Or.inl ⟨by rfl, ?_⟩) ?_ ?_
                  rotate_left
                  · intro w'; go_simp; with_reducible rfl
                  rotate_left
                  · simp only [Act.put, sib, sc0, sc1, i64_w, i32_w]; rfl
                  refine pure_ (i := 4) (N := some 36) (v := ?_) (a' := ?_) #[true, false, true, true, true, false, false, false] rfl rfl (any_of HT_.out (by kernel_rfl)) (fun _ _ _ h => h) (Or.inl ⟨by rfl, ?_⟩) ?_ ?_
                  rotate_left
                  · intro w'; go_simp; with_reducible rfl
                  rotate_left
                  · simp only [Act.put, sib, sc0, sc1, i64_w, i32_w]; rfl
                  refine pure_ (i := 5) (N := some 37) (v := ?_) (a' := ?_) #[true, false, true, true, true, true, false, false] rfl rfl (any_of HT_.out (by kernel_rfl)) (fun _ _ _ h => h) (Or.inl ⟨by rfl, ?_⟩) ?_ ?_
                  rotate_left
                  · intro w'; go_simp; with_reducible rfl
                  rotate_left
                  · simp only [Act.put, sib, sc0, sc1, i64_w, i32_w]; rfl
                  refine take_ (i := 1) (N := some 33) (v := ?_) (a' := ?_) (tfA 6 8) rfl rfl (take_ofW HT_.out HW_.out (by kernel_rfl)) (fun _ _ _ h => h) (Or.inl ⟨by rfl, ?_⟩) hHeld ?_ ?_
                  rotate_left
                  · rintro w' ⟨s0, s1, s2, s3⟩
                    go_simp
                    with_reducible rfl
                  rotate_left
                  · simp only [Act.put, sib, sc0, sc1, i64_w, i32_w]
                    rfl
                  refine pure_ (i := 6) (N := some 38) (v := ?_) (a' := ?_) (tfA 7 8) rfl rfl (any_of HT_.out (by kernel_rfl)) (fun _ _ _ h => h) (Or.inl ⟨by rfl, ?_⟩) ?_ ?_
                  rotate_left
                  · intro w'; go_simp; with_reducible rfl
                  rotate_left
                  · simp only [Act.put, sib, sc0, sc1, i64_w, i32_w]; rfl
                  refine one_ (i := 7) (N := none) (tfA 8 8) rfl rfl (one_of HT_.out (by kernel_rfl)) (by decide) (fun K hK => ?_)
                  have hs27 : w26.cell? ⟨gb416, 0, none⟩ = some (.int .i64 0) := (blk_cell BK416.out 0).trans rfl
                  have hfs27 := blk_frozen BK416.out 0
                  have hns27_1 := NB423_416.out
                  have hms27_1 := NB416_423.out
                  have hs28 : w26.cell? ⟨gb416, 1, none⟩ = some (.int .i64 0) := (blk_cell BK416.out 1).trans rfl
                  have hfs28 := blk_frozen BK416.out 1
                  have hns28_1 := NB423_416.out
                  have hms28_1 := NB416_423.out
                  have hs29 : w26.cell? ⟨gb416, 2, none⟩ = some (.int .i64 0) := (blk_cell BK416.out 2).trans rfl
                  have hfs29 := blk_frozen BK416.out 2
                  have hns29_1 := NB423_416.out
                  have hms29_1 := NB416_423.out
                  have hs30 : w26.cell? ⟨gb416, 3, none⟩ = some (.int .i64 0) := (blk_cell BK416.out 3).trans rfl
                  have hfs30 := blk_frozen BK416.out 3
                  have hns30_1 := NB423_416.out
                  have hms30_1 := NB416_423.out
                  have hs31 : w26.cell? ⟨gb416, 4, none⟩ = some (.int .i64 0) := (blk_cell BK416.out 4).trans rfl
                  have hfs31 := blk_frozen BK416.out 4
                  have hns31_1 := NB423_416.out
                  have hms31_1 := NB416_423.out
                  have hs32 : w26.cell? ⟨gb416, 5, none⟩ = some (.string (⟨#[]⟩ : ByteArray)) := (blk_cell BK416.out 5).trans rfl
                  have hfs32 := blk_frozen BK416.out 5
                  have hns32_1 := NB423_416.out
                  have hms32_1 := NB416_423.out
                  refine skip_ (w1 := ?_) (by rfl) rfl ?_ ?_
                  rotate_left
                  · go_simp
                    rfl
                  refine hK.out _ _ ⟨((cell_far (p := ⟨gb416, _, none⟩) NB423_416.out _).trans (((cell_far (p := ⟨gb416, _, none⟩) NB423_416.out _).trans (((cell_far (p := ⟨gb416, _, none⟩) NB423_416.out _).trans (((cell_far (p := ⟨gb416, _, none⟩) NB423_416.out _).trans (((cell_far (p := ⟨gb416, _, none⟩) NB423_416.out _).trans (((cell_far (p := ⟨gb416, _, none⟩) NB423_416.out _).trans (hHeld.1)))))))))))), ((cell_far (p := ⟨gb416, _, none⟩) NB423_416.out _).trans (((cell_far (p := ⟨gb416, _, none⟩) NB423_416.out _).trans (((cell_far (p := ⟨gb416, _, none⟩) NB423_416.out _).trans (((cell_far (p := ⟨gb416, _, none⟩) NB423_416.out _).trans (((cell_far (p := ⟨gb416, _, none⟩) NB423_416.out _).trans (((cell_far (p := ⟨gb416, _, none⟩) NB423_416.out _).trans (hHeld.2.1)))))))))))), ((cell_far (p := ⟨gb416, _, none⟩) NB423_416.out _).trans (((cell_far (p := ⟨gb416, _, none⟩) NB423_416.out _).trans (((cell_far (p := ⟨gb416, _, none⟩) NB423_416.out _).trans (((cell_far (p := ⟨gb416, _, none⟩) NB423_416.out _).trans (((cell_far (p := ⟨gb416, _, none⟩) NB423_416.out _).trans (((cell_far (p := ⟨gb416, _, none⟩) NB423_416.out _).trans (hHeld.2.2.1)))))))))))), ((cell_far (p := ⟨gb416, _, none⟩) NB423_416.out _).trans (((cell_far (p := ⟨gb416, _, none⟩) NB423_416.out _).trans (((cell_far (p := ⟨gb416, _, none⟩) NB423_416.out _).trans (((cell_far (p := ⟨gb416, _, none⟩) NB423_416.out _).trans (((cell_far (p := ⟨gb416, _, none⟩) NB423_416.out _).trans (((cell_far (p := ⟨gb416, _, none⟩) NB423_416.out _).trans (hHeld.2.2.2))))))))))))⟩ (fun hHeld => ?_)
                  clear hK K
                  refine done_ (done_of HT_.out (by kernel_rfl)) ?_
                  try go_wp2
                  refine bodyPost_ret (results_cell_row rfl _ _ gb416 57 #[.int .i64 a1, .int .i64 t418, .int .i64 t419, .int .i64 t420, .int .i64 t421, .string (a0.extract 16 ((wrap64 ((wrap64 ((a0.size : Int) - 4)) - 4)) : Int).toNat)] (0, 0) _ rfl (by (with_reducible repeat (first | refine blk_drewN ?_ _ | refine blk_drew ?_ | refine blk_alloc ?_ _)); refine blk_put (cs := #[.int .i64 a1, .int .i64 t418, .int .i64 t419, .int .i64 t420, .int .i64 t421, .string (⟨#[]⟩ : ByteArray)]) ?_ 5 _ rfl; (with_reducible repeat (first | refine blk_drewN ?_ _ | refine blk_drew ?_ | refine blk_alloc ?_ _)); refine blk_put (cs := #[.int .i64 a1, .int .i64 t418, .int .i64 t419, .int .i64 t420, .int .i64 0, .string (⟨#[]⟩ : ByteArray)]) ?_ 4 _ rfl; (with_reducible repeat (first | refine blk_drewN ?_ _ | refine blk_drew ?_ | refine blk_alloc ?_ _)); refine blk_put (cs := #[.int .i64 a1, .int .i64 t418, .int .i64 t419, .int .i64 0, .int .i64 0, .string (⟨#[]⟩ : ByteArray)]) ?_ 3 _ rfl; (with_reducible repeat (first | refine blk_drewN ?_ _ | refine blk_drew ?_ | refine blk_alloc ?_ _)); refine blk_put (cs := #[.int .i64 a1, .int .i64 t418, .int .i64 0, .int .i64 0, .int .i64 0, .string (⟨#[]⟩ : ByteArray)]) ?_ 2 _ rfl; (with_reducible repeat (first | refine blk_drewN ?_ _ | refine blk_drew ?_ | refine blk_alloc ?_ _)); refine blk_put (cs := #[.int .i64 a1, .int .i64 0, .int .i64 0, .int .i64 0, .int .i64 0, .string (⟨#[]⟩ : ByteArray)]) ?_ 1 _ rfl; (with_reducible repeat (first | refine blk_drewN ?_ _ | refine blk_drew ?_ | refine blk_alloc ?_ _)); refine blk_put (cs := #[.int .i64 0, .int .i64 0, .int .i64 0, .int .i64 0, .int .i64 0, .string (⟨#[]⟩ : ByteArray)]) ?_ 0 _ rfl; (with_reducible repeat (first | refine blk_drewN ?_ _ | refine blk_drew ?_ | refine blk_alloc ?_ _)); exact BK416.out) Tryd.underlying57 rfl (by kernel_rfl)) rfl ?_
                  exact ⟨by first | rfl | (simp [errW_none, errW_some] <;> rfl) | (simp [*, errW_none, errW_some] <;> rfl), by repeat (first | (with_reducible first | exact HB.out | apply below_alloc | apply pw_below_drewN | apply below_drew1 | refine below_set ?_ GE416.out | refine below_set ?_ GE423.out) | exact HB.out)⟩
                · rw [if_neg c20] at H
                  exact absurd H (by simp)
              · rw [if_neg c19] at H
                exact absurd H (by simp)
            · rw [if_neg c18] at H
              have c18b0 : (t422 == 0) = false := beq_eq_false_iff_ne.mpr c18
              have c18b1 : (t422 != 0) = true := bne_iff_ne.mpr c18
              simp only [Option.some.injEq, Prod.mk.injEq] at H
              obtain ⟨rfl, rfl, rfl, rfl, rfl, rfl⟩ := H
              go_wp2_with (first | ((with_reducible refine gate_callee (f := 77) rfl ?_); refine goesL_ (some 26) rfl rfl Tryd.func77 (by kernel_rfl) rfl #[.string (a0.extract 0 16)] rfl (by (try simp only [List.map_toArray, List.map_cons, List.map_nil]); first | done | rfl | (simp only [List.length_drop, List.length_take]; rfl)) ?_; (with_reducible refine (tag_Decode.calls kj2 (a0.extract 0 16) t418 t419 t420 t421 t422 _ A17.out).mono ?_); rintro e w33 ⟨rfl, hb⟩; refine ⟨_, rfl, ?_⟩; have n0_ := Aside0.mk (blk_below (g := gb416) (o := .cells #[.int .i64 0, .int .i64 0, .int .i64 0, .int .i64 0, .int .i64 0, .string (⟨#[]⟩ : ByteArray)] 57 (0, 0)) (by (with_reducible repeat (first | refine blk_drewN ?_ _ | refine blk_drew ?_ | refine blk_alloc ?_ _)); exact BK416.out) hb); have n1_ := Aside0.mk (below_step (by repeat (first | (with_reducible first | exact HB.out | apply below_alloc | apply pw_below_drewN | apply below_drew1 | refine below_set ?_ GE416.out) | exact HB.out)) hb); clear BK416; clear HB; have BK416 := n0_; have HB := n1_; clear n0_ n1_; (try clear hb); (try clear hb2); (try clear hk); (try clear hi)) | ((with_reducible refine gate_dst (N := 6) rfl ?_); refine box_event ?hg (N := 6) ?hd (cs := #[.int .i64 0, .int .i64 0, .int .i64 0, .int .i64 0]) (t := 55) ?hr ?_; (case hd => rfl); (case hg => rfl); (case hr => first | (go_simp; done) | (go_simp; rfl)); intro gb423 hg w34 hbox hb; have n0_ := Aside0.mk (blk_below (g := gb416) (o := .cells #[.int .i64 0, .int .i64 0, .int .i64 0, .int .i64 0, .int .i64 0, .string (⟨#[]⟩ : ByteArray)] 57 (0, 0)) (by (with_reducible repeat (first | refine blk_drewN ?_ _ | refine blk_drew ?_ | refine blk_alloc ?_ _)); exact BK416.out) hb); have n1_ := Aside0.mk (below_step (by repeat (first | (with_reducible first | exact HB.out | apply below_alloc | apply pw_below_drewN | apply below_drew1 | refine below_set ?_ GE416.out) | exact HB.out)) hb); have n2_ := Aside0.mk (hbox); have n3_ := Aside0.mk ((by rw [hg]; exact (below_size (by repeat (first | (with_reducible first | exact HB.out | apply below_alloc | apply pw_below_drewN | apply below_drew1 | refine below_set ?_ GE416.out) | exact HB.out))) : w.heap.size ≤ gb423)); have n4_ := Aside0.mk ((by rw [hg]; exact (below_size (by repeat (first | (with_reducible first | exact HB.out | apply below_alloc | apply pw_below_drewN | apply below_drew1 | refine below_set ?_ GE416.out) | exact HB.out))) : w.heap.size ≤ gb423)); have n5_ := Aside0.mk ((by rw [hg]; exact Nat.ne_of_lt (blk_lt (g := gb416) (o := .cells #[.int .i64 0, .int .i64 0, .int .i64 0, .int .i64 0, .int .i64 0, .string (⟨#[]⟩ : ByteArray)] 57 (0, 0)) (by (with_reducible repeat (first | refine blk_drewN ?_ _ | refine blk_drew ?_ | refine blk_alloc ?_ _)); exact BK416.out)) : gb416 ≠ gb423)); have n6_ := Aside0.mk ((by rw [hg]; exact Nat.ne_of_gt (blk_lt (g := gb416) (o := .cells #[.int .i64 0, .int .i64 0, .int .i64 0, .int .i64 0, .int .i64 0, .string (⟨#[]⟩ : ByteArray)] 57 (0, 0)) (by (with_reducible repeat (first | refine blk_drewN ?_ _ | refine blk_drew ?_ | refine blk_alloc ?_ _)); exact BK416.out)) : gb423 ≠ gb416)); clear BK416; clear HB; have BK416 := n0_; have HB := n1_; have BK423 := n2_; have GW423 := n3_; have GE423 := n4_; have NB416_423 := n5_; have NB423_416 := n6_; clear n0_ n1_ n2_ n3_ n4_ n5_ n6_; clear hb hbox hg; have hnb35 := NB423_416.out; have hnc35 := NB416_423.out; have hcz36_0 : w34.cell? ⟨gb423, 0, none⟩ = some (.int .i64 0) := (blk_cell BK423.out 0).trans rfl; have hcz36_1 : w34.cell? ⟨gb423, 1, none⟩ = some (.int .i64 0) := (blk_cell BK423.out 1).trans rfl; have hcz36_2 : w34.cell? ⟨gb423, 2, none⟩ = some (.int .i64 0) := (blk_cell BK423.out 2).trans rfl; have hcz36_3 : w34.cell? ⟨gb423, 3, none⟩ = some (.int .i64 0) := (blk_cell BK423.out 3).trans rfl; have hfz36_0 := blk_frozen BK423.out 0; have hfz36_1 := blk_frozen BK423.out 1; have hfz36_2 := blk_frozen BK423.out 2; have hfz36_3 := blk_frozen BK423.out 3; have hcz37_0 : w34.cell? ⟨gb416, 0, none⟩ = some (.int .i64 0) := (blk_cell BK416.out 0).trans rfl; have hcz37_1 : w34.cell? ⟨gb416, 1, none⟩ = some (.int .i64 0) := (blk_cell BK416.out 1).trans rfl; have hcz37_2 : w34.cell? ⟨gb416, 2, none⟩ = some (.int .i64 0) := (blk_cell BK416.out 2).trans rfl; have hcz37_3 : w34.cell? ⟨gb416, 3, none⟩ = some (.int .i64 0) := (blk_cell BK416.out 3).trans rfl; have hcz37_4 : w34.cell? ⟨gb416, 4, none⟩ = some (.int .i64 0) := (blk_cell BK416.out 4).trans rfl; have hcz37_5 : w34.cell? ⟨gb416, 5, none⟩ = some (.string (⟨#[]⟩ : ByteArray)) := (blk_cell BK416.out 5).trans rfl; have hfz37_0 := blk_frozen BK416.out 0; have hfz37_1 := blk_frozen BK416.out 1; have hfz37_2 := blk_frozen BK416.out 2; have hfz37_3 := blk_frozen BK416.out 3; have hfz37_4 := blk_frozen BK416.out 4; have hfz37_5 := blk_frozen BK416.out 5))
              refine bodyPost_ret (results_cell_row rfl _ _ gb416 57 #[.int .i64 4, .int .i64 0, .int .i64 0, .int .i64 0, .int .i64 0, .string (⟨#[]⟩ : ByteArray)] (0, 0) _ rfl (by (with_reducible repeat (first | refine blk_drewN ?_ _ | refine blk_drew ?_ | refine blk_alloc ?_ _)); refine blk_put (cs := #[.int .i64 4, .int .i64 0, .int .i64 0, .int .i64 0, .int .i64 0, .string (⟨#[]⟩ : ByteArray)]) ?_ 5 _ rfl; (with_reducible repeat (first | refine blk_drewN ?_ _ | refine blk_drew ?_ | refine blk_alloc ?_ _)); refine blk_put (cs := #[.int .i64 4, .int .i64 0, .int .i64 0, .int .i64 0, .int .i64 0, .string (⟨#[]⟩ : ByteArray)]) ?_ 4 _ rfl; (with_reducible repeat (first | refine blk_drewN ?_ _ | refine blk_drew ?_ | refine blk_alloc ?_ _)); refine blk_put (cs := #[.int .i64 4, .int .i64 0, .int .i64 0, .int .i64 0, .int .i64 0, .string (⟨#[]⟩ : ByteArray)]) ?_ 3 _ rfl; (with_reducible repeat (first | refine blk_drewN ?_ _ | refine blk_drew ?_ | refine blk_alloc ?_ _)); refine blk_put (cs := #[.int .i64 4, .int .i64 0, .int .i64 0, .int .i64 0, .int .i64 0, .string (⟨#[]⟩ : ByteArray)]) ?_ 2 _ rfl; (with_reducible repeat (first | refine blk_drewN ?_ _ | refine blk_drew ?_ | refine blk_alloc ?_ _)); refine blk_put (cs := #[.int .i64 4, .int .i64 0, .int .i64 0, .int .i64 0, .int .i64 0, .string (⟨#[]⟩ : ByteArray)]) ?_ 1 _ rfl; (with_reducible repeat (first | refine blk_drewN ?_ _ | refine blk_drew ?_ | refine blk_alloc ?_ _)); refine blk_put (cs := #[.int .i64 0, .int .i64 0, .int .i64 0, .int .i64 0, .int .i64 0, .string (⟨#[]⟩ : ByteArray)]) ?_ 0 _ rfl; (with_reducible repeat (first | refine blk_drewN ?_ _ | refine blk_drew ?_ | refine blk_alloc ?_ _)); refine blk_far ?_ NB416_423.out _; (with_reducible repeat (first | refine blk_drewN ?_ _ | refine blk_drew ?_ | refine blk_alloc ?_ _)); refine blk_far ?_ NB416_423.out _; (with_reducible repeat (first | refine blk_drewN ?_ _ | refine blk_drew ?_ | refine blk_alloc ?_ _)); refine blk_far ?_ NB416_423.out _; (with_reducible repeat (first | refine blk_drewN ?_ _ | refine blk_drew ?_ | refine blk_alloc ?_ _)); refine blk_far ?_ NB416_423.out _; (with_reducible repeat (first | refine blk_drewN ?_ _ | refine blk_drew ?_ | refine blk_alloc ?_ _)); exact BK416.out) Tryd.underlying57 rfl (by kernel_rfl)) rfl ?_
              exact ⟨by first | rfl | (simp [errW_none, errW_some] <;> rfl) | (simp [*, errW_none, errW_some] <;> rfl), by repeat (first | (with_reducible first | exact HB.out | apply below_alloc | apply pw_below_drewN | apply below_drew1 | refine below_set ?_ GE416.out | refine below_set ?_ GE423.out) | exact HB.out)⟩
          · rw [if_neg c16] at H
            exact absurd H (by simp)
        · rw [if_neg c15] at H
          exact absurd H (by simp)

end Go.Proofs.YtliiploidjnmnaaDoor.PF
end
