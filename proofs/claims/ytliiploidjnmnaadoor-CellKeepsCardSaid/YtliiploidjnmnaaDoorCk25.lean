/- The law's proof: words, contracts of the functions that it reaches, plain lemmas. -/
import Derived.ArgAppend
import Derived.Below
import Derived.BigQuiet
import Derived.Carry
import Derived.Deep.AppendLies
import Derived.Deep.CutBlock
import Derived.Deep.DeepCutAuto
import Derived.Deep.Draws
import Derived.Deep.LoopGhost
import Derived.Deep.OwnRows
import Derived.Deep.QuietTactic
import Derived.Deep.RegionHeld3
import Derived.Deep.RegionWith
import Derived.KernelRfl
import Derived.Laws.BitsLemmas
import Derived.Laws.BytesArg
import Derived.Laws.IdiomCopy
import Derived.Laws.MakeOwn
import Derived.Laws.OwnMore
import Derived.Laws.Rows
import Derived.Laws.Slices
import Derived.Lib.AppendStr
import Derived.Lib.BufferMore
import Derived.Lib.ConvBytes
import Derived.Lib.Hide
import Derived.Lib.LazyBuf
import Derived.Maps.AppendAt
import Derived.OpenShut
import Derived.OrdersHeld
import Derived.Outline
import Derived.OwnWalk
import Derived.OwnWalkIn
import Derived.RegionTactic
import Derived.RowKit3
import Derived.StillTailTactics
import Derived.Tactics
import Derived.WalkKit
import Derived.WideLaws
import Derived.Test.YtliiploidjnmnaaDoorCk24
import Derived.Test.YtliiploidjnmnaaDoorCk21
import Derived.Test.YtliiploidjnmnaaDoorCk18
import Derived.Test.YtliiploidjnmnaaDoorCk0
section
/- A block that is erased, in plain words. -/
set_option linter.unusedVariables false
set_option linter.unusedSimpArgs false
namespace Go.Proofs.YtliiploidjnmnaaDoor.PF
open Go.RowKit Go.Shelf Go.Proofs.YtliiploidjnmnaaDoorW.PrintWords Go.Proofs.YtliiploidjnmnaaDoor.Hw

/-- A block of so many lines of which the first was written, ahead of its erasing. -/
structure MidE (S : CellS) (n : Nat) (two : Bool) : Prop where
  fit : Fit S
  len : S.lines.length = n
  blank : S.blank = ffs 36
  bad : S.bad = false
  torn : S.torn = false
  mode : S.mode = if two = true then 2 else 1
  slc : S.slc = 0
  tlc : S.tlc = 0
  plain : ∀ i, i < n → Plain0 S i
/-- What stands behind the erasing. -/
structure AfterE (E : CellS) (n : Nat) (two : Bool) (k : Int) : Prop where
  fit : Fit E
  len : E.lines.length = n
  slc : E.slc = if two = true then 0 else 1
  tlc : E.tlc = if two = true then 1 else 0
  modes : ∀ i : Nat, i < n → readOk E i 0
  bads : (k = 1 ∨ k = 2) → ∀ i : Nat, i < n → frame_Decode.f (readB E i 0) = some (4, 0, 0, 0, 0, ⟨#[]⟩)
  news : ¬ (k = 1 ∨ k = 2) → E.mode = 0 ∧ E.done = 0 ∧ progOk E 0 (pgN 1) ∧ ∀ i : Nat, i < n → frame_Decode.f (readB E i 0) = some (1, 0, 0, 0, 0, ⟨#[]⟩)
end Go.Proofs.YtliiploidjnmnaaDoor.PF
end

section
/- The law CellErases: its block ahead of the erasing, in plain words. -/
set_option linter.unusedVariables false
set_option linter.unusedSimpArgs false
namespace Go.Proofs.YtliiploidjnmnaaDoor.PF
open Go.RowKit Go.Shelf Go.Proofs.YtliiploidjnmnaaDoorW.PrintWords Go.Proofs.YtliiploidjnmnaaDoor.Hw

def nw (n : Nat) : CellS := newS n (ffs 36)
end Go.Proofs.YtliiploidjnmnaaDoor.PF
end

section
/- The law CellKeeps: its block, in plain words. -/
set_option linter.unusedVariables false
set_option linter.unusedSimpArgs false
namespace Go.Proofs.YtliiploidjnmnaaDoor.PF
open Go.RowKit Go.Shelf Go.Proofs.YtliiploidjnmnaaDoorW.PrintWords Go.Proofs.YtliiploidjnmnaaDoor.Hw

/-- A block of so many lines, of which the first ones are programmed. -/
structure KS (S : CellS) (L i : Nat) : Prop where
  len : S.lines.length = L
  blank : S.blank = ffs 36
  mode : S.mode = 0 ∨ S.mode = 1
  done : S.done = i
  bad : S.bad = false
  torn : S.torn = false
  slc : S.slc = 0
  tlc : S.tlc = 0
  at_ : ∀ j, j < L → S.lines.getD j line0 = if j < i then pline (pgN j) else line0
theorem getD_set' {α : Type} (ls : List α) (i j : Nat) (l d : α) (hi : i < ls.length) : (ls.set i l).getD j d = if i = j then l else ls.getD j d := by
  rw [List.getD_eq_getElem?_getD, List.getElem?_set, List.getD_eq_getElem?_getD]
  by_cases h : i = j
  · rw [if_pos h, if_pos hi, if_pos h]; rfl
  · rw [if_neg h, if_neg h]
theorem ks_zero (L : Nat) : KS (nw L) L 0 := by
  refine ⟨List.length_replicate, rfl, .inl rfl, rfl, rfl, rfl, rfl, rfl, fun j hj => ?_⟩
  show (List.replicate L line0).getD j line0 = _
  rw [if_neg (by omega), List.getD_eq_getElem?_getD, List.getElem?_replicate]
  split <;> rfl
theorem pg_sizes (m : Nat) : (pline (pgN m)).p0.size ≤ 100000 ∧ (pline (pgN m)).p1.size ≤ 100000 ∧ (pline (pgN m)).p2.size ≤ 100000 := ⟨by show (pgN m).size ≤ _; rw [pgN_size]; omega, Nat.zero_le _, Nat.zero_le _⟩
theorem mem_getD {α : Type} {ls : List α} {l d : α} (h : l ∈ ls) : ∃ j, j < ls.length ∧ ls.getD j d = l := by
  obtain ⟨j, hj, rfl⟩ := List.mem_iff_getElem.mp h
  exact ⟨j, hj, by rw [List.getD_eq_getElem?_getD, List.getElem?_eq_getElem hj]; rfl⟩
theorem KS.fit {S : CellS} {L i : Nat} (h : KS S L i) (h1 : 1 ≤ L) (h64 : L ≤ 64) (hi : i ≤ L) : Fit S := by
  refine ⟨by rw [h.len]; exact h1, by rw [h.len]; exact h64, by rw [h.done]; omega, by rw [h.done, h.len]; omega, ?_, by rw [h.blank, ffs_size]; omega⟩
  intro l hm
  obtain ⟨j, hj, rfl⟩ := mem_getD (d := line0) hm
  rw [h.at_ j (by rw [← h.len]; exact hj)]
  split
  · exact pg_sizes j
  · exact ⟨Nat.zero_le _, Nat.zero_le _, Nat.zero_le _⟩
theorem KS.ok {S : CellS} {L i : Nat} (h : KS S L i) (hi : i < L) (m : Nat) : progOk S i (pgN m) :=
  ⟨h.bad, h.torn, by rcases h.mode with e | e <;> rw [e] <;> decide, h.done.symm, by rw [h.len]; omega, by rw [pgN_size, h.blank, ffs_size]⟩
theorem KS.next {S : CellS} {L i : Nat} (h : KS S L i) (hi : i < L) : KS (prog1 S (pgN i)) L (i + 1) := by
  have hd : S.done.toNat = i := by rw [h.done]; rfl
  refine ⟨by show (S.lines.set _ _).length = L; rw [List.length_set, h.len], h.blank, .inr rfl, by show S.done + 1 = _; rw [h.done]; rfl, h.bad, h.torn, h.slc, h.tlc, fun j hj => ?_⟩
  show (S.lines.set S.done.toNat (pline (pgN i))).getD j line0 = _
  rw [hd, getD_set' _ _ _ _ _ (by rw [h.len]; exact hi), h.at_ j hj]
  by_cases hij : i = j
  · subst hij
    rw [if_pos rfl, if_pos (by omega)]
  · rw [if_neg hij]
    by_cases hlt : j < i
    · rw [if_pos hlt, if_pos (by omega)]
    · rw [if_neg hlt, if_neg (by omega)]
/-- The block behind the last line, of how that goes. -/
structure KE (E : CellS) (L n : Nat) (k : Int) : Prop where
  fit : Fit E
  len : E.lines.length = L
  bad : E.bad = decide (k = 2)
  torn : E.torn = decide (k = 1)
  slc : E.slc = 0
  tlc : E.tlc = 0
  oks : ∀ i : Nat, i < L → readOk E i 0
  goods : ∀ i : Nat, i < n → readB E i 0 = pgN i
  good : ¬ (k = 1 ∨ k = 2) → readB E n 0 = pgN n
  hurt : (k = 1 ∨ k = 2) → frame_Decode.f (readB E n 0) = some (4, 0, 0, 0, 0, ⟨#[]⟩)
  blanks : ∀ i : Nat, n < i → i < L → frame_Decode.f (readB E i 0) = some (1, 0, 0, 0, 0, ⟨#[]⟩)
theorem pgN_dec (n : Nat) (h : n ≤ 255) : frame_Decode.f (pgN n) = some ((2 : Int), (1 : Int), (n : Int), (n : Int), (0 : Int), data8 n) := by
  unfold pgN
  refine page_dec 1 n n 0 (data8 n) (data8_may n) ?_
  unfold mayT
  simp
  omega
theorem good_read {E : CellS} {j m : Nat} (hm : E.mode = 1) (h : E.lines.getD j line0 = pline (pgN m)) : readB E j 0 = pgN m := by
  unfold readB
  rw [h]
  show (if (pgN m).size = 0 then _ else if false = true then _ else if foggyB E j = true then _ else pgN m) = _
  rw [if_neg (by rw [pgN_size]; decide), if_neg (by decide), if_neg]
  unfold foggyB
  rw [hm]
  simp
theorem hurt_read {E : CellS} {j m : Nat} {x y : Int} (h : E.lines.getD j line0 = hurtL (pline (pgN m)) x y) : readB E j 0 = hurtB (pgN m) x y := by
  have e : hurt1 (pgN m) x y = hurtB (pgN m) x y := if_neg (by rw [pgN_size]; decide)
  have hz : (hurtB (pgN m) x y).size = 36 := hurtB_size36 x y (.inr ⟨m, rfl⟩)
  unfold readB
  rw [h]
  show (if (hurt1 (pgN m) x y).size = 0 then _ else if (false || decide ((pgN m).size ≠ 0)) = true then hurt1 (pgN m) x y else _) = _
  rw [e, if_neg (by rw [hz]; decide), if_pos (by rw [pgN_size]; decide)]
theorem hurt1_le {p : ByteArray} (x y : Int) (h : p = ⟨#[]⟩ ∨ ∃ m, p = pgN m) : (hurt1 p x y).size ≤ 100000 := by
  unfold hurt1
  rcases h with rfl | ⟨m, rfl⟩
  · rw [if_pos (show (⟨#[]⟩ : ByteArray).size = 0 from rfl)]; exact Nat.zero_le _
  · rw [if_neg (by rw [pgN_size]; decide), hurtB_size36 x y (.inr ⟨m, rfl⟩)]; omega
theorem ke_of {S : CellS} {L n : Nat} (h : KS S L n) (hn : n < L) (h64 : L ≤ 64) (k x y : Int) : KE (progS S n (pgN n) k x y) L n k := by
  have h' := h.next hn
  have hf' := h'.fit (by omega) h64 (by omega)
  have hm : (prog1 S (pgN n)).mode = 1 := rfl
  have hd : S.done.toNat = n := by rw [h.done]; rfl
  unfold progS
  rw [if_pos (h.ok hn n), hd]
  obtain ⟨P, hP⟩ : ∃ P, P = prog1 S (pgN n) := ⟨_, rfl⟩
  rw [← hP] at h' hf' hm ⊢
  clear hP
  have hcur : P.lines.getD n line0 = pline (pgN n) := by rw [h'.at_ n hn, if_pos (by omega)]
  have ho : ∀ E : CellS, E.lines.length = L → ∀ i : Nat, i < L → readOk E i 0 := fun E hE i hi => ⟨by omega, by omega, by omega, by omega, fun q => q.2 rfl⟩
  by_cases hk : k = 1 ∨ k = 2
  · have hlen : (hurtS P n x y).lines.length = L := by show (P.lines.set _ _).length = L; rw [List.length_set, h'.len]
    have hat : ∀ j, (hurtS P n x y).lines.getD j line0 = if n = j then hurtL (pline (pgN n)) x y else P.lines.getD j line0 := fun j => by
      show (P.lines.set n (hurtL (P.lines.getD n line0) x y)).getD j line0 = _
      rw [getD_set' _ _ _ _ _ (by rw [h'.len]; exact hn), hcur]
    have main : ∀ E : CellS, E.lines = (hurtS P n x y).lines → E.blank = P.blank → E.mode = P.mode → E.done = P.done → E.bad = decide (k = 2) → E.torn = decide (k = 1) → E.slc = P.slc → E.tlc = P.tlc → KE E L n k := by
      intro E e1 e2 e3 e4 e5 e6 e7 e8
      have hat : ∀ j, E.lines.getD j line0 = if n = j then hurtL (pline (pgN n)) x y else P.lines.getD j line0 := by rw [e1]; exact hat
      have hlen : E.lines.length = L := by rw [e1]; exact hlen
      refine ⟨⟨by omega, by omega, by rw [e4]; exact hf'.d0, by rw [e4, hlen, ← h'.len]; exact hf'.d1, ?_, by rw [e2]; exact hf'.blank⟩, hlen, e5, e6, by rw [e7]; exact h'.slc, by rw [e8]; exact h'.tlc, ho _ hlen, ?_, fun q => absurd hk q, ?_, ?_⟩
      · intro l hl
        obtain ⟨j, hj, rfl⟩ := mem_getD (d := line0) hl
        rw [hat j]
        split
        · exact ⟨hurt1_le x y (.inr ⟨n, rfl⟩), hurt1_le x y (.inl rfl), hurt1_le x y (.inl rfl)⟩
        · rw [h'.at_ j (by omega)]
          split
          · exact pg_sizes j
          · exact ⟨Nat.zero_le _, Nat.zero_le _, Nat.zero_le _⟩
      · intro i hi
        refine good_read (by rw [e3]; exact hm) ?_
        rw [hat i, if_neg (by omega), h'.at_ i (by omega), if_pos (by omega)]
      · intro _
        rw [hurt_read (by rw [hat n, if_pos rfl])]
        exact pageish_two x y (.inr ⟨n, rfl⟩)
      · intro i hi hiL
        refine blank_read (by rw [e2]; exact h'.blank) ?_
        rw [hat i, if_neg (by omega), h'.at_ i hiL, if_neg (by omega)]
        rfl
    unfold endsS
    by_cases k1 : k = 1
    · rw [if_pos k1]
      exact main _ rfl rfl rfl rfl (by rw [decide_eq_false (by omega)]; exact h'.bad) (by rw [decide_eq_true k1]) rfl rfl
    · rw [if_neg k1, if_pos (by omega)]
      exact main _ rfl rfl rfl rfl (by rw [decide_eq_true (by omega)]) (by rw [decide_eq_false k1]; exact h'.torn) rfl rfl
  · unfold endsS
    rw [if_neg (fun q => hk (.inl q)), if_neg (fun q => hk (.inr q))]
    refine ⟨hf', h'.len, by rw [h'.bad, decide_eq_false (fun q => hk (.inr q))], by rw [h'.torn, decide_eq_false (fun q => hk (.inl q))], h'.slc, h'.tlc, ho _ h'.len, ?_, fun _ => good_read hm hcur, fun q => absurd q hk, ?_⟩
    · intro i hi
      exact good_read hm (by rw [h'.at_ i (by omega), if_pos (by omega)])
    · intro i hi hiL
      refine blank_read h'.blank ?_
      rw [h'.at_ i hiL, if_neg (by omega)]
      rfl
theorem KE.again {E : CellS} {L n : Nat} {k : Int} (h : KE E L n k) (hk : k = 1 ∨ k = 2) (a : Int) (p : ByteArray) : ¬ progOk E a p := by
  intro q
  have q1 := q.1
  have q2 := q.2.1
  rw [h.bad] at q1
  rw [h.torn] at q2
  rcases hk with rfl | rfl
  · exact absurd q2 (by decide)
  · exact absurd q1 (by decide)
theorem KE.erase {E : CellS} {L n : Nat} {k : Int} (h : KE E L n k) (hk : k ≠ 2) : eraseC E 0 = 0 ∧ eraseS E 0 0 0 = erased (erase1 E) ∧ E.bad = false := by
  have hb : E.bad = false := by rw [h.bad, decide_eq_false hk]
  have hn : ¬ E.bad = true := by rw [hb]; decide
  exact ⟨by unfold eraseC; rw [if_neg hn]; rfl, by unfold eraseS; rw [if_neg hn, if_neg (by decide)], hb⟩
theorem KE.erase2 {E : CellS} {L n : Nat} (h : KE E L n 2) : eraseC E 0 = 80 ∧ eraseS E 0 0 0 = E ∧ E.bad = true := by
  have hb : E.bad = true := by rw [h.bad]; rfl
  exact ⟨by unfold eraseC; rw [if_pos hb], by unfold eraseS; rw [if_pos hb], hb⟩
end Go.Proofs.YtliiploidjnmnaaDoor.PF
end

section
/- The law CellKeeps, by hand: the walk. -/
set_option linter.unusedVariables false
set_option linter.unusedSimpArgs false
namespace Go.Proofs.YtliiploidjnmnaaDoor.PF
open Go.RowKit Go.Shelf Go.Proofs.YtliiploidjnmnaaDoor.Tf Go.Proofs.YtliiploidjnmnaaDoorW.PrintWords Go.Proofs.YtliiploidjnmnaaDoorW.PrintLast Go.Proofs.YtliiploidjnmnaaDoor.Mem Go.Proofs.YtliiploidjnmnaaDoor.Own Go.Proofs.YtliiploidjnmnaaDoor.Hw

def keeps.T16 : Bool × List (List Nat × List Nat) := (true, [([], []), ([], []), ([1], [1]), ([0, 2], [0, 2]), ([3], [3]), ([4], [4]), ([5, 4, 4], [4, 5]), ([6], [6]), ([6], [6]), ([8, 6], [6, 8]), ([6], [6]), ([10, 6, 6], [6, 10]), ([6], [6]), ([7, 9, 11, 12, 11, 6], [6, 7, 9, 11, 12]), ([13, 6], [6, 13]), ([6, 14, 4], [4, 6, 14]), ([4, 15], [4, 15]), ([16, 13], [16]), ([17], [17]), ([18, 17, 17], [17, 18]), ([17], [17]), ([20, 17], [17, 20]), ([21, 17], [17, 21]), ([19, 22, 17], [17, 19, 22]), ([17, 23], [17, 23]), ([24, 19], [24]), ([25], [25]), ([26, 25, 25], [25, 26]), ([25], [25]), ([28, 25], [25, 28]), ([29, 25], [25, 29]), ([27, 30, 25], [25, 27, 30]), ([25, 31], [25, 31])])
def keeps.B16 : List Nat := [0, 0, 2, 7, 15, 31, 63, 127, 127, 383, 127, 1151, 127, 8191, 16383, 32767, 65535, 131071, 262143, 524287, 262143, 1310719, 3407871, 8388607, 16777215, 33554431, 67108863, 134217727, 67108863, 335544319, 872415231, 2147483647, 4294967295]
theorem keeps.tab16 : rtab .any (opsOf Tryd.f7 16) = keeps.T16 := by kernel_rfl
theorem keeps.bits16 : waitsOk keeps.T16.2 keeps.B16 = true := by kernel_rfl
set_option maxHeartbeats 8000000 in
set_option maxRecDepth 100000 in
theorem keeps_walk (l n : Nat) (a0 a1 a2 a3 : Int) (w : World) (h1 : 1 ≤ l) (h20 : l ≤ 20) (hn : n < l) (HL : Aside0 (Laid w)) :
    Calls Tryd.prog 7 #[.int .i64 l, .int .i64 n, fltV a0 a1 a2 a3] w fun e w' => e = .returned (.bool true) ∧ Below w.heap.size w w' := by
  have o0 := (Own.Own.new w).alloc (.cells #[.int .i64 a0, .int .i64 a1, .int .i64 a2, .int .i64 a3] 38)
  obtain ⟨HW, hHW⟩ : ∃ b, b = w.heap.size := ⟨_, rfl⟩
  have O0 := Aside0.mk o0
  clear o0 hHW
  go_enter Tryd.func7, Tryd.ntmps7
  go_wp2_with fail
  refine (works_calls _ (Hw.laid_at HL O0.out.below)).mono ?_
  rintro e w1 ⟨rfl, hb⟩
  have O1 := Aside0.mk (O0.out.move hb)
  clear hb O0
  have c1 : ¬ (l : Int) < 1 := by omega
  have c2 : ¬ (l : Int) > 20 := by omega
  have c3 : ¬ (n : Int) < 0 := by omega
  have c4 : ¬ (n : Int) ≥ (l : Int) := by omega
  have c5 : ¬ n ≥ l := by omega
  go_wp2_with fail
  clear c1 c2 c3 c4 c5
  refine (new_yes l 8 h1 (by omega) (by decide) O1.out).mono ?_
  rintro e w2 ⟨g, lb, rfl, hb⟩
  have O2 : Aside0 (Own.Own w w2 (CellO g lb (nw l) _)) := ⟨hb⟩
  clear hb O1
  go_wp2_with fail
  go_loopw [46] (fun v46 wr => ∃ (i : Nat), i ≤ n ∧ v46 = .int .i64 i ∧ ∃ S : CellS, Aside0 (KS S l i) ∧ Aside0 (Own.Own w wr (CellO g lb S [Pt w.heap.size (.cells #[.int .i64 a0, .int .i64 a1, .int .i64 a2, .int .i64 a3] 38)]))) (fun v46 _ => n - (intOf v46).toNat)
  case atStart => exact ⟨0, by omega, rfl, _, ⟨ks_zero l⟩, O2⟩
  case round =>
    clear O2
    obtain ⟨i, hin, rfl, S, HK, HO⟩ := hrel
    by_cases hlt : i < n
    · have dl : decide ((i : Int) < (n : Int)) = true := decide_eq_true (by omega)
      have dln : decide (i < n) = true := decide_eq_true hlt
      go_wp2_with fail
      refine (pageOf_calls i _ (by omega) (Hw.laid_at HL HO.out.below)).mono ?_
      rintro e w3 ⟨rfl, hb⟩
      have H1 := Aside0.mk (HO.out.move hb)
      clear hb HO
      go_wp2_with fail
      refine (prog_yes i (pgN i) 0 0 0 0 (HK.out.fit h1 (by omega) (by omega)) (by rw [pgN_size]; omega) (HK.out.ok (by omega) i) H1.out).mono ?_
      rintro e w4 ⟨rfl, hb⟩
      rw [progS_ok _ _ (HK.out.ok (by omega) i)] at hb
      rw [progC_ok (HK.out.ok (by omega) i)]
      have H2 := Aside0.mk hb
      clear hb H1
      go_wp2_with fail
      go_roundw
      case rel => exact ⟨i + 1, by omega, by go_num, _, ⟨HK.out.next (by omega)⟩, H2⟩
      case measure => simp [intOf]; omega
    obtain rfl : i = n := by omega
    have dl : decide ((i : Int) < (i : Int)) = false := decide_eq_false (by omega)
    have dln : decide (i < i) = false := decide_eq_false (by omega)
    go_upto_region 14 with (fail)
    clear dl dln
    have hC : progC S i (pgN i) a1 = endsC a1 := by unfold progC; rw [if_pos (HK.out.ok hn i)]
    have HC := Aside0.mk hC
    obtain ⟨cc, hcc⟩ : ∃ c, c = endsC a1 := ⟨_, rfl⟩
    have HCC := Aside0.mk hcc
    clear hC hcc
    refine start_ (n := 7) (S := fun w' => w'.cell? ⟨w.heap.size, 0, none⟩ = some (.int .i64 a0) ∧ w'.cell? ⟨w.heap.size, 1, none⟩ = some (.int .i64 a1) ∧ w'.cell? ⟨w.heap.size, 2, none⟩ = some (.int .i64 a2) ∧ w'.cell? ⟨w.heap.size, 3, none⟩ = some (.int .i64 a3)) (ds := []) #[false, false, false, false, false, false, false] (by kernel_rfl) rfl rfl ⟨(blk_cell HO.out.drew.drop.drop.pt 0).trans rfl, (blk_cell HO.out.drew.drop.drop.pt 1).trans rfl, (blk_cell HO.out.drew.drop.drop.pt 2).trans rfl, (blk_cell HO.out.drew.drop.drop.pt 3).trans rfl⟩ (fun hHeld => ?_)
    refine pure_ (i := 0) (N := some 57) (v := ?_) (a' := ?_) #[true, false, false, false, false, false, false] rfl rfl (by kernel_rfl) (fun _ _ _ h => h) (Or.inl ⟨by rfl, ?_⟩) ?_ ?_
    rotate_left
    · intro w'
      go_simp
      with_reducible rfl
    rotate_left
    · simp only [Act.put, List.setIfInBounds_toArray, List.set_cons_zero, List.set_cons_succ, i64_w, i32_w]
      rfl
    refine pure_ (i := 1) (N := some 58) (v := ?_) (a' := ?_) #[true, true, false, false, false, false, false] rfl rfl (by kernel_rfl) (fun _ _ _ h => h) (Or.inl ⟨by rfl, ?_⟩) ?_ ?_
    rotate_left
    · intro w'
      go_simp
      with_reducible rfl
    rotate_left
    · simp only [Act.put, List.setIfInBounds_toArray, List.set_cons_zero, List.set_cons_succ, i64_w, i32_w]
      rfl
    refine pure_ (i := 2) (N := some 59) (v := ?_) (a' := ?_) #[true, true, true, false, false, false, false] rfl rfl (by kernel_rfl) (fun _ _ _ h => h) (Or.inl ⟨by rfl, ?_⟩) ?_ ?_
    rotate_left
    · intro w'
      go_simp
      with_reducible rfl
    rotate_left
    · simp only [Act.put, List.setIfInBounds_toArray, List.set_cons_zero, List.set_cons_succ, i64_w, i32_w]
      rfl
    refine take_ (i := 4) (N := some 61) (v := ?_) (a' := ?_) #[true, true, true, false, true, false, false] rfl rfl (by kernel_rfl) (fun _ _ _ h => h) (Or.inl ⟨by rfl, ?_⟩) hHeld ?_ ?_
    rotate_left
    · rintro w' ⟨s0, s1, s2, s3⟩
      go_simp
      with_reducible rfl
    rotate_left
    · simp only [Act.put, List.setIfInBounds_toArray, List.set_cons_zero, List.set_cons_succ, i64_w, i32_w]
      rfl
    refine one_ (i := 3) (N := some 60) #[true, true, true, true, true, false, false] rfl rfl (by kernel_rfl) (by decide) (fun K hK => ?_)
    refine goes_ Tryd.func25 (by kernel_rfl) rfl #[.int .i64 i] (by rfl) rfl rfl (by simp only [List.map_toArray, List.map_cons, List.map_nil]; rfl) ?_
    refine (pageOf_calls i _ (by omega) (Hw.laid_at HL HO.out.drew.below)).mono ?_
    rintro e w5 ⟨rfl, hb⟩
    have H1 := Aside0.mk (HO.out.drew.move hb)
    refine ⟨_, rfl, ?_⟩
    clear hb HO
    refine hK.out _ _ ⟨(blk_cell H1.out.drop.drop.pt 0).trans rfl, (blk_cell H1.out.drop.drop.pt 1).trans rfl, (blk_cell H1.out.drop.drop.pt 2).trans rfl, (blk_cell H1.out.drop.drop.pt 3).trans rfl⟩ (fun hHeld => ?_)
    clear hK K
    refine norm_ (a' := ?_) ?_ ?_
    rotate_left
    · show Act.put _ (some 60) _ = _
      simp only [Act.put, List.setIfInBounds_toArray, List.set_cons_zero, List.set_cons_succ, i64_w, i32_w]
      rfl
    refine one_ (i := 5) (N := some 62) #[true, true, true, true, true, true, false] rfl rfl (by kernel_rfl) (by decide) (fun K hK => ?_)
    refine goes_ Tryd.func13 (by kernel_rfl) rfl #[.pointer (some ⟨g, 0, none⟩), .int .i64 i, .string (pgN i), fltV a0 a1 a2 a3] (by rfl) rfl rfl (by simp only [List.map_toArray, List.map_cons, List.map_nil]; rfl) ?_
    refine (prog_yes i (pgN i) a0 a1 a2 a3 (HK.out.fit h1 (by omega) (by omega)) (by rw [pgN_size]; omega) (HK.out.ok hn i) H1.out).mono ?_
    rintro e w6 ⟨rfl, hb⟩
    rw [HC.out, ← HCC.out]
    have H2 := Aside0.mk hb
    refine ⟨_, rfl, ?_⟩
    clear hb H1
    refine hK.out _ _ ⟨(blk_cell H2.out.drop.drop.pt 0).trans rfl, (blk_cell H2.out.drop.drop.pt 1).trans rfl, (blk_cell H2.out.drop.drop.pt 2).trans rfl, (blk_cell H2.out.drop.drop.pt 3).trans rfl⟩ (fun hHeld => ?_)
    clear hK K
    refine norm_ (a' := ?_) ?_ ?_
    rotate_left
    · show Act.put _ (some 62) _ = _
      simp only [Act.put, List.setIfInBounds_toArray, List.set_cons_zero, List.set_cons_succ, i64_w, i32_w]
      rfl
    refine pure_ (i := 6) (N := some 10) (v := ?_) (a' := ?_) #[true, true, true, true, true, true, true] rfl rfl (by kernel_rfl) (fun _ _ _ h => h) (Or.inl ⟨by rfl, ?_⟩) ?_ ?_
    rotate_left
    · intro w'
      go_simp
      with_reducible rfl
    rotate_left
    · simp only [Act.put, List.setIfInBounds_toArray, List.set_cons_zero, List.set_cons_succ, i64_w, i32_w]
      rfl
    refine done_ (by kernel_rfl) ?_
    have hE := ke_of HK.out hn (by omega) a1 a2 a3
    obtain ⟨E, hEE⟩ : ∃ E, E = progS S i (pgN i) a1 a2 a3 := ⟨_, rfl⟩
    have h2 := H2.out
    rw [← hEE] at hE h2
    have O6 := Aside0.mk h2
    have HE := Aside0.mk hE
    have hcc := HCC.out
    clear hEE H2 HK HC HCC h2 hE
    clear hHeld
    by_cases k1 : a1 = 1
    · subst k1
      rw [show endsC 1 = 82 from rfl] at hcc
      subst hcc
      obtain ⟨x0, x1, x2, x3, _, _, _, _⟩ := cells4 O6.out.drop.drop.pt
      go_upto_region 16 with (fail)
      clear x0 x1 x2 x3
      have hbad : E.bad = false := by rw [HE.out.bad]; rfl
      have htorn : E.torn = true := by rw [HE.out.torn]; rfl
      have HB := Aside0.mk hbad
      have HT := Aside0.mk htorn
      clear hbad htorn
      refine start_ (n := 33) (S := fun w' => w'.cell? ⟨w.heap.size, 1, none⟩ = some (.int .i64 1)) (ds := []) (tfA 0 33) (by kernel_rfl) rfl rfl ((blk_cell O6.out.drew.drop.drop.pt 1).trans rfl) (fun hHeld => ?_)
      refine with_tabW keeps.tab16 keeps.bits16 (fun HT_ HW_ => ?_)
      refine pure_ (i := 0) (N := some 71) (v := ?_) (a' := ?_) (tfA 1 33) rfl rfl (any_of HT_.out (by kernel_rfl)) (fun _ _ _ h => h) (Or.inl ⟨by rfl, ?_⟩) ?_ ?_
      rotate_left
      · intro w'
        go_simp
        with_reducible rfl
      rotate_left
      · simp only [Act.put, List.setIfInBounds_toArray, List.set_cons_zero, List.set_cons_succ, i64_w, i32_w]
        rfl
      refine pure_ (i := 1) (N := some 72) (v := ?_) (a' := ?_) (tfA 2 33) rfl rfl (any_of HT_.out (by kernel_rfl)) (fun _ _ _ h => h) (Or.inl ⟨by rfl, ?_⟩) ?_ ?_
      rotate_left
      · intro w'
        go_simp
        with_reducible rfl
      rotate_left
      · simp only [Act.put, List.setIfInBounds_toArray, List.set_cons_zero, List.set_cons_succ, i64_w, i32_w]
        rfl
      refine pure_ (i := 2) (N := some 73) (v := ?_) (a' := ?_) (tfA 3 33) rfl rfl (any_of HT_.out (by kernel_rfl)) (fun _ _ _ h => h) (Or.inl ⟨by rfl, ?_⟩) ?_ ?_
      rotate_left
      · intro w'
        go_simp
        with_reducible rfl
      rotate_left
      · simp only [Act.put, List.setIfInBounds_toArray, List.set_cons_zero, List.set_cons_succ, i64_w, i32_w]
        rfl
      refine pure_ (i := 3) (N := some 74) (v := ?_) (a' := ?_) (tfA 4 33) rfl rfl (any_of HT_.out (by kernel_rfl)) (fun _ _ _ h => h) (Or.inl ⟨by rfl, ?_⟩) ?_ ?_
      rotate_left
      · intro w'
        go_simp
        with_reducible rfl
      rotate_left
      · simp only [Act.put, List.setIfInBounds_toArray, List.set_cons_zero, List.set_cons_succ, i64_w, i32_w]
        rfl
      refine pure_ (i := 4) (N := some 75) (v := ?_) (a' := ?_) (tfA 5 33) rfl rfl (any_of HT_.out (by kernel_rfl)) (fun _ _ _ h => h) (Or.inl ⟨by rfl, ?_⟩) ?_ ?_
      rotate_left
      · intro w'
        go_simp
        with_reducible rfl
      rotate_left
      · simp only [Act.put, List.setIfInBounds_toArray, List.set_cons_zero, List.set_cons_succ, i64_w, i32_w]
        rfl
      refine pure_ (i := 5) (N := some 76) (v := ?_) (a' := ?_) (tfA 6 33) rfl rfl (any_of HT_.out (by kernel_rfl)) (fun _ _ _ h => h) (Or.inl ⟨by rfl, ?_⟩) ?_ ?_
      rotate_left
      · intro w'
        go_simp
        with_reducible rfl
      rotate_left
      · simp only [Act.put, List.setIfInBounds_toArray, List.set_cons_zero, List.set_cons_succ, i64_w, i32_w]
        rfl
      refine pure_ (i := 6) (N := some 77) (v := ?_) (a' := ?_) (tfA 7 33) rfl rfl (any_of HT_.out (by kernel_rfl)) (fun _ _ _ h => h) (Or.inl ⟨by rfl, ?_⟩) ?_ ?_
      rotate_left
      · intro w'
        go_simp
        with_reducible rfl
      rotate_left
      · simp only [Act.put, List.setIfInBounds_toArray, List.set_cons_zero, List.set_cons_succ, i64_w, i32_w]
        rfl
      refine pure_ (i := 7) (N := some 78) (v := ?_) (a' := ?_) (tfA 8 33) rfl rfl (any_of HT_.out (by kernel_rfl)) (fun _ _ _ h => h) (Or.inl ⟨by rfl, ?_⟩) ?_ ?_
      rotate_left
      · intro w'
        go_simp
        with_reducible rfl
      rotate_left
      · simp only [Act.put, List.setIfInBounds_toArray, List.set_cons_zero, List.set_cons_succ, i64_w, i32_w]
        rfl
      refine pure_ (i := 8) (N := some 79) (v := ?_) (a' := ?_) (tfA 9 33) rfl rfl (any_of HT_.out (by kernel_rfl)) (fun _ _ _ h => h) (Or.inl ⟨by rfl, ?_⟩) ?_ ?_
      rotate_left
      · intro w'
        go_simp
        with_reducible rfl
      rotate_left
      · simp only [Act.put, List.setIfInBounds_toArray, List.set_cons_zero, List.set_cons_succ, i64_w, i32_w]
        rfl
      refine pure_ (i := 9) (N := some 80) (v := ?_) (a' := ?_) (tfA 10 33) rfl rfl (any_of HT_.out (by kernel_rfl)) (fun _ _ _ h => h) (Or.inl ⟨by rfl, ?_⟩) ?_ ?_
      rotate_left
      · intro w'
        go_simp
        with_reducible rfl
      rotate_left
      · simp only [Act.put, List.setIfInBounds_toArray, List.set_cons_zero, List.set_cons_succ, i64_w, i32_w]
        rfl
      refine pure_ (i := 10) (N := some 81) (v := ?_) (a' := ?_) (tfA 11 33) rfl rfl (any_of HT_.out (by kernel_rfl)) (fun _ _ _ h => h) (Or.inl ⟨by rfl, ?_⟩) ?_ ?_
      rotate_left
      · intro w'
        go_simp
        with_reducible rfl
      rotate_left
      · simp only [Act.put, List.setIfInBounds_toArray, List.set_cons_zero, List.set_cons_succ, i64_w, i32_w]
        rfl
      refine pure_ (i := 12) (N := some 83) (v := ?_) (a' := ?_) #[true, true, true, true, true, true, true, true, true, true, true, false, true, false, false, false, false, false, false, false, false, false, false, false, false, false, false, false, false, false, false, false, false] rfl rfl (any_of HT_.out (by kernel_rfl)) (fun _ _ _ h => h) (Or.inl ⟨by rfl, ?_⟩) ?_ ?_
      rotate_left
      · intro w'
        go_simp
        with_reducible rfl
      rotate_left
      · simp only [Act.put, List.setIfInBounds_toArray, List.set_cons_zero, List.set_cons_succ, i64_w, i32_w]
        rfl
      refine one_ (i := 11) (N := some 82) (tfA 13 33) rfl rfl (one_of HT_.out (by kernel_rfl)) (by decide) (fun K hK => ?_)
      refine goes_ Tryd.func25 (by kernel_rfl) rfl #[.int .i64 i] (by rfl) rfl rfl (by simp only [List.map_toArray, List.map_cons, List.map_nil]; rfl) ?_
      refine (pageOf_calls i _ (by omega) (Hw.laid_at HL O6.out.drew.below)).mono ?_
      rintro e w7 ⟨rfl, hb⟩
      have O7 := Aside0.mk (O6.out.drew.move hb)
      refine ⟨_, rfl, ?_⟩
      clear hb O6
      refine hK.out _ _ ((blk_cell O7.out.drop.drop.pt 1).trans rfl) (fun hHeld => ?_)
      clear hK K
      refine norm_ (a' := ?_) ?_ ?_
      rotate_left
      · show Act.put _ (some 82) _ = _
        simp only [Act.put, List.setIfInBounds_toArray, List.set_cons_zero, List.set_cons_succ, i64_w, i32_w]
        rfl
      refine one_ (i := 13) (N := some 84) (tfA 14 33) rfl rfl (one_of HT_.out (by kernel_rfl)) (by decide) (fun K hK => ?_)
      refine goes_ Tryd.func13 (by kernel_rfl) rfl #[.pointer (some ⟨g, 0, none⟩), .int .i64 (wrap64 ((i : Int) + 1)), .string (pgN i), fltV 0 0 0 0] (by rfl) rfl rfl (by simp only [List.map_toArray, List.map_cons, List.map_nil]; rfl) ?_
      refine (prog_no (wrap64 ((i : Int) + 1)) (pgN i) 0 0 0 0 (HE.out.again (.inl rfl) _ _) O7.out).mono ?_
      rintro e w8 ⟨rfl, hb⟩
      rw [progC_no _ (HE.out.again (.inl rfl) _ _)]
      rw [progS_no _ _ _ (HE.out.again (.inl rfl) _ _)] at hb
      have O8 := Aside0.mk hb
      refine ⟨_, rfl, ?_⟩
      clear hb O7
      refine hK.out _ _ ((blk_cell O8.out.drop.drop.pt 1).trans rfl) (fun hHeld => ?_)
      clear hK K
      refine norm_ (a' := ?_) ?_ ?_
      rotate_left
      · show Act.put _ (some 84) _ = _
        simp only [Act.put, List.setIfInBounds_toArray, List.set_cons_zero, List.set_cons_succ, i64_w, i32_w]
        rfl
      refine pure_ (i := 14) (N := some 85) (v := ?_) (a' := ?_) (tfA 15 33) rfl rfl (any_of HT_.out (by kernel_rfl)) (fun _ _ _ h => h) (Or.inl ⟨by rfl, ?_⟩) ?_ ?_
      rotate_left
      · intro w'
        go_simp
        with_reducible rfl
      rotate_left
      · simp only [Act.put, List.setIfInBounds_toArray, List.set_cons_zero, List.set_cons_succ, i64_w, i32_w]
        rfl
      refine pure_ (i := 15) (N := some 86) (v := ?_) (a' := ?_) (tfA 16 33) rfl rfl (any_of HT_.out (by kernel_rfl)) (fun _ _ _ h => h) (Or.inl ⟨by rfl, ?_⟩) ?_ ?_
      rotate_left
      · intro w'
        go_simp
        with_reducible rfl
      rotate_left
      · simp only [Act.put, List.setIfInBounds_toArray, List.set_cons_zero, List.set_cons_succ, i64_w, i32_w]
        rfl
      refine pure_ (i := 16) (N := some 87) (v := ?_) (a' := ?_) (tfA 17 33) rfl rfl (any_of HT_.out (by kernel_rfl)) (fun _ _ _ h => h) (Or.inl ⟨by rfl, ?_⟩) ?_ ?_
      rotate_left
      · intro w'
        go_simp
        with_reducible rfl
      rotate_left
      · simp only [Act.put, List.setIfInBounds_toArray, List.set_cons_zero, List.set_cons_succ, i64_w, i32_w]
        rfl
      refine pure_ (i := 17) (N := some 88) (v := ?_) (a' := ?_) (tfA 18 33) rfl rfl (any_of HT_.out (by kernel_rfl)) (fun _ _ _ h => h) (Or.inl ⟨by rfl, ?_⟩) ?_ ?_
      rotate_left
      · intro w'
        go_simp
        with_reducible rfl
      rotate_left
      · simp only [Act.put, List.setIfInBounds_toArray, List.set_cons_zero, List.set_cons_succ, i64_w, i32_w]
        rfl
      refine pure_ (i := 18) (N := some 89) (v := ?_) (a' := ?_) (tfA 19 33) rfl rfl (any_of HT_.out (by kernel_rfl)) (fun _ _ _ h => h) (Or.inl ⟨by rfl, ?_⟩) ?_ ?_
      rotate_left
      · intro w'
        go_simp
        with_reducible rfl
      rotate_left
      · simp only [Act.put, List.setIfInBounds_toArray, List.set_cons_zero, List.set_cons_succ, i64_w, i32_w]
        rfl
      refine pure_ (i := 20) (N := some 91) (v := ?_) (a' := ?_) #[true, true, true, true, true, true, true, true, true, true, true, true, true, true, true, true, true, true, true, false, true, false, false, false, false, false, false, false, false, false, false, false, false] rfl rfl (any_of HT_.out (by kernel_rfl)) (fun _ _ _ h => h) (Or.inl ⟨by rfl, ?_⟩) ?_ ?_
      rotate_left
      · intro w'
        go_simp
        with_reducible rfl
      rotate_left
      · simp only [Act.put, List.setIfInBounds_toArray, List.set_cons_zero, List.set_cons_succ, i64_w, i32_w]
        rfl
      refine take_ (i := 21) (N := some 92) (v := ?_) (a' := ?_) #[true, true, true, true, true, true, true, true, true, true, true, true, true, true, true, true, true, true, true, false, true, true, false, false, false, false, false, false, false, false, false, false, false] rfl rfl (take_ofW HT_.out HW_.out (by kernel_rfl)) (fun _ _ _ h => h) (Or.inl ⟨by rfl, ?_⟩) hHeld ?_ ?_
      rotate_left
      · intro w' s0
        go_simp
        with_reducible rfl
      rotate_left
      · simp only [Act.put, List.setIfInBounds_toArray, List.set_cons_zero, List.set_cons_succ, i64_w, i32_w]
        rfl
      refine pure_ (i := 22) (N := some 93) (v := ?_) (a' := ?_) #[true, true, true, true, true, true, true, true, true, true, true, true, true, true, true, true, true, true, true, false, true, true, true, false, false, false, false, false, false, false, false, false, false] rfl rfl (any_of HT_.out (by kernel_rfl)) (fun _ _ _ h => h) (Or.inl ⟨by rfl, ?_⟩) ?_ ?_
      rotate_left
      · intro w'
        go_simp
        with_reducible rfl
      rotate_left
      · simp only [Act.put, List.setIfInBounds_toArray, List.set_cons_zero, List.set_cons_succ, i64_w, i32_w]
        rfl
      refine one_ (i := 19) (N := some 90) (tfA 23 33) rfl rfl (one_of HT_.out (by kernel_rfl)) (by decide) (fun K hK => ?_)
      refine goes_ Tryd.func29 (by kernel_rfl) rfl #[.pointer (some ⟨g, 0, none⟩)] (by rfl) rfl rfl (by simp only [List.map_toArray, List.map_cons, List.map_nil]; rfl) ?_
      refine (bad_own (O8.out)).mono ?_
      rintro e w19 ⟨rfl, rfl⟩
      rw [HB.out]
      refine ⟨_, rfl, ?_⟩
      skip
      refine hK.out _ _ (hHeld) (fun hHeld => ?_)
      clear hK K
      refine norm_ (a' := ?_) ?_ ?_
      rotate_left
      · show Act.put _ (some 90) _ = _
        simp only [Act.put, List.setIfInBounds_toArray, List.set_cons_zero, List.set_cons_succ, i64_w, i32_w]
        rfl
      refine pure_ (i := 23) (N := some 94) (v := ?_) (a' := ?_) (tfA 24 33) rfl rfl (any_of HT_.out (by kernel_rfl)) (fun _ _ _ h => h) (Or.inl ⟨by rfl, ?_⟩) ?_ ?_
      rotate_left
      · intro w'
        go_simp
        with_reducible rfl
      rotate_left
      · simp only [Act.put, List.setIfInBounds_toArray, List.set_cons_zero, List.set_cons_succ, i64_w, i32_w]
        rfl
      refine pure_ (i := 24) (N := some 95) (v := ?_) (a' := ?_) (tfA 25 33) rfl rfl (any_of HT_.out (by kernel_rfl)) (fun _ _ _ h => h) (Or.inl ⟨by rfl, ?_⟩) ?_ ?_
      rotate_left
      · intro w'
        go_simp
        with_reducible rfl
      rotate_left
      · simp only [Act.put, List.setIfInBounds_toArray, List.set_cons_zero, List.set_cons_succ, i64_w, i32_w]
        rfl
      refine pure_ (i := 25) (N := some 96) (v := ?_) (a' := ?_) (tfA 26 33) rfl rfl (any_of HT_.out (by kernel_rfl)) (fun _ _ _ h => h) (Or.inl ⟨by rfl, ?_⟩) ?_ ?_
      rotate_left
      · intro w'
        go_simp
        with_reducible rfl
      rotate_left
      · simp only [Act.put, List.setIfInBounds_toArray, List.set_cons_zero, List.set_cons_succ, i64_w, i32_w]
        rfl
      refine pure_ (i := 26) (N := some 97) (v := ?_) (a' := ?_) (tfA 27 33) rfl rfl (any_of HT_.out (by kernel_rfl)) (fun _ _ _ h => h) (Or.inl ⟨by rfl, ?_⟩) ?_ ?_
      rotate_left
      · intro w'
        go_simp
        with_reducible rfl
      rotate_left
      · simp only [Act.put, List.setIfInBounds_toArray, List.set_cons_zero, List.set_cons_succ, i64_w, i32_w]
        rfl
      refine pure_ (i := 28) (N := some 99) (v := ?_) (a' := ?_) #[true, true, true, true, true, true, true, true, true, true, true, true, true, true, true, true, true, true, true, true, true, true, true, true, true, true, true, false, true, false, false, false, false] rfl rfl (any_of HT_.out (by kernel_rfl)) (fun _ _ _ h => h) (Or.inl ⟨by rfl, ?_⟩) ?_ ?_
      rotate_left
      · intro w'
        go_simp
        with_reducible rfl
      rotate_left
      · simp only [Act.put, List.setIfInBounds_toArray, List.set_cons_zero, List.set_cons_succ, i64_w, i32_w]
        rfl
      refine take_ (i := 29) (N := some 100) (v := ?_) (a' := ?_) #[true, true, true, true, true, true, true, true, true, true, true, true, true, true, true, true, true, true, true, true, true, true, true, true, true, true, true, false, true, true, false, false, false] rfl rfl (take_ofW HT_.out HW_.out (by kernel_rfl)) (fun _ _ _ h => h) (Or.inl ⟨by rfl, ?_⟩) hHeld ?_ ?_
      rotate_left
      · intro w' s0
        go_simp
        with_reducible rfl
      rotate_left
      · simp only [Act.put, List.setIfInBounds_toArray, List.set_cons_zero, List.set_cons_succ, i64_w, i32_w]
        rfl
      refine pure_ (i := 30) (N := some 101) (v := ?_) (a' := ?_) #[true, true, true, true, true, true, true, true, true, true, true, true, true, true, true, true, true, true, true, true, true, true, true, true, true, true, true, false, true, true, true, false, false] rfl rfl (any_of HT_.out (by kernel_rfl)) (fun _ _ _ h => h) (Or.inl ⟨by rfl, ?_⟩) ?_ ?_
      rotate_left
      · intro w'
        go_simp
        with_reducible rfl
      rotate_left
      · simp only [Act.put, List.setIfInBounds_toArray, List.set_cons_zero, List.set_cons_succ, i64_w, i32_w]
        rfl
      refine one_ (i := 27) (N := some 98) (tfA 31 33) rfl rfl (one_of HT_.out (by kernel_rfl)) (by decide) (fun K hK => ?_)
      refine goes_ Tryd.func30 (by kernel_rfl) rfl #[.pointer (some ⟨g, 0, none⟩)] (by rfl) rfl rfl (by simp only [List.map_toArray, List.map_cons, List.map_nil]; rfl) ?_
      refine (torn_own (O8.out)).mono ?_
      rintro e w27 ⟨rfl, rfl⟩
      rw [HT.out]
      refine ⟨_, rfl, ?_⟩
      skip
      refine hK.out _ _ (hHeld) (fun hHeld => ?_)
      clear hK K
      refine norm_ (a' := ?_) ?_ ?_
      rotate_left
      · show Act.put _ (some 98) _ = _
        simp only [Act.put, List.setIfInBounds_toArray, List.set_cons_zero, List.set_cons_succ, i64_w, i32_w]
        rfl
      refine pure_ (i := 31) (N := some 102) (v := ?_) (a' := ?_) (tfA 32 33) rfl rfl (any_of HT_.out (by kernel_rfl)) (fun _ _ _ h => h) (Or.inl ⟨by rfl, ?_⟩) ?_ ?_
      rotate_left
      · intro w'
        go_simp
        with_reducible rfl
      rotate_left
      · simp only [Act.put, List.setIfInBounds_toArray, List.set_cons_zero, List.set_cons_succ, i64_w, i32_w]
        rfl
      refine pure_ (i := 32) (N := some 103) (v := ?_) (a' := ?_) (tfA 33 33) rfl rfl (any_of HT_.out (by kernel_rfl)) (fun _ _ _ h => h) (Or.inl ⟨by rfl, ?_⟩) ?_ ?_
      rotate_left
      · intro w'
        go_simp
        with_reducible rfl
      rotate_left
      · simp only [Act.put, List.setIfInBounds_toArray, List.set_cons_zero, List.set_cons_succ, i64_w, i32_w]
        rfl
      refine done_ (done_of HT_.out (by kernel_rfl)) ?_
      clear hHeld
      have O9 := Aside0.mk (O8.out)
      clear O8
      go_wp2_with fail
      go_loopw [105] (fun v wr => ∃ (j : Nat), j ≤ l ∧ v = .int .i64 j ∧ Aside0 (Own.Own w wr (CellO g lb E [Pt w.heap.size (.cells #[.int .i64 a0, .int .i64 1, .int .i64 a2, .int .i64 a3] 38)]))) (fun v _ => l - (intOf v).toNat)
      case atStart => exact ⟨0, by omega, rfl, O9⟩
      case round =>
        clear O9
        obtain ⟨j, hjn, rfl, HO⟩ := hrel
        by_cases hlt : j < l
        · have dl : decide ((j : Int) < (l : Int)) = true := decide_eq_true (by omega)
          have dln : decide (j < l) = true := decide_eq_true hlt
          have hr : readV E j 0 = (readB E j 0, 0) := by unfold readV; rw [if_pos (HE.out.oks j hlt)]; rfl
          go_wp2_with fail
          refine (Read_own j 0 HE.out.fit HO.out).mono ?_
          rintro e w20 ⟨rfl, hb⟩
          rw [hr]
          have H1 := Aside0.mk hb
          clear hb HO hr
          go_wp2_with fail
          by_cases ja : j < i
          · have e1 : decide ((j : Int) < (i : Int)) = true := decide_eq_true (by omega)
            have e1n : decide (j < i) = true := decide_eq_true ja
            rw [HE.out.goods j ja]
            refine (frame_Decode.calls _ _ _ _ _ _ _ _ (pgN_dec j (by omega)) (Hw.laid_at HL H1.out.below)).mono ?_
            rintro e w21 ⟨rfl, hb⟩
            have H2 := Aside0.mk (H1.out.move hb)
            clear hb H1
            have hs : ((pgN j).toList == (pgN j).toList) = true := beq_self_eq_true _
            have ha := H2.out.alloc (.cells #[.int .i64 2, .int .i64 1, .int .i64 (j : Int), .int .i64 (j : Int), .int .i64 0, .string (data8 j)] 57)
            have HA := Aside0.mk ha
            clear ha H2
            go_wp2_with fail
            refine (pageOf_calls j _ (by omega) (Hw.laid_at HL HA.out.below)).mono ?_
            rintro e w22 ⟨rfl, hb⟩
            have H3 := Aside0.mk (HA.out.move hb)
            have y0 : w22.cell? ⟨w21.heap.size, 0, none⟩ = some (.int .i64 2) := (blk_cell H3.out.pt 0).trans rfl
            clear hb HA
            go_wp2_with fail
            go_roundw
            case rel => exact ⟨j + 1, by omega, by go_num, ⟨H3.out.drop⟩⟩
            case measure => simp [intOf]; omega
          have e1 : decide ((j : Int) < (i : Int)) = false := decide_eq_false (by omega)
          have e1n : decide (j < i) = false := decide_eq_false ja
          by_cases jb : j = i
          · subst jb
            refine (frame_Decode.calls _ _ _ _ _ _ _ _ (HE.out.hurt (.inl rfl)) (Hw.laid_at HL H1.out.below)).mono ?_
            rintro e w21 ⟨rfl, hb⟩
            have H2 := Aside0.mk (H1.out.move hb)
            clear hb H1
            go_wp2_with fail
            go_roundw
            case rel => exact ⟨j + 1, by omega, by go_num, ⟨H2.out.alloc' _⟩⟩
            case measure => simp [intOf]; omega
          · have e2 : ((j : Int) == (i : Int)) = false := beq_eq_false_iff_ne.2 (by omega)
            have e2n : (j == i) = false := beq_eq_false_iff_ne.2 jb
            refine (frame_Decode.calls _ _ _ _ _ _ _ _ (HE.out.blanks j (by omega) hlt) (Hw.laid_at HL H1.out.below)).mono ?_
            rintro e w21 ⟨rfl, hb⟩
            have H2 := Aside0.mk (H1.out.move hb)
            clear hb H1
            go_wp2_with fail
            go_roundw
            case rel => exact ⟨j + 1, by omega, by go_num, ⟨H2.out.alloc' _⟩⟩
            case measure => simp [intOf]; omega
        · obtain rfl : j = l := by omega
          have dl : decide ((j : Int) < (j : Int)) = false := decide_eq_false (by omega)
          have dln : decide (j < j) = false := decide_eq_false (by omega)
          obtain ⟨ec, es, eb⟩ := HE.out.erase (by decide)
          have EC := Aside0.mk ec
          have ES := Aside0.mk es
          clear ec es
          go_wp2_with fail
          refine (erase_runs 0 0 0 0 HE.out.fit ⟨by rw [HE.out.slc]; decide, by rw [HE.out.slc]; decide, by rw [HE.out.tlc]; decide, by rw [HE.out.tlc]; decide⟩ eb HO.out).mono ?_
          rintro e w30 ⟨rfl, hb⟩
          rw [ES.out] at hb
          rw [EC.out]
          have H1 := Aside0.mk hb
          clear hb HO
          obtain ⟨z0, z1, z2, z3, _, _, _, _⟩ := cells4 H1.out.drop.drop.pt
          go_wp2_with fail
          refine (mode_own H1.out).mono ?_
          rintro e w31 ⟨rfl, rfl⟩
          rw [show (erased (erase1 E)).mode = 0 from rfl]
          go_wp2_with fail
          refine (done_own H1.out).mono ?_
          rintro e w32 ⟨rfl, rfl⟩
          rw [show (erased (erase1 E)).done = 0 from rfl]
          go_wp2_with fail
          refine (torn_own H1.out).mono ?_
          rintro e w33 ⟨rfl, rfl⟩
          rw [show (erased (erase1 E)).torn = false from rfl]
          go_wp2_with fail
          go_ret
          exact ⟨rfl, H1.out.below⟩
    by_cases k2 : a1 = 2
    · subst k2
      rw [show endsC 2 = 81 from rfl] at hcc
      subst hcc
      obtain ⟨x0, x1, x2, x3, _, _, _, _⟩ := cells4 O6.out.drop.drop.pt
      go_upto_region 16 with (fail)
      clear x0 x1 x2 x3
      have hbad : E.bad = true := by rw [HE.out.bad]; rfl
      have htorn : E.torn = false := by rw [HE.out.torn]; rfl
      have HB := Aside0.mk hbad
      have HT := Aside0.mk htorn
      clear hbad htorn
      refine start_ (n := 33) (S := fun w' => w'.cell? ⟨w.heap.size, 1, none⟩ = some (.int .i64 2)) (ds := []) (tfA 0 33) (by kernel_rfl) rfl rfl ((blk_cell O6.out.drew.drop.drop.pt 1).trans rfl) (fun hHeld => ?_)
      refine with_tabW keeps.tab16 keeps.bits16 (fun HT_ HW_ => ?_)
      refine pure_ (i := 0) (N := some 71) (v := ?_) (a' := ?_) (tfA 1 33) rfl rfl (any_of HT_.out (by kernel_rfl)) (fun _ _ _ h => h) (Or.inl ⟨by rfl, ?_⟩) ?_ ?_
      rotate_left
      · intro w'
        go_simp
        with_reducible rfl
      rotate_left
      · simp only [Act.put, List.setIfInBounds_toArray, List.set_cons_zero, List.set_cons_succ, i64_w, i32_w]
        rfl
      refine pure_ (i := 1) (N := some 72) (v := ?_) (a' := ?_) (tfA 2 33) rfl rfl (any_of HT_.out (by kernel_rfl)) (fun _ _ _ h => h) (Or.inl ⟨by rfl, ?_⟩) ?_ ?_
      rotate_left
      · intro w'
        go_simp
        with_reducible rfl
      rotate_left
      · simp only [Act.put, List.setIfInBounds_toArray, List.set_cons_zero, List.set_cons_succ, i64_w, i32_w]
        rfl
      refine pure_ (i := 2) (N := some 73) (v := ?_) (a' := ?_) (tfA 3 33) rfl rfl (any_of HT_.out (by kernel_rfl)) (fun _ _ _ h => h) (Or.inl ⟨by rfl, ?_⟩) ?_ ?_
      rotate_left
      · intro w'
        go_simp
        with_reducible rfl
      rotate_left
      · simp only [Act.put, List.setIfInBounds_toArray, List.set_cons_zero, List.set_cons_succ, i64_w, i32_w]
        rfl
      refine pure_ (i := 3) (N := some 74) (v := ?_) (a' := ?_) (tfA 4 33) rfl rfl (any_of HT_.out (by kernel_rfl)) (fun _ _ _ h => h) (Or.inl ⟨by rfl, ?_⟩) ?_ ?_
      rotate_left
      · intro w'
        go_simp
        with_reducible rfl
      rotate_left
      · simp only [Act.put, List.setIfInBounds_toArray, List.set_cons_zero, List.set_cons_succ, i64_w, i32_w]
        rfl
      refine pure_ (i := 4) (N := some 75) (v := ?_) (a' := ?_) (tfA 5 33) rfl rfl (any_of HT_.out (by kernel_rfl)) (fun _ _ _ h => h) (Or.inl ⟨by rfl, ?_⟩) ?_ ?_
      rotate_left
      · intro w'
        go_simp
        with_reducible rfl
      rotate_left
      · simp only [Act.put, List.setIfInBounds_toArray, List.set_cons_zero, List.set_cons_succ, i64_w, i32_w]
        rfl
      refine pure_ (i := 5) (N := some 76) (v := ?_) (a' := ?_) (tfA 6 33) rfl rfl (any_of HT_.out (by kernel_rfl)) (fun _ _ _ h => h) (Or.inl ⟨by rfl, ?_⟩) ?_ ?_
      rotate_left
      · intro w'
        go_simp
        with_reducible rfl
      rotate_left
      · simp only [Act.put, List.setIfInBounds_toArray, List.set_cons_zero, List.set_cons_succ, i64_w, i32_w]
        rfl
      refine pure_ (i := 6) (N := some 77) (v := ?_) (a' := ?_) (tfA 7 33) rfl rfl (any_of HT_.out (by kernel_rfl)) (fun _ _ _ h => h) (Or.inl ⟨by rfl, ?_⟩) ?_ ?_
      rotate_left
      · intro w'
        go_simp
        with_reducible rfl
      rotate_left
      · simp only [Act.put, List.setIfInBounds_toArray, List.set_cons_zero, List.set_cons_succ, i64_w, i32_w]
        rfl
      refine pure_ (i := 7) (N := some 78) (v := ?_) (a' := ?_) (tfA 8 33) rfl rfl (any_of HT_.out (by kernel_rfl)) (fun _ _ _ h => h) (Or.inl ⟨by rfl, ?_⟩) ?_ ?_
      rotate_left
      · intro w'
        go_simp
        with_reducible rfl
      rotate_left
      · simp only [Act.put, List.setIfInBounds_toArray, List.set_cons_zero, List.set_cons_succ, i64_w, i32_w]
        rfl
      refine pure_ (i := 8) (N := some 79) (v := ?_) (a' := ?_) (tfA 9 33) rfl rfl (any_of HT_.out (by kernel_rfl)) (fun _ _ _ h => h) (Or.inl ⟨by rfl, ?_⟩) ?_ ?_
      rotate_left
      · intro w'
        go_simp
        with_reducible rfl
      rotate_left
      · simp only [Act.put, List.setIfInBounds_toArray, List.set_cons_zero, List.set_cons_succ, i64_w, i32_w]
        rfl
      refine pure_ (i := 9) (N := some 80) (v := ?_) (a' := ?_) (tfA 10 33) rfl rfl (any_of HT_.out (by kernel_rfl)) (fun _ _ _ h => h) (Or.inl ⟨by rfl, ?_⟩) ?_ ?_
      rotate_left
      · intro w'
        go_simp
        with_reducible rfl
      rotate_left
      · simp only [Act.put, List.setIfInBounds_toArray, List.set_cons_zero, List.set_cons_succ, i64_w, i32_w]
        rfl
      refine pure_ (i := 10) (N := some 81) (v := ?_) (a' := ?_) (tfA 11 33) rfl rfl (any_of HT_.out (by kernel_rfl)) (fun _ _ _ h => h) (Or.inl ⟨by rfl, ?_⟩) ?_ ?_
      rotate_left
      · intro w'
        go_simp
        with_reducible rfl
      rotate_left
      · simp only [Act.put, List.setIfInBounds_toArray, List.set_cons_zero, List.set_cons_succ, i64_w, i32_w]
        rfl
      refine pure_ (i := 12) (N := some 83) (v := ?_) (a' := ?_) #[true, true, true, true, true, true, true, true, true, true, true, false, true, false, false, false, false, false, false, false, false, false, false, false, false, false, false, false, false, false, false, false, false] rfl rfl (any_of HT_.out (by kernel_rfl)) (fun _ _ _ h => h) (Or.inl ⟨by rfl, ?_⟩) ?_ ?_
      rotate_left
      · intro w'
        go_simp
        with_reducible rfl
      rotate_left
      · simp only [Act.put, List.setIfInBounds_toArray, List.set_cons_zero, List.set_cons_succ, i64_w, i32_w]
        rfl
      refine one_ (i := 11) (N := some 82) (tfA 13 33) rfl rfl (one_of HT_.out (by kernel_rfl)) (by decide) (fun K hK => ?_)
      refine goes_ Tryd.func25 (by kernel_rfl) rfl #[.int .i64 i] (by rfl) rfl rfl (by simp only [List.map_toArray, List.map_cons, List.map_nil]; rfl) ?_
      refine (pageOf_calls i _ (by omega) (Hw.laid_at HL O6.out.drew.below)).mono ?_
      rintro e w7 ⟨rfl, hb⟩
      have O7 := Aside0.mk (O6.out.drew.move hb)
      refine ⟨_, rfl, ?_⟩
      clear hb O6
      refine hK.out _ _ ((blk_cell O7.out.drop.drop.pt 1).trans rfl) (fun hHeld => ?_)
      clear hK K
      refine norm_ (a' := ?_) ?_ ?_
      rotate_left
      · show Act.put _ (some 82) _ = _
        simp only [Act.put, List.setIfInBounds_toArray, List.set_cons_zero, List.set_cons_succ, i64_w, i32_w]
        rfl
      refine one_ (i := 13) (N := some 84) (tfA 14 33) rfl rfl (one_of HT_.out (by kernel_rfl)) (by decide) (fun K hK => ?_)
      refine goes_ Tryd.func13 (by kernel_rfl) rfl #[.pointer (some ⟨g, 0, none⟩), .int .i64 (wrap64 ((i : Int) + 1)), .string (pgN i), fltV 0 0 0 0] (by rfl) rfl rfl (by simp only [List.map_toArray, List.map_cons, List.map_nil]; rfl) ?_
      refine (prog_no (wrap64 ((i : Int) + 1)) (pgN i) 0 0 0 0 (HE.out.again (.inr rfl) _ _) O7.out).mono ?_
      rintro e w8 ⟨rfl, hb⟩
      rw [progC_no _ (HE.out.again (.inr rfl) _ _)]
      rw [progS_no _ _ _ (HE.out.again (.inr rfl) _ _)] at hb
      have O8 := Aside0.mk hb
      refine ⟨_, rfl, ?_⟩
      clear hb O7
      refine hK.out _ _ ((blk_cell O8.out.drop.drop.pt 1).trans rfl) (fun hHeld => ?_)
      clear hK K
      refine norm_ (a' := ?_) ?_ ?_
      rotate_left
      · show Act.put _ (some 84) _ = _
        simp only [Act.put, List.setIfInBounds_toArray, List.set_cons_zero, List.set_cons_succ, i64_w, i32_w]
        rfl
      refine pure_ (i := 14) (N := some 85) (v := ?_) (a' := ?_) (tfA 15 33) rfl rfl (any_of HT_.out (by kernel_rfl)) (fun _ _ _ h => h) (Or.inl ⟨by rfl, ?_⟩) ?_ ?_
      rotate_left
      · intro w'
        go_simp
        with_reducible rfl
      rotate_left
      · simp only [Act.put, List.setIfInBounds_toArray, List.set_cons_zero, List.set_cons_succ, i64_w, i32_w]
        rfl
      refine pure_ (i := 15) (N := some 86) (v := ?_) (a' := ?_) (tfA 16 33) rfl rfl (any_of HT_.out (by kernel_rfl)) (fun _ _ _ h => h) (Or.inl ⟨by rfl, ?_⟩) ?_ ?_
      rotate_left
      · intro w'
        go_simp
        with_reducible rfl
      rotate_left
      · simp only [Act.put, List.setIfInBounds_toArray, List.set_cons_zero, List.set_cons_succ, i64_w, i32_w]
        rfl
      refine pure_ (i := 16) (N := some 87) (v := ?_) (a' := ?_) (tfA 17 33) rfl rfl (any_of HT_.out (by kernel_rfl)) (fun _ _ _ h => h) (Or.inl ⟨by rfl, ?_⟩) ?_ ?_
      rotate_left
      · intro w'
        go_simp
        with_reducible rfl
      rotate_left
      · simp only [Act.put, List.setIfInBounds_toArray, List.set_cons_zero, List.set_cons_succ, i64_w, i32_w]
        rfl
      refine pure_ (i := 17) (N := some 88) (v := ?_) (a' := ?_) (tfA 18 33) rfl rfl (any_of HT_.out (by kernel_rfl)) (fun _ _ _ h => h) (Or.inl ⟨by rfl, ?_⟩) ?_ ?_
      rotate_left
      · intro w'
        go_simp
        with_reducible rfl
      rotate_left
      · simp only [Act.put, List.setIfInBounds_toArray, List.set_cons_zero, List.set_cons_succ, i64_w, i32_w]
        rfl
      refine pure_ (i := 18) (N := some 89) (v := ?_) (a' := ?_) (tfA 19 33) rfl rfl (any_of HT_.out (by kernel_rfl)) (fun _ _ _ h => h) (Or.inl ⟨by rfl, ?_⟩) ?_ ?_
      rotate_left
      · intro w'
        go_simp
        with_reducible rfl
      rotate_left
      · simp only [Act.put, List.setIfInBounds_toArray, List.set_cons_zero, List.set_cons_succ, i64_w, i32_w]
        rfl
      refine pure_ (i := 20) (N := some 91) (v := ?_) (a' := ?_) #[true, true, true, true, true, true, true, true, true, true, true, true, true, true, true, true, true, true, true, false, true, false, false, false, false, false, false, false, false, false, false, false, false] rfl rfl (any_of HT_.out (by kernel_rfl)) (fun _ _ _ h => h) (Or.inl ⟨by rfl, ?_⟩) ?_ ?_
      rotate_left
      · intro w'
        go_simp
        with_reducible rfl
      rotate_left
      · simp only [Act.put, List.setIfInBounds_toArray, List.set_cons_zero, List.set_cons_succ, i64_w, i32_w]
        rfl
      refine take_ (i := 21) (N := some 92) (v := ?_) (a' := ?_) #[true, true, true, true, true, true, true, true, true, true, true, true, true, true, true, true, true, true, true, false, true, true, false, false, false, false, false, false, false, false, false, false, false] rfl rfl (take_ofW HT_.out HW_.out (by kernel_rfl)) (fun _ _ _ h => h) (Or.inl ⟨by rfl, ?_⟩) hHeld ?_ ?_
      rotate_left
      · intro w' s0
        go_simp
        with_reducible rfl
      rotate_left
      · simp only [Act.put, List.setIfInBounds_toArray, List.set_cons_zero, List.set_cons_succ, i64_w, i32_w]
        rfl
      refine pure_ (i := 22) (N := some 93) (v := ?_) (a' := ?_) #[true, true, true, true, true, true, true, true, true, true, true, true, true, true, true, true, true, true, true, false, true, true, true, false, false, false, false, false, false, false, false, false, false] rfl rfl (any_of HT_.out (by kernel_rfl)) (fun _ _ _ h => h) (Or.inl ⟨by rfl, ?_⟩) ?_ ?_
      rotate_left
      · intro w'
        go_simp
        with_reducible rfl
      rotate_left
      · simp only [Act.put, List.setIfInBounds_toArray, List.set_cons_zero, List.set_cons_succ, i64_w, i32_w]
        rfl
      refine one_ (i := 19) (N := some 90) (tfA 23 33) rfl rfl (one_of HT_.out (by kernel_rfl)) (by decide) (fun K hK => ?_)
      refine goes_ Tryd.func29 (by kernel_rfl) rfl #[.pointer (some ⟨g, 0, none⟩)] (by rfl) rfl rfl (by simp only [List.map_toArray, List.map_cons, List.map_nil]; rfl) ?_
      refine (bad_own (O8.out)).mono ?_
      rintro e w19 ⟨rfl, rfl⟩
      rw [HB.out]
      refine ⟨_, rfl, ?_⟩
      skip
      refine hK.out _ _ (hHeld) (fun hHeld => ?_)
      clear hK K
      refine norm_ (a' := ?_) ?_ ?_
      rotate_left
      · show Act.put _ (some 90) _ = _
        simp only [Act.put, List.setIfInBounds_toArray, List.set_cons_zero, List.set_cons_succ, i64_w, i32_w]
        rfl
      refine pure_ (i := 23) (N := some 94) (v := ?_) (a' := ?_) (tfA 24 33) rfl rfl (any_of HT_.out (by kernel_rfl)) (fun _ _ _ h => h) (Or.inl ⟨by rfl, ?_⟩) ?_ ?_
      rotate_left
      · intro w'
        go_simp
        with_reducible rfl
      rotate_left
      · simp only [Act.put, List.setIfInBounds_toArray, List.set_cons_zero, List.set_cons_succ, i64_w, i32_w]
        rfl
      refine pure_ (i := 24) (N := some 95) (v := ?_) (a' := ?_) (tfA 25 33) rfl rfl (any_of HT_.out (by kernel_rfl)) (fun _ _ _ h => h) (Or.inl ⟨by rfl, ?_⟩) ?_ ?_
      rotate_left
      · intro w'
        go_simp
        with_reducible rfl
      rotate_left
      · simp only [Act.put, List.setIfInBounds_toArray, List.set_cons_zero, List.set_cons_succ, i64_w, i32_w]
        rfl
      refine pure_ (i := 25) (N := some 96) (v := ?_) (a' := ?_) (tfA 26 33) rfl rfl (any_of HT_.out (by kernel_rfl)) (fun _ _ _ h => h) (Or.inl ⟨by rfl, ?_⟩) ?_ ?_
      rotate_left
      · intro w'
        go_simp
        with_reducible rfl
      rotate_left
      · simp only [Act.put, List.setIfInBounds_toArray, List.set_cons_zero, List.set_cons_succ, i64_w, i32_w]
        rfl
      refine pure_ (i := 26) (N := some 97) (v := ?_) (a' := ?_) (tfA 27 33) rfl rfl (any_of HT_.out (by kernel_rfl)) (fun _ _ _ h => h) (Or.inl ⟨by rfl, ?_⟩) ?_ ?_
      rotate_left
      · intro w'
        go_simp
        with_reducible rfl
      rotate_left
      · simp only [Act.put, List.setIfInBounds_toArray, List.set_cons_zero, List.set_cons_succ, i64_w, i32_w]
        rfl
      refine pure_ (i := 28) (N := some 99) (v := ?_) (a' := ?_) #[true, true, true, true, true, true, true, true, true, true, true, true, true, true, true, true, true, true, true, true, true, true, true, true, true, true, true, false, true, false, false, false, false] rfl rfl (any_of HT_.out (by kernel_rfl)) (fun _ _ _ h => h) (Or.inl ⟨by rfl, ?_⟩) ?_ ?_
      rotate_left
      · intro w'
        go_simp
        with_reducible rfl
      rotate_left
      · simp only [Act.put, List.setIfInBounds_toArray, List.set_cons_zero, List.set_cons_succ, i64_w, i32_w]
        rfl
      refine take_ (i := 29) (N := some 100) (v := ?_) (a' := ?_) #[true, true, true, true, true, true, true, true, true, true, true, true, true, true, true, true, true, true, true, true, true, true, true, true, true, true, true, false, true, true, false, false, false] rfl rfl (take_ofW HT_.out HW_.out (by kernel_rfl)) (fun _ _ _ h => h) (Or.inl ⟨by rfl, ?_⟩) hHeld ?_ ?_
      rotate_left
      · intro w' s0
        go_simp
        with_reducible rfl
      rotate_left
      · simp only [Act.put, List.setIfInBounds_toArray, List.set_cons_zero, List.set_cons_succ, i64_w, i32_w]
        rfl
      refine pure_ (i := 30) (N := some 101) (v := ?_) (a' := ?_) #[true, true, true, true, true, true, true, true, true, true, true, true, true, true, true, true, true, true, true, true, true, true, true, true, true, true, true, false, true, true, true, false, false] rfl rfl (any_of HT_.out (by kernel_rfl)) (fun _ _ _ h => h) (Or.inl ⟨by rfl, ?_⟩) ?_ ?_
      rotate_left
      · intro w'
        go_simp
        with_reducible rfl
      rotate_left
      · simp only [Act.put, List.setIfInBounds_toArray, List.set_cons_zero, List.set_cons_succ, i64_w, i32_w]
        rfl
      refine one_ (i := 27) (N := some 98) (tfA 31 33) rfl rfl (one_of HT_.out (by kernel_rfl)) (by decide) (fun K hK => ?_)
      refine goes_ Tryd.func30 (by kernel_rfl) rfl #[.pointer (some ⟨g, 0, none⟩)] (by rfl) rfl rfl (by simp only [List.map_toArray, List.map_cons, List.map_nil]; rfl) ?_
      refine (torn_own (O8.out)).mono ?_
      rintro e w27 ⟨rfl, rfl⟩
      rw [HT.out]
      refine ⟨_, rfl, ?_⟩
      skip
      refine hK.out _ _ (hHeld) (fun hHeld => ?_)
      clear hK K
      refine norm_ (a' := ?_) ?_ ?_
      rotate_left
      · show Act.put _ (some 98) _ = _
        simp only [Act.put, List.setIfInBounds_toArray, List.set_cons_zero, List.set_cons_succ, i64_w, i32_w]
        rfl
      refine pure_ (i := 31) (N := some 102) (v := ?_) (a' := ?_) (tfA 32 33) rfl rfl (any_of HT_.out (by kernel_rfl)) (fun _ _ _ h => h) (Or.inl ⟨by rfl, ?_⟩) ?_ ?_
      rotate_left
      · intro w'
        go_simp
        with_reducible rfl
      rotate_left
      · simp only [Act.put, List.setIfInBounds_toArray, List.set_cons_zero, List.set_cons_succ, i64_w, i32_w]
        rfl
      refine pure_ (i := 32) (N := some 103) (v := ?_) (a' := ?_) (tfA 33 33) rfl rfl (any_of HT_.out (by kernel_rfl)) (fun _ _ _ h => h) (Or.inl ⟨by rfl, ?_⟩) ?_ ?_
      rotate_left
      · intro w'
        go_simp
        with_reducible rfl
      rotate_left
      · simp only [Act.put, List.setIfInBounds_toArray, List.set_cons_zero, List.set_cons_succ, i64_w, i32_w]
        rfl
      refine done_ (done_of HT_.out (by kernel_rfl)) ?_
      clear hHeld
      have O9 := Aside0.mk (O8.out)
      clear O8
      go_wp2_with fail
      go_loopw [105] (fun v wr => ∃ (j : Nat), j ≤ l ∧ v = .int .i64 j ∧ Aside0 (Own.Own w wr (CellO g lb E [Pt w.heap.size (.cells #[.int .i64 a0, .int .i64 2, .int .i64 a2, .int .i64 a3] 38)]))) (fun v _ => l - (intOf v).toNat)
      case atStart => exact ⟨0, by omega, rfl, O9⟩
      case round =>
        clear O9
        obtain ⟨j, hjn, rfl, HO⟩ := hrel
        by_cases hlt : j < l
        · have dl : decide ((j : Int) < (l : Int)) = true := decide_eq_true (by omega)
          have dln : decide (j < l) = true := decide_eq_true hlt
          have hr : readV E j 0 = (readB E j 0, 0) := by unfold readV; rw [if_pos (HE.out.oks j hlt)]; rfl
          go_wp2_with fail
          refine (Read_own j 0 HE.out.fit HO.out).mono ?_
          rintro e w20 ⟨rfl, hb⟩
          rw [hr]
          have H1 := Aside0.mk hb
          clear hb HO hr
          go_wp2_with fail
          by_cases ja : j < i
          · have e1 : decide ((j : Int) < (i : Int)) = true := decide_eq_true (by omega)
            have e1n : decide (j < i) = true := decide_eq_true ja
            rw [HE.out.goods j ja]
            refine (frame_Decode.calls _ _ _ _ _ _ _ _ (pgN_dec j (by omega)) (Hw.laid_at HL H1.out.below)).mono ?_
            rintro e w21 ⟨rfl, hb⟩
            have H2 := Aside0.mk (H1.out.move hb)
            clear hb H1
            have hs : ((pgN j).toList == (pgN j).toList) = true := beq_self_eq_true _
            have ha := H2.out.alloc (.cells #[.int .i64 2, .int .i64 1, .int .i64 (j : Int), .int .i64 (j : Int), .int .i64 0, .string (data8 j)] 57)
            have HA := Aside0.mk ha
            clear ha H2
            go_wp2_with fail
            refine (pageOf_calls j _ (by omega) (Hw.laid_at HL HA.out.below)).mono ?_
            rintro e w22 ⟨rfl, hb⟩
            have H3 := Aside0.mk (HA.out.move hb)
            have y0 : w22.cell? ⟨w21.heap.size, 0, none⟩ = some (.int .i64 2) := (blk_cell H3.out.pt 0).trans rfl
            clear hb HA
            go_wp2_with fail
            go_roundw
            case rel => exact ⟨j + 1, by omega, by go_num, ⟨H3.out.drop⟩⟩
            case measure => simp [intOf]; omega
          have e1 : decide ((j : Int) < (i : Int)) = false := decide_eq_false (by omega)
          have e1n : decide (j < i) = false := decide_eq_false ja
          by_cases jb : j = i
          · subst jb
            refine (frame_Decode.calls _ _ _ _ _ _ _ _ (HE.out.hurt (.inr rfl)) (Hw.laid_at HL H1.out.below)).mono ?_
            rintro e w21 ⟨rfl, hb⟩
            have H2 := Aside0.mk (H1.out.move hb)
            clear hb H1
            go_wp2_with fail
            go_roundw
            case rel => exact ⟨j + 1, by omega, by go_num, ⟨H2.out.alloc' _⟩⟩
            case measure => simp [intOf]; omega
          · have e2 : ((j : Int) == (i : Int)) = false := beq_eq_false_iff_ne.2 (by omega)
            have e2n : (j == i) = false := beq_eq_false_iff_ne.2 jb
            refine (frame_Decode.calls _ _ _ _ _ _ _ _ (HE.out.blanks j (by omega) hlt) (Hw.laid_at HL H1.out.below)).mono ?_
            rintro e w21 ⟨rfl, hb⟩
            have H2 := Aside0.mk (H1.out.move hb)
            clear hb H1
            go_wp2_with fail
            go_roundw
            case rel => exact ⟨j + 1, by omega, by go_num, ⟨H2.out.alloc' _⟩⟩
            case measure => simp [intOf]; omega
        · obtain rfl : j = l := by omega
          have dl : decide ((j : Int) < (j : Int)) = false := decide_eq_false (by omega)
          have dln : decide (j < j) = false := decide_eq_false (by omega)
          obtain ⟨ec, es, eb⟩ := HE.out.erase2
          have EC := Aside0.mk ec
          have ES := Aside0.mk es
          clear ec es
          go_wp2_with fail
          refine (erase_bad 0 0 0 0 eb HO.out).mono ?_
          rintro e w30 ⟨rfl, hb⟩
          rw [ES.out] at hb
          rw [EC.out]
          have H1 := Aside0.mk hb
          clear hb HO
          obtain ⟨z0, z1, z2, z3, _, _, _, _⟩ := cells4 H1.out.drop.drop.pt
          go_wp2_with fail
          go_ret
          exact ⟨rfl, H1.out.below⟩
    rw [show endsC a1 = 0 from by unfold endsC; rw [if_neg k1, if_neg k2]] at hcc
    subst hcc
    have d1 : (a1 == 1) = false := beq_eq_false_iff_ne.2 k1
    have d2 : (a1 == 2) = false := beq_eq_false_iff_ne.2 k2
    have D1 := Aside0.mk d1
    have D2 := Aside0.mk d2
    obtain ⟨x0, x1, x2, x3, _, _, _, _⟩ := cells4 O6.out.drop.drop.pt
    go_upto_region 16 with (fail)
    clear x0 x1 x2 x3
    have hbad : E.bad = false := by rw [HE.out.bad]; exact decide_eq_false k2
    have htorn : E.torn = false := by rw [HE.out.torn]; exact decide_eq_false k1
    have HB := Aside0.mk hbad
    have HT := Aside0.mk htorn
    clear hbad htorn
    refine start_ (n := 33) (S := fun w' => w'.cell? ⟨w.heap.size, 1, none⟩ = some (.int .i64 a1)) (ds := []) (tfA 0 33) (by kernel_rfl) rfl rfl ((blk_cell O6.out.drew.drop.drop.pt 1).trans rfl) (fun hHeld => ?_)
    refine with_tabW keeps.tab16 keeps.bits16 (fun HT_ HW_ => ?_)
    refine pure_ (i := 0) (N := some 71) (v := ?_) (a' := ?_) (tfA 1 33) rfl rfl (any_of HT_.out (by kernel_rfl)) (fun _ _ _ h => h) (Or.inl ⟨by rfl, ?_⟩) ?_ ?_
    rotate_left
    · intro w'
      go_simp
      with_reducible rfl
    rotate_left
    · simp only [Act.put, List.setIfInBounds_toArray, List.set_cons_zero, List.set_cons_succ, i64_w, i32_w]
      rfl
    refine pure_ (i := 1) (N := some 72) (v := ?_) (a' := ?_) (tfA 2 33) rfl rfl (any_of HT_.out (by kernel_rfl)) (fun _ _ _ h => h) (Or.inl ⟨by rfl, ?_⟩) ?_ ?_
    rotate_left
    · intro w'
      go_simp
      with_reducible rfl
    rotate_left
    · simp only [Act.put, List.setIfInBounds_toArray, List.set_cons_zero, List.set_cons_succ, i64_w, i32_w]
      rfl
    refine pure_ (i := 2) (N := some 73) (v := ?_) (a' := ?_) (tfA 3 33) rfl rfl (any_of HT_.out (by kernel_rfl)) (fun _ _ _ h => h) (Or.inl ⟨by rfl, ?_⟩) ?_ ?_
    rotate_left
    · intro w'
      go_simp
      with_reducible rfl
    rotate_left
    · simp only [Act.put, List.setIfInBounds_toArray, List.set_cons_zero, List.set_cons_succ, i64_w, i32_w]
      rfl
    refine pure_ (i := 3) (N := some 74) (v := ?_) (a' := ?_) (tfA 4 33) rfl rfl (any_of HT_.out (by kernel_rfl)) (fun _ _ _ h => h) (Or.inl ⟨by rfl, ?_⟩) ?_ ?_
    rotate_left
    · intro w'
      go_simp
      with_reducible rfl
    rotate_left
    · simp only [Act.put, List.setIfInBounds_toArray, List.set_cons_zero, List.set_cons_succ, i64_w, i32_w]
      rfl
    refine pure_ (i := 4) (N := some 75) (v := ?_) (a' := ?_) (tfA 5 33) rfl rfl (any_of HT_.out (by kernel_rfl)) (fun _ _ _ h => h) (Or.inl ⟨by rfl, ?_⟩) ?_ ?_
    rotate_left
    · intro w'
      go_simp
      with_reducible rfl
    rotate_left
    · simp only [Act.put, List.setIfInBounds_toArray, List.set_cons_zero, List.set_cons_succ, i64_w, i32_w]
      rfl
    refine pure_ (i := 5) (N := some 76) (v := ?_) (a' := ?_) (tfA 6 33) rfl rfl (any_of HT_.out (by kernel_rfl)) (fun _ _ _ h => h) (Or.inl ⟨by rfl, ?_⟩) ?_ ?_
    rotate_left
    · intro w'
      go_simp
      with_reducible rfl
    rotate_left
    · simp only [Act.put, List.setIfInBounds_toArray, List.set_cons_zero, List.set_cons_succ, i64_w, i32_w]
      rfl
    refine pure_ (i := 6) (N := some 77) (v := ?_) (a' := ?_) (tfA 7 33) rfl rfl (any_of HT_.out (by kernel_rfl)) (fun _ _ _ h => h) (Or.inl ⟨by rfl, ?_⟩) ?_ ?_
    rotate_left
    · intro w'
      go_simp
      with_reducible rfl
    rotate_left
    · simp only [Act.put, List.setIfInBounds_toArray, List.set_cons_zero, List.set_cons_succ, i64_w, i32_w]
      rfl
    refine pure_ (i := 7) (N := some 78) (v := undef) (a' := ?_) (tfA 8 33) rfl rfl (any_of HT_.out (by kernel_rfl)) (fun _ _ _ h => h) (Or.inr ⟨by rfl, rfl⟩) ?_ ?_
    rotate_left
    · simp only [Act.put, List.setIfInBounds_toArray, List.set_cons_zero, List.set_cons_succ, i64_w, i32_w]
      rfl
    refine pure_ (i := 8) (N := some 79) (v := undef) (a' := ?_) (tfA 9 33) rfl rfl (any_of HT_.out (by kernel_rfl)) (fun _ _ _ h => h) (Or.inr ⟨by rfl, rfl⟩) ?_ ?_
    rotate_left
    · simp only [Act.put, List.setIfInBounds_toArray, List.set_cons_zero, List.set_cons_succ, i64_w, i32_w]
      rfl
    refine pure_ (i := 9) (N := some 80) (v := undef) (a' := ?_) (tfA 10 33) rfl rfl (any_of HT_.out (by kernel_rfl)) (fun _ _ _ h => h) (Or.inr ⟨by rfl, rfl⟩) ?_ ?_
    rotate_left
    · simp only [Act.put, List.setIfInBounds_toArray, List.set_cons_zero, List.set_cons_succ, i64_w, i32_w]
      rfl
    refine pure_ (i := 10) (N := some 81) (v := undef) (a' := ?_) (tfA 11 33) rfl rfl (any_of HT_.out (by kernel_rfl)) (fun _ _ _ h => h) (Or.inr ⟨by rfl, rfl⟩) ?_ ?_
    rotate_left
    · simp only [Act.put, List.setIfInBounds_toArray, List.set_cons_zero, List.set_cons_succ, i64_w, i32_w]
      rfl
    refine pure_ (i := 11) (N := some 82) (v := undef) (a' := ?_) (tfA 12 33) rfl rfl (any_of HT_.out (by kernel_rfl)) (fun _ _ _ h => h) (Or.inr ⟨by rfl, rfl⟩) ?_ ?_
    rotate_left
    · simp only [Act.put, List.setIfInBounds_toArray, List.set_cons_zero, List.set_cons_succ, i64_w, i32_w]
      rfl
    refine pure_ (i := 12) (N := some 83) (v := undef) (a' := ?_) (tfA 13 33) rfl rfl (any_of HT_.out (by kernel_rfl)) (fun _ _ _ h => h) (Or.inr ⟨by rfl, rfl⟩) ?_ ?_
    rotate_left
    · simp only [Act.put, List.setIfInBounds_toArray, List.set_cons_zero, List.set_cons_succ, i64_w, i32_w]
      rfl
    refine pure_ (i := 13) (N := some 84) (v := undef) (a' := ?_) (tfA 14 33) rfl rfl (any_of HT_.out (by kernel_rfl)) (fun _ _ _ h => h) (Or.inr ⟨by rfl, rfl⟩) ?_ ?_
    rotate_left
    · simp only [Act.put, List.setIfInBounds_toArray, List.set_cons_zero, List.set_cons_succ, i64_w, i32_w]
      rfl
    refine pure_ (i := 14) (N := some 85) (v := undef) (a' := ?_) (tfA 15 33) rfl rfl (any_of HT_.out (by kernel_rfl)) (fun _ _ _ h => h) (Or.inr ⟨by rfl, rfl⟩) ?_ ?_
    rotate_left
    · simp only [Act.put, List.setIfInBounds_toArray, List.set_cons_zero, List.set_cons_succ, i64_w, i32_w]
      rfl
    refine pure_ (i := 15) (N := some 86) (v := ?_) (a' := ?_) (tfA 16 33) rfl rfl (any_of HT_.out (by kernel_rfl)) (fun _ _ _ h => h) (Or.inl ⟨by rfl, ?_⟩) ?_ ?_
    rotate_left
    · intro w'
      go_simp
      with_reducible rfl
    rotate_left
    · simp only [Act.put, List.setIfInBounds_toArray, List.set_cons_zero, List.set_cons_succ, i64_w, i32_w]
      rfl
    refine pure_ (i := 16) (N := some 87) (v := ?_) (a' := ?_) (tfA 17 33) rfl rfl (any_of HT_.out (by kernel_rfl)) (fun _ _ _ h => h) (Or.inl ⟨by rfl, ?_⟩) ?_ ?_
    rotate_left
    · intro w'
      go_simp
      with_reducible rfl
    rotate_left
    · simp only [Act.put, List.setIfInBounds_toArray, List.set_cons_zero, List.set_cons_succ, i64_w, i32_w]
      rfl
    refine pure_ (i := 17) (N := some 88) (v := ?_) (a' := ?_) (tfA 18 33) rfl rfl (any_of HT_.out (by kernel_rfl)) (fun _ _ _ h => h) (Or.inl ⟨by rfl, ?_⟩) ?_ ?_
    rotate_left
    · intro w'
      go_simp
      with_reducible rfl
    rotate_left
    · simp only [Act.put, List.setIfInBounds_toArray, List.set_cons_zero, List.set_cons_succ, i64_w, i32_w]
      rfl
    refine pure_ (i := 18) (N := some 89) (v := ?_) (a' := ?_) (tfA 19 33) rfl rfl (any_of HT_.out (by kernel_rfl)) (fun _ _ _ h => h) (Or.inl ⟨by rfl, ?_⟩) ?_ ?_
    rotate_left
    · intro w'
      go_simp
      with_reducible rfl
    rotate_left
    · simp only [Act.put, List.setIfInBounds_toArray, List.set_cons_zero, List.set_cons_succ, i64_w, i32_w]
      rfl
    refine pure_ (i := 20) (N := some 91) (v := ?_) (a' := ?_) #[true, true, true, true, true, true, true, true, true, true, true, true, true, true, true, true, true, true, true, false, true, false, false, false, false, false, false, false, false, false, false, false, false] rfl rfl (any_of HT_.out (by kernel_rfl)) (fun _ _ _ h => h) (Or.inl ⟨by rfl, ?_⟩) ?_ ?_
    rotate_left
    · intro w'
      go_simp
      with_reducible rfl
    rotate_left
    · simp only [Act.put, List.setIfInBounds_toArray, List.set_cons_zero, List.set_cons_succ, i64_w, i32_w]
      rfl
    refine take_ (i := 21) (N := some 92) (v := ?_) (a' := ?_) #[true, true, true, true, true, true, true, true, true, true, true, true, true, true, true, true, true, true, true, false, true, true, false, false, false, false, false, false, false, false, false, false, false] rfl rfl (take_ofW HT_.out HW_.out (by kernel_rfl)) (fun _ _ _ h => h) (Or.inl ⟨by rfl, ?_⟩) hHeld ?_ ?_
    rotate_left
    · intro w' s0
      go_simp
      with_reducible rfl
    rotate_left
    · simp only [Act.put, List.setIfInBounds_toArray, List.set_cons_zero, List.set_cons_succ, i64_w, i32_w]
      rfl
    refine pure_ (i := 22) (N := some 93) (v := ?_) (a' := ?_) #[true, true, true, true, true, true, true, true, true, true, true, true, true, true, true, true, true, true, true, false, true, true, true, false, false, false, false, false, false, false, false, false, false] rfl rfl (any_of HT_.out (by kernel_rfl)) (fun _ _ _ h => h) (Or.inl ⟨by rfl, ?_⟩) ?_ ?_
    rotate_left
    · intro w'
      go_simp
      with_reducible rfl
    rotate_left
    · simp only [Act.put, List.setIfInBounds_toArray, List.set_cons_zero, List.set_cons_succ, i64_w, i32_w]
      rfl
    refine one_ (i := 19) (N := some 90) (tfA 23 33) rfl rfl (one_of HT_.out (by kernel_rfl)) (by decide) (fun K hK => ?_)
    refine goes_ Tryd.func29 (by kernel_rfl) rfl #[.pointer (some ⟨g, 0, none⟩)] (by rfl) rfl rfl (by simp only [List.map_toArray, List.map_cons, List.map_nil]; rfl) ?_
    refine (bad_own (O6.out.drew)).mono ?_
    rintro e w19 ⟨rfl, rfl⟩
    rw [HB.out]
    refine ⟨_, rfl, ?_⟩
    skip
    refine hK.out _ _ (hHeld) (fun hHeld => ?_)
    clear hK K
    refine norm_ (a' := ?_) ?_ ?_
    rotate_left
    · show Act.put _ (some 90) _ = _
      simp only [Act.put, List.setIfInBounds_toArray, List.set_cons_zero, List.set_cons_succ, i64_w, i32_w]
      rfl
    refine pure_ (i := 23) (N := some 94) (v := ?_) (a' := ?_) (tfA 24 33) rfl rfl (any_of HT_.out (by kernel_rfl)) (fun _ _ _ h => h) (Or.inl ⟨by rfl, ?_⟩) ?_ ?_
    rotate_left
    · intro w'
      go_simp
      with_reducible rfl
    rotate_left
    · simp only [Act.put, List.setIfInBounds_toArray, List.set_cons_zero, List.set_cons_succ, i64_w, i32_w]
      rfl
    refine pure_ (i := 24) (N := some 95) (v := ?_) (a' := ?_) (tfA 25 33) rfl rfl (any_of HT_.out (by kernel_rfl)) (fun _ _ _ h => h) (Or.inl ⟨by rfl, ?_⟩) ?_ ?_
    rotate_left
    · intro w'
      go_simp
      with_reducible rfl
    rotate_left
    · simp only [Act.put, List.setIfInBounds_toArray, List.set_cons_zero, List.set_cons_succ, i64_w, i32_w]
      rfl
    refine pure_ (i := 25) (N := some 96) (v := ?_) (a' := ?_) (tfA 26 33) rfl rfl (any_of HT_.out (by kernel_rfl)) (fun _ _ _ h => h) (Or.inl ⟨by rfl, ?_⟩) ?_ ?_
    rotate_left
    · intro w'
      go_simp
      with_reducible rfl
    rotate_left
    · simp only [Act.put, List.setIfInBounds_toArray, List.set_cons_zero, List.set_cons_succ, i64_w, i32_w]
      rfl
    refine pure_ (i := 26) (N := some 97) (v := ?_) (a' := ?_) (tfA 27 33) rfl rfl (any_of HT_.out (by kernel_rfl)) (fun _ _ _ h => h) (Or.inl ⟨by rfl, ?_⟩) ?_ ?_
    rotate_left
    · intro w'
      go_simp
      with_reducible rfl
    rotate_left
    · simp only [Act.put, List.setIfInBounds_toArray, List.set_cons_zero, List.set_cons_succ, i64_w, i32_w]
      rfl
    refine pure_ (i := 28) (N := some 99) (v := ?_) (a' := ?_) #[true, true, true, true, true, true, true, true, true, true, true, true, true, true, true, true, true, true, true, true, true, true, true, true, true, true, true, false, true, false, false, false, false] rfl rfl (any_of HT_.out (by kernel_rfl)) (fun _ _ _ h => h) (Or.inl ⟨by rfl, ?_⟩) ?_ ?_
    rotate_left
    · intro w'
      go_simp
      with_reducible rfl
    rotate_left
    · simp only [Act.put, List.setIfInBounds_toArray, List.set_cons_zero, List.set_cons_succ, i64_w, i32_w]
      rfl
    refine take_ (i := 29) (N := some 100) (v := ?_) (a' := ?_) #[true, true, true, true, true, true, true, true, true, true, true, true, true, true, true, true, true, true, true, true, true, true, true, true, true, true, true, false, true, true, false, false, false] rfl rfl (take_ofW HT_.out HW_.out (by kernel_rfl)) (fun _ _ _ h => h) (Or.inl ⟨by rfl, ?_⟩) hHeld ?_ ?_
    rotate_left
    · intro w' s0
      go_simp
      with_reducible rfl
    rotate_left
    · simp only [Act.put, List.setIfInBounds_toArray, List.set_cons_zero, List.set_cons_succ, i64_w, i32_w]
      rfl
    refine pure_ (i := 30) (N := some 101) (v := ?_) (a' := ?_) #[true, true, true, true, true, true, true, true, true, true, true, true, true, true, true, true, true, true, true, true, true, true, true, true, true, true, true, false, true, true, true, false, false] rfl rfl (any_of HT_.out (by kernel_rfl)) (fun _ _ _ h => h) (Or.inl ⟨by rfl, ?_⟩) ?_ ?_
    rotate_left
    · intro w'
      go_simp
      with_reducible rfl
    rotate_left
    · simp only [Act.put, List.setIfInBounds_toArray, List.set_cons_zero, List.set_cons_succ, i64_w, i32_w]
      rfl
    refine one_ (i := 27) (N := some 98) (tfA 31 33) rfl rfl (one_of HT_.out (by kernel_rfl)) (by decide) (fun K hK => ?_)
    refine goes_ Tryd.func30 (by kernel_rfl) rfl #[.pointer (some ⟨g, 0, none⟩)] (by rfl) rfl rfl (by simp only [List.map_toArray, List.map_cons, List.map_nil]; rfl) ?_
    refine (torn_own (O6.out.drew)).mono ?_
    rintro e w27 ⟨rfl, rfl⟩
    rw [HT.out]
    refine ⟨_, rfl, ?_⟩
    skip
    refine hK.out _ _ (hHeld) (fun hHeld => ?_)
    clear hK K
    refine norm_ (a' := ?_) ?_ ?_
    rotate_left
    · show Act.put _ (some 98) _ = _
      simp only [Act.put, List.setIfInBounds_toArray, List.set_cons_zero, List.set_cons_succ, i64_w, i32_w]
      rfl
    refine pure_ (i := 31) (N := some 102) (v := ?_) (a' := ?_) (tfA 32 33) rfl rfl (any_of HT_.out (by kernel_rfl)) (fun _ _ _ h => h) (Or.inl ⟨by rfl, ?_⟩) ?_ ?_
    rotate_left
    · intro w'
      go_simp
      with_reducible rfl
    rotate_left
    · simp only [Act.put, List.setIfInBounds_toArray, List.set_cons_zero, List.set_cons_succ, i64_w, i32_w]
      rfl
    refine pure_ (i := 32) (N := some 103) (v := ?_) (a' := ?_) (tfA 33 33) rfl rfl (any_of HT_.out (by kernel_rfl)) (fun _ _ _ h => h) (Or.inl ⟨by rfl, ?_⟩) ?_ ?_
    rotate_left
    · intro w'
      go_simp
      with_reducible rfl
    rotate_left
    · simp only [Act.put, List.setIfInBounds_toArray, List.set_cons_zero, List.set_cons_succ, i64_w, i32_w]
      rfl
    refine done_ (done_of HT_.out (by kernel_rfl)) ?_
    clear hHeld
    have O9 := Aside0.mk (O6.out.drew)
    clear O6
    go_wp2_with fail
    go_loopw [105] (fun v wr => ∃ (j : Nat), j ≤ l ∧ v = .int .i64 j ∧ Aside0 (Own.Own w wr (CellO g lb E [Pt w.heap.size (.cells #[.int .i64 a0, .int .i64 a1, .int .i64 a2, .int .i64 a3] 38)]))) (fun v _ => l - (intOf v).toNat)
    case atStart => exact ⟨0, by omega, rfl, O9⟩
    case round =>
      clear O9
      obtain ⟨j, hjn, rfl, HO⟩ := hrel
      by_cases hlt : j < l
      · have dl : decide ((j : Int) < (l : Int)) = true := decide_eq_true (by omega)
        have dln : decide (j < l) = true := decide_eq_true hlt
        have hr : readV E j 0 = (readB E j 0, 0) := by unfold readV; rw [if_pos (HE.out.oks j hlt)]; rfl
        go_wp2_with fail
        refine (Read_own j 0 HE.out.fit HO.out).mono ?_
        rintro e w20 ⟨rfl, hb⟩
        rw [hr]
        have H1 := Aside0.mk hb
        clear hb HO hr
        go_wp2_with fail
        by_cases ja : j < i
        · have e1 : decide ((j : Int) < (i : Int)) = true := decide_eq_true (by omega)
          have e1n : decide (j < i) = true := decide_eq_true ja
          rw [HE.out.goods j ja]
          refine (frame_Decode.calls _ _ _ _ _ _ _ _ (pgN_dec j (by omega)) (Hw.laid_at HL H1.out.below)).mono ?_
          rintro e w21 ⟨rfl, hb⟩
          have H2 := Aside0.mk (H1.out.move hb)
          clear hb H1
          have hs : ((pgN j).toList == (pgN j).toList) = true := beq_self_eq_true _
          have ha := H2.out.alloc (.cells #[.int .i64 2, .int .i64 1, .int .i64 (j : Int), .int .i64 (j : Int), .int .i64 0, .string (data8 j)] 57)
          have HA := Aside0.mk ha
          clear ha H2
          go_wp2_with fail
          refine (pageOf_calls j _ (by omega) (Hw.laid_at HL HA.out.below)).mono ?_
          rintro e w22 ⟨rfl, hb⟩
          have H3 := Aside0.mk (HA.out.move hb)
          have y0 : w22.cell? ⟨w21.heap.size, 0, none⟩ = some (.int .i64 2) := (blk_cell H3.out.pt 0).trans rfl
          clear hb HA
          go_wp2_with fail
          go_roundw
          case rel => exact ⟨j + 1, by omega, by go_num, ⟨H3.out.drop⟩⟩
          case measure => simp [intOf]; omega
        have e1 : decide ((j : Int) < (i : Int)) = false := decide_eq_false (by omega)
        have e1n : decide (j < i) = false := decide_eq_false ja
        by_cases jb : j = i
        · subst jb
          rw [HE.out.good (by omega)]
          refine (frame_Decode.calls _ _ _ _ _ _ _ _ (pgN_dec j (by omega)) (Hw.laid_at HL H1.out.below)).mono ?_
          rintro e w21 ⟨rfl, hb⟩
          have H2 := Aside0.mk (H1.out.move hb)
          clear hb H1
          have hs : ((pgN j).toList == (pgN j).toList) = true := beq_self_eq_true _
          have ha := H2.out.alloc (.cells #[.int .i64 2, .int .i64 1, .int .i64 (j : Int), .int .i64 (j : Int), .int .i64 0, .string (data8 j)] 57)
          have HA := Aside0.mk ha
          clear ha H2
          go_wp2_with fail
          refine (pageOf_calls j _ (by omega) (Hw.laid_at HL HA.out.below)).mono ?_
          rintro e w22 ⟨rfl, hb⟩
          have H3 := Aside0.mk (HA.out.move hb)
          have y0 : w22.cell? ⟨w21.heap.size, 0, none⟩ = some (.int .i64 2) := (blk_cell H3.out.pt 0).trans rfl
          clear hb HA
          go_wp2_with fail
          go_roundw
          case rel => exact ⟨j + 1, by omega, by go_num, ⟨H3.out.drop⟩⟩
          case measure => simp [intOf]; omega
        · have e2 : ((j : Int) == (i : Int)) = false := beq_eq_false_iff_ne.2 (by omega)
          have e2n : (j == i) = false := beq_eq_false_iff_ne.2 jb
          refine (frame_Decode.calls _ _ _ _ _ _ _ _ (HE.out.blanks j (by omega) hlt) (Hw.laid_at HL H1.out.below)).mono ?_
          rintro e w21 ⟨rfl, hb⟩
          have H2 := Aside0.mk (H1.out.move hb)
          clear hb H1
          go_wp2_with fail
          go_roundw
          case rel => exact ⟨j + 1, by omega, by go_num, ⟨H2.out.alloc' _⟩⟩
          case measure => simp [intOf]; omega
      · obtain rfl : j = l := by omega
        have dl : decide ((j : Int) < (j : Int)) = false := decide_eq_false (by omega)
        have dln : decide (j < j) = false := decide_eq_false (by omega)
        obtain ⟨ec, es, eb⟩ := HE.out.erase (by exact k2)
        have EC := Aside0.mk ec
        have ES := Aside0.mk es
        clear ec es
        go_wp2_with fail
        refine (erase_runs 0 0 0 0 HE.out.fit ⟨by rw [HE.out.slc]; decide, by rw [HE.out.slc]; decide, by rw [HE.out.tlc]; decide, by rw [HE.out.tlc]; decide⟩ eb HO.out).mono ?_
        rintro e w30 ⟨rfl, hb⟩
        rw [ES.out] at hb
        rw [EC.out]
        have H1 := Aside0.mk hb
        clear hb HO
        have d2 : (a1 == 2) = false := D2.out
        have d2b : (a1 != 2) = true := bne_iff_ne.2 k2
        obtain ⟨z0, z1, z2, z3, _, _, _, _⟩ := cells4 H1.out.drop.drop.pt
        go_wp2_with fail
        refine (mode_own H1.out).mono ?_
        rintro e w31 ⟨rfl, rfl⟩
        rw [show (erased (erase1 E)).mode = 0 from rfl]
        go_wp2_with fail
        refine (done_own H1.out).mono ?_
        rintro e w32 ⟨rfl, rfl⟩
        rw [show (erased (erase1 E)).done = 0 from rfl]
        go_wp2_with fail
        refine (torn_own H1.out).mono ?_
        rintro e w33 ⟨rfl, rfl⟩
        rw [show (erased (erase1 E)).torn = false from rfl]
        go_wp2_with fail
        go_ret
        exact ⟨rfl, H1.out.below⟩
end Go.Proofs.YtliiploidjnmnaaDoor.PF
end

section
/- The law CellKeeps, by hand: joined. -/
set_option linter.unusedVariables false
set_option linter.unusedSimpArgs false
namespace Go.Proofs.YtliiploidjnmnaaDoor.PF
open Go.RowKit Go.Shelf Go.Proofs.YtliiploidjnmnaaDoorW.PrintWords Go.Proofs.YtliiploidjnmnaaDoor.Mem Go.Proofs.YtliiploidjnmnaaDoor.Own Go.Proofs.YtliiploidjnmnaaDoor.Hw

def decklelaw08_CellKeeps.f (a0 : Int) (a1 : Int) (a2_0 a2_1 a2_2 a2_3 : Int) : Option Bool := some true
/-- Of other numbers nothing is said. -/
def keepsOut (l n : Int) : Bool := decide (l < 1) || (decide (20 < l) || (decide (n < 0) || decide (l ≤ n)))
set_option maxHeartbeats 4000000 in
set_option maxRecDepth 100000 in
theorem keeps_out (l n : Int) (a0 a1 a2 a3 : Int) (w : World) (h : l < 1 ∨ (¬ l < 1 ∧ 20 < l) ∨ (¬ l < 1 ∧ ¬ 20 < l ∧ n < 0) ∨ (¬ l < 1 ∧ ¬ 20 < l ∧ ¬ n < 0 ∧ l ≤ n)) (HL : Aside0 (Laid w)) :
    Calls Tryd.prog 7 #[.int .i64 l, .int .i64 n, fltV a0 a1 a2 a3] w fun e w' => e = .returned (.bool true) ∧ Below w.heap.size w w' := by
  have o0 := (Own.Own.new w).alloc (.cells #[.int .i64 a0, .int .i64 a1, .int .i64 a2, .int .i64 a3] 38)
  have O0 := Aside0.mk o0
  have H := Aside0.mk h
  clear o0 h
  go_enter Tryd.func7, Tryd.ntmps7
  go_wp2_with fail
  refine (works_calls _ (Hw.laid_at HL O0.out.below)).mono ?_
  rintro e w1 ⟨rfl, hb⟩
  have O1 := Aside0.mk (O0.out.move hb)
  clear hb O0
  rcases H.out with c | ⟨c1, c⟩ | ⟨c1, c2, c⟩ | ⟨c1, c2, c3, c⟩
  · have e1 : decide (l < 1) = true := decide_eq_true c
    clear H
    go_wp2_with fail
    go_ret
    exact ⟨rfl, O1.out.below⟩
  · have e1 : decide (l < 1) = false := decide_eq_false (by omega)
    have e2 : decide (20 < l) = true := decide_eq_true c
    clear H
    go_wp2_with fail
    go_ret
    exact ⟨rfl, O1.out.below⟩
  · have e1 : decide (l < 1) = false := decide_eq_false (by omega)
    have e2 : decide (20 < l) = false := decide_eq_false (by omega)
    have e3 : decide (n < 0) = true := decide_eq_true c
    clear H
    go_wp2_with fail
    go_ret
    exact ⟨rfl, O1.out.below⟩
  · have e1 : decide (l < 1) = false := decide_eq_false (by omega)
    have e2 : decide (20 < l) = false := decide_eq_false (by omega)
    have e3 : decide (n < 0) = false := decide_eq_false (by omega)
    have e4 : decide (l ≤ n) = true := decide_eq_true c
    clear H
    go_wp2_with fail
    go_ret
    exact ⟨rfl, O1.out.below⟩
theorem decklelaw08_CellKeeps.calls (a0 : Int) (a1 : Int) (a2_0 : Int) (a2_1 : Int) (a2_2 : Int) (a2_3 : Int) (w : World) (h : decklelaw08_CellKeeps.f a0 a1 a2_0 a2_1 a2_2 a2_3 = some true) (HL : Aside0 (Hw.Laid w)) :
    Calls Tryd.prog 7 #[.int .i64 a0, .int .i64 a1, .agg #[.int .i64 a2_0, .int .i64 a2_1, .int .i64 a2_2, .int .i64 a2_3]] w fun e w' => e = .returned (.bool true) ∧ Below w.heap.size w w' := by
  by_cases h1 : a0 < 1 ∨ (¬ a0 < 1 ∧ 20 < a0) ∨ (¬ a0 < 1 ∧ ¬ 20 < a0 ∧ a1 < 0) ∨ (¬ a0 < 1 ∧ ¬ 20 < a0 ∧ ¬ a1 < 0 ∧ a0 ≤ a1)
  · exact keeps_out a0 a1 a2_0 a2_1 a2_2 a2_3 w h1 HL
  obtain ⟨l, rfl⟩ := Int.eq_ofNat_of_zero_le (show 0 ≤ a0 by omega)
  obtain ⟨n, rfl⟩ := Int.eq_ofNat_of_zero_le (show 0 ≤ a1 by omega)
  exact keeps_walk l n a2_0 a2_1 a2_2 a2_3 w (by omega) (by omega) (by omega) HL
end Go.Proofs.YtliiploidjnmnaaDoor.PF
end
