/- The law's proof: words, contracts of the functions that it reaches, plain lemmas. -/
import Derived.ArgAppend
import Derived.Below
import Derived.BigQuiet
import Derived.Carry
import Derived.Deep.AppendLies
import Derived.Deep.CutBlock
import Derived.Deep.DeepCutAuto
import Derived.Deep.Draws
import Derived.Deep.LoopGhost
import Derived.Deep.OwnRows
import Derived.Deep.QuietTactic
import Derived.Deep.RegionHeld3
import Derived.Deep.RegionWith
import Derived.KernelRfl
import Derived.Laws.BitsLemmas
import Derived.Laws.BytesArg
import Derived.Laws.IdiomCopy
import Derived.Laws.MakeOwn
import Derived.Laws.OwnMore
import Derived.Laws.Rows
import Derived.Laws.Slices
import Derived.Lib.AppendStr
import Derived.Lib.BufferMore
import Derived.Lib.ConvBytes
import Derived.Lib.Hide
import Derived.Lib.LazyBuf
import Derived.Maps.AppendAt
import Derived.OpenShut
import Derived.OrdersHeld
import Derived.Outline
import Derived.OwnWalk
import Derived.OwnWalkIn
import Derived.RegionTactic
import Derived.RowKit3
import Derived.StillTailTactics
import Derived.Tactics
import Derived.WalkKit
import Derived.WideLaws
import Derived.Test.YtliiploidjnmnaaDoorCt24
import Derived.Test.YtliiploidjnmnaaDoorCt21
import Derived.Test.YtliiploidjnmnaaDoorCt18
import Derived.Test.YtliiploidjnmnaaDoorCt0
section
/- A block that is erased, in plain words. -/
set_option linter.unusedVariables false
set_option linter.unusedSimpArgs false
namespace Go.Proofs.YtliiploidjnmnaaDoor.PF
open Go.RowKit Go.Shelf Go.Proofs.YtliiploidjnmnaaDoorW.PrintWords Go.Proofs.YtliiploidjnmnaaDoor.Hw

/-- A block of so many lines of which the first was written, ahead of its erasing. -/
structure MidE (S : CellS) (n : Nat) (two : Bool) : Prop where
  fit : Fit S
  len : S.lines.length = n
  blank : S.blank = ffs 36
  bad : S.bad = false
  torn : S.torn = false
  mode : S.mode = if two = true then 2 else 1
  slc : S.slc = 0
  tlc : S.tlc = 0
  plain : ∀ i, i < n → Plain0 S i
/-- What stands behind the erasing. -/
structure AfterE (E : CellS) (n : Nat) (two : Bool) (k : Int) : Prop where
  fit : Fit E
  len : E.lines.length = n
  slc : E.slc = if two = true then 0 else 1
  tlc : E.tlc = if two = true then 1 else 0
  modes : ∀ i : Nat, i < n → readOk E i 0
  bads : (k = 1 ∨ k = 2) → ∀ i : Nat, i < n → frame_Decode.f (readB E i 0) = some (4, 0, 0, 0, 0, ⟨#[]⟩)
  news : ¬ (k = 1 ∨ k = 2) → E.mode = 0 ∧ E.done = 0 ∧ progOk E 0 (pgN 1) ∧ ∀ i : Nat, i < n → frame_Decode.f (readB E i 0) = some (1, 0, 0, 0, 0, ⟨#[]⟩)
end Go.Proofs.YtliiploidjnmnaaDoor.PF
end

section
/- The law CellErases: its block ahead of the erasing, in plain words. -/
set_option linter.unusedVariables false
set_option linter.unusedSimpArgs false
namespace Go.Proofs.YtliiploidjnmnaaDoor.PF
open Go.RowKit Go.Shelf Go.Proofs.YtliiploidjnmnaaDoorW.PrintWords Go.Proofs.YtliiploidjnmnaaDoor.Hw

def nw (n : Nat) : CellS := newS n (ffs 36)
end Go.Proofs.YtliiploidjnmnaaDoor.PF
end

section
/- The law CellKeeps: its block, in plain words. -/
set_option linter.unusedVariables false
set_option linter.unusedSimpArgs false
namespace Go.Proofs.YtliiploidjnmnaaDoor.PF
open Go.RowKit Go.Shelf Go.Proofs.YtliiploidjnmnaaDoorW.PrintWords Go.Proofs.YtliiploidjnmnaaDoor.Hw

/-- A block of so many lines, of which the first ones are programmed. -/
structure KS (S : CellS) (L i : Nat) : Prop where
  len : S.lines.length = L
  blank : S.blank = ffs 36
  mode : S.mode = 0 ∨ S.mode = 1
  done : S.done = i
  bad : S.bad = false
  torn : S.torn = false
  slc : S.slc = 0
  tlc : S.tlc = 0
  at_ : ∀ j, j < L → S.lines.getD j line0 = if j < i then pline (pgN j) else line0
theorem getD_set' {α : Type} (ls : List α) (i j : Nat) (l d : α) (hi : i < ls.length) : (ls.set i l).getD j d = if i = j then l else ls.getD j d := by
  rw [List.getD_eq_getElem?_getD, List.getElem?_set, List.getD_eq_getElem?_getD]
  by_cases h : i = j
  · rw [if_pos h, if_pos hi, if_pos h]; rfl
  · rw [if_neg h, if_neg h]
theorem pg_sizes (m : Nat) : (pline (pgN m)).p0.size ≤ 100000 ∧ (pline (pgN m)).p1.size ≤ 100000 ∧ (pline (pgN m)).p2.size ≤ 100000 := ⟨by show (pgN m).size ≤ _; rw [pgN_size]; omega, Nat.zero_le _, Nat.zero_le _⟩
theorem mem_getD {α : Type} {ls : List α} {l d : α} (h : l ∈ ls) : ∃ j, j < ls.length ∧ ls.getD j d = l := by
  obtain ⟨j, hj, rfl⟩ := List.mem_iff_getElem.mp h
  exact ⟨j, hj, by rw [List.getD_eq_getElem?_getD, List.getElem?_eq_getElem hj]; rfl⟩
theorem KS.fit {S : CellS} {L i : Nat} (h : KS S L i) (h1 : 1 ≤ L) (h64 : L ≤ 64) (hi : i ≤ L) : Fit S := by
  refine ⟨by rw [h.len]; exact h1, by rw [h.len]; exact h64, by rw [h.done]; omega, by rw [h.done, h.len]; omega, ?_, by rw [h.blank, ffs_size]; omega⟩
  intro l hm
  obtain ⟨j, hj, rfl⟩ := mem_getD (d := line0) hm
  rw [h.at_ j (by rw [← h.len]; exact hj)]
  split
  · exact pg_sizes j
  · exact ⟨Nat.zero_le _, Nat.zero_le _, Nat.zero_le _⟩
theorem KS.ok {S : CellS} {L i : Nat} (h : KS S L i) (hi : i < L) (m : Nat) : progOk S i (pgN m) :=
  ⟨h.bad, h.torn, by rcases h.mode with e | e <;> rw [e] <;> decide, h.done.symm, by rw [h.len]; omega, by rw [pgN_size, h.blank, ffs_size]⟩
theorem KS.next {S : CellS} {L i : Nat} (h : KS S L i) (hi : i < L) : KS (prog1 S (pgN i)) L (i + 1) := by
  have hd : S.done.toNat = i := by rw [h.done]; rfl
  refine ⟨by show (S.lines.set _ _).length = L; rw [List.length_set, h.len], h.blank, .inr rfl, by show S.done + 1 = _; rw [h.done]; rfl, h.bad, h.torn, h.slc, h.tlc, fun j hj => ?_⟩
  show (S.lines.set S.done.toNat (pline (pgN i))).getD j line0 = _
  rw [hd, getD_set' _ _ _ _ _ (by rw [h.len]; exact hi), h.at_ j hj]
  by_cases hij : i = j
  · subst hij
    rw [if_pos rfl, if_pos (by omega)]
  · rw [if_neg hij]
    by_cases hlt : j < i
    · rw [if_pos hlt, if_pos (by omega)]
    · rw [if_neg hlt, if_neg (by omega)]
/-- The block behind the last line, of how that goes. -/
structure KE (E : CellS) (L n : Nat) (k : Int) : Prop where
  fit : Fit E
  len : E.lines.length = L
  bad : E.bad = decide (k = 2)
  torn : E.torn = decide (k = 1)
  slc : E.slc = 0
  tlc : E.tlc = 0
  oks : ∀ i : Nat, i < L → readOk E i 0
  goods : ∀ i : Nat, i < n → readB E i 0 = pgN i
  good : ¬ (k = 1 ∨ k = 2) → readB E n 0 = pgN n
  hurt : (k = 1 ∨ k = 2) → frame_Decode.f (readB E n 0) = some (4, 0, 0, 0, 0, ⟨#[]⟩)
  blanks : ∀ i : Nat, n < i → i < L → frame_Decode.f (readB E i 0) = some (1, 0, 0, 0, 0, ⟨#[]⟩)
theorem pgN_dec (n : Nat) (h : n ≤ 255) : frame_Decode.f (pgN n) = some ((2 : Int), (1 : Int), (n : Int), (n : Int), (0 : Int), data8 n) := by
  unfold pgN
  refine page_dec 1 n n 0 (data8 n) (data8_may n) ?_
  unfold mayT
  simp
  omega
theorem hurt1_le {p : ByteArray} (x y : Int) (h : p = ⟨#[]⟩ ∨ ∃ m, p = pgN m) : (hurt1 p x y).size ≤ 100000 := by
  unfold hurt1
  rcases h with rfl | ⟨m, rfl⟩
  · rw [if_pos (show (⟨#[]⟩ : ByteArray).size = 0 from rfl)]; exact Nat.zero_le _
  · rw [if_neg (by rw [pgN_size]; decide), hurtB_size36 x y (.inr ⟨m, rfl⟩)]; omega
end Go.Proofs.YtliiploidjnmnaaDoor.PF
end

section
/- The law CellTwoPass: its block, in plain words. -/
set_option linter.unusedVariables false
set_option linter.unusedSimpArgs false
namespace Go.Proofs.YtliiploidjnmnaaDoor.PF
open Go.RowKit Go.Shelf Go.Proofs.YtliiploidjnmnaaDoorW.PrintWords Go.Proofs.YtliiploidjnmnaaDoor.Hw

theorem foggy_cases (a : Nat) : (a = 0 ∧ plFoggy a = 0) ∨ (a ≠ 0 ∧ plFoggy a = 2 * (a : Int) - 1) := by
  unfold plFoggy
  split <;> omega
theorem fine_cases (n a : Nat) : (a + 1 = n ∧ plFine n a = 2 * (n : Int) - 1) ∨ (a + 1 ≠ n ∧ plFine n a = 2 * (a : Int) + 2) := by
  unfold plFine
  split <;> omega
theorem aft_cases (n : Nat) (d : Int) (a : Nat) : (d > plFine n a ∧ aft n d a = 2) ∨ (¬ d > plFine n a ∧ d > plFoggy a ∧ aft n d a = 1) ∨ (¬ d > plFine n a ∧ ¬ d > plFoggy a ∧ aft n d a = 0) := by
  unfold aft
  split
  · exact .inl ⟨by assumption, rfl⟩
  · split
    · exact .inr (.inl ⟨by assumption, by assumption, rfl⟩)
    · exact .inr (.inr ⟨by assumption, by assumption, rfl⟩)
theorem st_cases (n d : Nat) : (d + 1 = 2 * n ∧ stLine n d = n - 1 ∧ stFine n d = true) ∨ (d + 1 ≠ 2 * n ∧ (d = 0 ∨ d % 2 = 1) ∧ stLine n d = (d + 1) / 2 ∧ stFine n d = false) ∨ (d + 1 ≠ 2 * n ∧ d ≠ 0 ∧ d % 2 = 0 ∧ stLine n d = d / 2 - 1 ∧ stFine n d = true) := by
  unfold stLine stFine
  by_cases e1 : d + 1 = 2 * n
  · rw [if_pos e1]; exact .inl ⟨e1, rfl, decide_eq_true (.inl e1)⟩
  · rw [if_neg e1]
    by_cases e2 : d = 0 ∨ d % 2 = 1
    · rw [if_pos e2]; exact .inr (.inl ⟨e1, e2, rfl, decide_eq_false (by omega)⟩)
    · rw [if_neg e2]; exact .inr (.inr ⟨e1, by omega, by omega, rfl, decide_eq_true (by omega)⟩)
theorem st_lt (L i : Nat) (h1 : 1 ≤ L) (hi : i < 2 * L) : stLine L i < L := by
  have := st_cases L i
  omega
/-- The step of a number takes its line on by one. -/
theorem aft_next (L i j : Nat) (h1 : 1 ≤ L) (hi : i < 2 * L) (hj : j < L) : aft L ((i + 1 : Nat) : Int) j = if j = stLine L i then aft L (i : Int) j + 1 else aft L (i : Int) j := by
  have a1 := foggy_cases j
  have a2 := fine_cases L j
  have a3 := aft_cases L (i : Int) j
  have a4 := aft_cases L ((i + 1 : Nat) : Int) j
  have a5 : (i + 1 = 2 * L ∧ stLine L i = L - 1) ∨ (i + 1 ≠ 2 * L ∧ (i = 0 ∨ i % 2 = 1) ∧ stLine L i = (i + 1) / 2) ∨ (i + 1 ≠ 2 * L ∧ i ≠ 0 ∧ i % 2 = 0 ∧ stLine L i = i / 2 - 1) := by
    rcases st_cases L i with ⟨p, q, _⟩ | ⟨p, q, r, _⟩ | ⟨p, q, r, t, _⟩
    · exact .inl ⟨p, q⟩
    · exact .inr (.inl ⟨p, q, r⟩)
    · exact .inr (.inr ⟨p, q, r, t⟩)
  by_cases e : j = stLine L i
  · rw [if_pos e]; rcases a1 with a1 | a1 <;> rcases a2 with a2 | a2 <;> rcases a5 with a5 | a5 | a5 <;> omega
  · rw [if_neg e]; rcases a1 with a1 | a1 <;> rcases a2 with a2 | a2 <;> rcases a5 with a5 | a5 | a5 <;> omega
theorem aft_zero (L j : Nat) (h1 : 1 ≤ L) : aft L 0 j = 0 := by
  have a1 := foggy_cases j
  have a2 := fine_cases L j
  have a3 := aft_cases L 0 j
  omega
/-- A foggy step's line was blank, a fine one's foggy. -/
theorem aft_step (L i : Nat) (h1 : 1 ≤ L) (hi : i < 2 * L) : aft L (i : Int) (stLine L i) = if stFine L i = true then 1 else 0 := by
  have a1 := foggy_cases (stLine L i)
  have a2 := fine_cases L (stLine L i)
  have a3 := aft_cases L (i : Int) (stLine L i)
  rcases st_cases L i with ⟨p, q, r⟩ | ⟨p, q, t, r⟩ | ⟨p, q, t, u, r⟩
  · rw [r, if_pos rfl]; omega
  · rw [r, if_neg (by decide)]; omega
  · rw [r, if_pos rfl]; omega
theorem aft_range (L : Nat) (i : Int) (j : Nat) : aft L i j = 0 ∨ aft L i j = 1 ∨ aft L i j = 2 := by
  have := aft_cases L i j
  omega
def l3 (j : Nat) : LineS := ⟨pgN j, pgN (j + 1), pgN (j + 2), false, false, false⟩
/-- A block behind so many steps of two passes. -/
structure TS (S : CellS) (L i : Nat) : Prop where
  len : S.lines.length = L
  blank : S.blank = ffs 36
  mode : S.mode = if i = 0 then 0 else 2
  done : S.done = i
  bad : S.bad = false
  torn : S.torn = false
  slc : S.slc = 0
  tlc : S.tlc = 0
  at_ : ∀ j, j < L → S.lines.getD j line0 = if aft L i j = 0 then line0 else l3 j
theorem ts_zero (L : Nat) (h1 : 1 ≤ L) : TS (nw L) L 0 := by
  refine ⟨List.length_replicate, rfl, rfl, rfl, rfl, rfl, rfl, rfl, fun j hj => ?_⟩
  show (List.replicate L line0).getD j line0 = _
  have hz : aft L ((0 : Nat) : Int) j = 0 := aft_zero L j h1
  rw [if_pos hz, List.getD_eq_getElem?_getD, List.getElem?_replicate]
  split <;> rfl
theorem l3_sizes (j : Nat) : (l3 j).p0.size ≤ 100000 ∧ (l3 j).p1.size ≤ 100000 ∧ (l3 j).p2.size ≤ 100000 :=
  ⟨by show (pgN j).size ≤ _; rw [pgN_size]; omega, by show (pgN (j + 1)).size ≤ _; rw [pgN_size]; omega, by show (pgN (j + 2)).size ≤ _; rw [pgN_size]; omega⟩
theorem TS.fit {S : CellS} {L i : Nat} (h : TS S L i) (h1 : 1 ≤ L) (h64 : L ≤ 64) (hi : i ≤ 2 * L) : Fit S := by
  refine ⟨by rw [h.len]; exact h1, by rw [h.len]; exact h64, by rw [h.done]; omega, by rw [h.done, h.len]; omega, ?_, by rw [h.blank, ffs_size]; omega⟩
  intro l hm
  obtain ⟨j, hj, rfl⟩ := mem_getD (d := line0) hm
  rw [h.at_ j (by rw [← h.len]; exact hj)]
  split
  · exact ⟨Nat.zero_le _, Nat.zero_le _, Nat.zero_le _⟩
  · exact l3_sizes j
theorem TS.next {S : CellS} {L i : Nat} (h : TS S L i) (h1 : 1 ≤ L) (hi : i < 2 * L) : nextOk S (stLine L i) (stFine L i) (pgN (stLine L i)) (pgN (stLine L i + 1)) (pgN (stLine L i + 2)) := by
  have hz : ∀ m, (pgN m).size = S.blank.size := fun m => by rw [pgN_size, h.blank, ffs_size]
  have hd : S.done.toNat = i := by rw [h.done]; rfl
  refine ⟨h.bad, h.torn, ?_, by rw [h.done, h.len]; omega, by rw [h.len, hd], by rw [h.len, hd], hz _, hz _, hz _⟩
  rw [h.mode]
  split <;> decide
theorem TS.fog {S : CellS} {L i : Nat} (h : TS S L i) (h1 : 1 ≤ L) (hi : i < 2 * L) (hf : stFine L i = false) : TS (fog1 S (stLine L i) (pgN (stLine L i)) (pgN (stLine L i + 1)) (pgN (stLine L i + 2))) L (i + 1) := by
  have hl := st_lt L i h1 hi
  refine ⟨by show (S.lines.set _ _).length = L; rw [List.length_set, h.len], h.blank, by rw [if_neg (by omega)]; rfl, by show S.done + 1 = _; rw [h.done]; rfl, h.bad, h.torn, h.slc, h.tlc, fun j hj => ?_⟩
  show (S.lines.set ((stLine L i : Nat) : Int).toNat (l3 (stLine L i))).getD j line0 = _
  rw [Int.toNat_natCast, getD_set' _ _ _ _ _ (by rw [h.len]; exact hl), h.at_ j hj, aft_next L i j h1 hi hj]
  have hs := aft_step L i h1 hi
  rw [hf, if_neg (by decide)] at hs
  by_cases e : stLine L i = j
  · subst e
    rw [if_pos rfl, if_pos rfl, hs, if_neg (by decide)]
  · have e' : ¬ j = stLine L i := fun q => e q.symm
    rw [if_neg e, if_neg e']
theorem TS.fineOk {S : CellS} {L i : Nat} (h : TS S L i) (h1 : 1 ≤ L) (hi : i < 2 * L) (hf : stFine L i = true) : fineOk S (stLine L i) (pgN (stLine L i)) (pgN (stLine L i + 1)) (pgN (stLine L i + 2)) := by
  have hl := st_lt L i h1 hi
  have hn := h.next h1 hi
  rw [hf] at hn
  have hs := aft_step L i h1 hi
  rw [hf, if_pos rfl] at hs
  have ha : S.lines.getD ((stLine L i : Nat) : Int).toNat line0 = l3 (stLine L i) := by rw [Int.toNat_natCast, h.at_ _ hl, if_neg (by rw [hs]; decide)]
  refine ⟨hn, ?_, ?_, ?_⟩ <;> rw [ha] <;> rfl
theorem TS.fin {S : CellS} {L i : Nat} (h : TS S L i) (h1 : 1 ≤ L) (hi : i < 2 * L) (hf : stFine L i = true) : TS (fine1 S) L (i + 1) := by
  have hi0 : i ≠ 0 := by
    rintro rfl
    unfold stFine at hf
    have := of_decide_eq_true hf
    omega
  refine ⟨h.len, h.blank, ?_, by show S.done + 1 = _; rw [h.done]; rfl, h.bad, h.torn, h.slc, h.tlc, fun j hj => ?_⟩
  · show S.mode = _
    rw [h.mode, if_neg hi0, if_neg (by omega)]
  show S.lines.getD j line0 = _
  have hs := aft_step L i h1 hi
  rw [hf, if_pos rfl] at hs
  rw [h.at_ j hj, aft_next L i j h1 hi hj]
  by_cases e : j = stLine L i
  · subst e
    rw [if_pos rfl, hs, if_neg (by decide), if_neg (by decide)]
  · rw [if_neg e]
/-- The block behind its last step, of how that goes: v the line that was hurt, or -1. -/
structure TE (E : CellS) (L k : Nat) (v : Int) : Prop where
  fit : Fit E
  oks : ∀ i p : Nat, i < L → p < 3 → readOk E i p
  hurt : ∀ i p : Nat, i < L → p < 3 → (i : Int) = v → frame_Decode.f (readB E i p) = some (4, 0, 0, 0, 0, ⟨#[]⟩)
  fog : ∀ i p : Nat, i < L → p < 3 → aft L k i = 1 → frame_Decode.f (readB E i p) = some (4, 0, 0, 0, 0, ⟨#[]⟩)
  good : ∀ i p : Nat, i < L → p < 3 → (i : Int) ≠ v → aft L k i = 2 → readB E i p = pgN (i + p)
  blank : ∀ i p : Nat, i < L → p < 3 → (i : Int) ≠ v → aft L k i = 0 → frame_Decode.f (readB E i p) = some (1, 0, 0, 0, 0, ⟨#[]⟩)
theorem l3_pg (j p : Nat) (hp : p < 3) : (l3 j).pg p = pgN (j + p) ∧ (l3 j).ht p = false := by
  rcases (by omega : p = 0 ∨ p = 1 ∨ p = 2) with rfl | rfl | rfl <;> exact ⟨rfl, rfl⟩
theorem line0_pg (p : Nat) : ((line0.pg p)).size = 0 := by
  unfold LineS.pg
  split <;> rfl
theorem hurtL3_pg (j p : Nat) (x y : Int) (hp : p < 3) : (hurtL (l3 j) x y).pg p = hurtB (pgN (j + p)) x y ∧ (hurtL (l3 j) x y).ht p = true := by
  have e : ∀ m, hurt1 (pgN m) x y = hurtB (pgN m) x y := fun m => if_neg (by rw [pgN_size]; decide)
  have t : ∀ m, (false || decide ((pgN m).size ≠ 0)) = true := fun m => by rw [pgN_size]; decide
  rcases (by omega : p = 0 ∨ p = 1 ∨ p = 2) with rfl | rfl | rfl
  · exact ⟨e j, t j⟩
  · exact ⟨e (j + 1), t (j + 1)⟩
  · exact ⟨e (j + 2), t (j + 2)⟩
theorem blank_read3 {S : CellS} {i p : Nat} (hb : S.blank = ffs 36) (h : S.lines.getD i line0 = line0) : frame_Decode.f (readB S i p) = some (1, 0, 0, 0, 0, ⟨#[]⟩) := by
  unfold readB
  rw [h, if_pos (line0_pg p), hb]
  exact blank_dec _ 4 (by omega) (by omega) (by rw [ffs_size]) (fun j hj => .inl (ffs_chk 4 j hj))
theorem te_main {E : CellS} {L k : Nat} {v : Int} (h1 : 1 ≤ L) (h64 : L ≤ 64) (hk : k ≤ 2 * L) (h0 : 1 ≤ k) (len : E.lines.length = L) (hb : E.blank = ffs 36) (hm : E.mode = 2) (hd : E.done = k)
    (x y : Int) (hat : ∀ j, j < L → E.lines.getD j line0 = if (j : Int) = v then hurtL (l3 j) x y else if aft L k j = 0 then line0 else l3 j) (hv : ∀ j, j < L → (j : Int) = v → aft L k j ≠ 0) : TE E L k v := by
  have hz : ∀ m, (pgN m).size = 36 := pgN_size
  have hzh : ∀ m, (hurtB (pgN m) x y).size = 36 := fun m => hurtB_size36 x y (.inr ⟨m, rfl⟩)
  have hh : ∀ i p : Nat, i < L → p < 3 → (i : Int) = v → frame_Decode.f (readB E i p) = some (4, 0, 0, 0, 0, ⟨#[]⟩) := by
    intro i p hi hp e
    obtain ⟨q1, q2⟩ := hurtL3_pg i p x y hp
    unfold readB
    rw [hat i hi, if_pos e, q1, q2, if_neg (by rw [hzh]; decide), if_pos rfl]
    exact pageish_two x y (.inr ⟨_, rfl⟩)
  refine ⟨⟨by omega, by omega, by rw [hd]; omega, by rw [hd, len]; omega, ?_, by rw [hb, ffs_size]; omega⟩, fun i p hi hp => ⟨by omega, by omega, by omega, by omega, fun q => absurd q.1 (by rw [hm]; decide)⟩, hh, ?_, ?_, ?_⟩
  · intro l hl
    obtain ⟨j, hj, rfl⟩ := mem_getD (d := line0) hl
    rw [hat j (by omega)]
    split
    · exact ⟨hurt1_le x y (.inr ⟨_, rfl⟩), hurt1_le x y (.inr ⟨_, rfl⟩), hurt1_le x y (.inr ⟨_, rfl⟩)⟩
    · split
      · exact ⟨Nat.zero_le _, Nat.zero_le _, Nat.zero_le _⟩
      · exact l3_sizes j
  · intro i p hi hp ha
    by_cases e : (i : Int) = v
    · exact hh i p hi hp e
    · obtain ⟨q1, q2⟩ := l3_pg i p hp
      unfold readB
      have e0 : E.lines.getD i line0 = l3 i := by rw [hat i hi, if_neg e, if_neg (by rw [ha]; decide)]
      rw [e0, q1, q2, if_neg (by rw [hz]; decide), if_neg (by decide), if_pos]
      · exact pageish_two 0 0 (.inr ⟨_, rfl⟩)
      · unfold foggyB
        rw [len, hd]
        exact decide_eq_true ⟨hm, ha⟩
  · intro i p hi hp e ha
    obtain ⟨q1, q2⟩ := l3_pg i p hp
    unfold readB
    have e0 : E.lines.getD i line0 = l3 i := by rw [hat i hi, if_neg e, if_neg (by rw [ha]; decide)]
    rw [e0, q1, q2, if_neg (by rw [hz]; decide), if_neg (by decide), if_neg]
    unfold foggyB
    rw [len, hd, ha]
    simp
  · intro i p hi hp e ha
    exact blank_read3 hb (by rw [hat i hi, if_neg e, if_pos ha])
theorem te_calm {S : CellS} {L k : Nat} (h : TS S L k) (h1 : 1 ≤ L) (h64 : L ≤ 64) (h0 : 1 ≤ k) (hk : k ≤ 2 * L) : TE S L k (-1) :=
  te_main h1 h64 hk h0 h.len h.blank (by rw [h.mode, if_neg (by omega)]) h.done 0 0 (fun j hj => by rw [if_neg (by omega), h.at_ j hj]) (fun j hj q => by omega)
theorem te_hurt {P : CellS} {L i : Nat} (h : TS P L (i + 1)) (h1 : 1 ≤ L) (h64 : L ≤ 64) (hi : i < 2 * L) (kk x y : Int) (hk : kk = 1 ∨ kk = 2) : TE (endsS kk P (hurtS P (stLine L i) x y)) L (i + 1) (stLine L i : Nat) := by
  have hl := st_lt L i h1 hi
  have ha : aft L ((i + 1 : Nat) : Int) (stLine L i) ≠ 0 := by
    rw [aft_next L i _ h1 hi hl, if_pos rfl, aft_step L i h1 hi]
    split <;> decide
  have hat : ∀ j, j < L → (hurtS P (stLine L i) x y).lines.getD j line0 = if (j : Int) = ((stLine L i : Nat) : Int) then hurtL (l3 j) x y else if aft L ((i + 1 : Nat) : Int) j = 0 then line0 else l3 j := by
    intro j hj
    show (P.lines.set (stLine L i) (hurtL (P.lines.getD (stLine L i) line0) x y)).getD j line0 = _
    rw [getD_set' _ _ _ _ _ (by rw [h.len]; exact hl)]
    by_cases e : stLine L i = j
    · subst e
      rw [if_pos rfl, if_pos rfl, h.at_ _ hl, if_neg ha]
    · rw [if_neg e, if_neg (by omega), h.at_ j hj]
  have hlen : (hurtS P (stLine L i) x y).lines.length = L := by show (P.lines.set _ _).length = L; rw [List.length_set, h.len]
  have hm : P.mode = 2 := by rw [h.mode, if_neg (by omega)]
  have hv : ∀ j, j < L → (j : Int) = ((stLine L i : Nat) : Int) → aft L ((i + 1 : Nat) : Int) j ≠ 0 := fun j hj e => by
    have e' : j = stLine L i := by omega
    rw [e']
    exact ha
  unfold endsS
  by_cases k1 : kk = 1
  · rw [if_pos k1]
    exact te_main h1 h64 (by omega) (by omega) hlen h.blank hm h.done x y hat hv
  · rw [if_neg k1, if_pos (by omega)]
    exact te_main h1 h64 (by omega) (by omega) hlen h.blank hm h.done x y hat hv
end Go.Proofs.YtliiploidjnmnaaDoor.PF
end

section
/- The law CellTwoPass, by hand: the walk. -/
set_option linter.unusedVariables false
set_option linter.unusedSimpArgs false
namespace Go.Proofs.YtliiploidjnmnaaDoor.PF
open Go.RowKit Go.Shelf Go.Proofs.YtliiploidjnmnaaDoor.Tf Go.Proofs.YtliiploidjnmnaaDoorW.PrintWords Go.Proofs.YtliiploidjnmnaaDoorW.PrintLast Go.Proofs.YtliiploidjnmnaaDoor.Mem Go.Proofs.YtliiploidjnmnaaDoor.Own Go.Proofs.YtliiploidjnmnaaDoor.Hw

theorem fineS_ok {S : CellS} {a : Int} {p0 p1 p2 : ByteArray} (k x y : Int) (h : fineOk S a p0 p1 p2) : fineS S a p0 p1 p2 k x y = endsS k (fine1 S) (hurtS (fine1 S) a.toNat x y) := if_pos h
theorem fineC_ok {S : CellS} {a : Int} {p0 p1 p2 : ByteArray} (k : Int) (h : fineOk S a p0 p1 p2) : fineC S a p0 p1 p2 k = endsC k := if_pos h
theorem fogS_ok' {S : CellS} {a : Int} {p0 p1 p2 : ByteArray} (k x y : Int) (h : fogOk S a p0 p1 p2) : fogS S a p0 p1 p2 k x y = endsS k (fog1 S a p0 p1 p2) (hurtS (fog1 S a p0 p1 p2) a.toNat x y) := if_pos h
theorem fogC_ok' {S : CellS} {a : Int} {p0 p1 p2 : ByteArray} (k : Int) (h : fogOk S a p0 p1 p2) : fogC S a p0 p1 p2 k = endsC k := if_pos h
/-- How many passes each line has had. -/
def passA (L : Nat) (i : Nat) : Array Value := ((List.range L).map fun j => Value.int .i64 (aft L i j)).toArray
theorem passA_at (L i j : Nat) (hj : j < L) : (passA L i)[j]? = some (.int .i64 (aft L i j)) := by
  unfold passA
  rw [List.getElem?_toArray, List.getElem?_map, List.getElem?_range hj]
  rfl
theorem passA_zero (L : Nat) (h1 : 1 ≤ L) : Array.replicate L (Value.int .i64 0) = passA L 0 := by
  unfold passA
  rw [List.map_congr_left (g := fun _ => Value.int .i64 0) (fun j _ => by
    have hz : aft L ((0 : Nat) : Int) j = 0 := aft_zero L j h1
    rw [hz]), List.map_const', List.length_range]
  exact (List.toArray_replicate ..).symm
theorem passA_set (L i : Nat) (h1 : 1 ≤ L) (hi : i < 2 * L) : (passA L i).setIfInBounds (stLine L i) (.int .i64 (aft L i (stLine L i) + 1)) = passA L (i + 1) := by
  have hl := st_lt L i h1 hi
  have hs : (passA L i).size = L := by unfold passA; rw [List.size_toArray, List.length_map, List.length_range]
  have hs2 : (passA L (i + 1)).size = L := by unfold passA; rw [List.size_toArray, List.length_map, List.length_range]
  refine Array.ext_getElem? fun j => ?_
  rw [Array.getElem?_setIfInBounds]
  by_cases e : stLine L i = j
  · subst e
    rw [if_pos rfl, if_pos (by omega), passA_at L (i + 1) _ hl, aft_next L i _ h1 hi hl, if_pos rfl]
  · rw [if_neg e]
    by_cases hj : j < L
    · have e' : ¬ j = stLine L i := fun q => e q.symm
      rw [passA_at L i j hj, passA_at L (i + 1) j hj, aft_next L i j h1 hi hj, if_neg e']
    · rw [Array.getElem?_eq_none (by omega), Array.getElem?_eq_none (by omega)]
theorem make_ints (n : Nat) (hn : n ≤ 1000) (h1 : 1 ≤ n) (W : World) : (Instr.makeSlice 50 (.int .i64 (n : Int)) (.int .i64 (n : Int))).run Tryd.prog W = .ok (.slice (some ⟨W.heap.size, 0, none⟩) n n) (W.alloc (.cells (passA n 0) 3 (0, 0))) := by
  obtain ⟨i, hi, h⟩ : ∃ i, Tryd.prog.info? 3 = some i ∧ (i.zero, i.size, i.bytes) = (some (.int .i64 0), 1, 8) := by
    have h : (Tryd.prog.info? 3).map (fun i => (i.zero, i.size, i.bytes)) = some (some (.int .i64 0), 1, 8) := by kernel_rfl
    cases hx : Tryd.prog.info? 3 with
    | none => rw [hx] at h; cases h
    | some i => rw [hx] at h; exact ⟨i, rfl, Option.some.inj h⟩
  simp only [Prod.mk.injEq] at h
  obtain ⟨hz, hs, hb⟩ := h
  have := run_make (P := Tryd.prog) W 50 3 i _ Tryd.underlying50 hi hz .i64 .i64 (n : Int) (n : Int) (by omega) (by omega) (by rw [hb]; omega) (by omega)
  rw [this, hs, Int.toNat_natCast]
  have e : madeCells (Value.cells (.int .i64 0)) (n * 1) = passA n 0 := by
    rw [← passA_zero n h1, Nat.mul_one]
    apply Array.ext
    · rw [size_madeCells, Array.size_replicate]
    · intro k q1 q2
      rw [Array.getElem_replicate]
      simp [madeCells, Value.cells, Nat.mod_one]
  rw [e]
set_option maxHeartbeats 8000000 in
set_option maxRecDepth 100000 in
theorem two_walk (l k : Nat) (a0 a1 a2 a3 : Int) (w : World) (h1 : 1 ≤ l) (h12 : l ≤ 12) (hk1 : 1 ≤ k) (hk2 : k ≤ 2 * l) (HL : Aside0 (Laid w)) :
    Calls Tryd.prog 5 #[.int .i64 l, .int .i64 k, fltV a0 a1 a2 a3] w fun e w' => e = .returned (.bool true) ∧ Below w.heap.size w w' := by
  have o0 := (Own.Own.new w).alloc (.cells #[.int .i64 a0, .int .i64 a1, .int .i64 a2, .int .i64 a3] 38)
  obtain ⟨HW, hHW⟩ : ∃ b, b = w.heap.size := ⟨_, rfl⟩
  have O0 := Aside0.mk o0
  clear o0 hHW
  go_enter Tryd.func5, Tryd.ntmps5
  go_wp2_with fail
  refine (works_calls _ (Hw.laid_at HL O0.out.below)).mono ?_
  rintro e w1 ⟨rfl, hb⟩
  have O1 := Aside0.mk (O0.out.move hb)
  clear hb O0
  have c1 : ¬ (l : Int) < 1 := by omega
  have c2 : ¬ (l : Int) > 12 := by omega
  have c3 : ¬ (k : Int) < 1 := by omega
  have c4 : ¬ (k : Int) > 2 * (l : Int) := by omega
  have c5 : ¬ k > 2 * l := by omega
  go_wp2_with fail
  clear c1 c2 c3 c4 c5
  refine (new_yes l 8 h1 (by omega) (by decide) O1.out).mono ?_
  rintro e w2 ⟨g, lb, rfl, hb⟩
  have O2 : Aside0 (Own.Own w w2 (CellO g lb (nw l) _)) := ⟨hb⟩
  clear hb O1
  have hmk := make_ints l (by omega) h1 w2
  go_wp2_with fail
  clear hmk
  have o3 := O2.out.alloc (.cells (passA l 0) 3)
  obtain ⟨pb, hpb⟩ : ∃ b, b = w2.heap.size := ⟨_, rfl⟩
  rw [← hpb] at o3
  have HPB := Lib.hid hpb
  have O3 := Aside0.mk (own_sw [_] [_, _] o3)
  clear o3 O2
  rw [← hpb]
  clear hpb
  go_loopw [55, 10] (fun v55 v10 wr => ∃ (i : Nat), i ≤ k ∧ v55 = .int .i64 i ∧ ∃ (v : Int) (S : CellS), v10 = .int .i64 v ∧ Aside0 (i < k → v = -1 ∧ TS S l i) ∧ Aside0 (i = k → TE S l k v) ∧ Aside0 (Own.Own w wr (CellO g lb S [Pt pb (.cells (passA l i) 3), Pt w.heap.size (.cells #[.int .i64 a0, .int .i64 a1, .int .i64 a2, .int .i64 a3] 38)]))) (fun v55 _ _ => k - (intOf v55).toNat)
  case atStart => exact ⟨0, by omega, rfl, -1, _, rfl, ⟨fun _ => ⟨rfl, ts_zero l h1⟩⟩, ⟨fun q => by omega⟩, O3⟩
  case round =>
    clear O3
    obtain ⟨i, hin, rfl, v, S, rfl, HT, HE, HO⟩ := hrel
    by_cases hlt : i < k
    · have dl : decide ((i : Int) < (k : Int)) = true := decide_eq_true (by omega)
      have dln : decide (i < k) = true := decide_eq_true hlt
      obtain ⟨rfl, hT⟩ := HT.out hlt
      have HTS := Aside0.mk hT
      clear HT HE hT
      go_upto_block 2 with (fail)
      clear dl dln
      go_cut [11, 12] (fun v11 v12 wx => v11 = .int .i64 (stLine l i : Nat) ∧ v12 = .bool (stFine l i) ∧ Aside0 (Own.Own w wx (CellO g lb S [Pt pb (.cells (passA l i) 3), Pt w.heap.size (.cells #[.int .i64 a0, .int .i64 a1, .int .i64 a2, .int .i64 a3] 38)])))
      case first =>
        rcases st_cases l i with ⟨p, q, r⟩ | ⟨p, q, t, r⟩ | ⟨p, q, t, u, r⟩
        · have e1 : ((i : Int) == 0) = false := beq_eq_false_iff_ne.2 (by omega)
          have e1n : (i == 0) = false := beq_eq_false_iff_ne.2 (by omega)
          have e2 : ((i : Int) % 2 == 1) = true := beq_iff_eq.2 (by omega)
          have e3 : decide ((i : Int) < 2 * (l : Int) - 1) = false := decide_eq_false (by omega)
          have e4 : ((i : Int) == 2 * (l : Int) - 1) = true := beq_iff_eq.2 (by omega)
          go_wp2_with fail
          go_meet
          exact ⟨congrArg _ (by omega), congrArg _ r.symm, HO⟩
        · by_cases i0 : i = 0
          · have e1 : ((i : Int) == 0) = true := beq_iff_eq.2 (by omega)
            have e1n : (i == 0) = true := beq_iff_eq.2 (by omega)
            go_wp2_with fail
            go_meet
            exact ⟨congrArg _ (by omega), congrArg _ r.symm, HO⟩
          · have e1 : ((i : Int) == 0) = false := beq_eq_false_iff_ne.2 (by omega)
            have e1n : (i == 0) = false := beq_eq_false_iff_ne.2 (by omega)
            have e2 : ((i : Int) % 2 == 1) = true := beq_iff_eq.2 (by omega)
            have e3 : decide ((i : Int) < 2 * (l : Int) - 1) = true := decide_eq_true (by omega)
            go_wp2_with fail
            go_meet
            exact ⟨congrArg _ (by omega), congrArg _ r.symm, HO⟩
        · have e1 : ((i : Int) == 0) = false := beq_eq_false_iff_ne.2 (by omega)
          have e1n : (i == 0) = false := beq_eq_false_iff_ne.2 (by omega)
          have e2 : ((i : Int) % 2 == 1) = false := beq_eq_false_iff_ne.2 (by omega)
          have e4 : ((i : Int) == 2 * (l : Int) - 1) = false := beq_eq_false_iff_ne.2 (by omega)
          go_wp2_with fail
          go_meet
          exact ⟨congrArg _ (by omega), congrArg _ r.symm, HO⟩
      case rest =>
        obtain ⟨rfl, rfl, HO2⟩ := hcut
        clear HO
        have o4 := HO2.out.alloc (.cells #[.int .i64 0, .int .i64 0, .int .i64 0, .int .i64 0] 38)
        obtain ⟨b14, hb14⟩ : ∃ b, b = wc.heap.size := ⟨_, rfl⟩
        rw [← hb14] at o4
        have O4 := Aside0.mk o4
        clear o4
        go_upto_if 91 with (fail)
        rw [← hb14]
        clear hb14
        go_cut [91] (fun _ wx => ∃ b0 b1 b2 b3 : Int, (i + 1 < k → b1 = 0) ∧ Aside0 (Own.Own w wx (CellO g lb S [Pt b14 (.cells #[.int .i64 b0, .int .i64 b1, .int .i64 b2, .int .i64 b3] 38), Pt pb (.cells (passA l i) 3), Pt w.heap.size (.cells #[.int .i64 a0, .int .i64 a1, .int .i64 a2, .int .i64 a3] 38)])))
        case first =>
          by_cases hl : i + 1 = k
          · have e5 : ((i : Int) == (k : Int) - 1) = true := beq_iff_eq.2 (by omega)
            obtain ⟨z0, z1, z2, z3, _, _, _, _⟩ := cells4 O4.out.drop.drop.drop.drop.pt
            obtain ⟨y0, y1, y2, y3, f0, f1, f2, f3⟩ := cells4 O4.out.pt
            go_wp2_with fail
            have h5 := Aside0.mk (own_sw [_] [_, _] (O4.out.set4 (.int .i64 a0) (.int .i64 a1) (.int .i64 a2) (.int .i64 a3)))
            clear z0 z1 z2 z3 y0 y1 y2 y3 f0 f1 f2 f3 O4 HO2
            go_meet
            exact ⟨a0, a1, a2, a3, fun q => by omega, h5⟩
          · have e5 : ((i : Int) == (k : Int) - 1) = false := beq_eq_false_iff_ne.2 (by omega)
            go_wp2_with fail
            go_meet
            exact ⟨0, 0, 0, 0, fun _ => rfl, ⟨own_sw [_] [_, _] O4.out⟩⟩
        case rest =>
          obtain ⟨b0, b1, b2, b3, hb1, HO5⟩ := hcut
          have HB1 := Aside0.mk hb1
          clear hb1 O4 HO2
          have hsl := st_lt l i h1 (by omega)
          go_upto_if 93 with (fail)
          go_cut [12, 15] (fun _ v15 wx => v15 = .int .i64 (endsC b1) ∧ ∃ X : CellS, Aside0 (TS X l (i + 1)) ∧ Aside0 (Own.Own w wx (CellO g lb (endsS b1 X (hurtS X (stLine l i) b2 b3)) [Pt b14 (.cells #[.int .i64 b0, .int .i64 b1, .int .i64 b2, .int .i64 b3] 38), Pt pb (.cells (passA l i) 3), Pt w.heap.size (.cells #[.int .i64 a0, .int .i64 a1, .int .i64 a2, .int .i64 a3] 38)])))
          case first =>
            cases hf : stFine l i with
            | true =>
              have hok := Aside0.mk (HTS.out.fineOk h1 (by omega) hf)
              have hnx := Aside0.mk (HTS.out.fin h1 (by omega) hf)
              go_upto_region 24 with (fail)
              refine start_ (n := 7) (S := fun w' => w'.cell? ⟨b14, 0, none⟩ = some (.int .i64 b0) ∧ w'.cell? ⟨b14, 1, none⟩ = some (.int .i64 b1) ∧ w'.cell? ⟨b14, 2, none⟩ = some (.int .i64 b2) ∧ w'.cell? ⟨b14, 3, none⟩ = some (.int .i64 b3)) (ds := []) #[false, false, false, false, false, false, false] (by kernel_rfl) rfl rfl ⟨(blk_cell HO5.out.drew.drop.drop.pt 0).trans rfl, (blk_cell HO5.out.drew.drop.drop.pt 1).trans rfl, (blk_cell HO5.out.drew.drop.drop.pt 2).trans rfl, (blk_cell HO5.out.drew.drop.drop.pt 3).trans rfl⟩ (fun hHeld => ?_)
              refine pure_ (i := 0) (N := some 94) (v := ?_) (a' := ?_) #[true, false, false, false, false, false, false] rfl rfl (by kernel_rfl) (fun _ _ _ h => h) (Or.inl ⟨by rfl, ?_⟩) ?_ ?_
              rotate_left
              · intro w'
                go_simp
                with_reducible rfl
              rotate_left
              · simp only [Act.put, List.setIfInBounds_toArray, List.set_cons_zero, List.set_cons_succ, i64_w, i32_w]
                rfl
              refine pure_ (i := 1) (N := some 95) (v := ?_) (a' := ?_) #[true, true, false, false, false, false, false] rfl rfl (by kernel_rfl) (fun _ _ _ h => h) (Or.inl ⟨by rfl, ?_⟩) ?_ ?_
              rotate_left
              · intro w'
                go_simp
                with_reducible rfl
              rotate_left
              · simp only [Act.put, List.setIfInBounds_toArray, List.set_cons_zero, List.set_cons_succ, i64_w, i32_w]
                rfl
              refine pure_ (i := 2) (N := some 96) (v := ?_) (a' := ?_) #[true, true, true, false, false, false, false] rfl rfl (by kernel_rfl) (fun _ _ _ h => h) (Or.inl ⟨by rfl, ?_⟩) ?_ ?_
              rotate_left
              · intro w'
                go_simp
                with_reducible rfl
              rotate_left
              · simp only [Act.put, List.setIfInBounds_toArray, List.set_cons_zero, List.set_cons_succ, i64_w, i32_w]
                rfl
              refine take_ (i := 4) (N := some 98) (v := ?_) (a' := ?_) #[true, true, true, false, true, false, false] rfl rfl (by kernel_rfl) (fun _ _ _ h => h) (Or.inl ⟨by rfl, ?_⟩) hHeld ?_ ?_
              rotate_left
              · rintro w' ⟨s0, s1, s2, s3⟩
                go_simp
                with_reducible rfl
              rotate_left
              · simp only [Act.put, List.setIfInBounds_toArray, List.set_cons_zero, List.set_cons_succ, i64_w, i32_w]
                rfl
              refine one_ (i := 3) (N := some 97) #[true, true, true, true, true, false, false] rfl rfl (by kernel_rfl) (by decide) (fun K hK => ?_)
              refine goes_ Tryd.func22 (by kernel_rfl) rfl #[.int .i64 (stLine l i : Nat)] (by rfl) rfl rfl (by simp only [List.map_toArray, List.map_cons, List.map_nil]; rfl) ?_
              refine (three_calls (stLine l i) _ (by omega) (Hw.laid_at HL HO5.out.drew.below)).mono ?_
              rintro e w5 ⟨rfl, hb⟩
              refine ⟨_, rfl, ?_⟩
              have O6 := Aside0.mk (HO5.out.drew.move hb)
              clear hb HO5
              refine hK.out _ _ ⟨(blk_cell O6.out.drop.drop.pt 0).trans rfl, (blk_cell O6.out.drop.drop.pt 1).trans rfl, (blk_cell O6.out.drop.drop.pt 2).trans rfl, (blk_cell O6.out.drop.drop.pt 3).trans rfl⟩ (fun hHeld => ?_)
              clear hK K
              refine norm_ (a' := ?_) ?_ ?_
              rotate_left
              · show Act.put _ (some 97) _ = _
                simp only [Act.put, List.setIfInBounds_toArray, List.set_cons_zero, List.set_cons_succ, i64_w, i32_w]
                rfl
              refine one_ (i := 5) (N := some 99) #[true, true, true, true, true, true, false] rfl rfl (by kernel_rfl) (by decide) (fun K hK => ?_)
              refine goes_ Tryd.func17 (by kernel_rfl) rfl #[.pointer (some ⟨g, 0, none⟩), .int .i64 (stLine l i : Nat), .agg #[.string (pgN (stLine l i)), .string (pgN (stLine l i + 1)), .string (pgN (stLine l i + 2))], fltV b0 b1 b2 b3] (by rfl) rfl rfl (by simp only [List.map_toArray, List.map_cons, List.map_nil]; rfl) ?_
              refine (fine_yes (stLine l i : Nat) (pgN (stLine l i)) (pgN (stLine l i + 1)) (pgN (stLine l i + 2)) b0 b1 b2 b3 (HTS.out.fit h1 (by omega) (by omega)) hok.out O6.out).mono ?_
              rintro e w6 ⟨rfl, hb⟩
              rw [fineC_ok _ (hok.out)]
              rw [fineS_ok _ _ _ (hok.out), Int.toNat_natCast] at hb
              refine ⟨_, rfl, ?_⟩
              have O7 := Aside0.mk hb
              clear hb O6
              refine hK.out _ _ ⟨(blk_cell O7.out.drop.drop.pt 0).trans rfl, (blk_cell O7.out.drop.drop.pt 1).trans rfl, (blk_cell O7.out.drop.drop.pt 2).trans rfl, (blk_cell O7.out.drop.drop.pt 3).trans rfl⟩ (fun hHeld => ?_)
              clear hK K
              refine norm_ (a' := ?_) ?_ ?_
              rotate_left
              · show Act.put _ (some 99) _ = _
                simp only [Act.put, List.setIfInBounds_toArray, List.set_cons_zero, List.set_cons_succ, i64_w, i32_w]
                rfl
              refine pure_ (i := 6) (N := some 15) (v := ?_) (a' := ?_) #[true, true, true, true, true, true, true] rfl rfl (by kernel_rfl) (fun _ _ _ h => h) (Or.inl ⟨by rfl, ?_⟩) ?_ ?_
              rotate_left
              · intro w'
                go_simp
                with_reducible rfl
              rotate_left
              · simp only [Act.put, List.setIfInBounds_toArray, List.set_cons_zero, List.set_cons_succ, i64_w, i32_w]
                rfl
              refine done_ (by kernel_rfl) ?_
              clear hHeld
              go_wp2_with fail
              go_meet
              exact ⟨rfl, _, hnx, O7⟩
            | false =>
              have hok := Aside0.mk (show fogOk S (stLine l i : Nat) (pgN (stLine l i)) (pgN (stLine l i + 1)) (pgN (stLine l i + 2)) from by have := HTS.out.next h1 (by omega); rw [hf] at this; exact this)
              have hnx := Aside0.mk (HTS.out.fog h1 (by omega) hf)
              go_upto_region 25 with (fail)
              refine start_ (n := 7) (S := fun w' => w'.cell? ⟨b14, 0, none⟩ = some (.int .i64 b0) ∧ w'.cell? ⟨b14, 1, none⟩ = some (.int .i64 b1) ∧ w'.cell? ⟨b14, 2, none⟩ = some (.int .i64 b2) ∧ w'.cell? ⟨b14, 3, none⟩ = some (.int .i64 b3)) (ds := []) #[false, false, false, false, false, false, false] (by kernel_rfl) rfl rfl ⟨(blk_cell HO5.out.drew.drop.drop.pt 0).trans rfl, (blk_cell HO5.out.drew.drop.drop.pt 1).trans rfl, (blk_cell HO5.out.drew.drop.drop.pt 2).trans rfl, (blk_cell HO5.out.drew.drop.drop.pt 3).trans rfl⟩ (fun hHeld => ?_)
              refine pure_ (i := 0) (N := some 100) (v := ?_) (a' := ?_) #[true, false, false, false, false, false, false] rfl rfl (by kernel_rfl) (fun _ _ _ h => h) (Or.inl ⟨by rfl, ?_⟩) ?_ ?_
              rotate_left
              · intro w'
                go_simp
                with_reducible rfl
              rotate_left
              · simp only [Act.put, List.setIfInBounds_toArray, List.set_cons_zero, List.set_cons_succ, i64_w, i32_w]
                rfl
              refine pure_ (i := 1) (N := some 101) (v := ?_) (a' := ?_) #[true, true, false, false, false, false, false] rfl rfl (by kernel_rfl) (fun _ _ _ h => h) (Or.inl ⟨by rfl, ?_⟩) ?_ ?_
              rotate_left
              · intro w'
                go_simp
                with_reducible rfl
              rotate_left
              · simp only [Act.put, List.setIfInBounds_toArray, List.set_cons_zero, List.set_cons_succ, i64_w, i32_w]
                rfl
              refine pure_ (i := 2) (N := some 102) (v := ?_) (a' := ?_) #[true, true, true, false, false, false, false] rfl rfl (by kernel_rfl) (fun _ _ _ h => h) (Or.inl ⟨by rfl, ?_⟩) ?_ ?_
              rotate_left
              · intro w'
                go_simp
                with_reducible rfl
              rotate_left
              · simp only [Act.put, List.setIfInBounds_toArray, List.set_cons_zero, List.set_cons_succ, i64_w, i32_w]
                rfl
              refine take_ (i := 4) (N := some 104) (v := ?_) (a' := ?_) #[true, true, true, false, true, false, false] rfl rfl (by kernel_rfl) (fun _ _ _ h => h) (Or.inl ⟨by rfl, ?_⟩) hHeld ?_ ?_
              rotate_left
              · rintro w' ⟨s0, s1, s2, s3⟩
                go_simp
                with_reducible rfl
              rotate_left
              · simp only [Act.put, List.setIfInBounds_toArray, List.set_cons_zero, List.set_cons_succ, i64_w, i32_w]
                rfl
              refine one_ (i := 3) (N := some 103) #[true, true, true, true, true, false, false] rfl rfl (by kernel_rfl) (by decide) (fun K hK => ?_)
              refine goes_ Tryd.func22 (by kernel_rfl) rfl #[.int .i64 (stLine l i : Nat)] (by rfl) rfl rfl (by simp only [List.map_toArray, List.map_cons, List.map_nil]; rfl) ?_
              refine (three_calls (stLine l i) _ (by omega) (Hw.laid_at HL HO5.out.drew.below)).mono ?_
              rintro e w5 ⟨rfl, hb⟩
              refine ⟨_, rfl, ?_⟩
              have O6 := Aside0.mk (HO5.out.drew.move hb)
              clear hb HO5
              refine hK.out _ _ ⟨(blk_cell O6.out.drop.drop.pt 0).trans rfl, (blk_cell O6.out.drop.drop.pt 1).trans rfl, (blk_cell O6.out.drop.drop.pt 2).trans rfl, (blk_cell O6.out.drop.drop.pt 3).trans rfl⟩ (fun hHeld => ?_)
              clear hK K
              refine norm_ (a' := ?_) ?_ ?_
              rotate_left
              · show Act.put _ (some 103) _ = _
                simp only [Act.put, List.setIfInBounds_toArray, List.set_cons_zero, List.set_cons_succ, i64_w, i32_w]
                rfl
              refine one_ (i := 5) (N := some 105) #[true, true, true, true, true, true, false] rfl rfl (by kernel_rfl) (by decide) (fun K hK => ?_)
              refine goes_ Tryd.func15 (by kernel_rfl) rfl #[.pointer (some ⟨g, 0, none⟩), .int .i64 (stLine l i : Nat), .agg #[.string (pgN (stLine l i)), .string (pgN (stLine l i + 1)), .string (pgN (stLine l i + 2))], fltV b0 b1 b2 b3] (by rfl) rfl rfl (by simp only [List.map_toArray, List.map_cons, List.map_nil]; rfl) ?_
              refine (fog_yes (stLine l i : Nat) (pgN (stLine l i)) (pgN (stLine l i + 1)) (pgN (stLine l i + 2)) b0 b1 b2 b3 (HTS.out.fit h1 (by omega) (by omega)) ⟨by rw [pgN_size]; omega, by rw [pgN_size]; omega, by rw [pgN_size]; omega⟩ hok.out O6.out).mono ?_
              rintro e w6 ⟨rfl, hb⟩
              rw [fogC_ok' _ (hok.out)]
              rw [fogS_ok' _ _ _ (hok.out), Int.toNat_natCast] at hb
              refine ⟨_, rfl, ?_⟩
              have O7 := Aside0.mk hb
              clear hb O6
              refine hK.out _ _ ⟨(blk_cell O7.out.drop.drop.pt 0).trans rfl, (blk_cell O7.out.drop.drop.pt 1).trans rfl, (blk_cell O7.out.drop.drop.pt 2).trans rfl, (blk_cell O7.out.drop.drop.pt 3).trans rfl⟩ (fun hHeld => ?_)
              clear hK K
              refine norm_ (a' := ?_) ?_ ?_
              rotate_left
              · show Act.put _ (some 105) _ = _
                simp only [Act.put, List.setIfInBounds_toArray, List.set_cons_zero, List.set_cons_succ, i64_w, i32_w]
                rfl
              refine pure_ (i := 6) (N := some 15) (v := ?_) (a' := ?_) #[true, true, true, true, true, true, true] rfl rfl (by kernel_rfl) (fun _ _ _ h => h) (Or.inl ⟨by rfl, ?_⟩) ?_ ?_
              rotate_left
              · intro w'
                go_simp
                with_reducible rfl
              rotate_left
              · simp only [Act.put, List.setIfInBounds_toArray, List.set_cons_zero, List.set_cons_succ, i64_w, i32_w]
                rfl
              refine done_ (by kernel_rfl) ?_
              clear hHeld
              go_wp2_with fail
              go_meet
              exact ⟨rfl, _, hnx, O7⟩
          case rest =>
            obtain ⟨rfl, X, HTX, HO7⟩ := hcut
            clear HO5
            by_cases k1 : b1 = 1
            · subst k1
              have hik : i + 1 = k := by
                by_cases q : i + 1 < k
                · exact absurd (HB1.out q) (by decide)
                · omega
              rw [show endsC 1 = 82 from rfl]
              obtain ⟨z0, z1, z2, z3, _, _, _, _⟩ := cells4 HO7.out.drop.drop.pt
              have hrow := own_sw [_, _, _] [_] HO7.out
              have y0 := (blk_cell hrow.pt (stLine l i)).trans (passA_at l i _ hsl)
              have y1 := blk_frozen hrow.pt (stLine l i)
              have HR := Aside0.mk hrow
              have g1 : (0 ≤ ((stLine l i : Nat) : Int)) = True := eq_true (by omega)
              have g2 : (((stLine l i : Nat) : Int) < (l : Nat)) = True := eq_true (by omega)
              have g3 : (stLine l i < l) = True := eq_true hsl
              have hw : wrap64 (aft l i (stLine l i) + 1) = aft l i (stLine l i) + 1 := by
                have := aft_range l i (stLine l i)
                unfold wrap64
                omega
              have HWR := Aside0.mk hw
              clear hrow hw HO7
              go_wp2_with fail
              go_roundw
              case rel =>
                have hn := passA_set l i h1 (by omega)
                have h9 := HR.out.set (i := stLine l i) (.int .i64 (aft l i (stLine l i) + 1))
                rw [hn] at h9
                have h10 := (own_sw [_, _] [_] (own_sw [_] [_, _, _] h9)).drop
                rw [← HWR.out] at h10
                exact ⟨i + 1, by omega, by go_num, (stLine l i : Nat), _, rfl, ⟨fun q => by omega⟩, ⟨fun _ => by rw [← hik]; exact te_hurt HTX.out h1 (by omega) (by omega) 1 b2 b3 (.inl rfl)⟩, ⟨h10⟩⟩
              case measure => simp [intOf]; omega
            by_cases k2 : b1 = 2
            · subst k2
              have hik : i + 1 = k := by
                by_cases q : i + 1 < k
                · exact absurd (HB1.out q) (by decide)
                · omega
              rw [show endsC 2 = 81 from rfl]
              obtain ⟨z0, z1, z2, z3, _, _, _, _⟩ := cells4 HO7.out.drop.drop.pt
              have hrow := own_sw [_, _, _] [_] HO7.out
              have y0 := (blk_cell hrow.pt (stLine l i)).trans (passA_at l i _ hsl)
              have y1 := blk_frozen hrow.pt (stLine l i)
              have HR := Aside0.mk hrow
              have g1 : (0 ≤ ((stLine l i : Nat) : Int)) = True := eq_true (by omega)
              have g2 : (((stLine l i : Nat) : Int) < (l : Nat)) = True := eq_true (by omega)
              have g3 : (stLine l i < l) = True := eq_true hsl
              have hw : wrap64 (aft l i (stLine l i) + 1) = aft l i (stLine l i) + 1 := by
                have := aft_range l i (stLine l i)
                unfold wrap64
                omega
              have HWR := Aside0.mk hw
              clear hrow hw HO7
              go_wp2_with fail
              go_roundw
              case rel =>
                have hn := passA_set l i h1 (by omega)
                have h9 := HR.out.set (i := stLine l i) (.int .i64 (aft l i (stLine l i) + 1))
                rw [hn] at h9
                have h10 := (own_sw [_, _] [_] (own_sw [_] [_, _, _] h9)).drop
                rw [← HWR.out] at h10
                exact ⟨i + 1, by omega, by go_num, (stLine l i : Nat), _, rfl, ⟨fun q => by omega⟩, ⟨fun _ => by rw [← hik]; exact te_hurt HTX.out h1 (by omega) (by omega) 2 b2 b3 (.inr rfl)⟩, ⟨h10⟩⟩
              case measure => simp [intOf]; omega
            have d1 : (b1 == 1) = false := beq_eq_false_iff_ne.2 k1
            have d2 : (b1 == 2) = false := beq_eq_false_iff_ne.2 k2
            have hX : endsS b1 X (hurtS X (stLine l i) b2 b3) = X := by unfold endsS; rw [if_neg k1, if_neg k2]
            have h7 := HO7.out
            rw [hX] at h7
            have HO8 := Aside0.mk h7
            clear h7 hX HO7
            rw [show endsC b1 = 0 from by unfold endsC; rw [if_neg k1, if_neg k2]]
            obtain ⟨z0, z1, z2, z3, _, _, _, _⟩ := cells4 HO8.out.drop.drop.pt
            have hrow := own_sw [_, _, _] [_] HO8.out
            have y0 := (blk_cell hrow.pt (stLine l i)).trans (passA_at l i _ hsl)
            have y1 := blk_frozen hrow.pt (stLine l i)
            have HR := Aside0.mk hrow
            have g1 : (0 ≤ ((stLine l i : Nat) : Int)) = True := eq_true (by omega)
            have g2 : (((stLine l i : Nat) : Int) < (l : Nat)) = True := eq_true (by omega)
            have g3 : (stLine l i < l) = True := eq_true hsl
            have hw : wrap64 (aft l i (stLine l i) + 1) = aft l i (stLine l i) + 1 := by
              have := aft_range l i (stLine l i)
              unfold wrap64
              omega
            have HWR := Aside0.mk hw
            clear hrow hw HO8
            go_wp2_with fail
            go_roundw
            case rel =>
              have hn := passA_set l i h1 (by omega)
              have h9 := HR.out.set (i := stLine l i) (.int .i64 (aft l i (stLine l i) + 1))
              rw [hn] at h9
              have h10 := (own_sw [_, _] [_] (own_sw [_] [_, _, _] h9)).drop
              rw [← HWR.out] at h10
              exact ⟨i + 1, by omega, by go_num, -1, _, rfl, ⟨fun q => ⟨rfl, HTX.out⟩⟩, ⟨fun q => by rw [← q]; exact te_calm HTX.out h1 (by omega) (by omega) (by omega)⟩, ⟨h10⟩⟩
            case measure => simp [intOf]; omega
    · obtain rfl : i = k := by omega
      have dl : decide ((i : Int) < (i : Int)) = false := decide_eq_false (by omega)
      have dln : decide (i < i) = false := decide_eq_false (by omega)
      have hE := HE.out rfl
      clear HT HE
      have HE := Aside0.mk hE
      clear hE
      go_wp2_with fail
      clear dl dln
      go_loopw [132] (fun v132 wr => ∃ (j : Nat), j ≤ l ∧ v132 = .int .i64 j ∧ Aside0 (Own.Own w wr (CellO g lb S [Pt pb (.cells (passA l i) 3), Pt w.heap.size (.cells #[.int .i64 a0, .int .i64 a1, .int .i64 a2, .int .i64 a3] 38)]))) (fun v132 _ => l - (intOf v132).toNat)
      case atStart => exact ⟨0, by omega, rfl, HO⟩
      case round =>
        clear HO
        obtain ⟨j, hjl, rfl, HO⟩ := hrel
        by_cases hj : j < l
        · have dl : decide ((j : Int) < (l : Int)) = true := decide_eq_true (by omega)
          have dln : decide (j < l) = true := decide_eq_true hj
          go_wp2_with fail
          clear dl dln
          go_loopw [135] (fun v135 wr => ∃ (q : Nat), q ≤ 3 ∧ v135 = .int .i64 q ∧ Aside0 (Own.Own w wr (CellO g lb S [Pt pb (.cells (passA l i) 3), Pt w.heap.size (.cells #[.int .i64 a0, .int .i64 a1, .int .i64 a2, .int .i64 a3] 38)]))) (fun v135 _ => 3 - (intOf v135).toNat)
          case atStart => exact ⟨0, by omega, rfl, HO⟩
          case round =>
            clear HO
            obtain ⟨q, hq3, rfl, HO⟩ := hrel
            by_cases hq : q < 3
            · have dl : decide ((q : Int) < 3) = true := decide_eq_true (by omega)
              have dln : decide (q < 3) = true := decide_eq_true hq
              have hr : readV S j q = (readB S j q, 0) := by unfold readV; rw [if_pos (HE.out.oks j q hj hq)]; rfl
              have g1 : (0 ≤ (j : Int)) = True := eq_true (by omega)
              have g2 : ((j : Int) < (l : Nat)) = True := eq_true (by omega)
              have g3 : (j < l) = True := eq_true hj
              go_wp2_with fail
              clear dl dln
              refine (Read_own j q HE.out.fit HO.out).mono ?_
              rintro e w20 ⟨rfl, hb⟩
              rw [hr]
              have H1 := Aside0.mk hb
              clear hb HO hr
              go_wp2_with fail
              by_cases c1 : aft l i j = 1
              · have d1 : (aft l i j == 1) = true := beq_iff_eq.2 c1
                refine (frame_Decode.calls _ _ _ _ _ _ _ _ (HE.out.fog j q hj hq c1) (Hw.laid_at HL H1.out.below)).mono ?_
                rintro e w21 ⟨rfl, hb⟩
                have H2 := Aside0.mk (H1.out.move hb)
                clear hb H1
                have ha := H2.out.alloc (.cells #[.int .i64 4, .int .i64 0, .int .i64 0, .int .i64 0, .int .i64 0, .string ⟨#[]⟩] 57)
                have hrow := own_sw [_, _, _] [_] ha
                have y0 := (blk_cell hrow.pt j).trans (passA_at l i j hj)
                have HA := Aside0.mk ha
                clear ha hrow H2
                go_wp2_with fail
                go_roundw
                case rel => exact ⟨q + 1, by omega, by go_num, ⟨HA.out.drop⟩⟩
                case measure => simp [intOf]; omega
              have d1 : (aft l i j == 1) = false := beq_eq_false_iff_ne.2 c1
              by_cases c2 : (j : Int) = v
              · subst c2
                have d2 : ((j : Int) == (j : Int)) = true := beq_self_eq_true _
                have d2n : (j == j) = true := beq_self_eq_true _
                refine (frame_Decode.calls _ _ _ _ _ _ _ _ (HE.out.hurt j q hj hq rfl) (Hw.laid_at HL H1.out.below)).mono ?_
                rintro e w21 ⟨rfl, hb⟩
                have H2 := Aside0.mk (H1.out.move hb)
                clear hb H1
                have ha := H2.out.alloc (.cells #[.int .i64 4, .int .i64 0, .int .i64 0, .int .i64 0, .int .i64 0, .string ⟨#[]⟩] 57)
                have hrow := own_sw [_, _, _] [_] ha
                have y0 := (blk_cell hrow.pt j).trans (passA_at l i j hj)
                have HA := Aside0.mk ha
                clear ha hrow H2
                go_wp2_with fail
                go_roundw
                case rel => exact ⟨q + 1, by omega, by go_num, ⟨HA.out.drop⟩⟩
                case measure => simp [intOf]; omega
              have d2 : ((j : Int) == v) = false := beq_eq_false_iff_ne.2 c2
              by_cases c3 : aft l i j = 2
              · have d3 : (aft l i j == 2) = true := beq_iff_eq.2 c3
                obtain ⟨m, hm⟩ : ∃ m, m = j + q := ⟨_, rfl⟩
                have hix : ∀ W : World, (Instr.index 36 (.agg #[.string (pgN j), .string (pgN (j + 1)), .string (pgN (j + 2))]) (.int .i64 (q : Nat))).run Tryd.prog W = .ok (.string (pgN m)) W := by
                  intro W
                  subst hm
                  rcases (by omega : q = 0 ∨ q = 1 ∨ q = 2) with rfl | rfl | rfl
                  · exact ix3_0 _ _ _ W
                  · exact ix3_1 _ _ _ W
                  · exact ix3_2 _ _ _ W
                have hs : ((pgN m).toList == (pgN m).toList) = true := beq_self_eq_true _
                rw [HE.out.good j q hj hq c2 c3, ← hm]
                refine (frame_Decode.calls _ _ _ _ _ _ _ _ (pgN_dec m (by omega)) (Hw.laid_at HL H1.out.below)).mono ?_
                rintro e w21 ⟨rfl, hb⟩
                have H2 := Aside0.mk (H1.out.move hb)
                clear hb H1
                have ha := H2.out.alloc (.cells #[.int .i64 2, .int .i64 1, .int .i64 (m : Nat), .int .i64 (m : Nat), .int .i64 0, .string (data8 m)] 57)
                have hrow := own_sw [_, _, _] [_] ha
                have y0 := (blk_cell hrow.pt j).trans (passA_at l i j hj)
                have HA := Aside0.mk ha
                clear ha hrow H2
                clear hm
                go_wp2_with fail
                refine (three_calls j _ (by omega) (Hw.laid_at HL HA.out.below)).mono ?_
                rintro e w22 ⟨rfl, hb⟩
                have H3 := Aside0.mk (HA.out.move hb)
                clear hb HA y0
                go_wp2_with fail
                go_roundw
                case rel => exact ⟨q + 1, by omega, by go_num, ⟨H3.out.drop⟩⟩
                case measure => simp [intOf]; omega
              have d3 : (aft l i j == 2) = false := beq_eq_false_iff_ne.2 c3
              have c4 : aft l i j = 0 := by have := aft_range l i j; omega
              refine (frame_Decode.calls _ _ _ _ _ _ _ _ (HE.out.blank j q hj hq c2 c4) (Hw.laid_at HL H1.out.below)).mono ?_
              rintro e w21 ⟨rfl, hb⟩
              have H2 := Aside0.mk (H1.out.move hb)
              clear hb H1
              have ha := H2.out.alloc (.cells #[.int .i64 1, .int .i64 0, .int .i64 0, .int .i64 0, .int .i64 0, .string ⟨#[]⟩] 57)
              have hrow := own_sw [_, _, _] [_] ha
              have y0 := (blk_cell hrow.pt j).trans (passA_at l i j hj)
              have HA := Aside0.mk ha
              clear ha hrow H2
              go_wp2_with fail
              go_roundw
              case rel => exact ⟨q + 1, by omega, by go_num, ⟨HA.out.drop⟩⟩
              case measure => simp [intOf]; omega
            · obtain rfl : q = 3 := by omega
              go_wp2_with fail
              go_roundw
              case rel => exact ⟨j + 1, by omega, by go_num, HO⟩
              case measure => simp [intOf]; omega
        · obtain rfl : j = l := by omega
          have dl : decide ((j : Int) < (j : Int)) = false := decide_eq_false (by omega)
          have dln : decide (j < j) = false := decide_eq_false (by omega)
          go_wp2_with fail
          go_ret
          exact ⟨rfl, HO.out.below⟩
end Go.Proofs.YtliiploidjnmnaaDoor.PF
end

section
/- The law CellTwoPass, by hand: joined. -/
set_option linter.unusedVariables false
set_option linter.unusedSimpArgs false
namespace Go.Proofs.YtliiploidjnmnaaDoor.PF
open Go.RowKit Go.Shelf Go.Proofs.YtliiploidjnmnaaDoorW.PrintWords Go.Proofs.YtliiploidjnmnaaDoor.Mem Go.Proofs.YtliiploidjnmnaaDoor.Own Go.Proofs.YtliiploidjnmnaaDoor.Hw

def decklelaw08_CellTwoPass.f (a0 : Int) (a1 : Int) (a2_0 a2_1 a2_2 a2_3 : Int) : Option Bool := some true
set_option maxHeartbeats 4000000 in
set_option maxRecDepth 100000 in
theorem two_out (l k : Int) (a0 a1 a2 a3 : Int) (w : World) (h : l < 1 ∨ (¬ l < 1 ∧ 12 < l) ∨ (¬ l < 1 ∧ ¬ 12 < l ∧ k < 1) ∨ (¬ l < 1 ∧ ¬ 12 < l ∧ ¬ k < 1 ∧ 2 * l < k)) (HL : Aside0 (Laid w)) :
    Calls Tryd.prog 5 #[.int .i64 l, .int .i64 k, fltV a0 a1 a2 a3] w fun e w' => e = .returned (.bool true) ∧ Below w.heap.size w w' := by
  have o0 := (Own.Own.new w).alloc (.cells #[.int .i64 a0, .int .i64 a1, .int .i64 a2, .int .i64 a3] 38)
  have O0 := Aside0.mk o0
  have H := Aside0.mk h
  clear o0 h
  go_enter Tryd.func5, Tryd.ntmps5
  go_wp2_with fail
  refine (works_calls _ (Hw.laid_at HL O0.out.below)).mono ?_
  rintro e w1 ⟨rfl, hb⟩
  have O1 := Aside0.mk (O0.out.move hb)
  clear hb O0
  rcases H.out with c | ⟨c1, c⟩ | ⟨c1, c2, c⟩ | ⟨c1, c2, c3, c⟩
  · have e1 : decide (l < 1) = true := decide_eq_true c
    clear H
    go_wp2_with fail
    go_ret
    exact ⟨rfl, O1.out.below⟩
  · have e1 : decide (l < 1) = false := decide_eq_false (by omega)
    have e2 : decide (12 < l) = true := decide_eq_true c
    clear H
    go_wp2_with fail
    go_ret
    exact ⟨rfl, O1.out.below⟩
  · have e1 : decide (l < 1) = false := decide_eq_false (by omega)
    have e2 : decide (12 < l) = false := decide_eq_false (by omega)
    have e3 : decide (k < 1) = true := decide_eq_true c
    clear H
    go_wp2_with fail
    go_ret
    exact ⟨rfl, O1.out.below⟩
  · have e1 : decide (l < 1) = false := decide_eq_false (by omega)
    have e2 : decide (12 < l) = false := decide_eq_false (by omega)
    have e3 : decide (k < 1) = false := decide_eq_false (by omega)
    have e4 : decide (2 * l < k) = true := decide_eq_true c
    clear H
    go_wp2_with fail
    go_ret
    exact ⟨rfl, O1.out.below⟩
theorem decklelaw08_CellTwoPass.calls (a0 : Int) (a1 : Int) (a2_0 : Int) (a2_1 : Int) (a2_2 : Int) (a2_3 : Int) (w : World) (h : decklelaw08_CellTwoPass.f a0 a1 a2_0 a2_1 a2_2 a2_3 = some true) (HL : Aside0 (Hw.Laid w)) :
    Calls Tryd.prog 5 #[.int .i64 a0, .int .i64 a1, .agg #[.int .i64 a2_0, .int .i64 a2_1, .int .i64 a2_2, .int .i64 a2_3]] w fun e w' => e = .returned (.bool true) ∧ Below w.heap.size w w' := by
  by_cases h1 : a0 < 1 ∨ (¬ a0 < 1 ∧ 12 < a0) ∨ (¬ a0 < 1 ∧ ¬ 12 < a0 ∧ a1 < 1) ∨ (¬ a0 < 1 ∧ ¬ 12 < a0 ∧ ¬ a1 < 1 ∧ 2 * a0 < a1)
  · exact two_out a0 a1 a2_0 a2_1 a2_2 a2_3 w h1 HL
  obtain ⟨l, rfl⟩ := Int.eq_ofNat_of_zero_le (show 0 ≤ a0 by omega)
  obtain ⟨n, rfl⟩ := Int.eq_ofNat_of_zero_le (show 0 ≤ a1 by omega)
  exact two_walk l n a2_0 a2_1 a2_2 a2_3 w (by omega) (by omega) (by omega) (by omega) HL
end Go.Proofs.YtliiploidjnmnaaDoor.PF
end
