/- The law's proof: words, contracts of the functions that it reaches, plain lemmas. -/
import Derived.ArgAppend
import Derived.Below
import Derived.BigQuiet
import Derived.Carry
import Derived.Deep.AppendLies
import Derived.Deep.CutBlock
import Derived.Deep.DeepCutAuto
import Derived.Deep.Draws
import Derived.Deep.LoopGhost
import Derived.Deep.OwnRows
import Derived.Deep.QuietTactic
import Derived.Deep.RegionHeld3
import Derived.Deep.RegionWith
import Derived.KernelRfl
import Derived.Laws.BitsLemmas
import Derived.Laws.BytesArg
import Derived.Laws.IdiomCopy
import Derived.Laws.MakeOwn
import Derived.Laws.OwnMore
import Derived.Laws.Rows
import Derived.Laws.Slices
import Derived.Lib.AppendStr
import Derived.Lib.BufferMore
import Derived.Lib.ConvBytes
import Derived.Lib.Hide
import Derived.Lib.LazyBuf
import Derived.Maps.AppendAt
import Derived.OpenShut
import Derived.OrdersHeld
import Derived.Outline
import Derived.OwnWalk
import Derived.OwnWalkIn
import Derived.RegionTactic
import Derived.RowKit3
import Derived.StillTailTactics
import Derived.Tactics
import Derived.WalkKit
import Derived.WideLaws
import Derived.Test.YtliiploidjnmnaaDoorCe24
import Derived.Test.YtliiploidjnmnaaDoorCe21
import Derived.Test.YtliiploidjnmnaaDoorCe18
section
/- A block that is erased, in plain words. -/
set_option linter.unusedVariables false
set_option linter.unusedSimpArgs false
namespace Go.Proofs.YtliiploidjnmnaaDoor.PF
open Go.RowKit Go.Shelf Go.Proofs.YtliiploidjnmnaaDoorW.PrintWords Go.Proofs.YtliiploidjnmnaaDoor.Hw

/-- A block of so many lines of which the first was written, ahead of its erasing. -/
structure MidE (S : CellS) (n : Nat) (two : Bool) : Prop where
  fit : Fit S
  len : S.lines.length = n
  blank : S.blank = ffs 36
  bad : S.bad = false
  torn : S.torn = false
  mode : S.mode = if two = true then 2 else 1
  slc : S.slc = 0
  tlc : S.tlc = 0
  plain : ∀ i, i < n → Plain0 S i
theorem spoil_fit {S : CellS} (hf : Fit S) (x y : Int) : Fit (spoiled S x y) := by
  have hl : (spoilLines S x y).length = S.lines.length := by unfold spoilLines; rw [List.length_map, List.length_range]
  refine ⟨?_, ?_, hf.d0, ?_, ?_, hf.blank⟩
  · show 1 ≤ (spoilLines S x y).length; rw [hl]; exact hf.n1
  · show (spoilLines S x y).length ≤ 64; rw [hl]; exact hf.n64
  · show S.done ≤ 2 * ((spoilLines S x y).length : Int); rw [hl]; exact hf.d1
  · intro l hm
    obtain ⟨i, hi, rfl⟩ := List.mem_map.mp (show l ∈ spoilLines S x y from hm)
    have hi := List.mem_range.mp hi
    exact ⟨spP_size S hf i 0 x y hi, spP_size S hf i 1 x y hi, spP_size S hf i 2 x y hi⟩
/-- What stands behind the erasing. -/
structure AfterE (E : CellS) (n : Nat) (two : Bool) (k : Int) : Prop where
  fit : Fit E
  len : E.lines.length = n
  slc : E.slc = if two = true then 0 else 1
  tlc : E.tlc = if two = true then 1 else 0
  modes : ∀ i : Nat, i < n → readOk E i 0
  bads : (k = 1 ∨ k = 2) → ∀ i : Nat, i < n → frame_Decode.f (readB E i 0) = some (4, 0, 0, 0, 0, ⟨#[]⟩)
  news : ¬ (k = 1 ∨ k = 2) → E.mode = 0 ∧ E.done = 0 ∧ progOk E 0 (pgN 1) ∧ ∀ i : Nat, i < n → frame_Decode.f (readB E i 0) = some (1, 0, 0, 0, 0, ⟨#[]⟩)
theorem erase1_mid {S : CellS} {n : Nat} {two : Bool} (h : MidE S n two) : (erase1 S).lines = S.lines ∧ (erase1 S).blank = S.blank ∧ (erase1 S).mode = S.mode ∧ (erase1 S).done = S.done ∧ (erase1 S).bad = false ∧ (erase1 S).torn = false ∧ (erase1 S).slc = (if two = true then 0 else 1) ∧ (erase1 S).tlc = (if two = true then 1 else 0) := by
  unfold erase1
  rw [h.mode]
  cases two with
  | true =>
    rw [if_pos (show (if true = true then (2 : Int) else 1) = 2 from rfl)]
    exact ⟨rfl, rfl, rfl, rfl, h.bad, h.torn, h.slc, by show S.tlc + 1 = 1; rw [h.tlc]; rfl⟩
  | false =>
    rw [if_neg (show ¬ (if false = true then (2 : Int) else 1) = 2 by decide)]
    exact ⟨rfl, rfl, rfl, rfl, h.bad, h.torn, by show S.slc + 1 = 1; rw [h.slc]; rfl, h.tlc⟩
theorem after_erase {S : CellS} {n : Nat} {two : Bool} (k fa fb : Int) (h : MidE S n two) (h1 : 1 ≤ n) : AfterE (eraseS S k fa fb) n two k := by
  obtain ⟨el, eb, em, ed, ebad, et, es, etl⟩ := erase1_mid h
  have hf := erase1_fit h.fit
  unfold eraseS
  rw [if_neg (by rw [h.bad]; decide)]
  by_cases hk : k = 1 ∨ k = 2
  · rw [if_pos hk]
    have hfs := spoil_fit hf fa fb
    have hsl : (spoiled (erase1 S) fa fb).lines = spoilLines (erase1 S) fa fb := rfl
    have hlen : (spoiled (erase1 S) fa fb).lines.length = n := by rw [hsl]; unfold spoilLines; rw [List.length_map, List.length_range, el, h.len]
    have hp : ∀ i, i < n → Plain0 (erase1 S) i := fun i hi => by have := h.plain i hi; unfold Plain0 at this ⊢; rw [el]; exact this
    have hrd : ∀ E : CellS, E.lines = spoilLines (erase1 S) fa fb → ∀ i : Nat, i < n → frame_Decode.f (readB E i 0) = some (4, 0, 0, 0, 0, ⟨#[]⟩) := fun E hE i hi => spoilt_bad fa fb hE (by rw [el, h.len]; exact hi) (by rw [eb]; exact h.blank) (hp i hi)
    have hro : ∀ E : CellS, E.lines.length = n → ∀ i : Nat, i < n → readOk E i 0 := fun E hE i hi => ⟨by omega, by omega, by omega, by omega, fun q => q.2 rfl⟩
    unfold endsS
    by_cases k1 : k = 1
    · rw [if_pos k1]
      exact ⟨⟨hfs.n1, hfs.n64, hfs.d0, hfs.d1, hfs.sizes, hfs.blank⟩, hlen, es, etl, hro _ hlen, fun _ => hrd _ rfl, fun q => absurd hk q⟩
    · rw [if_neg k1, if_pos (by omega)]
      exact ⟨⟨hfs.n1, hfs.n64, hfs.d0, hfs.d1, hfs.sizes, hfs.blank⟩, hlen, es, etl, hro _ hlen, fun _ => hrd _ rfl, fun q => absurd hk q⟩
  · rw [if_neg hk]
    have hlen : (erased (erase1 S)).lines.length = n := by show (List.replicate _ line0).length = n; rw [List.length_replicate, el, h.len]
    have hb : (erased (erase1 S)).blank = ffs 36 := by show (erase1 S).blank = _; rw [eb]; exact h.blank
    have h64 := h.fit.n64
    have hl := h.len
    refine ⟨⟨by omega, by omega, by show (0 : Int) ≤ 0; omega, by show (0 : Int) ≤ _; omega, ?_, by rw [hb, ffs_size]; omega⟩, hlen, es, etl, ?_, fun q => absurd q hk, fun _ => ⟨rfl, rfl, ⟨ebad, rfl, by show (0 : Int) ≠ 2; decide, rfl, by omega, by rw [hb, ffs_size, pgN_size]⟩, ?_⟩⟩
    · intro l hm
      obtain ⟨_, rfl⟩ := List.mem_replicate.mp (show l ∈ List.replicate _ line0 from hm)
      exact ⟨Nat.zero_le _, Nat.zero_le _, Nat.zero_le _⟩
    · exact fun i hi => ⟨by omega, by omega, by omega, by omega, fun q => q.2 rfl⟩
    · intro i hi
      refine blank_read hb ?_
      show ((List.replicate _ line0).getD i line0).p0.size = 0
      rw [List.getD_eq_getElem?_getD, List.getElem?_replicate]
      split <;> rfl
end Go.Proofs.YtliiploidjnmnaaDoor.PF
end

section
/- The law CellErases: its block ahead of the erasing, in plain words. -/
set_option linter.unusedVariables false
set_option linter.unusedSimpArgs false
namespace Go.Proofs.YtliiploidjnmnaaDoor.PF
open Go.RowKit Go.Shelf Go.Proofs.YtliiploidjnmnaaDoorW.PrintWords Go.Proofs.YtliiploidjnmnaaDoor.Hw

def nw (n : Nat) : CellS := newS n (ffs 36)
theorem nw_fit (n : Nat) (h1 : 1 ≤ n) (h64 : n ≤ 64) : Fit (nw n) := by
  have hl : (nw n).lines.length = n := List.length_replicate
  refine ⟨by omega, by omega, Int.le_refl _, by show (0 : Int) ≤ _; omega, ?_, by show (ffs 36).size ≤ _; rw [ffs_size]; omega⟩
  intro l hm
  obtain ⟨_, rfl⟩ := List.mem_replicate.mp (show l ∈ List.replicate n line0 from hm)
  exact ⟨Nat.zero_le _, Nat.zero_le _, Nat.zero_le _⟩
theorem nw_prog (n m : Nat) (h1 : 1 ≤ n) : progOk (nw n) 0 (pgN m) := by
  have hl : (nw n).lines.length = n := List.length_replicate
  exact ⟨rfl, rfl, by show (0 : Int) ≠ 2; decide, rfl, by omega, by rw [pgN_size]; exact (ffs_size 36).symm⟩
theorem nw_fog (n a b c : Nat) (h1 : 1 ≤ n) : fogOk (nw n) 0 (pgN a) (pgN b) (pgN c) := by
  have hl : (nw n).lines.length = n := List.length_replicate
  have hz : ∀ m, (pgN m).size = (nw n).blank.size := fun m => by rw [pgN_size]; exact (ffs_size 36).symm
  refine ⟨rfl, rfl, by show (0 : Int) ≠ 1; decide, by show (0 : Int) < _; omega, ?_, ?_, hz a, hz b, hz c⟩
  · rw [hl]
    show (0 : Int) = (stLine n 0 : Nat)
    unfold stLine
    rw [if_neg (by omega), if_pos (.inl rfl)]
    rfl
  · rw [hl]
    show false = stFine n 0
    unfold stFine
    rw [decide_eq_false]
    omega
theorem set0_plain (n : Nat) (l : LineS) (h : l.h0 = false ∧ ∃ m, l.p0 = pgN m) (S : CellS) (hS : S.lines = (List.replicate n line0).set 0 l) (i : Nat) (hi : i < n) : Plain0 S i := by
  unfold Plain0
  rw [hS, List.getD_eq_getElem?_getD, List.getElem?_set]
  by_cases h0 : 0 = i
  · rw [if_pos h0, if_pos (by rw [List.length_replicate]; omega)]
    exact ⟨h.1, .inr h.2⟩
  · rw [if_neg h0, List.getElem?_replicate, if_pos hi]
    exact ⟨rfl, .inl rfl⟩
theorem mid_one (n : Nat) (h1 : 1 ≤ n) (h64 : n ≤ 64) : MidE (prog1 (nw n) (pgN 5)) n false := by
  have hl : (nw n).lines.length = n := List.length_replicate
  refine ⟨prog1_fit (nw_fit n h1 h64) (by rw [pgN_size]; omega) (by show (0 : Int) + 1 ≤ _; omega), ?_, rfl, rfl, rfl, rfl, rfl, rfl, ?_⟩
  · show ((nw n).lines.set _ _).length = n; rw [List.length_set, hl]
  · exact set0_plain n (pline (pgN 5)) ⟨rfl, 5, rfl⟩ _ rfl
theorem mid_two (n : Nat) (h1 : 1 ≤ n) (h64 : n ≤ 64) : MidE (fog1 (nw n) 0 (pgN 5) (pgN 6) (pgN 7)) n true := by
  have hl : (nw n).lines.length = n := List.length_replicate
  have hs : (fog1 (nw n) 0 (pgN 5) (pgN 6) (pgN 7)).lines.length = n := by show ((nw n).lines.set _ _).length = n; rw [List.length_set, hl]
  refine ⟨⟨by omega, by omega, by show (0 : Int) ≤ 0 + 1; omega, by show (0 : Int) + 1 ≤ _; omega, ?_, by show (ffs 36).size ≤ _; rw [ffs_size]; omega⟩, hs, rfl, rfl, rfl, rfl, rfl, rfl, ?_⟩
  · intro l hm
    rcases List.mem_or_eq_of_mem_set (show l ∈ (nw n).lines.set 0 ⟨pgN 5, pgN 6, pgN 7, false, false, false⟩ from hm) with h | rfl
    · exact (nw_fit n h1 h64).sizes l h
    · exact ⟨by show (pgN 5).size ≤ _; rw [pgN_size]; omega, by show (pgN 6).size ≤ _; rw [pgN_size]; omega, by show (pgN 7).size ≤ _; rw [pgN_size]; omega⟩
  · exact set0_plain n ⟨pgN 5, pgN 6, pgN 7, false, false, false⟩ ⟨rfl, 5, rfl⟩ _ rfl
end Go.Proofs.YtliiploidjnmnaaDoor.PF
end

section
/- The law CellErases, by hand: the walk. -/
set_option linter.unusedVariables false
set_option linter.unusedSimpArgs false
namespace Go.Proofs.YtliiploidjnmnaaDoor.PF
open Go.RowKit Go.Shelf Go.Proofs.YtliiploidjnmnaaDoorW.PrintWords Go.Proofs.YtliiploidjnmnaaDoor.Mem Go.Proofs.YtliiploidjnmnaaDoor.Own Go.Proofs.YtliiploidjnmnaaDoor.Hw

set_option maxHeartbeats 4000000 in
set_option maxRecDepth 100000 in
theorem erases_one (n : Nat) (a0 a1 a2 a3 : Int) (w : World) (h1 : 1 ≤ n) (h20 : n ≤ 20) (HL : Aside0 (Laid w)) :
    Calls Tryd.prog 6 #[.int .i64 n, .bool false, fltV a0 a1 a2 a3] w fun e w' => e = .returned (.bool true) ∧ Below w.heap.size w w' := by
  have o0 := (Own.Own.new w).alloc (.cells #[.int .i64 a0, .int .i64 a1, .int .i64 a2, .int .i64 a3] 38)
  obtain ⟨HW, hHW⟩ : ∃ b, b = w.heap.size := ⟨_, rfl⟩
  have O0 := Aside0.mk o0
  clear o0 hHW
  go_enter Tryd.func6, Tryd.ntmps6
  go_wp2_with fail
  refine (works_calls _ (Hw.laid_at HL O0.out.below)).mono ?_
  rintro e w1 ⟨rfl, hb⟩
  have O1 := Aside0.mk (O0.out.move hb)
  clear hb O0
  have c1 : ¬ (n : Int) < 1 := by omega
  have c2 : ¬ (n : Int) > 20 := by omega
  go_wp2_with fail
  clear c1 c2
  refine (new_yes n 8 h1 (by omega) (by decide) O1.out).mono ?_
  rintro e w2 ⟨g, lb, rfl, hb⟩
  have O2 : Aside0 (Own.Own w w2 (CellO g lb (nw n) _)) := ⟨hb⟩
  clear hb O1
  go_wp2_with fail
  refine (pageOf_calls 5 _ (by omega) (Hw.laid_at HL O2.out.below)).mono ?_
  rintro e w3 ⟨rfl, hb⟩
  have O3 := Aside0.mk (O2.out.move hb)
  clear hb O2
  go_wp2_with fail
  refine (prog_yes 0 (pgN 5) 0 0 0 0 (nw_fit n h1 (by omega)) (by rw [pgN_size]; omega) (nw_prog n 5 h1) O3.out).mono ?_
  rintro e w4 ⟨rfl, hb⟩
  rw [progS_ok _ _ (nw_prog n 5 h1)] at hb
  rw [progC_ok (nw_prog n 5 h1)]
  obtain ⟨S, hS⟩ : ∃ S, S = prog1 (nw n) (pgN 5) := ⟨_, rfl⟩
  have hm : MidE S n false := by rw [hS]; exact mid_one n h1 (by omega)
  rw [← hS] at hb
  clear hS
  have O4 := Aside0.mk hb
  obtain ⟨x0, x1, x2, x3, _, _, _, _⟩ := cells4 hb.drop.drop.pt
  clear hb O3
  go_wp2_with fail
  clear x0 x1 x2 x3
  refine (erase_runs a0 a1 a2 a3 hm.fit ⟨by rw [hm.slc]; decide, by rw [hm.slc]; decide, by rw [hm.tlc]; decide, by rw [hm.tlc]; decide⟩ hm.bad O4.out).mono ?_
  rintro e w5 ⟨rfl, hb⟩
  have hC : eraseC S a1 = endsC a1 := by unfold eraseC; rw [if_neg (by rw [hm.bad]; decide)]
  rw [hC]
  have hE := after_erase a1 a2 a3 hm h1
  obtain ⟨E, hEE⟩ : ∃ E, E = eraseS S a1 a2 a3 := ⟨_, rfl⟩
  rw [← hEE] at hb hE
  clear hEE hC hm O4
  have O5 := Aside0.mk hb
  clear hb
  go_wp2_with fail
  refine (counts_own O5.out).mono ?_
  rintro e w6 ⟨rfl, hb⟩
  have O6 := Aside0.mk hb
  obtain ⟨x0, x1, x2, x3, _, _, _, _⟩ := cells4 hb.drop.drop.pt
  rw [hE.slc, hE.tlc]
  clear hb O5
  by_cases k1 : a1 = 1
  · subst k1
    rw [show endsC 1 = 82 from rfl]
    go_wp2_with fail
    go_loopw [82] (fun v82 wr => ∃ (i : Nat), i ≤ n ∧ v82 = .int .i64 i ∧ Aside0 (Own.Own w wr (CellO g lb E [Pt w.heap.size (.cells #[.int .i64 a0, .int .i64 1, .int .i64 a2, .int .i64 a3] 38)]))) (fun v82 _ => n - (intOf v82).toNat)
    case atStart => exact ⟨0, by omega, rfl, O6⟩
    case round =>
      clear O6 x0 x1 x2 x3
      obtain ⟨i, hin, rfl, HO⟩ := hrel
      by_cases hlt : i < n
      · have dl : decide ((i : Int) < (n : Int)) = true := decide_eq_true (by omega)
        have dln : decide (i < n) = true := decide_eq_true hlt
        have hr : readV E i 0 = (readB E i 0, 0) := by unfold readV; rw [if_pos (hE.modes i hlt)]; rfl
        have hd := hE.bads (.inl rfl) i hlt
        go_wp2_with fail
        refine (Read_own i 0 hE.fit HO.out).mono ?_
        rintro e w7 ⟨rfl, hb⟩
        rw [hr]
        have H1 := Aside0.mk hb
        clear hb HO
        go_wp2_with fail
        refine (frame_Decode.calls _ _ _ _ _ _ _ _ hd (Hw.laid_at HL H1.out.below)).mono ?_
        rintro e w8 ⟨rfl, hb⟩
        have H2 := Aside0.mk (H1.out.move hb)
        clear hb H1
        go_wp2_with fail
        go_roundw
        case rel => exact ⟨i + 1, by omega, by go_num, ⟨H2.out.alloc' _⟩⟩
        case measure => simp [intOf]; omega
      · obtain rfl : i = n := by omega
        have dl : decide ((i : Int) < (i : Int)) = false := decide_eq_false (by omega)
        have dln : decide (i < i) = false := decide_eq_false (by omega)
        go_wp2_with fail
        go_ret
        exact ⟨rfl, HO.out.below⟩
  · by_cases k2 : a1 = 2
    · subst k2
      rw [show endsC 2 = 81 from rfl]
      go_wp2_with fail
      go_loopw [82] (fun v82 wr => ∃ (i : Nat), i ≤ n ∧ v82 = .int .i64 i ∧ Aside0 (Own.Own w wr (CellO g lb E [Pt w.heap.size (.cells #[.int .i64 a0, .int .i64 2, .int .i64 a2, .int .i64 a3] 38)]))) (fun v82 _ => n - (intOf v82).toNat)
      case atStart => exact ⟨0, by omega, rfl, O6⟩
      case round =>
        clear O6 x0 x1 x2 x3
        obtain ⟨i, hin, rfl, HO⟩ := hrel
        by_cases hlt : i < n
        · have dl : decide ((i : Int) < (n : Int)) = true := decide_eq_true (by omega)
          have dln : decide (i < n) = true := decide_eq_true hlt
          have hr : readV E i 0 = (readB E i 0, 0) := by unfold readV; rw [if_pos (hE.modes i hlt)]; rfl
          have hd := hE.bads (.inr rfl) i hlt
          go_wp2_with fail
          refine (Read_own i 0 hE.fit HO.out).mono ?_
          rintro e w7 ⟨rfl, hb⟩
          rw [hr]
          have H1 := Aside0.mk hb
          clear hb HO
          go_wp2_with fail
          refine (frame_Decode.calls _ _ _ _ _ _ _ _ hd (Hw.laid_at HL H1.out.below)).mono ?_
          rintro e w8 ⟨rfl, hb⟩
          have H2 := Aside0.mk (H1.out.move hb)
          clear hb H1
          go_wp2_with fail
          go_roundw
          case rel => exact ⟨i + 1, by omega, by go_num, ⟨H2.out.alloc' _⟩⟩
          case measure => simp [intOf]; omega
        · obtain rfl : i = n := by omega
          have dl : decide ((i : Int) < (i : Int)) = false := decide_eq_false (by omega)
          have dln : decide (i < i) = false := decide_eq_false (by omega)
          go_wp2_with fail
          go_ret
          exact ⟨rfl, HO.out.below⟩
    · rw [show endsC a1 = 0 from by unfold endsC; rw [if_neg k1, if_neg k2]]
      have d1 : (a1 == 1) = false := beq_eq_false_iff_ne.2 k1
      have d2 : (a1 == 2) = false := beq_eq_false_iff_ne.2 k2
      go_upto_region 14 with (fail)
      clear x0 x1 x2 x3 d1 d2
      go_wp2_with fail
      go_loopw [82] (fun v82 wr => ∃ (i : Nat), i ≤ n ∧ v82 = .int .i64 i ∧ Aside0 (Own.Own w wr (CellO g lb E [Pt w.heap.size (.cells #[.int .i64 a0, .int .i64 a1, .int .i64 a2, .int .i64 a3] 38)]))) (fun v82 _ => n - (intOf v82).toNat)
      case atStart => exact ⟨0, by omega, rfl, O6⟩
      case round =>
        clear O6
        have hk : ¬ (a1 = 1 ∨ a1 = 2) := by omega
        obtain ⟨hm0, hd0, hp0, hbl⟩ := hE.news hk
        obtain ⟨i, hin, rfl, HO⟩ := hrel
        have HP := Aside0.mk hp0
        have HM := Aside0.mk hm0
        have HD := Aside0.mk hd0
        clear hp0 hm0 hd0
        by_cases hlt : i < n
        · have dl : decide ((i : Int) < (n : Int)) = true := decide_eq_true (by omega)
          have dln : decide (i < n) = true := decide_eq_true hlt
          have hr : readV E i 0 = (readB E i 0, 0) := by unfold readV; rw [if_pos (hE.modes i hlt)]; rfl
          have hd := hbl i hlt
          clear hk
          go_wp2_with fail
          refine (Read_own i 0 hE.fit HO.out).mono ?_
          rintro e w7 ⟨rfl, hb⟩
          rw [hr]
          have H1 := Aside0.mk hb
          clear hb HO
          go_wp2_with fail
          refine (frame_Decode.calls _ _ _ _ _ _ _ _ hd (Hw.laid_at HL H1.out.below)).mono ?_
          rintro e w8 ⟨rfl, hb⟩
          have H2 := Aside0.mk (H1.out.move hb)
          clear hb H1
          go_wp2_with fail
          go_roundw
          case rel => exact ⟨i + 1, by omega, by go_num, ⟨H2.out.alloc' _⟩⟩
          case measure => simp [intOf]; omega
        · obtain rfl : i = n := by omega
          have dl : decide ((i : Int) < (i : Int)) = false := decide_eq_false (by omega)
          have dln : decide (i < i) = false := decide_eq_false (by omega)
          clear hk
          go_wp2_with fail
          refine (mode_own HO.out).mono ?_
          rintro e w7 ⟨rfl, rfl⟩
          rw [HM.out]
          go_wp2_with fail
          refine (done_own HO.out).mono ?_
          rintro e w8 ⟨rfl, rfl⟩
          rw [HD.out]
          go_wp2_with fail
          refine (pageOf_calls 1 _ (by omega) (Hw.laid_at HL HO.out.below)).mono ?_
          rintro e w9 ⟨rfl, hb⟩
          have H1 := Aside0.mk (HO.out.move hb)
          clear hb HO
          go_wp2_with fail
          refine (prog_yes 0 (pgN 1) 0 0 0 0 hE.fit (by rw [pgN_size]; omega) HP.out H1.out).mono ?_
          rintro e w10 ⟨rfl, hb⟩
          rw [progC_ok HP.out]
          have H2 := Aside0.mk hb
          clear hb H1
          go_wp2_with fail
          go_ret
          exact ⟨rfl, H2.out.below⟩
end Go.Proofs.YtliiploidjnmnaaDoor.PF
end

section
/- The law CellErases, by hand: the walk, of a block of two passes. -/

set_option linter.unusedVariables false
set_option linter.unusedSimpArgs false
namespace Go.Proofs.YtliiploidjnmnaaDoor.PF
open Go.RowKit Go.Shelf Go.Proofs.YtliiploidjnmnaaDoorW.PrintWords Go.Proofs.YtliiploidjnmnaaDoor.Mem Go.Proofs.YtliiploidjnmnaaDoor.Own Go.Proofs.YtliiploidjnmnaaDoor.Hw

theorem fogS_ok {S : CellS} {a : Int} {p0 p1 p2 : ByteArray} (x y : Int) (h : fogOk S a p0 p1 p2) : fogS S a p0 p1 p2 0 x y = fog1 S a p0 p1 p2 := by unfold fogS; rw [if_pos h]; rfl
theorem fogC_ok {S : CellS} {a : Int} {p0 p1 p2 : ByteArray} (h : fogOk S a p0 p1 p2) : fogC S a p0 p1 p2 0 = 0 := by unfold fogC; rw [if_pos h]; rfl
set_option maxHeartbeats 4000000 in
set_option maxRecDepth 100000 in
theorem erases_two (n : Nat) (a0 a1 a2 a3 : Int) (w : World) (h1 : 1 ≤ n) (h20 : n ≤ 20) (HL : Aside0 (Laid w)) :
    Calls Tryd.prog 6 #[.int .i64 n, .bool true, fltV a0 a1 a2 a3] w fun e w' => e = .returned (.bool true) ∧ Below w.heap.size w w' := by
  have o0 := (Own.Own.new w).alloc (.cells #[.int .i64 a0, .int .i64 a1, .int .i64 a2, .int .i64 a3] 38)
  obtain ⟨HW, hHW⟩ : ∃ b, b = w.heap.size := ⟨_, rfl⟩
  have O0 := Aside0.mk o0
  clear o0 hHW
  go_enter Tryd.func6, Tryd.ntmps6
  go_wp2_with fail
  refine (works_calls _ (Hw.laid_at HL O0.out.below)).mono ?_
  rintro e w1 ⟨rfl, hb⟩
  have O1 := Aside0.mk (O0.out.move hb)
  clear hb O0
  have c1 : ¬ (n : Int) < 1 := by omega
  have c2 : ¬ (n : Int) > 20 := by omega
  go_wp2_with fail
  clear c1 c2
  refine (new_yes n 8 h1 (by omega) (by decide) O1.out).mono ?_
  rintro e w2 ⟨g, lb, rfl, hb⟩
  have O2 : Aside0 (Own.Own w w2 (CellO g lb (nw n) _)) := ⟨hb⟩
  clear hb O1
  go_wp2_with fail
  refine (three_calls 5 _ (by omega) (Hw.laid_at HL O2.out.below)).mono ?_
  rintro e w3 ⟨rfl, hb⟩
  have O3 := Aside0.mk (O2.out.move hb)
  clear hb O2
  go_wp2_with fail
  refine (fog_yes 0 (pgN 5) (pgN 6) (pgN 7) 0 0 0 0 (nw_fit n h1 (by omega)) ⟨by rw [pgN_size]; omega, by rw [pgN_size]; omega, by rw [pgN_size]; omega⟩ (nw_fog n 5 6 7 h1) O3.out).mono ?_
  rintro e w4 ⟨rfl, hb⟩
  rw [fogS_ok _ _ (nw_fog n 5 6 7 h1)] at hb
  rw [fogC_ok (nw_fog n 5 6 7 h1)]
  obtain ⟨S, hS⟩ : ∃ S, S = fog1 (nw n) 0 (pgN 5) (pgN 6) (pgN 7) := ⟨_, rfl⟩
  have hm : MidE S n true := by rw [hS]; exact mid_two n h1 (by omega)
  rw [← hS] at hb
  clear hS
  have O4 := Aside0.mk hb
  obtain ⟨x0, x1, x2, x3, _, _, _, _⟩ := cells4 hb.drop.drop.pt
  clear hb O3
  go_wp2_with fail
  clear x0 x1 x2 x3
  refine (erase_runs a0 a1 a2 a3 hm.fit ⟨by rw [hm.slc]; decide, by rw [hm.slc]; decide, by rw [hm.tlc]; decide, by rw [hm.tlc]; decide⟩ hm.bad O4.out).mono ?_
  rintro e w5 ⟨rfl, hb⟩
  have hC : eraseC S a1 = endsC a1 := by unfold eraseC; rw [if_neg (by rw [hm.bad]; decide)]
  rw [hC]
  have hE := after_erase a1 a2 a3 hm h1
  obtain ⟨E, hEE⟩ : ∃ E, E = eraseS S a1 a2 a3 := ⟨_, rfl⟩
  rw [← hEE] at hb hE
  clear hEE hC hm O4
  have O5 := Aside0.mk hb
  clear hb
  go_wp2_with fail
  refine (counts_own O5.out).mono ?_
  rintro e w6 ⟨rfl, hb⟩
  have O6 := Aside0.mk hb
  obtain ⟨x0, x1, x2, x3, _, _, _, _⟩ := cells4 hb.drop.drop.pt
  rw [hE.slc, hE.tlc]
  clear hb O5
  by_cases k1 : a1 = 1
  · subst k1
    rw [show endsC 1 = 82 from rfl]
    go_wp2_with fail
    go_loopw [82] (fun v82 wr => ∃ (i : Nat), i ≤ n ∧ v82 = .int .i64 i ∧ Aside0 (Own.Own w wr (CellO g lb E [Pt w.heap.size (.cells #[.int .i64 a0, .int .i64 1, .int .i64 a2, .int .i64 a3] 38)]))) (fun v82 _ => n - (intOf v82).toNat)
    case atStart => exact ⟨0, by omega, rfl, O6⟩
    case round =>
      clear O6 x0 x1 x2 x3
      obtain ⟨i, hin, rfl, HO⟩ := hrel
      by_cases hlt : i < n
      · have dl : decide ((i : Int) < (n : Int)) = true := decide_eq_true (by omega)
        have dln : decide (i < n) = true := decide_eq_true hlt
        have hr : readV E i 0 = (readB E i 0, 0) := by unfold readV; rw [if_pos (hE.modes i hlt)]; rfl
        have hd := hE.bads (.inl rfl) i hlt
        go_wp2_with fail
        refine (Read_own i 0 hE.fit HO.out).mono ?_
        rintro e w7 ⟨rfl, hb⟩
        rw [hr]
        have H1 := Aside0.mk hb
        clear hb HO
        go_wp2_with fail
        refine (frame_Decode.calls _ _ _ _ _ _ _ _ hd (Hw.laid_at HL H1.out.below)).mono ?_
        rintro e w8 ⟨rfl, hb⟩
        have H2 := Aside0.mk (H1.out.move hb)
        clear hb H1
        go_wp2_with fail
        go_roundw
        case rel => exact ⟨i + 1, by omega, by go_num, ⟨H2.out.alloc' _⟩⟩
        case measure => simp [intOf]; omega
      · obtain rfl : i = n := by omega
        have dl : decide ((i : Int) < (i : Int)) = false := decide_eq_false (by omega)
        have dln : decide (i < i) = false := decide_eq_false (by omega)
        go_wp2_with fail
        go_ret
        exact ⟨rfl, HO.out.below⟩
  · by_cases k2 : a1 = 2
    · subst k2
      rw [show endsC 2 = 81 from rfl]
      go_wp2_with fail
      go_loopw [82] (fun v82 wr => ∃ (i : Nat), i ≤ n ∧ v82 = .int .i64 i ∧ Aside0 (Own.Own w wr (CellO g lb E [Pt w.heap.size (.cells #[.int .i64 a0, .int .i64 2, .int .i64 a2, .int .i64 a3] 38)]))) (fun v82 _ => n - (intOf v82).toNat)
      case atStart => exact ⟨0, by omega, rfl, O6⟩
      case round =>
        clear O6 x0 x1 x2 x3
        obtain ⟨i, hin, rfl, HO⟩ := hrel
        by_cases hlt : i < n
        · have dl : decide ((i : Int) < (n : Int)) = true := decide_eq_true (by omega)
          have dln : decide (i < n) = true := decide_eq_true hlt
          have hr : readV E i 0 = (readB E i 0, 0) := by unfold readV; rw [if_pos (hE.modes i hlt)]; rfl
          have hd := hE.bads (.inr rfl) i hlt
          go_wp2_with fail
          refine (Read_own i 0 hE.fit HO.out).mono ?_
          rintro e w7 ⟨rfl, hb⟩
          rw [hr]
          have H1 := Aside0.mk hb
          clear hb HO
          go_wp2_with fail
          refine (frame_Decode.calls _ _ _ _ _ _ _ _ hd (Hw.laid_at HL H1.out.below)).mono ?_
          rintro e w8 ⟨rfl, hb⟩
          have H2 := Aside0.mk (H1.out.move hb)
          clear hb H1
          go_wp2_with fail
          go_roundw
          case rel => exact ⟨i + 1, by omega, by go_num, ⟨H2.out.alloc' _⟩⟩
          case measure => simp [intOf]; omega
        · obtain rfl : i = n := by omega
          have dl : decide ((i : Int) < (i : Int)) = false := decide_eq_false (by omega)
          have dln : decide (i < i) = false := decide_eq_false (by omega)
          go_wp2_with fail
          go_ret
          exact ⟨rfl, HO.out.below⟩
    · rw [show endsC a1 = 0 from by unfold endsC; rw [if_neg k1, if_neg k2]]
      have d1 : (a1 == 1) = false := beq_eq_false_iff_ne.2 k1
      have d2 : (a1 == 2) = false := beq_eq_false_iff_ne.2 k2
      go_upto_region 14 with (fail)
      clear x0 x1 x2 x3 d1 d2
      go_wp2_with fail
      go_loopw [82] (fun v82 wr => ∃ (i : Nat), i ≤ n ∧ v82 = .int .i64 i ∧ Aside0 (Own.Own w wr (CellO g lb E [Pt w.heap.size (.cells #[.int .i64 a0, .int .i64 a1, .int .i64 a2, .int .i64 a3] 38)]))) (fun v82 _ => n - (intOf v82).toNat)
      case atStart => exact ⟨0, by omega, rfl, O6⟩
      case round =>
        clear O6
        have hk : ¬ (a1 = 1 ∨ a1 = 2) := by omega
        obtain ⟨hm0, hd0, hp0, hbl⟩ := hE.news hk
        obtain ⟨i, hin, rfl, HO⟩ := hrel
        have HP := Aside0.mk hp0
        have HM := Aside0.mk hm0
        have HD := Aside0.mk hd0
        clear hp0 hm0 hd0
        by_cases hlt : i < n
        · have dl : decide ((i : Int) < (n : Int)) = true := decide_eq_true (by omega)
          have dln : decide (i < n) = true := decide_eq_true hlt
          have hr : readV E i 0 = (readB E i 0, 0) := by unfold readV; rw [if_pos (hE.modes i hlt)]; rfl
          have hd := hbl i hlt
          clear hk
          go_wp2_with fail
          refine (Read_own i 0 hE.fit HO.out).mono ?_
          rintro e w7 ⟨rfl, hb⟩
          rw [hr]
          have H1 := Aside0.mk hb
          clear hb HO
          go_wp2_with fail
          refine (frame_Decode.calls _ _ _ _ _ _ _ _ hd (Hw.laid_at HL H1.out.below)).mono ?_
          rintro e w8 ⟨rfl, hb⟩
          have H2 := Aside0.mk (H1.out.move hb)
          clear hb H1
          go_wp2_with fail
          go_roundw
          case rel => exact ⟨i + 1, by omega, by go_num, ⟨H2.out.alloc' _⟩⟩
          case measure => simp [intOf]; omega
        · obtain rfl : i = n := by omega
          have dl : decide ((i : Int) < (i : Int)) = false := decide_eq_false (by omega)
          have dln : decide (i < i) = false := decide_eq_false (by omega)
          clear hk
          go_wp2_with fail
          refine (mode_own HO.out).mono ?_
          rintro e w7 ⟨rfl, rfl⟩
          rw [HM.out]
          go_wp2_with fail
          refine (done_own HO.out).mono ?_
          rintro e w8 ⟨rfl, rfl⟩
          rw [HD.out]
          go_wp2_with fail
          refine (pageOf_calls 1 _ (by omega) (Hw.laid_at HL HO.out.below)).mono ?_
          rintro e w9 ⟨rfl, hb⟩
          have H1 := Aside0.mk (HO.out.move hb)
          clear hb HO
          go_wp2_with fail
          refine (prog_yes 0 (pgN 1) 0 0 0 0 hE.fit (by rw [pgN_size]; omega) HP.out H1.out).mono ?_
          rintro e w10 ⟨rfl, hb⟩
          rw [progC_ok HP.out]
          have H2 := Aside0.mk hb
          clear hb H1
          go_wp2_with fail
          go_ret
          exact ⟨rfl, H2.out.below⟩
end Go.Proofs.YtliiploidjnmnaaDoor.PF
end

section
/- The law CellErases, by hand: joined. -/
set_option linter.unusedVariables false
set_option linter.unusedSimpArgs false
namespace Go.Proofs.YtliiploidjnmnaaDoor.PF
open Go.RowKit Go.Shelf Go.Proofs.YtliiploidjnmnaaDoorW.PrintWords Go.Proofs.YtliiploidjnmnaaDoor.Mem Go.Proofs.YtliiploidjnmnaaDoor.Own Go.Proofs.YtliiploidjnmnaaDoor.Hw

def decklelaw08_CellErases.f (a0 : Int) (a1 : Bool) (a2_0 a2_1 a2_2 a2_3 : Int) : Option Bool := some true
set_option maxHeartbeats 4000000 in
set_option maxRecDepth 100000 in
theorem erases_few (n : Int) (two : Bool) (a0 a1 a2 a3 : Int) (w : World) (h : n < 1) (HL : Aside0 (Laid w)) :
    Calls Tryd.prog 6 #[.int .i64 n, .bool two, fltV a0 a1 a2 a3] w fun e w' => e = .returned (.bool true) ∧ Below w.heap.size w w' := by
  have o0 := (Own.Own.new w).alloc (.cells #[.int .i64 a0, .int .i64 a1, .int .i64 a2, .int .i64 a3] 38)
  have O0 := Aside0.mk o0
  clear o0
  go_enter Tryd.func6, Tryd.ntmps6
  go_wp2_with fail
  refine (works_calls _ (Hw.laid_at HL O0.out.below)).mono ?_
  rintro e w1 ⟨rfl, hb⟩
  have O1 := Aside0.mk (O0.out.move hb)
  clear hb O0
  have c1 : decide (n < 1) = true := decide_eq_true h
  go_wp2_with fail
  go_ret
  exact ⟨rfl, O1.out.below⟩
set_option maxHeartbeats 4000000 in
set_option maxRecDepth 100000 in
theorem erases_many (n : Int) (two : Bool) (a0 a1 a2 a3 : Int) (w : World) (h1 : ¬ n < 1) (h : n > 20) (HL : Aside0 (Laid w)) :
    Calls Tryd.prog 6 #[.int .i64 n, .bool two, fltV a0 a1 a2 a3] w fun e w' => e = .returned (.bool true) ∧ Below w.heap.size w w' := by
  have o0 := (Own.Own.new w).alloc (.cells #[.int .i64 a0, .int .i64 a1, .int .i64 a2, .int .i64 a3] 38)
  have O0 := Aside0.mk o0
  clear o0
  go_enter Tryd.func6, Tryd.ntmps6
  go_wp2_with fail
  refine (works_calls _ (Hw.laid_at HL O0.out.below)).mono ?_
  rintro e w1 ⟨rfl, hb⟩
  have O1 := Aside0.mk (O0.out.move hb)
  clear hb O0
  have c1 : decide (n < 1) = false := decide_eq_false (by omega)
  have c2 : decide (n > 20) = true := decide_eq_true h
  have c3 : decide (20 < n) = true := decide_eq_true h
  go_wp2_with fail
  go_ret
  exact ⟨rfl, O1.out.below⟩
theorem decklelaw08_CellErases.calls (a0 : Int) (a1 : Bool) (a2_0 : Int) (a2_1 : Int) (a2_2 : Int) (a2_3 : Int) (w : World) (h : decklelaw08_CellErases.f a0 a1 a2_0 a2_1 a2_2 a2_3 = some true) (HL : Aside0 (Hw.Laid w)) :
    Calls Tryd.prog 6 #[.int .i64 a0, .bool a1, .agg #[.int .i64 a2_0, .int .i64 a2_1, .int .i64 a2_2, .int .i64 a2_3]] w fun e w' => e = .returned (.bool true) ∧ Below w.heap.size w w' := by
  by_cases h1 : a0 < 1
  · exact erases_few a0 a1 a2_0 a2_1 a2_2 a2_3 w h1 HL
  by_cases h2 : a0 > 20
  · exact erases_many a0 a1 a2_0 a2_1 a2_2 a2_3 w h1 h2 HL
  obtain ⟨n, rfl⟩ := Int.eq_ofNat_of_zero_le (show 0 ≤ a0 by omega)
  cases a1 with
  | true => exact erases_two n a2_0 a2_1 a2_2 a2_3 w (by omega) (by omega) HL
  | false => exact erases_one n a2_0 a2_1 a2_2 a2_3 w (by omega) (by omega) HL
end Go.Proofs.YtliiploidjnmnaaDoor.PF
end
