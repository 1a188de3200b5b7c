/- The document's answer for what is durable: in plain numbers. -/
import Derived.Test.YtiblpienmkjmgaaStateEH
import Derived.Test.YtiblpienmkjmgaaPSy3
import Derived.Test.YtiblpienmkjmgaaPSx32
set_option linter.unusedVariables false
namespace Go.Proofs.Ytiblpienmkjmgaa.StateA
open Go.RowKit Go.Proofs.YtiblpienmkjmgaaW.PrintWords Go.Proofs.Ytiblpienmkjmgaa.Mem Go.Proofs.Ytiblpienmkjmgaa.PS

theorem ref_put_l0 (l : List Int) (a : Nat) (v : Int) (hm : l.length ≤ 1000000) (d : Nat) : ∀ (k i : Nat), i ≤ l.length → l.length - i = d → d < k →
    deckleref14_Put.l0 k l a v ((l.set a v).take i) i = some (l.set a v) := by
  induction d with
  | zero =>
    intro k i h1 hd hk
    obtain ⟨k, rfl⟩ : ∃ m, k = m + 1 := ⟨k - 1, by omega⟩
    simp only [deckleref14_Put.l0]
    rw [if_neg (by omega), List.take_of_length_le (by rw [List.length_set]; omega)]
  | succ d ih =>
    intro k i h1 hd hk
    obtain ⟨k, rfl⟩ : ∃ m, k = m + 1 := ⟨k - 1, by omega⟩
    have hlt : i < l.length := by omega
    have hl : ((l.set a v).take i).length = i := by rw [List.length_take, List.length_set]; omega
    have hs : (l.set a v).take (i + 1) = (l.set a v).take i ++ [if i = a then v else rd l i] := by
      rw [List.take_succ_eq_append_getElem (by rw [List.length_set]; exact hlt), List.getElem_set]
      congr 2
      by_cases e : a = i
      · rw [if_pos e, if_pos e.symm]
      · rw [if_neg e, if_neg (fun h => e h.symm)]
        show l[i] = l.getD (i : Int).toNat 0
        rw [Int.toNat_natCast, List.getD_eq_getElem?_getD, List.getElem?_eq_getElem hlt]
        rfl
    have hw : wrap64 ((i : Int) + 1) = ((i + 1 : Nat) : Int) := by unfold wrap64; omega
    simp only [deckleref14_Put.l0]
    rw [if_pos (by omega), hl, hw]
    have hnext := ih k (i + 1) (by omega) (by omega) (by omega)
    rw [hs] at hnext
    by_cases e : i = a
    · rw [if_pos (by omega), if_pos (by omega)]
      rw [if_pos e] at hnext
      exact hnext
    · rw [if_neg (by omega), if_pos (by omega), if_pos (by omega)]
      rw [if_neg e] at hnext
      exact hnext
theorem ref_put (l : List Int) (a v : Int) (h0 : 0 ≤ a) (hm : l.length ≤ 1000000) (k : Nat) (hk : l.length < k) : deckleref14_Put.f k l a v = some (l.set a.toNat v) := by
  obtain ⟨n, rfl⟩ := Int.eq_ofNat_of_zero_le h0
  exact ref_put_l0 l n v hm l.length k 0 (by omega) (by omega) hk
theorem ref_may (a b c : Int) (k : Nat) (hk : 2 ≤ k) : deckleref11_May.f k a b c = some (decide (MayRec a b c)) := by
  obtain ⟨k, rfl⟩ : ∃ m, k = m + 1 := ⟨k - 1, by omega⟩
  unfold deckleref11_May.f
  simp only [deckleref11_May.j0]
  by_cases a1 : a = 1
  · subst a1
    rw [if_pos rfl, if_pos trivial]
    (repeat' split) <;> first | (congr 1; exact decide_eq_decide.2 (by unfold MayRec; omega)) | exact congrArg some (decide_eq_false (by unfold MayRec; omega)).symm | exact congrArg some (decide_eq_true (by unfold MayRec; omega)).symm
  · rw [if_neg a1]
    by_cases a2 : a = 2
    · subst a2
      rw [if_pos (by decide)]
      (repeat' split) <;> first | (congr 1; exact decide_eq_decide.2 (by unfold MayRec; omega)) | exact congrArg some (decide_eq_false (by unfold MayRec; omega)).symm | exact congrArg some (decide_eq_true (by unfold MayRec; omega)).symm
    · rw [if_neg (by simp [a2])]
      (repeat' split) <;> first | (congr 1; exact decide_eq_decide.2 (by unfold MayRec; omega)) | exact congrArg some (decide_eq_false (by unfold MayRec; omega)).symm | exact congrArg some (decide_eq_true (by unfold MayRec; omega)).symm
theorem rd_nat (l : List Int) (a : Int) : rd l a = l.getD a.toNat 0 := rfl
theorem ref_apply (K : Kp) (kd a b : Int) (fine : K.Fine) (k : Nat) (hk : 1000002 ≤ k) :
    deckleref14_Apply.f k K.F K.C K.S K.T kd a b = some ((applyK K kd a b).1.F, (applyK K kd a b).1.C, (applyK K kd a b).1.S, (applyK K kd a b).1.T, (applyK K kd a b).2) := by
  obtain ⟨k, rfl⟩ : ∃ m, k = m + 1 := ⟨k - 1, by omega⟩
  have f1 := fine.f1
  have c1 := fine.c1
  have s1 := fine.s1
  have t1 := fine.t1
  have sc := fine.sc
  have tc := fine.tc
  unfold deckleref14_Apply.f
  rw [ref_may _ _ _ _ (by omega)]
  simp only [Option.bind_some]
  unfold applyK
  by_cases hm : MayRec kd a b
  · rw [if_pos (decide_eq_true hm), if_neg (not_not_intro hm)]
    have ha : 0 ≤ a := by unfold MayRec at hm; omega
    by_cases k2 : kd ≤ 2
    · have hk12 : kd = 1 ∨ kd = 2 := by unfold MayRec at hm; omega
      rw [if_pos k2]
      unfold roomK
      rw [if_pos hk12]
      by_cases hr : (K.F.length : Int) ≤ a
      · rw [if_pos hr, if_pos hr]
      · rw [if_neg (by omega), if_neg hr, if_pos ha, if_pos (by omega), ref_put _ _ _ ha f1 _ (by omega), if_neg (by omega), if_neg (by omega)]
        simp only [Option.bind_some, rd_nat]
        rw [show mx (K.F.getD a.toNat 0) b = max (K.F.getD a.toNat 0) b by unfold mx; omega]
    · rw [if_neg k2]
      unfold roomK
      rw [if_neg (show ¬ (kd = 1 ∨ kd = 2) by omega)]
      by_cases hr : (K.C.length : Int) ≤ a
      · rw [if_pos hr, if_pos hr]
        rfl
      · rw [if_neg (show ¬ (a ≥ (K.C.length : Int)) by omega), if_neg (show ¬ (a ≥ (K.S.length : Int)) by omega), if_neg hr]
        have hd : decide (a ≥ (K.T.length : Int)) = false := decide_eq_false (by omega)
        simp only [deckleref14_Apply.j0]
        rw [hd, if_neg (by simp)]
        by_cases k3 : kd = 3
        · rw [if_pos k3, if_pos k3, ref_put _ _ _ ha c1 _ (by omega)]
          rfl
        · have k4 : kd = 4 := by unfold MayRec at hm; omega
          have hb : b = 1 ∨ b = 2 := by unfold MayRec at hm; omega
          rw [if_neg k3, if_neg k3, if_pos k4, ref_put _ _ _ ha c1 _ (by omega)]
          simp only [Option.bind_some]
          rcases hb with rfl | rfl
          · have m := fine.sb _ (getD_mem (xs := K.S) (i := a.toNat) (by omega))
            rw [if_pos rfl, if_pos ha, if_pos (by omega), ref_put _ _ _ ha s1 _ (by omega), if_neg (by omega)]
            simp only [Option.bind_some, rd_nat]
            rw [show mn (wrap64 (K.S.getD a.toNat 0 + 1)) 16777215 = min (K.S.getD a.toNat 0 + 1) 16777215 by unfold mn wrap64; omega]
          · have m := fine.tb _ (getD_mem (xs := K.T) (i := a.toNat) (by omega))
            rw [if_neg (by omega), if_pos ha, if_pos (by omega), ref_put _ _ _ ha t1 _ (by omega), if_pos rfl]
            simp only [Option.bind_some, rd_nat]
            rw [show mn (wrap64 (K.T.getD a.toNat 0 + 1)) 16777215 = min (K.T.getD a.toNat 0 + 1) 16777215 by unfold mn wrap64; omega]
  · rw [if_neg (show ¬ (decide (MayRec kd a b) = true) by simpa using hm), if_pos hm]
end Go.Proofs.Ytiblpienmkjmgaa.StateA
