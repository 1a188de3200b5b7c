/- The law's proof: words, contracts of the functions that it reaches, plain lemmas. -/
import Derived.ArgAppend
import Derived.Below
import Derived.BigQuiet
import Derived.Carry
import Derived.Deep.AppendLies
import Derived.Deep.CutBlock
import Derived.Deep.DeepCutAuto
import Derived.Deep.Draws
import Derived.Deep.LoopGhost
import Derived.Deep.OwnRows
import Derived.Deep.QuietTactic
import Derived.Deep.RegionHeld3
import Derived.Deep.RegionWith
import Derived.KernelRfl
import Derived.Laws.BitsLemmas
import Derived.Laws.BytesArg
import Derived.Laws.IdiomCopy
import Derived.Laws.MakeOwn
import Derived.Laws.OwnMore
import Derived.Laws.Rows
import Derived.Laws.Slices
import Derived.Lib.AppendStr
import Derived.Lib.BufferMore
import Derived.Lib.ConvBytes
import Derived.Lib.Hide
import Derived.Lib.LazyBuf
import Derived.Maps.AppendAt
import Derived.OpenShut
import Derived.OrdersHeld
import Derived.Outline
import Derived.OwnWalk
import Derived.OwnWalkIn
import Derived.RegionTactic
import Derived.RowKit3
import Derived.StillTailTactics
import Derived.Tactics
import Derived.WalkKit
import Derived.WideLaws
import Derived.Test.YteofihmeiikhbaaDoorSb10
import Derived.Test.YteofihmeiikhbaaDoorSb6
import Derived.Test.YteofihmeiikhbaaDoorSb1
import Derived.Test.YteofihmeiikhbaaDoorSb0
section
/- strings.Trim by one byte, as the walks meet it. -/
set_option linter.unusedVariables false
set_option linter.unusedSimpArgs false
namespace Go.Proofs.YteofihmeiikhbaaDoor.PG
open Go.RowKit Go.Proofs.YteofihmeiikhbaaDoor.Tf Go.Proofs.YteofihmeiikhbaaDoorW.PrintWords Go.Proofs.YteofihmeiikhbaaDoorW.PrintLast Go.Proofs.YteofihmeiikhbaaDoor.Mem Go.Proofs.YteofihmeiikhbaaDoor.Own

/-- All bytes are noughts. -/
def allZ (s : ByteArray) : Prop := ∀ i : Nat, i < s.size → bt s i = 0
theorem bt_ext (s : ByteArray) (a b i : Nat) (hb : b ≤ s.size) (hi : a + i < b) : bt (s.extract a b) i = bt s ((a + i : Nat) : Int) := by
  have hz : (s.extract a b).size = b - a := by rw [ByteArray.size_extract]; omega
  unfold bt
  rw [dif_pos (by rw [Int.toNat_natCast, hz]; omega), dif_pos (by rw [Int.toNat_natCast]; omega)]
  congr 1
  simp only [Int.toNat_natCast]
  rw [ByteArray.getElem_extract]
theorem allZ_nil {s : ByteArray} (h : s.size = 0) : allZ s := fun i hi => by omega
/-- The noughts at the end struck: what is left is nothing just where all were noughts. -/
theorem right_is : ∀ (n : Nat) (s : ByteArray) (k : Nat), s.size = n → n ≤ 1000000 → ∃ t, strings_trimRightByte.l0 (n + 1 + k) s 0 = some t ∧ t.size ≤ n ∧ (allZ t ↔ allZ s) ∧ (t.size = 0 ∨ bt t ((t.size - 1 : Nat) : Int) ≠ 0)
  | 0, s, k, h, _ => ⟨s, by rw [show 0 + 1 + k = k + 1 by omega, strings_trimRightByte.l0, if_neg (by omega)], by omega, Iff.rfl, .inl h⟩
  | n + 1, s, k, h, hn => by
    have e1 : wrap64 ((s.size : Int) - 1) = (n : Int) := by unfold wrap64; omega
    rw [show n + 1 + 1 + k = (n + 1 + k) + 1 by omega, strings_trimRightByte.l0, if_pos (by omega), e1, if_pos (by omega), if_pos (by omega)]
    by_cases hb : bt s (n : Int) = 0
    · have hz : (s.extract 0 n).size = n := by rw [ByteArray.size_extract]; omega
      obtain ⟨t, h1, h2, h3, h4⟩ := right_is n (s.extract 0 n) k hz (by omega)
      refine ⟨t, by rw [if_pos hb, if_pos (by omega), Int.toNat_natCast]; exact h1, by omega, h3.trans ⟨fun q i hi => ?_, fun q i hi => ?_⟩, h4⟩
      · by_cases e : i = n
        · rw [e]; exact hb
        · have := q i (by omega)
          rw [bt_ext s 0 n i (by omega) (by omega), Nat.zero_add] at this
          exact this
      · rw [bt_ext s 0 n i (by omega) (by omega), Nat.zero_add]
        exact q i (by omega)
    · exact ⟨s, by rw [if_neg hb], by omega, Iff.rfl, .inr (by rw [h]; exact hb)⟩
theorem left_is : ∀ (n : Nat) (s : ByteArray) (k : Nat), s.size = n → n ≤ 1000000 → (s.size = 0 ∨ bt s ((s.size - 1 : Nat) : Int) ≠ 0) → ∃ t, strings_trimLeftByte.l0 (n + 1 + k) s 0 = some t ∧ (t.size = 0 ↔ s.size = 0)
  | 0, s, k, h, _, _ => ⟨s, by rw [show 0 + 1 + k = k + 1 by omega, strings_trimLeftByte.l0, if_neg (by omega)], Iff.rfl⟩
  | n + 1, s, k, h, hn, hl => by
    rw [show n + 1 + 1 + k = (n + 1 + k) + 1 by omega, strings_trimLeftByte.l0, if_pos (by omega), if_pos (by omega)]
    by_cases hb : bt s 0 = 0
    · have hz : (s.extract 1 s.size).size = n := by rw [ByteArray.size_extract]; omega
      have hl' : bt s ((s.size - 1 : Nat) : Int) ≠ 0 := by rcases hl with q | q; omega; exact q
      have hn0 : n ≠ 0 := fun e => hl' (by rw [show s.size - 1 = 0 by omega]; exact hb)
      obtain ⟨t, h1, h2⟩ := left_is n (s.extract 1 s.size) k hz (by omega) (.inr (by
        rw [hz, bt_ext s 1 s.size (n - 1) (Nat.le_refl _) (by omega), show 1 + (n - 1) = s.size - 1 by omega]
        exact hl'))
      exact ⟨t, by rw [if_pos hb, if_pos (by omega)]; exact h1, h2.trans (by omega)⟩
    · exact ⟨s, by rw [if_neg hb], Iff.rfl⟩
def zb : ByteArray := ⟨#[0]⟩
set_option maxHeartbeats 4000000 in
set_option maxRecDepth 100000 in
theorem trim_calls (s : ByteArray) (w : World) (hs : s.size ≤ 1000000) :
    Calls Tryd.prog 47 #[.string s, .string zb] w fun e w' => (∃ t : ByteArray, e = .returned (.string t) ∧ (t.size = 0 ↔ allZ s)) ∧ Below w.heap.size w w' := by
  by_cases h0 : s.size = 0
  · have he : s.toList.isEmpty = true := by
      rw [ByteArray.toList_eq, List.isEmpty_iff, ← List.length_eq_zero_iff]
      exact h0
    have hq : ∃ t : ByteArray, t = s := ⟨_, rfl⟩
    go_enter Tryd.func47, Tryd.ntmps47
    go_wp2_with fail
    go_ret
    exact ⟨⟨s, rfl, ⟨fun _ => allZ_nil h0, fun _ => h0⟩⟩, Below.refl _ _⟩
  · have he : s.toList.isEmpty = false := by
      rw [ByteArray.toList_eq]
      cases hx : s.data.toList with
      | nil => exact absurd (by show s.data.size = 0; rw [← Array.length_toList, hx]; rfl) h0
      | cons a l => rfl
    obtain ⟨t, r1, r2, r3, r4⟩ := right_is s.size s 0 rfl hs
    obtain ⟨u, l1, l2⟩ := left_is t.size t 0 rfl (by omega) r4
    have HR := Aside0.mk r1
    have HL := Aside0.mk l1
    have hu : u.size = 0 ↔ allZ s := l2.trans ⟨fun q => r3.1 (allZ_nil q), fun q => by
      rcases r4 with z | z
      · exact z
      · by_cases hz : t.size = 0
        · exact hz
        · exact absurd (r3.2 q _ (by omega)) z⟩
    have HU := Aside0.mk hu
    clear r1 l1 r2 r3 r4 l2 hu
    have z1 : zb.toList.isEmpty = false := by rw [ByteArray.toList_eq]; rfl
    have z2 : zb.size = 1 := rfl
    have z3 : decide (((zb[0]'(by decide)).toNat : Int) < 128) = true := rfl
    go_enter Tryd.func47, Tryd.ntmps47
    go_upto_region 4 with (fail)
    refine start_ (n := 8) (S := fun w' => True) (ds := []) (tfA 0 8) (by kernel_rfl) rfl rfl trivial (fun hHeld => ?_)
    refine pure_ (i := 0) (N := some 22) (v := ?_) (a' := ?_) (tfA 1 8) rfl rfl (by kernel_rfl) (fun _ _ _ h => h) (Or.inl ⟨by rfl, ?_⟩) ?_ ?_
    rotate_left
    · intro w'
      go_simp
      with_reducible rfl
    rotate_left
    · simp only [Act.put, List.setIfInBounds_toArray, List.set_cons_zero, List.set_cons_succ, i64_w, i32_w]
      rfl
    refine pure_ (i := 1) (N := some 23) (v := ?_) (a' := ?_) (tfA 2 8) rfl rfl (by kernel_rfl) (fun _ _ _ h => h) (Or.inl ⟨by rfl, ?_⟩) ?_ ?_
    rotate_left
    · intro w'
      go_simp
      with_reducible rfl
    rotate_left
    · simp only [Act.put, List.setIfInBounds_toArray, List.set_cons_zero, List.set_cons_succ, i64_w, i32_w]
      rfl
    refine pure_ (i := 4) (N := some 26) (v := ?_) (a' := ?_) #[true, true, false, false, true, false, false, false] rfl rfl (by kernel_rfl) (fun _ _ _ h => h) (Or.inl ⟨by rfl, ?_⟩) ?_ ?_
    rotate_left
    · intro w'
      go_simp
      with_reducible rfl
    rotate_left
    · simp only [Act.put, List.setIfInBounds_toArray, List.set_cons_zero, List.set_cons_succ, i64_w, i32_w]
      rfl
    refine take_ (i := 2) (N := some 24) (v := ?_) (a' := ?_) #[true, true, true, false, true, false, false, false] rfl rfl (by kernel_rfl) (fun _ _ _ h => h) (Or.inl ⟨by rfl, ?_⟩) hHeld ?_ ?_
    rotate_left
    · intro w' _
      go_simp
      with_reducible rfl
    rotate_left
    · simp only [Act.put, List.setIfInBounds_toArray, List.set_cons_zero, List.set_cons_succ, i64_w, i32_w]
      rfl
    refine take_ (i := 5) (N := some 27) (v := ?_) (a' := ?_) #[true, true, true, false, true, true, false, false] rfl rfl (by kernel_rfl) (fun _ _ _ h => h) (Or.inl ⟨by rfl, ?_⟩) hHeld ?_ ?_
    rotate_left
    · intro w' _
      go_simp
      with_reducible rfl
    rotate_left
    · simp only [Act.put, List.setIfInBounds_toArray, List.set_cons_zero, List.set_cons_succ, i64_w, i32_w]
      rfl
    refine one_ (i := 3) (N := some 25) (tfA 6 8) rfl rfl (by kernel_rfl) (by decide) (fun K hK => ?_)
    refine goes_ Tryd.func55 (by kernel_rfl) rfl #[.string s, .int .u8 0] (by rfl) rfl rfl (by simp only [List.map_toArray, List.map_cons, List.map_nil]; rfl) ?_
    refine (strings_trimRightByte.calls _ s 0 t _ HR.out).mono ?_
    rintro e w1 ⟨rfl, hb1⟩
    refine ⟨_, rfl, ?_⟩
    refine hK.out _ _ trivial (fun hHeld => ?_)
    clear hK K
    refine norm_ (a' := ?_) ?_ ?_
    rotate_left
    · show Act.put _ (some 25) _ = _
      simp only [Act.put, List.setIfInBounds_toArray, List.set_cons_zero, List.set_cons_succ, i64_w, i32_w]
      rfl
    refine one_ (i := 6) (N := some 28) (tfA 7 8) rfl rfl (by kernel_rfl) (by decide) (fun K hK => ?_)
    refine goes_ Tryd.func54 (by kernel_rfl) rfl #[.string t, .int .u8 0] (by rfl) rfl rfl (by simp only [List.map_toArray, List.map_cons, List.map_nil]; rfl) ?_
    refine (strings_trimLeftByte.calls _ t 0 u _ HL.out).mono ?_
    rintro e w2 ⟨rfl, hb2⟩
    refine ⟨_, rfl, ?_⟩
    refine hK.out _ _ trivial (fun hHeld => ?_)
    clear hK K
    refine norm_ (a' := ?_) ?_ ?_
    rotate_left
    · show Act.put _ (some 28) _ = _
      simp only [Act.put, List.setIfInBounds_toArray, List.set_cons_zero, List.set_cons_succ, i64_w, i32_w]
      rfl
    refine pure_ (i := 7) (N := some 4) (v := ?_) (a' := ?_) (tfA 8 8) rfl rfl (by kernel_rfl) (fun _ _ _ h => h) (Or.inl ⟨by rfl, ?_⟩) ?_ ?_
    rotate_left
    · intro w'
      go_simp
      with_reducible rfl
    rotate_left
    · simp only [Act.put, List.setIfInBounds_toArray, List.set_cons_zero, List.set_cons_succ, i64_w, i32_w]
      rfl
    refine done_ (by kernel_rfl) ?_
    go_wp2_with fail
    go_ret
    exact ⟨⟨u, rfl, HU.out⟩, (((Own.new w).drew.move hb1.below).move hb2.below).below⟩
end Go.Proofs.YteofihmeiikhbaaDoor.PG
end
