/- The keeper's All, and the marks over a list. -/
import Derived.Test.YtiblpienmkjmgaaProg
import Derived.Below
import Derived.Deep.Draws
import Derived.Deep.AppendLies
import Derived.Maps.AppendAt
import Derived.OwnWalk
import Derived.Laws.BytesArg
import Derived.Laws.MakeOwn
import Derived.Laws.OwnMore
import Derived.Deep.OwnRows
import Derived.Tactics
import Derived.Lib.ConvBytes
import Derived.Laws.Slices
import Derived.WalkKit
import Derived.KernelRfl
import Derived.RowKit3
import Derived.Deep.LoopGhost
import Derived.Deep.QuietTactic
import Derived.BigQuiet
import Derived.WideLaws
import Derived.Deep.DeepCutAuto
import Derived.Deep.CutBlock
import Derived.Deep.RegionHeld3
import Derived.Deep.RegionWith
import Derived.Laws.Rows
import Derived.Lib.AppendStr
import Derived.ArgAppend
import Derived.Laws.IdiomCopy
import Derived.OrdersHeld
import Derived.Laws.BitsLemmas
import Derived.Outline
import Derived.RegionTactic
import Derived.Lib.Hide
import Derived.StillTailTactics
import Derived.Deep.RegionWith
import Derived.OpenShut
import Derived.Test.YtiblpienmkjmgaaWWords
import Derived.Test.YtiblpienmkjmgaaStateP
set_option linter.unusedVariables false
namespace Go.Proofs.Ytiblpienmkjmgaa.StateA
open Go.RowKit Go.Proofs.YtiblpienmkjmgaaW.PrintWords Go.Proofs.Ytiblpienmkjmgaa.Mem Go.Proofs.Ytiblpienmkjmgaa.PS Go.Proofs.Ytiblpienmkjmgaa.Own

set_option maxHeartbeats 4000000 in
set_option maxRecDepth 100000 in
theorem keepAll_own {w0 w : World} {L : List Asn} {K0 : Kp} {g : Loc} (A0 : Option Addr) (c0 : Nat) (l0 : List S73) (HO : Own w0 w (Keep g K0 :: L)) (fine : K0.Fine)
    (hr0 : Kd.C k73 w0 A0 l0.length l0) :
    Calls Try.prog 44 #[.pointer (some ⟨g.g, 0, none⟩), .slice A0 l0.length c0] w fun e w' => e = .returned (.int .i64 (allK K0 l0).2) ∧ Own w0 w' (Keep g (allK K0 l0).1 :: L) := by
  have HR0 := Aside0.mk hr0
  have HF := Aside0.mk fine
  have HO := Aside0.mk HO
  have hn := Kd.C_max hr0
  clear hr0 fine
  go_enter Try.func44, Try.ntmps44
  go_wp2_with fail
  go_loopw [10] (fun v6 wr => ∃ (i : Nat) (K : Kp), i ≤ l0.length ∧ v6 = .int .i64 i ∧ Aside0 (allK K0 l0 = allK K (l0.drop i) ∧ K.Fine) ∧ Aside0 (Own w0 wr (Keep g K :: L))) (fun v6 _ => l0.length - (intOf v6).toNat)
  case atStart => exact ⟨0, K0, Nat.zero_le _, rfl, ⟨rfl, HF.out⟩, HO⟩
  case round =>
    clear HO
    obtain ⟨i, K, hi, rfl, HK, HO⟩ := hrel
    by_cases hlt : i < l0.length
    · have dl : decide ((i : Int) < (l0.length : Nat)) = true := decide_eq_true (by omega)
      obtain ⟨ad, rfl, q0, q1, q2⟩ := at_T73 (Kd.C_below HR0.out HO.out.below) (i : Int) (by omega) (by omega)
      rw [Int.toNat_natCast] at q0 q1 q2
      obtain ⟨⟨k, a, b⟩, hR⟩ : ∃ R, R = rd_T73 l0 i := ⟨_, rfl⟩
      rw [← hR] at q0 q1 q2
      dsimp only at q0 q1 q2
      have HD := Lib.hid (drop_rd l0 i hlt)
      have HRR := Lib.hid hR
      clear hR
      have hap : ∃ K' c, applyK K k a b = (K', c) := ⟨_, _, rfl⟩
      obtain ⟨K', c, hap⟩ := hap
      have HAP := Lib.hid hap
      clear hap
      go_wp2_with fail
      refine (apply_own c k a b (HO.out.alloc' _) HAP.out HK.out.2).mono ?_
      rintro e v5 ⟨rfl, ho⟩
      have HN := Aside0.mk ho
      clear ho HO
      by_cases hc : c = 0
      · subst hc
        go_wp2_with fail
        go_roundw
        case rel => exact ⟨i + 1, K', by omega, by go_num, ⟨by rw [HK.out.1, HD.out, ← HRR.out]; exact allK_one HAP.out, by have := (apply_fine K k a b HK.out.2).1; rw [HAP.out] at this; exact this⟩, HN⟩
        case measure => simp [intOf]; omega
      · have hcb : (c != 0) = true := by simpa using hc
        have HC := Lib.hid hc
        clear hc
        go_wp2_with fail
        go_ret
        have ha : allK K0 l0 = (K, c) := by rw [HK.out.1, HD.out, ← HRR.out]; exact allK_stop HAP.out HC.out
        have hk : K' = K := by have := apply_no K k a b (by rw [HAP.out]; exact HC.out); rw [HAP.out] at this; exact this
        rw [ha]
        rw [hk] at HN
        exact ⟨rfl, HN.out⟩
    · obtain rfl : i = l0.length := by omega
      clear hlt
      go_wp2_with fail
      go_ret
      have ha : allK K0 l0 = (K, 0) := by rw [HK.out.1, List.drop_of_length_le (Nat.le_refl _)]; rfl
      rw [ha]
      exact ⟨rfl, HO.out⟩
set_option maxHeartbeats 4000000 in
/-- A row marked all over: of no use any more. -/
theorem spoil_own {w0 w : World} {L : List Asn} (b c : Nat) (xs : List Int) (hx : xs.length ≤ 1000000) (HO : Own w0 w (J (some ⟨b, 0, none⟩) c xs :: L)) :
    Calls Try.prog 42 #[.slice (some ⟨b, 0, none⟩) xs.length c] w fun e w' => e = .returned (.tuple #[]) ∧ Own w0 w' L := by
  have HO := Aside0.mk HO
  go_enter Try.func42, Try.ntmps42
  go_wp2_with fail
  go_loopw [5] (fun v5 wr => ∃ (i : Nat) (ys : List Int), i ≤ xs.length ∧ v5 = .int .i64 i ∧ ys.length = xs.length ∧ Aside0 (Own w0 wr (I (.slice (some ⟨b, 0, none⟩) xs.length c) ys :: L))) (fun v5 _ => xs.length - (intOf v5).toNat)
  case atStart => exact ⟨0, xs, Nat.zero_le _, rfl, rfl, HO⟩
  case round =>
    clear HO
    obtain ⟨i, ys, hi, rfl, hl, HO⟩ := hrel
    by_cases hlt : i < xs.length
    · have dl : decide ((i : Int) < (xs.length : Nat)) = true := decide_eq_true (by omega)
      have HL := Lib.hid hl
      obtain ⟨z0, z1, hcap⟩ := HO.out.cell hl i hlt
      obtain ⟨z, hz⟩ : ∃ z, z = ys.getD i 0 := ⟨_, rfl⟩
      rw [← hz] at z0
      have HN := Aside0.mk (HO.out.put hl i 1099511627776)
      clear hl hz HO
      go_wp2_with fail
      go_roundw
      case rel => exact ⟨i + 1, _, by omega, by go_num, by rw [List.length_set]; exact HL.out, HN⟩
      case measure => simp [intOf]; omega
    · obtain rfl : i = xs.length := by omega
      clear hlt
      go_wp2_with fail
      go_end0
      exact ⟨rfl, HO.out.drop⟩
end Go.Proofs.Ytiblpienmkjmgaa.StateA
