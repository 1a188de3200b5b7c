/- Package pmap: THERE AND BACK, the law. -/
import Derived.Test.YtiblpienmkjmgaaProg
import Derived.Below
import Derived.Carry
import Derived.Deep.Draws
import Derived.Deep.AppendLies
import Derived.Maps.AppendAt
import Derived.OwnWalk
import Derived.Laws.BytesArg
import Derived.Laws.MakeOwn
import Derived.Laws.OwnMore
import Derived.Deep.OwnRows
import Derived.Tactics
import Derived.Lib.ConvBytes
import Derived.Laws.Slices
import Derived.WalkKit
import Derived.KernelRfl
import Derived.RowKit3
import Derived.Deep.LoopGhost
import Derived.Deep.QuietTactic
import Derived.BigQuiet
import Derived.WideLaws
import Derived.Deep.DeepCutAuto
import Derived.Deep.CutBlock
import Derived.Deep.RegionHeld3
import Derived.Deep.RegionWith
import Derived.Laws.Rows
import Derived.Lib.AppendStr
import Derived.ArgAppend
import Derived.Laws.IdiomCopy
import Derived.OrdersHeld
import Derived.Laws.BitsLemmas
import Derived.Outline
import Derived.RegionTactic
import Derived.Lib.Hide
import Derived.StillTailTactics
import Derived.Deep.RegionWith
import Derived.OpenShut
import Derived.Test.YtiblpienmkjmgaaWWords
import Derived.Test.YtiblpienmkjmgaaPmapO
import Derived.Test.YtiblpienmkjmgaaPMx1
set_option linter.unusedVariables false
namespace Go.Proofs.Ytiblpienmkjmgaa.Pmap
open Go.RowKit Go.Proofs.YtiblpienmkjmgaaW.PrintWords Go.Proofs.Ytiblpienmkjmgaa.Mem Go.Proofs.Ytiblpienmkjmgaa.Own Go.Proofs.Ytiblpienmkjmgaa.Maps Go.Proofs.Ytiblpienmkjmgaa.PM

attribute [local go_sem high] eqA24
theorem cnt1_step (S : PS) (i : Nat) : cnt1 S (i + 1) = if (mget (i : Int) S.l1).isSome = true then cnt1 S i + 1 else cnt1 S i := rfl
set_option maxHeartbeats 8000000 in
set_option maxRecDepth 100000 in
theorem back_all (A : Option Addr) (cc : Nat) (l : List S46) (w : World) (hr : Kd.C k46 w A l.length l) (hcc : l.length ≤ cc) :
    Calls Try.prog 5 #[.slice A l.length cc] w fun e w' => e = .returned (.bool true) ∧ Below w.heap.size w w' := by
  have HO := Aside0.mk (Own.new w)
  have HR := Aside0.mk hr
  clear hr
  go_enter Try.func5, Try.ntmps5
  go_wp2_with fail
  refine (works_own HO.out).mono ?_
  rintro e w1 ⟨rfl, ho⟩
  have H1 := Aside0.mk ho
  clear ho HO
  go_wp2_with fail
  refine (played_own A cc l H1.out HR.out hcc).mono ?_
  rintro e w2 ⟨g, m1, m2, v, c, rfl, ho⟩
  obtain ⟨S, hS⟩ : ∃ S, S = playP G0 X0 (l.take 60) := ⟨_, rfl⟩
  rw [← hS] at ho
  have HI := Aside0.mk (show Inv G0 S from by rw [hS]; exact playP_inv _ (newP_inv G0 g0_ok))
  have H3 := Aside0.mk ho
  clear ho H1 hS
  have hfew := HI.out.few g0_ok
  go_wp2_with fail
  go_loopw [4, 25] (fun v4 v25 wr => ∃ (i : Nat), i ≤ 4 ∧ v25 = .int .i64 i ∧ v4 = .int .i64 (cnt1 S i) ∧ Aside0 (Own w wr (PMs G0 g m1 m2 v c G0.b.toNat S []))) (fun _ v25 _ => 4 - (intOf v25).toNat)
  case atStart => exact ⟨0, by omega, rfl, rfl, H3⟩
  case round =>
    clear H3
    obtain ⟨i, hi, rfl, rfl, HO⟩ := hrel
    by_cases hlt : i < 4
    · have dl : decide ((i : Int) < 4) = true := decide_eq_true (by omega)
      have hc1 := cnt1_le S i
      have hst := cnt1_step S i
      obtain ⟨z, hz⟩ : ∃ z, z = cnt1 S i := ⟨_, rfl⟩
      rw [← hz] at hc1 hst
      rw [← hz]
      clear hz
      go_wp2_with fail
      refine (atP (i : Int) HO.out).mono ?_
      rintro e w4 ⟨rfl, ho⟩
      clear HO
      cases hx : mget (i : Int) S.l1 with
      | none =>
        simp only [Option.getD_none, Option.isSome_none]
        rw [hx, if_neg (by simp)] at hst
        have HST := Lib.hid hst
        have HN := Aside0.mk (ho.alloc' (.cells #[.int .i64 0, .int .i64 0, .int .i64 0] 24))
        clear ho hx hst
        go_wp2_with fail
        go_roundw
        case rel => exact ⟨i + 1, by omega, by go_num, by rw [HST.out], HN⟩
        case measure => simp [intOf]; omega
      | some a =>
        simp only [Option.getD_some, Option.isSome_some]
        rw [hx, if_pos (by simp)] at hst
        have HST := Lib.hid hst
        obtain ⟨a0, a1, a2⟩ := a
        have hl2 := (HI.out.bij _ _).1 hx
        have HN := Aside0.mk (ho.alloc' (.cells #[.int .i64 a0, .int .i64 a1, .int .i64 a2] 24))
        clear ho hx hst
        go_wp2_with fail
        refine (lbaP (a0, a1, a2) HN.out).mono ?_
        rintro e w5 ⟨rfl, ho⟩
        rw [hl2]
        simp only [Option.getD_some, Option.isSome_some]
        clear HN
        have HN := Aside0.mk ho
        clear ho hl2
        go_wp2_with fail
        go_roundw
        case rel => exact ⟨i + 1, by omega, by go_num, by rw [HST.out]; go_num, HN⟩
        case measure => simp [intOf]; omega
    · obtain rfl : i = 4 := by omega
      have hc4 := cnt1_all HI.out
      rw [hc4]
      clear hc4
      go_wp2_with fail
      go_loopw [10, 51] (fun v10 v51 wr => ∃ (b : Nat), b ≤ 8 ∧ v51 = .int .i64 b ∧ v10 = .int .i64 (sumB S b) ∧ Aside0 (Own w wr (PMs G0 g m1 m2 v c G0.b.toNat S []))) (fun _ v51 _ => 8 - (intOf v51).toNat)
      case atStart => exact ⟨0, by omega, rfl, rfl, HO⟩
      case round =>
        clear HO
        obtain ⟨b, hb, rfl, rfl, HO⟩ := hrel
        by_cases hbt : b < 8
        · have db : decide ((b : Int) < 8) = true := decide_eq_true (by omega)
          obtain ⟨hp1, hp2⟩ := pages_len HI.out g0_ok b (show (b : Int) < 8 by omega)
          have hat := fun i h => pagesP_at (G := G0) (S := S) (b : Int) i h
          go_wp2_with fail
          refine (pages_own (b : Int) g0_ok HI.out HO.out).mono ?_
          rintro e w4 ⟨u, rfl, ho⟩
          obtain ⟨Q, hQ⟩ : ∃ Q, Q = pagesP G0 S b := ⟨_, rfl⟩
          rw [← hQ] at ho hp1 hp2 hat
          have HP2 := Lib.hid hp2
          have HAT := Aside0.mk hat
          have HP1 := Lib.hid hp1
          clear hp1 hp2 hat
          obtain ⟨AQ, cQ, nQ, rfl, hnQ, ho⟩ := crow_form ho
          have hnQ' : (Q.length : Int) ≤ nQ := by omega
          have HN := Aside0.mk (pms_under ho)
          clear ho HO hQ
          go_wp2_with fail
          refine (valid_own (n := G0.b.toNat) (b : Int) (HI.out.fine g0_ok).len HN.out).mono ?_
          rintro e w5 ⟨rfl, rfl⟩
          have hv : (if (0 : Int) ≤ (b : Int) ∧ (b : Int) < (G0.b.toNat : Int) then S.v.getD (b : Int).toNat 0 else 0) = (Q.length : Int) := HP1.out.symm
          rw [hv]
          have hQ64 : Q.length ≤ 4096 := by
            have h2 := List.countP_le_length (p := inB b) (l := S.l1)
            have h3 := HP2.out
            omega
          clear hv
          go_wp2_with fail
          go_loopw [65] (fun v65 wr => ∃ (j : Nat), j ≤ Q.length ∧ v65 = .int .i64 j ∧ Aside0 (Own w wr (PMs G0 g m1 m2 v c G0.b.toNat S [Ads (.slice AQ Q.length cQ) Q]))) (fun v65 _ => Q.length - (intOf v65).toNat)
          case atStart => exact ⟨0, by omega, rfl, HN⟩
          case round =>
            clear HN
            obtain ⟨j, hj, rfl, HN⟩ := hrel
            by_cases hjt : j < Q.length
            · have dj : decide ((j : Int) < (Q.length : Nat)) = true := decide_eq_true (by omega)
              obtain ⟨gq, rfl⟩ : ∃ gq, AQ = some ⟨gq, 0, none⟩ := by
                obtain ⟨S1, hs1, _, _⟩ := HN.out.drop.drop.drop.drop.head
                obtain ⟨gq, cap, hv, _⟩ := Kd.R_form hs1 (by omega)
                injection hv with h1
                exact ⟨gq, h1⟩
              obtain ⟨⟨q0, q1, q2⟩, _, _, _⟩ := ads_cell HN.out.drop.drop.drop.drop j hjt
              obtain ⟨y, z, k, hyz, hk⟩ := HAT.out j hjt
              rw [hyz] at q0 q1 q2
              dsimp only at q0 q1 q2
              have hk1 := (HI.out.bij _ _).2 hk
              have HL := Aside0.mk ((pms_under (HN.out.alloc (.cells #[.int .i64 b, .int .i64 y, .int .i64 z] 24))))
              obtain ⟨BP, hBP⟩ : ∃ BP, BP = wr.heap.size := ⟨_, rfl⟩
              rw [← hBP] at HL
              have HBP := Lib.hid hBP
              clear hyz hBP
              go_wp2_with fail
              rw [← HBP.out]
              refine (lbaP ((b : Int), y, z) HL.out).mono ?_
              rintro e x1 ⟨rfl, ho⟩
              rw [hk]
              simp only [Option.getD_some, Option.isSome_some]
              clear HN HL q0 q1 q2
              have HL := Aside0.mk ho
              clear ho
              go_wp2_with fail
              refine (atP k HL.out).mono ?_
              rintro e x2 ⟨rfl, ho⟩
              rw [hk1]
              simp only [Option.getD_some, Option.isSome_some]
              obtain ⟨r0, r1, r2⟩ := cells3 ho.drop.drop.drop.drop.pt
              have hltB := blk_lt ho.drop.drop.drop.drop.pt
              have HN := Aside0.mk ((pms_over ho).drop.alloc' (.cells #[.int .i64 b, .int .i64 y, .int .i64 z] 24))
              clear HL ho
              go_wp2_with fail
              go_roundw
              case rel => exact ⟨j + 1, by omega, by go_num, HN⟩
              case measure => simp [intOf]; omega
            · obtain rfl : j = Q.length := by omega
              have dj : decide ((Q.length : Int) < (Q.length : Nat)) = false := decide_eq_false (by omega)
              have hsl : sumB S b ≤ 100000 := by
                have h1 := sumB_is HI.out b
                have h2 := List.countP_le_length (p := fun x => decide (x.2.1 < (b : Int))) (l := S.l1)
                omega
              go_wp2_with fail
              go_roundw
              case rel =>
                have hrel : Value.int .i64 ((sumB S b : Int) + (Q.length : Int)) = .int .i64 ((sumB S (b + 1) : Nat) : Int) := by show _ = Value.int .i64 ((sumB S b + S.l1.countP (inB b) : Nat) : Int); rw [← HP2.out]; go_num
                repeat apply Exists.intro
                refine ⟨⟨b + 1, ?_, ?_, ?_, ?_⟩, rfl⟩
                · omega
                · go_num
                · exact hrel
                · exact ⟨(own_swap [_, _, _, _] [_] HN.out).drop⟩
              case measure => simp [intOf]; omega
        · obtain rfl : b = 8 := by omega
          have hs8 : sumB S 8 = S.l1.length := sumB_all HI.out
          rw [hs8]
          clear hs8
          go_wp2_with fail
          refine (totalP HO.out).mono ?_
          rintro e w5 ⟨rfl, rfl⟩
          go_wp2_with fail
          go_ret
          exact ⟨rfl, HO.out.below⟩
def decklelaw19_PmapBack.f (_l0 : List S46) : Option Bool := some true
theorem decklelaw19_PmapBack.calls (A0 : Option Addr) (c0 : Nat) (l0 : List S46) (r : Bool) (w : World) (hr0 : Kd.C k46 w A0 l0.length l0) (hc0 : l0.length ≤ c0) (h : decklelaw19_PmapBack.f l0 = some r) :
    Calls Try.prog 5 #[.slice A0 l0.length c0] w fun e w' => e = .returned (.bool r) ∧ Below w.heap.size w w' := by
  obtain rfl : true = r := Option.some.inj h
  exact back_all A0 c0 l0 w hr0 hc0
end Go.Proofs.Ytiblpienmkjmgaa.Pmap
