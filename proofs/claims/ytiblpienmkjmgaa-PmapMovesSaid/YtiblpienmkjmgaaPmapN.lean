/- Package pmap: MOVED, the law. -/
import Derived.Test.YtiblpienmkjmgaaProg
import Derived.Below
import Derived.Carry
import Derived.Deep.Draws
import Derived.Deep.AppendLies
import Derived.Maps.AppendAt
import Derived.OwnWalk
import Derived.Laws.BytesArg
import Derived.Laws.MakeOwn
import Derived.Laws.OwnMore
import Derived.Deep.OwnRows
import Derived.Tactics
import Derived.Lib.ConvBytes
import Derived.Laws.Slices
import Derived.WalkKit
import Derived.KernelRfl
import Derived.RowKit3
import Derived.Deep.LoopGhost
import Derived.Deep.QuietTactic
import Derived.BigQuiet
import Derived.WideLaws
import Derived.Deep.DeepCutAuto
import Derived.Deep.CutBlock
import Derived.Deep.RegionHeld3
import Derived.Deep.RegionWith
import Derived.Laws.Rows
import Derived.Lib.AppendStr
import Derived.ArgAppend
import Derived.Laws.IdiomCopy
import Derived.OrdersHeld
import Derived.Laws.BitsLemmas
import Derived.Outline
import Derived.RegionTactic
import Derived.Lib.Hide
import Derived.StillTailTactics
import Derived.Deep.RegionWith
import Derived.OpenShut
import Derived.Test.YtiblpienmkjmgaaWWords
import Derived.Test.YtiblpienmkjmgaaPmapM
import Derived.Test.YtiblpienmkjmgaaPMx1
set_option linter.unusedVariables false
namespace Go.Proofs.Ytiblpienmkjmgaa.Pmap
open Go.RowKit Go.Proofs.YtiblpienmkjmgaaW.PrintWords Go.Proofs.Ytiblpienmkjmgaa.Mem Go.Proofs.Ytiblpienmkjmgaa.Own Go.Proofs.Ytiblpienmkjmgaa.Maps Go.Proofs.Ytiblpienmkjmgaa.PM

attribute [local go_sem high] eqA24
theorem getD_tri (o : Option Tri) : ∃ a0 a1 a2 : Int, o.getD (0, 0, 0) = (a0, a1, a2) := ⟨_, _, _, rfl⟩
set_option maxHeartbeats 8000000 in
set_option maxRecDepth 100000 in
theorem moves_all (A : Option Addr) (cc : Nat) (l : List S46) (t0 t1 t2 : Int) (w : World) (hr : Kd.C k46 w A l.length l) (hcc : l.length ≤ cc) :
    Calls Try.prog 3 #[.slice A l.length cc, .agg #[.int .i64 t0, .int .i64 t1, .int .i64 t2]] w fun e w' => e = .returned (.bool true) ∧ Below w.heap.size w w' := by
  have HO := Aside0.mk ((Own.new w).alloc (.cells #[.int .i64 t0, .int .i64 t1, .int .i64 t2] 24))
  have HR := Aside0.mk hr
  obtain ⟨BT, hBT⟩ : ∃ BT, BT = w.heap.size := ⟨_, rfl⟩
  have HBT := Lib.hid hBT
  rw [← hBT] at HO
  clear hr hBT
  go_enter Try.func3, Try.ntmps3
  go_wp2_with fail
  rw [← HBT.out]
  refine (works_own HO.out).mono ?_
  rintro e w1 ⟨rfl, ho⟩
  have H1 := Aside0.mk ho
  clear ho HO
  go_wp2_with fail
  refine (played_own A cc l H1.out HR.out hcc).mono ?_
  rintro e w2 ⟨g, m1, m2, v, c, rfl, ho⟩
  have H2 := Aside0.mk ho
  clear ho H1
  go_wp2_with fail
  refine (played_own A cc l H2.out HR.out hcc).mono ?_
  rintro e w3 ⟨g', m1', m2', v', c', rfl, ho⟩
  obtain ⟨S, hS⟩ : ∃ S, S = playP G0 X0 (l.take 60) := ⟨_, rfl⟩
  rw [← hS] at ho
  have HI := Aside0.mk (show Inv G0 S from by rw [hS]; exact playP_inv _ (newP_inv G0 g0_ok))
  have H3 := Aside0.mk (pms_swap ho)
  clear ho H2 hS
  go_wp2_with fail
  go_loopw [30] (fun v30 wr => ∃ (i : Nat) (S' : PS), i ≤ 4 ∧ v30 = .int .i64 i ∧ Aside0 (SameP G0 S' S) ∧ Aside0 (Own w wr (PMs G0 g m1 m2 v c G0.b.toNat S' (PMs G0 g' m1' m2' v' c' G0.b.toNat S [Pt BT (.cells #[.int .i64 t0, .int .i64 t1, .int .i64 t2] 24 (0, 0))])))) (fun v30 _ => 4 - (intOf v30).toNat)
  case atStart => exact ⟨0, S, by omega, rfl, ⟨HI.out, fun _ => rfl, rfl⟩, H3⟩
  case round =>
    clear H3
    obtain ⟨i, S', hi, rfl, HS, HO⟩ := hrel
    by_cases hlt : i < 4
    · have dl : decide ((i : Int) < 4) = true := decide_eq_true (by omega)
      go_wp2_with fail
      refine (atP (i : Int) HO.out).mono ?_
      rintro e w4 ⟨rfl, ho⟩
      cases hx : mget (i : Int) S'.l1 with
      | none =>
        simp only [Option.getD_none, Option.isSome_none]
        have HN := Aside0.mk (ho.alloc' (.cells #[.int .i64 0, .int .i64 0, .int .i64 0] 24))
        clear ho hx HO
        go_wp2_with fail
        go_roundw
        case rel => exact ⟨i + 1, S', by omega, by go_num, HS, HN⟩
        case measure => simp [intOf]; omega
      | some a =>
        simp only [Option.getD_some, Option.isSome_some]
        obtain ⟨a0, a1, a2⟩ := a
        obtain ⟨BA, hBA⟩ : ∃ BA, BA = w4.heap.size := ⟨_, rfl⟩
        have ha := ho.alloc (.cells #[.int .i64 a0, .int .i64 a1, .int .i64 a2] 24)
        rw [← hBA] at ha
        have HBA := Lib.hid hBA
        have HA := Aside0.mk (pms_under ha)
        obtain ⟨p0, p1, p2⟩ := cells3 (own_swap [_, _, _, _] [_, _, _, _] HA.out |> fun _ => HA.out.drop.drop.drop.drop.drop.drop.drop.drop.drop.pt)
        obtain ⟨q0, q1, q2⟩ := cells3 HA.out.drop.drop.drop.drop.pt
        have hxx := Lib.hid hx
        clear ho hx HO ha hBA
        go_wp2_with fail
        rw [← HBA.out]
        have hm := move_law HS.out.inv hxx.out (t0, t1, t2)
        refine (lbaP (t0, t1, t2) HA.out).mono ?_
        rintro e w5 ⟨rfl, ho⟩
        clear p0 p1 p2 q0 q1 q2 HA
        rcases hm with ⟨he, hn⟩ | ⟨T, U, he, hi1, he2, hsm, hf | ⟨hn, hab⟩⟩ | ⟨o, he, hn, hne⟩
        · rw [hn]
          simp only [Option.getD_none, Option.isSome_none]
          have HA1 := Aside0.mk ho
          clear ho
          obtain ⟨p0, p1, p2⟩ := cells3 HA1.out.drop.drop.drop.drop.drop.drop.drop.drop.drop.pt
          obtain ⟨q0, q1, q2⟩ := cells3 HA1.out.drop.drop.drop.drop.pt
          go_wp2_with fail
          have hmv := move_any (a0, a1, a2) (t0, t1, t2) g0_ok HS.out.inv HA1.out
          rw [he] at hmv
          refine hmv.mono ?_
          clear hmv p0 p1 p2 q0 q1 q2
          rintro e w6 ⟨rfl, ho⟩
          have HA2 := Aside0.mk ho
          clear ho
          obtain ⟨p0, p1, p2⟩ := cells3 HA2.out.drop.drop.drop.drop.drop.drop.drop.drop.drop.pt
          obtain ⟨q0, q1, q2⟩ := cells3 HA2.out.drop.drop.drop.drop.pt
          go_wp2_with fail
          have HN := Aside0.mk (pms_over HA2.out).drop
          have HS2 := HS
          obtain ⟨S2, hS2⟩ : ∃ S2, S2 = S' := ⟨_, rfl⟩
          rw [← hS2] at HN HS2
          clear hS2
          try clear HA2
          try clear p0 p1 p2 q0 q1 q2
          obtain ⟨wo, rfl⟩ : ∃ wo : World, wo = w6 := ⟨_, rfl⟩
          go_loopw [72] (fun v72 wr => ∃ (j : Nat), j ≤ 4 ∧ v72 = .int .i64 j ∧ Aside0 (Own w wr (PMs G0 g m1 m2 v c G0.b.toNat S2 (PMs G0 g' m1' m2' v' c' G0.b.toNat S [Pt BT (.cells #[.int .i64 t0, .int .i64 t1, .int .i64 t2] 24 (0, 0))])))) (fun v72 _ => 4 - (intOf v72).toNat)
          case atStart => exact ⟨0, by omega, rfl, HN⟩
          case round =>
            clear HN
            obtain ⟨j, hj, rfl, HN⟩ := hrel
            by_cases hjt : j < 4
            · have dj : decide ((j : Int) < 4) = true := decide_eq_true (by omega)
              go_wp2_with fail
              refine (atP (j : Int) HN.out).mono ?_
              rintro e x1 ⟨rfl, ho⟩
              rw [HS2.out.get j]
              obtain ⟨b0, b1, b2, hb'⟩ := getD_tri (mget (j : Int) S.l1)
              obtain ⟨bb, hbb⟩ : ∃ bb, bb = (mget (j : Int) S.l1).isSome := ⟨_, rfl⟩
              rw [hb', ← hbb]
              have HB := Lib.hid hb'
              have HBB := Lib.hid hbb
              clear HN hb' hbb
              obtain ⟨P1, hP1⟩ : ∃ P1, P1 = x1.heap.size := ⟨_, rfl⟩
              have hz := (pms_under (ho.alloc (.cells #[.int .i64 b0, .int .i64 b1, .int .i64 b2] 24)))
              rw [← hP1] at hz
              have HP1 := Lib.hid hP1
              have HN := Aside0.mk hz
              clear ho hz hP1
              go_wp2_with fail
              rw [← HP1.out]
              refine (atP (j : Int) (own_swap [_, _, _, _, _] [_, _, _, _] HN.out)).mono ?_
              rintro e x2 ⟨rfl, ho⟩
              rw [HB.out, ← HBB.out]
              have hz := ho.alloc (.cells #[.int .i64 b0, .int .i64 b1, .int .i64 b2] 24)
              obtain ⟨z0, z1, z2⟩ := cells3 hz.drop.drop.drop.drop.drop.drop.drop.drop.drop.pt
              have HN2 := Aside0.mk (pms_swap (own_swap [_, _, _, _, _, _, _, _] [_] hz.drop).drop)
              clear ho hz HN
              go_wp2_with fail
              go_roundw
              case rel => exact ⟨j + 1, by omega, by go_num, HN2⟩
              case measure => simp [intOf]; omega
            · obtain rfl : j = 4 := by omega
              go_wp2_with fail
              go_roundw
              case rel => exact ⟨i + 1, S2, by omega, by go_num, HS2, HN⟩
              case measure => simp [intOf]; omega
        · rw [hf]
          simp only [Option.getD_none, Option.isSome_none]
          have HA1 := Aside0.mk ho
          clear ho
          obtain ⟨p0, p1, p2⟩ := cells3 HA1.out.drop.drop.drop.drop.drop.drop.drop.drop.drop.pt
          obtain ⟨q0, q1, q2⟩ := cells3 HA1.out.drop.drop.drop.drop.pt
          go_wp2_with fail
          have hmv := move_any (a0, a1, a2) (t0, t1, t2) g0_ok HS.out.inv HA1.out
          rw [he] at hmv
          refine hmv.mono ?_
          clear hmv p0 p1 p2 q0 q1 q2
          rintro e w6 ⟨rfl, ho⟩
          have HA2 := Aside0.mk ho
          clear ho
          obtain ⟨p0, p1, p2⟩ := cells3 HA2.out.drop.drop.drop.drop.drop.drop.drop.drop.drop.pt
          obtain ⟨q0, q1, q2⟩ := cells3 HA2.out.drop.drop.drop.drop.pt
          go_wp2_with fail
          have hmv := move_any (t0, t1, t2) (a0, a1, a2) g0_ok hi1 HA2.out
          rw [he2] at hmv
          refine hmv.mono ?_
          clear hmv p0 p1 p2 q0 q1 q2
          rintro e w7 ⟨rfl, ho⟩
          have HN := Aside0.mk (pms_over ho).drop
          have HS2 := Aside0.mk (show SameP G0 U S from ⟨hsm.inv, fun k => (hsm.get k).trans (HS.out.get k), hsm.len.trans HS.out.len⟩)
          clear ho
          go_wp2_with fail
          obtain ⟨S2, hS2⟩ : ∃ S2, S2 = U := ⟨_, rfl⟩
          rw [← hS2] at HN HS2
          clear hS2
          try clear HA2
          try clear p0 p1 p2 q0 q1 q2
          obtain ⟨wo, rfl⟩ : ∃ wo : World, wo = w7 := ⟨_, rfl⟩
          go_loopw [72] (fun v72 wr => ∃ (j : Nat), j ≤ 4 ∧ v72 = .int .i64 j ∧ Aside0 (Own w wr (PMs G0 g m1 m2 v c G0.b.toNat S2 (PMs G0 g' m1' m2' v' c' G0.b.toNat S [Pt BT (.cells #[.int .i64 t0, .int .i64 t1, .int .i64 t2] 24 (0, 0))])))) (fun v72 _ => 4 - (intOf v72).toNat)
          case atStart => exact ⟨0, by omega, rfl, HN⟩
          case round =>
            clear HN
            obtain ⟨j, hj, rfl, HN⟩ := hrel
            by_cases hjt : j < 4
            · have dj : decide ((j : Int) < 4) = true := decide_eq_true (by omega)
              go_wp2_with fail
              refine (atP (j : Int) HN.out).mono ?_
              rintro e x1 ⟨rfl, ho⟩
              rw [HS2.out.get j]
              obtain ⟨b0, b1, b2, hb'⟩ := getD_tri (mget (j : Int) S.l1)
              obtain ⟨bb, hbb⟩ : ∃ bb, bb = (mget (j : Int) S.l1).isSome := ⟨_, rfl⟩
              rw [hb', ← hbb]
              have HB := Lib.hid hb'
              have HBB := Lib.hid hbb
              clear HN hb' hbb
              obtain ⟨P1, hP1⟩ : ∃ P1, P1 = x1.heap.size := ⟨_, rfl⟩
              have hz := (pms_under (ho.alloc (.cells #[.int .i64 b0, .int .i64 b1, .int .i64 b2] 24)))
              rw [← hP1] at hz
              have HP1 := Lib.hid hP1
              have HN := Aside0.mk hz
              clear ho hz hP1
              go_wp2_with fail
              rw [← HP1.out]
              refine (atP (j : Int) (own_swap [_, _, _, _, _] [_, _, _, _] HN.out)).mono ?_
              rintro e x2 ⟨rfl, ho⟩
              rw [HB.out, ← HBB.out]
              have hz := ho.alloc (.cells #[.int .i64 b0, .int .i64 b1, .int .i64 b2] 24)
              obtain ⟨z0, z1, z2⟩ := cells3 hz.drop.drop.drop.drop.drop.drop.drop.drop.drop.pt
              have HN2 := Aside0.mk (pms_swap (own_swap [_, _, _, _, _, _, _, _] [_] hz.drop).drop)
              clear ho hz HN
              go_wp2_with fail
              go_roundw
              case rel => exact ⟨j + 1, by omega, by go_num, HN2⟩
              case measure => simp [intOf]; omega
            · obtain rfl : j = 4 := by omega
              go_wp2_with fail
              go_roundw
              case rel => exact ⟨i + 1, S2, by omega, by go_num, HS2, HN⟩
              case measure => simp [intOf]; omega
        · rw [hn]
          simp only [Option.getD_some, Option.isSome_some]
          obtain ⟨rfl, h'⟩ := Prod.mk.inj hab
          obtain ⟨rfl, rfl⟩ := Prod.mk.inj h'
          clear hab h'
          have HA1 := Aside0.mk ho
          clear ho
          obtain ⟨p0, p1, p2⟩ := cells3 HA1.out.drop.drop.drop.drop.drop.drop.drop.drop.drop.pt
          obtain ⟨q0, q1, q2⟩ := cells3 HA1.out.drop.drop.drop.drop.pt
          go_wp2_with fail
          have hmv := move_any (t0, t1, t2) (t0, t1, t2) g0_ok HS.out.inv HA1.out
          rw [he] at hmv
          refine hmv.mono ?_
          clear hmv p0 p1 p2 q0 q1 q2
          rintro e w6 ⟨rfl, ho⟩
          have HA2 := Aside0.mk ho
          clear ho
          obtain ⟨p0, p1, p2⟩ := cells3 HA2.out.drop.drop.drop.drop.drop.drop.drop.drop.drop.pt
          obtain ⟨q0, q1, q2⟩ := cells3 HA2.out.drop.drop.drop.drop.pt
          go_wp2_with fail
          have hmv := move_any (t0, t1, t2) (t0, t1, t2) g0_ok hi1 HA2.out
          rw [he2] at hmv
          refine hmv.mono ?_
          clear hmv p0 p1 p2 q0 q1 q2
          rintro e w7 ⟨rfl, ho⟩
          have HN := Aside0.mk (pms_over ho).drop
          have HS2 := Aside0.mk (show SameP G0 U S from ⟨hsm.inv, fun k => (hsm.get k).trans (HS.out.get k), hsm.len.trans HS.out.len⟩)
          clear ho
          go_wp2_with fail
          obtain ⟨S2, hS2⟩ : ∃ S2, S2 = U := ⟨_, rfl⟩
          rw [← hS2] at HN HS2
          clear hS2
          try clear HA2
          try clear p0 p1 p2 q0 q1 q2
          obtain ⟨wo, rfl⟩ : ∃ wo : World, wo = w7 := ⟨_, rfl⟩
          go_loopw [72] (fun v72 wr => ∃ (j : Nat), j ≤ 4 ∧ v72 = .int .i64 j ∧ Aside0 (Own w wr (PMs G0 g m1 m2 v c G0.b.toNat S2 (PMs G0 g' m1' m2' v' c' G0.b.toNat S [Pt BT (.cells #[.int .i64 t0, .int .i64 t1, .int .i64 t2] 24 (0, 0))])))) (fun v72 _ => 4 - (intOf v72).toNat)
          case atStart => exact ⟨0, by omega, rfl, HN⟩
          case round =>
            clear HN
            obtain ⟨j, hj, rfl, HN⟩ := hrel
            by_cases hjt : j < 4
            · have dj : decide ((j : Int) < 4) = true := decide_eq_true (by omega)
              go_wp2_with fail
              refine (atP (j : Int) HN.out).mono ?_
              rintro e x1 ⟨rfl, ho⟩
              rw [HS2.out.get j]
              obtain ⟨b0, b1, b2, hb'⟩ := getD_tri (mget (j : Int) S.l1)
              obtain ⟨bb, hbb⟩ : ∃ bb, bb = (mget (j : Int) S.l1).isSome := ⟨_, rfl⟩
              rw [hb', ← hbb]
              have HB := Lib.hid hb'
              have HBB := Lib.hid hbb
              clear HN hb' hbb
              obtain ⟨P1, hP1⟩ : ∃ P1, P1 = x1.heap.size := ⟨_, rfl⟩
              have hz := (pms_under (ho.alloc (.cells #[.int .i64 b0, .int .i64 b1, .int .i64 b2] 24)))
              rw [← hP1] at hz
              have HP1 := Lib.hid hP1
              have HN := Aside0.mk hz
              clear ho hz hP1
              go_wp2_with fail
              rw [← HP1.out]
              refine (atP (j : Int) (own_swap [_, _, _, _, _] [_, _, _, _] HN.out)).mono ?_
              rintro e x2 ⟨rfl, ho⟩
              rw [HB.out, ← HBB.out]
              have hz := ho.alloc (.cells #[.int .i64 b0, .int .i64 b1, .int .i64 b2] 24)
              obtain ⟨z0, z1, z2⟩ := cells3 hz.drop.drop.drop.drop.drop.drop.drop.drop.drop.pt
              have HN2 := Aside0.mk (pms_swap (own_swap [_, _, _, _, _, _, _, _] [_] hz.drop).drop)
              clear ho hz HN
              go_wp2_with fail
              go_roundw
              case rel => exact ⟨j + 1, by omega, by go_num, HN2⟩
              case measure => simp [intOf]; omega
            · obtain rfl : j = 4 := by omega
              go_wp2_with fail
              go_roundw
              case rel => exact ⟨i + 1, S2, by omega, by go_num, HS2, HN⟩
              case measure => simp [intOf]; omega
        · rw [hn]
          simp only [Option.getD_some, Option.isSome_some]
          have hb : (t0 == a0 && (t1 == a1 && (t2 == a2))) = false := by
            rw [Bool.eq_false_iff]
            intro h
            simp at h
            exact hne (by rw [h.1, h.2.1, h.2.2])
          have HA1 := Aside0.mk ho
          clear ho
          obtain ⟨p0, p1, p2⟩ := cells3 HA1.out.drop.drop.drop.drop.drop.drop.drop.drop.drop.pt
          obtain ⟨q0, q1, q2⟩ := cells3 HA1.out.drop.drop.drop.drop.pt
          go_wp2_with fail
          have hmv := move_any (a0, a1, a2) (t0, t1, t2) g0_ok HS.out.inv HA1.out
          rw [he] at hmv
          refine hmv.mono ?_
          clear hmv p0 p1 p2 q0 q1 q2
          rintro e w6 ⟨rfl, ho⟩
          have HA2 := Aside0.mk ho
          clear ho
          obtain ⟨p0, p1, p2⟩ := cells3 HA2.out.drop.drop.drop.drop.drop.drop.drop.drop.drop.pt
          obtain ⟨q0, q1, q2⟩ := cells3 HA2.out.drop.drop.drop.drop.pt
          go_wp2_with fail
          have HN := Aside0.mk (pms_over HA2.out).drop
          have HS2 := HS
          obtain ⟨S2, hS2⟩ : ∃ S2, S2 = S' := ⟨_, rfl⟩
          rw [← hS2] at HN HS2
          clear hS2
          try clear HA2
          try clear p0 p1 p2 q0 q1 q2
          obtain ⟨wo, rfl⟩ : ∃ wo : World, wo = w6 := ⟨_, rfl⟩
          go_loopw [72] (fun v72 wr => ∃ (j : Nat), j ≤ 4 ∧ v72 = .int .i64 j ∧ Aside0 (Own w wr (PMs G0 g m1 m2 v c G0.b.toNat S2 (PMs G0 g' m1' m2' v' c' G0.b.toNat S [Pt BT (.cells #[.int .i64 t0, .int .i64 t1, .int .i64 t2] 24 (0, 0))])))) (fun v72 _ => 4 - (intOf v72).toNat)
          case atStart => exact ⟨0, by omega, rfl, HN⟩
          case round =>
            clear HN
            obtain ⟨j, hj, rfl, HN⟩ := hrel
            by_cases hjt : j < 4
            · have dj : decide ((j : Int) < 4) = true := decide_eq_true (by omega)
              go_wp2_with fail
              refine (atP (j : Int) HN.out).mono ?_
              rintro e x1 ⟨rfl, ho⟩
              rw [HS2.out.get j]
              obtain ⟨b0, b1, b2, hb'⟩ := getD_tri (mget (j : Int) S.l1)
              obtain ⟨bb, hbb⟩ : ∃ bb, bb = (mget (j : Int) S.l1).isSome := ⟨_, rfl⟩
              rw [hb', ← hbb]
              have HB := Lib.hid hb'
              have HBB := Lib.hid hbb
              clear HN hb' hbb
              obtain ⟨P1, hP1⟩ : ∃ P1, P1 = x1.heap.size := ⟨_, rfl⟩
              have hz := (pms_under (ho.alloc (.cells #[.int .i64 b0, .int .i64 b1, .int .i64 b2] 24)))
              rw [← hP1] at hz
              have HP1 := Lib.hid hP1
              have HN := Aside0.mk hz
              clear ho hz hP1
              go_wp2_with fail
              rw [← HP1.out]
              refine (atP (j : Int) (own_swap [_, _, _, _, _] [_, _, _, _] HN.out)).mono ?_
              rintro e x2 ⟨rfl, ho⟩
              rw [HB.out, ← HBB.out]
              have hz := ho.alloc (.cells #[.int .i64 b0, .int .i64 b1, .int .i64 b2] 24)
              obtain ⟨z0, z1, z2⟩ := cells3 hz.drop.drop.drop.drop.drop.drop.drop.drop.drop.pt
              have HN2 := Aside0.mk (pms_swap (own_swap [_, _, _, _, _, _, _, _] [_] hz.drop).drop)
              clear ho hz HN
              go_wp2_with fail
              go_roundw
              case rel => exact ⟨j + 1, by omega, by go_num, HN2⟩
              case measure => simp [intOf]; omega
            · obtain rfl : j = 4 := by omega
              go_wp2_with fail
              go_roundw
              case rel => exact ⟨i + 1, S2, by omega, by go_num, HS2, HN⟩
              case measure => simp [intOf]; omega
    · obtain rfl : i = 4 := by omega
      go_wp2_with fail
      refine (totalP HO.out).mono ?_
      rintro e w4 ⟨rfl, rfl⟩
      go_wp2_with fail
      refine (totalP (pms_swap HO.out)).mono ?_
      rintro e w5 ⟨rfl, rfl⟩
      rw [HS.out.len]
      go_wp2_with fail
      go_ret
      exact ⟨rfl, HO.out.below⟩
def decklelaw19_PmapMoves.f (_l0 : List S46) (_a : Int) (_b : Int) (_c : Int) : Option Bool := some true
theorem decklelaw19_PmapMoves.calls (A0 : Option Addr) (c0 : Nat) (l0 : List S46) (a1_0 : Int) (a1_1 : Int) (a1_2 : Int) (r : Bool) (w : World) (hr0 : Kd.C k46 w A0 l0.length l0) (hc0 : l0.length ≤ c0) (h : decklelaw19_PmapMoves.f l0 a1_0 a1_1 a1_2 = some r) :
    Calls Try.prog 3 #[.slice A0 l0.length c0, .agg #[.int .i64 a1_0, .int .i64 a1_1, .int .i64 a1_2]] w fun e w' => e = .returned (.bool r) ∧ Below w.heap.size w w' := by
  obtain rfl : true = r := Option.some.inj h
  exact moves_all A0 c0 l0 a1_0 a1_1 a1_2 w hr0 hc0
end Go.Proofs.Ytiblpienmkjmgaa.Pmap
