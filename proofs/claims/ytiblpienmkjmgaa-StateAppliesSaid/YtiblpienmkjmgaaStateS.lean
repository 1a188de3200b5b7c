/- StateApplies, of a geometry that may be. -/
import Derived.Test.YtiblpienmkjmgaaProg
import Derived.Below
import Derived.Deep.Draws
import Derived.Deep.AppendLies
import Derived.Maps.AppendAt
import Derived.OwnWalk
import Derived.Laws.BytesArg
import Derived.Laws.MakeOwn
import Derived.Laws.OwnMore
import Derived.Deep.OwnRows
import Derived.Tactics
import Derived.Lib.ConvBytes
import Derived.Laws.Slices
import Derived.WalkKit
import Derived.KernelRfl
import Derived.RowKit3
import Derived.Deep.LoopGhost
import Derived.Deep.QuietTactic
import Derived.BigQuiet
import Derived.WideLaws
import Derived.Deep.DeepCutAuto
import Derived.Deep.CutBlock
import Derived.Deep.RegionHeld3
import Derived.Deep.RegionWith
import Derived.Laws.Rows
import Derived.Lib.AppendStr
import Derived.ArgAppend
import Derived.Laws.IdiomCopy
import Derived.OrdersHeld
import Derived.Laws.BitsLemmas
import Derived.Outline
import Derived.RegionTactic
import Derived.Lib.Hide
import Derived.StillTailTactics
import Derived.Deep.RegionWith
import Derived.OpenShut
import Derived.Test.YtiblpienmkjmgaaWWords
import Derived.Test.YtiblpienmkjmgaaStateR
set_option linter.unusedVariables false
namespace Go.Proofs.Ytiblpienmkjmgaa.StateA
open Go.RowKit Go.Proofs.YtiblpienmkjmgaaW.PrintWords Go.Proofs.Ytiblpienmkjmgaa.Mem Go.Proofs.Ytiblpienmkjmgaa.PS Go.Proofs.Ytiblpienmkjmgaa.Own

structure Big (K : Kp) (b s : Nat) : Prop where
  fine : K.Fine
  f : K.F.length = s
  c : K.C.length = b
theorem Big.apply {K : Kp} {b s : Nat} (h : Big K b s) (k a v : Int) : Big (applyK K k a v).1 b s := by
  obtain ⟨f, l1, l2⟩ := apply_fine K k a v h.fine
  exact ⟨f, l1.trans h.f, l2.trans h.c⟩
theorem allK_big {b s : Nat} (l : List S73) : ∀ K : Kp, Big K b s → Big (allK K l).1 b s := by
  induction l with
  | nil => exact fun K h => h
  | cons r rs ih =>
    intro K h
    unfold allK
    split
    · exact ih _ (h.apply _ _ _)
    · exact h
def AfterL (w0 wx : World) (R : List Asn) (K' : Kp) (s7 : Value) : Prop := ∃ B7 A1 A2 A3 A4 c1 c2 c3 c4, s7 = .pointer (some ⟨B7, 0, none⟩) ∧
  Own w0 wx (Pt B7 (stC K' A1 A2 A3 A4 c1 c2 c3 c4) :: J A1 c1 K'.F :: J A2 c2 K'.C :: J A3 c3 K'.S :: J A4 c4 K'.T :: R)
theorem pull7 {w0 w : World} {A B C D E F G : Asn} {L : List Asn} (h : Own w0 w (A :: B :: C :: D :: E :: F :: G :: L)) : Own w0 w (G :: A :: B :: C :: D :: E :: F :: L) := (h.map (fun _ => Hold.cons (fun _ => Hold.cons (fun _ => Hold.cons (fun _ => Hold.cons (fun _ => Hold.cons (fun _ => Hold.swap))))))).pull6
theorem j_reads {w0 w : World} {L : List Asn} {A : Option Addr} {c : Nat} {xs : List Int} (h : Own w0 w (J A c xs :: L)) : (Kd.int .i64).C w A xs.length xs ∧ xs.length ≤ c := by
  obtain ⟨_, hs, _⟩ := h.head
  have := Kd.R_reads' hs
  exact ⟨this.2.2, this.2.1⟩
theorem below_drewN (w : World) {v : World} (h : ∃ n, v = w.drewN n) : Below w.heap.size w v := by
  obtain ⟨n, rfl⟩ := h
  exact ⟨rfl, rfl, rfl, Nat.le_refl _, fun _ _ => rfl⟩
theorem row_cell {w0 w : World} {L : List Asn} {A : Option Addr} {c : Nat} {xs : List Int} (h : Own w0 w (J A c xs :: L)) (i : Nat) (hi : i < xs.length) : ∃ g, A = some ⟨g, 0, none⟩ ∧ w.cell? ⟨g, i, none⟩ = some (.int .i64 (xs.getD i 0)) ∧ xs.length ≤ c := by
  obtain ⟨S, hs, hb, f⟩ := h.head
  obtain ⟨g, cap, hv, _⟩ := Kd.R_form hs (by omega)
  injection hv with e1 e2 e3
  subst e1 e3
  exact ⟨g, rfl, (h.cell rfl i hi).1, (h.cell rfl i hi).2.2⟩

set_option maxHeartbeats 8000000 in
set_option maxRecDepth 100000 in
theorem applies_ok (b s : Nat) (ln y p we : Int) (P1 : Option Addr) (m1 : Nat) (l1 : List S73) (P2 : Option Addr) (m2 : Nat) (l2 : List S73) (w : World) (h1 : s ≤ 300) (h2 : l1.length ≤ 100) (h3 : l2.length ≤ 100)
    (hln : (Lit.int .i64 ln).wf = true) (hg : GeoOk b ln y s p we) (hr1 : Kd.C k73 w P1 l1.length l1) (hr2 : Kd.C k73 w P2 l2.length l2) :
    Calls Try.prog 8 #[geoV b ln y s p we, .slice P1 l1.length m1, .slice P2 l2.length m2] w fun e w' => e = .returned (.bool true) ∧ Below w.heap.size w w' := by
  have hsz := hg.1
  unfold SizesOk at hsz
  have HO := Aside0.mk ((Own.new w).alloc (geoC b ln y s p we))
  have t1 : decide (300 < (s : Int)) = false := decide_eq_false (by omega)
  have t2 : decide ((100 : Int) < (l1.length : Nat)) = false := decide_eq_false (by omega)
  have t3 : decide ((100 : Int) < (l2.length : Nat)) = false := decide_eq_false (by omega)
  have hchk : geom_Check.f 8 b ln y s p we = some 0 := by rw [check_some _ _ _ _ _ _ (WalkArith.wf_i64 (by omega)) hln 8 (by omega), if_pos hg]
  have HCK := Lib.hid hchk
  have HG := Lib.hid hg
  have H2 := Lib.hid hln
  have HR1 := Aside0.mk hr1
  have HR2 := Aside0.mk hr2
  have bb1 : 8 ≤ b ∧ b ≤ 64 := by omega
  have bs1 : 1 ≤ s := by omega
  have HK0 := Aside0.mk (show Big (newK b s) b s from ⟨newK_fine b s (by omega) (by omega) (by omega) (by omega), zeros_len s, zeros_len b⟩)
  clear hg hln hchk hr1 hr2 hsz
  go_enter Try.func8, Try.ntmps8
  go_wp2_with fail
  refine (new_own b s ln y p we HO.out HCK.out (by omega) (by omega)).mono ?_
  rintro e v1 ⟨g, rfl, ho⟩
  have HO := Aside0.mk ho.pull2
  obtain ⟨x0, x1, x2, x3, x4, x5⟩ := cells6' HO.out.pt
  clear ho
  go_wp2_with fail
  refine (refNew_ok b s ln y p we HO.out H2.out HG.out).mono ?_
  rintro e v2 ⟨A1, A2, A3, A4, c1, c2, c3, c4, rfl, ho⟩
  have HO := Aside0.mk (((ho.alloc (stC (newK b s) A1 A2 A3 A4 c1 c2 c3 c4)).push4))
  clear ho x0 x1 x2 x3 x4 x5
  obtain ⟨B9, hB9⟩ : ∃ B9, B9 = v2.heap.size := ⟨_, rfl⟩
  obtain ⟨B3, hB3⟩ : ∃ B3, B3 = w.heap.size := ⟨_, rfl⟩
  have HB9 := Lib.hid hB9
  have HB3 := Lib.hid hB3
  rw [← hB9, ← hB3] at HO
  clear hB9 hB3
  go_wp2_with fail
  rw [← HB9.out, ← HB3.out]
  have HS := Aside0.mk (pull7 HO.out)
  clear HO
  go_loopw [11] (fun v11 wr => ∃ (i : Nat) (K : Kp) (A1 A2 A3 A4 : Option Addr) (c1 c2 c3 c4 : Nat), i ≤ l1.length ∧ v11 = .int .i64 i ∧ Aside0 (Big K b s) ∧ Aside0 (Own w wr [Keep g K, J A1 c1 K.F, J A2 c2 K.C, J A3 c3 K.S, J A4 c4 K.T, Pt B9 (stC K A1 A2 A3 A4 c1 c2 c3 c4), Pt B3 (geoC b ln y s p we)])) (fun v11 _ => l1.length - (intOf v11).toNat)
  case atStart => exact ⟨0, newK b s, A1, A2, A3, A4, c1, c2, c3, c4, Nat.zero_le _, rfl, HK0, HS⟩
  case round =>
    clear HS
    obtain ⟨i, K, A1, A2, A3, A4, c1, c2, c3, c4, hi, rfl, HK, HO⟩ := hrel
    by_cases hlt : i < l1.length
    · have dl : decide ((i : Int) < (l1.length : Nat)) = true := decide_eq_true (by omega)
      have HJ := Aside0.mk HO.out.push4
      obtain ⟨x0, x1, x2, x3, z0, z1, z2, z3⟩ := cells4 (HO.out.drop.drop.drop.drop.drop.pt)
      have hsz := blk_lt (HO.out.drop.drop.drop.drop.drop.pt)
      obtain ⟨ad, rfl, q0, q1, q2⟩ := at_T73 (Kd.C_below HR1.out HO.out.below) (i : Int) (by omega) (by omega)
      obtain ⟨ad2, ead, e0, e1, e2⟩ := at_T73 (Kd.C_below HR1.out (HO.out.alloc' nilSt).below) (i : Int) (by omega) (by omega)
      obtain rfl := Option.some.inj ead
      obtain ⟨⟨k, a, v⟩, hR⟩ : ∃ R, R = rd_T73 l1 i := ⟨_, rfl⟩
      rw [Int.toNat_natCast, ← hR] at q0 q1 q2 e0 e1 e2
      dsimp only at q0 q1 q2 e0 e1 e2
      have HRR := Lib.hid hR
      clear hR ead
      have hap : ∃ K' c, applyK K k a v = (K', c) := ⟨_, _, rfl⟩
      obtain ⟨K', c, hap⟩ := hap
      have HAP := Lib.hid hap
      have HK' := Aside0.mk (show Big K' b s by have := HK.out.apply k a v; rw [hap] at this; exact this)
      have HCT : Aside0 (∀ (W : World) (L' : List Asn), Own w W (J A1 c1 K.F :: J A2 c2 K.C :: J A3 c3 K.S :: J A4 c4 K.T :: L') →
          Calls Try.prog 40 #[stV K A1 A2 A3 A4 c1 c2 c3 c4, recV k a v] W fun e w' => ∃ A1 A2 A3 A4 c1 c2 c3 c4, e = .returned (.tuple #[stV K' A1 A2 A3 A4 c1 c2 c3 c4, .int .i64 c]) ∧ Own w w' (J A1 c1 K'.F :: J A2 c2 K'.C :: J A3 c3 K'.S :: J A4 c4 K'.T :: L')) := ⟨fun W L' ho => by
        have := refApply_own A1 A2 A3 A4 c1 c2 c3 c4 k a v ho HK.out.fine
        rw [hap] at this
        exact this⟩
      clear hap
      have HA : Aside0 (Own w (wr.drew.alloc nilSt) [J A1 c1 K.F, J A2 c2 K.C, J A3 c3 K.S, J A4 c4 K.T, Pt wr.heap.size nilSt, Keep g K, Pt B9 (stC K A1 A2 A3 A4 c1 c2 c3 c4), Pt B3 (geoC b ln y s p we)]) := ⟨(HJ.out.drew.alloc nilSt).push4⟩
      go_wp2_with fail
      go_cut [12, 13] (fun s7 s8 wx => s8 = .int .i64 c ∧ AfterL w wx [Keep g K, Pt B9 (stC K A1 A2 A3 A4 c1 c2 c3 c4), Pt B3 (geoC b ln y s p we)] K' s7)
      case first =>
        go_region_with (go_at_call 40; refine (HCT.out _ _ (by first | exact HJ.out.drew | exact HA.out)).mono ?_; rintro e w' ⟨E1, E2, E3, E4, f1, f2, f3, f4, rfl, ho⟩; (try obtain ⟨y0, y1, y2, y3, t0, t1, t2, t3⟩ := cells4 ho.drop.drop.drop.drop.pt); have HN := Aside0.mk ho; clear ho)
        all_goals go_wp2_with fail
        all_goals go_meet
        all_goals first | exact ⟨rfl, _, E1, E2, E3, E4, f1, f2, f3, f4, rfl, HN.out.alloc _⟩ | exact ⟨rfl, _, E1, E2, E3, E4, f1, f2, f3, f4, rfl, HN.out.pull5.set4 _ _ _ _⟩
      case rest =>
        obtain ⟨rfl, B7, E1, E2, E3, E4, f1, f2, f3, f4, rfl, ho⟩ := hcut
        obtain ⟨t0, t1, t2, t3, _, _, _, _⟩ := cells4 ho.pt
        obtain ⟨m0, m1, m2, m3, n0, n1, n2, n3⟩ := cells4 (ho.drop.drop.drop.drop.drop.drop.pt)
        have HN := Aside0.mk ((ho.drop.pull6.set4 (.slice E1 K'.F.length f1) (.slice E2 K'.C.length f2) (.slice E3 K'.S.length f3) (.slice E4 K'.T.length f4)).push5.pull5)
        clear ho HO HA HJ q0 q1 q2 e0 e1 e2 x0 x1 x2 x3 z0 z1 z2 z3
        obtain ⟨ad3, ead, q0, q1, q2⟩ := at_T73 (Kd.C_below HR1.out HN.out.below) (i : Int) (by omega) (by omega)
        obtain rfl := Option.some.inj ead
        rw [Int.toNat_natCast, ← HRR.out] at q0 q1 q2
        dsimp only at q0 q1 q2
        clear ead
        go_wp2_with fail
        refine (apply_own c k a v HN.out HAP.out HK.out.fine).mono ?_
        rintro e v5 ⟨rfl, ho⟩
        have HN := Aside0.mk ho
        clear ho q0 q1 q2 t0 t1 t2 t3 m0 m1 m2 m3 n0 n1 n2 n3
        obtain ⟨ad3, ead, q0, q1, q2⟩ := at_T73 (Kd.C_below HR1.out HN.out.below) (i : Int) (by omega) (by omega)
        obtain rfl := Option.some.inj ead
        rw [Int.toNat_natCast, ← HRR.out] at q0 q1 q2
        dsimp only at q0 q1 q2
        clear ead
        go_wp2_with fail
        refine (wear_any g K' a _ (keepOf HN.out)).mono ?_
        rintro e v6 ⟨rfl, hn⟩
        have HN := Aside0.mk (HN.out.move (below_drewN _ hn))
        clear hn q0 q1 q2
        obtain ⟨ad3, ead, q0, q1, q2⟩ := at_T73 (Kd.C_below HR1.out HN.out.below) (i : Int) (by omega) (by omega)
        obtain rfl := Option.some.inj ead
        rw [Int.toNat_natCast, ← HRR.out] at q0 q1 q2
        dsimp only at q0 q1 q2
        clear ead
        obtain ⟨x0, _, _, _, _, _⟩ := cells6' (HN.out.drop.drop.drop.drop.drop.drop.pt)
        obtain ⟨m0, m1, m2, m3, n0, n1, n2, n3⟩ := cells4 (HN.out.drop.drop.drop.drop.drop.pt)
        have lc : K'.S.length = b := HK'.out.fine.sc.trans HK'.out.c
        have lt : K'.T.length = b := HK'.out.fine.tc.trans HK'.out.c
        by_cases ha : 0 ≤ a ∧ a < b
        · obtain ⟨n, rfl⟩ : ∃ n : Nat, a = n := ⟨a.toNat, by omega⟩
          obtain ⟨gs, rfl, zs, rs⟩ := row_cell (HN.out.drop.drop.drop) n (by rw [lc]; omega)
          obtain ⟨gt, rfl, zt, rt⟩ := row_cell (HN.out.drop.drop.drop.drop) n (by rw [lt]; omega)
          have eS : atI K'.S n = K'.S.getD n 0 := by unfold atI; rw [if_pos (by omega), Int.toNat_natCast]
          have eT : atI K'.T n = K'.T.getD n 0 := by unfold atI; rw [if_pos (by omega), Int.toNat_natCast]
          rw [eS, eT]
          rw [lc] at m2 rs
          rw [lt] at m3 rt
          generalize K'.S.getD n 0 = sv at zs
          generalize K'.T.getD n 0 = tv at zt
          have d2 : decide ((n : Int) < (b : Nat)) = true := decide_eq_true (by omega)
          clear lc lt eS eT
          go_wp2_with fail
          go_quiet (fail)
          go_wp2_with fail
          go_quiet (fail)
          go_wp2_with fail
          go_quiet (fail)
          go_wp2_with fail
          go_roundw
          case rel =>
            exact ⟨i + 1, K', E1, E2, some ⟨gs, 0, none⟩, some ⟨gt, 0, none⟩, f1, f2, f3, f4, by omega, by go_num, HK', ⟨by repeat first | exact HN.out | refine Own.drewN ?_ _ | refine Own.drew ?_⟩⟩
          case measure => simp [intOf]; omega
        · have eS : atI K'.S a = 0 := by unfold atI; rw [if_neg (by omega)]
          have eT : atI K'.T a = 0 := by unfold atI; rw [if_neg (by omega)]
          rw [eS, eT]
          clear lc lt eS eT
          by_cases ha0 : 0 ≤ a
          · have d1 : decide (0 ≤ a) = true := decide_eq_true ha0
            have d2 : decide (a < (b : Nat)) = false := decide_eq_false (by omega)
            clear ha ha0
            go_wp2_with fail
            go_quiet (fail)
            go_wp2_with fail
            go_roundw
            case rel =>
              exact ⟨i + 1, K', E1, E2, E3, E4, f1, f2, f3, f4, by omega, by go_num, HK', ⟨by repeat first | exact HN.out | refine Own.drewN ?_ _ | refine Own.drew ?_⟩⟩
            case measure => simp [intOf]; omega
          · have d1 : decide (0 ≤ a) = false := decide_eq_false ha0
            clear ha ha0
            go_wp2_with fail
            go_quiet (fail)
            go_wp2_with fail
            go_roundw
            case rel =>
              exact ⟨i + 1, K', E1, E2, E3, E4, f1, f2, f3, f4, by omega, by go_num, HK', ⟨by repeat first | exact HN.out | refine Own.drewN ?_ _ | refine Own.drew ?_⟩⟩
            case measure => simp [intOf]; omega
    · obtain rfl : i = l1.length := by omega
      clear hlt
      go_wp2_with fail
      refine (state_own HO.out HK.out.fine.toOk).mono ?_
      rintro e v3 ⟨b1, b2, b3, b4, d1, d2, d3, d4, rfl, ho⟩
      have HN := Aside0.mk ((ho.alloc (.cells #[.slice (some ⟨b1, 0, none⟩) K.F.length d1, .slice (some ⟨b2, 0, none⟩) K.C.length d2, .slice (some ⟨b3, 0, none⟩) K.S.length d3, .slice (some ⟨b4, 0, none⟩) K.T.length d4] 69 (0, 0))).push1)
      clear ho HO
      go_wp2_with fail
      refine (spoil_own b1 d1 K.F HK.out.fine.f1 HN.out).mono ?_
      rintro e v4 ⟨rfl, ho⟩
      have HN := Aside0.mk ho.pull3
      obtain ⟨x0, x1, x2, x3, _, _, _, _⟩ := cells4 ho.pt
      clear ho
      go_wp2_with fail
      refine (spoil_own b3 d3 K.S HK.out.fine.s1 HN.out).mono ?_
      rintro e v5 ⟨rfl, ho⟩
      have HN := Aside0.mk ho.drop.drop.drop.push4
      obtain ⟨y0, y1, y2, y3, _, _, _, _⟩ := cells4 (HN.out.drop.drop.drop.drop.drop.pt)
      clear ho x0 x1 x2 x3
      go_wp2_with fail
      refine (refAll_own A1 A2 A3 A4 c1 c2 c3 c4 P2 _ l2 HN.out HK.out.fine HR2.out).mono ?_
      rintro e v6 ⟨E1, E2, E3, E4, f1, f2, f3, f4, rfl, ho⟩
      have HFK := Aside0.mk (allK_fine l2 K HK.out.fine)
      have hak : ∃ K2 c, allK K l2 = (K2, c) := ⟨_, _, rfl⟩
      obtain ⟨K2, c, hak⟩ := hak
      have HAK := Lib.hid hak
      rw [hak] at ho HFK ⊢
      dsimp only at ho HFK ⊢
      clear hak y0 y1 y2 y3
      obtain ⟨B19, hB19⟩ : ∃ B, B = v6.heap.size := ⟨_, rfl⟩
      have HB19 := Lib.hid hB19
      have HN := Aside0.mk ((ho.alloc (stC K2 E1 E2 E3 E4 f1 f2 f3 f4)).push4.pull6)
      rw [← hB19] at HN
      clear ho hB19
      go_wp2_with fail
      rw [← HB19.out]
      have HKA : Aside0 (∀ (W : World) (L' : List Asn), Own w W (Keep g K :: L') → Calls Try.prog 44 #[.pointer (some ⟨g.g, 0, none⟩), .slice P2 l2.length m2] W fun e w' => e = .returned (.int .i64 c) ∧ Own w w' (Keep g K2 :: L')) := ⟨fun W L' ho => by
        have := keepAll_own P2 m2 l2 ho HK.out.fine HR2.out
        rw [HAK.out] at this
        exact this⟩
      go_cut [162] from 151 to 162 (fun s162 wx => s162 = .bool false ∧ Aside0 (Own w wx [Keep g K2, J E1 f1 K2.F, J E2 f2 K2.C, J E3 f3 K2.S, J E4 f4 K2.T, Pt B19 (stC K2 E1 E2 E3 E4 f1 f2 f3 f4), Pt B9 (stC K A1 A2 A3 A4 c1 c2 c3 c4), Pt B3 (geoC b ln y s p we)]))
      case first =>
        go_region_with (first | (go_at_call 44; refine (HKA.out _ _ HN.out.drew).mono ?_; rintro e wA ⟨rfl, hoA⟩; obtain ⟨y0, y1, y2, y3, _, _, _, _⟩ := cells4 (hoA.drop.drop.drop.drop.drop.pt); have HA1 := Aside0.mk hoA; clear hoA) | (go_at_call 34; refine (state_own HA1.out HFK.out.toOk).mono ?_; rintro e wB ⟨b1, b2, b3, b4, d1, d2, d3, d4, rfl, hoB⟩; obtain ⟨z0, z1, z2, z3, _, _, _, _⟩ := cells4 (hoB.drop.drop.drop.drop.drop.drop.drop.drop.drop.pt); have HB1 := Aside0.mk hoB; clear hoB) | (go_at_call 38; have hj := HB1.out.drop.drop.drop.drop.drop; refine (decklebook_SameState.calls 1000001 _ _ _ _ _ _ _ _ _ _ _ _ _ _ _ _ _ _ _ _ _ _ _ _ true _ (ints_reads HB1.out).1 (ints_reads HB1.out).2 (ints_reads HB1.out.drop).1 (ints_reads HB1.out.drop).2 (ints_reads HB1.out.drop.drop).1 (ints_reads HB1.out.drop.drop).2 (ints_reads HB1.out.drop.drop.drop).1 (ints_reads HB1.out.drop.drop.drop).2 (j_reads hj).1 (j_reads hj).2 (j_reads hj.drop).1 (j_reads hj.drop).2 (j_reads hj.drop.drop).1 (j_reads hj.drop.drop).2 (j_reads hj.drop.drop.drop).1 (j_reads hj.drop.drop.drop).2 (sameState_self K2 HFK.out.toOk)).mono ?_; rintro e wC ⟨rfl, hbC⟩; have HC1 := Aside0.mk (HB1.out.drop.drop.drop.drop.move hbC); clear hbC hj))
        all_goals go_wp2_with fail
        all_goals go_meet
        all_goals exact ⟨rfl, HC1⟩
      case rest =>
      obtain ⟨rfl, HN⟩ := hcut
      clear HO
      go_wp2_with fail
      have HB := Aside0.mk (HK.out)
      have lf : K2.F.length = s := by have := (allK_big l2 K HK.out).f; rw [HAK.out] at this; exact this
      have lc : K2.C.length = b := by have := (allK_big l2 K HK.out).c; rw [HAK.out] at this; exact this
      have LF := Lib.hid lf
      have LC := Lib.hid lc
      clear lf lc
      obtain ⟨x0, x1, x2, x3, _, _⟩ := cells6' (HN.out.drop.drop.drop.drop.drop.drop.drop.pt)
      obtain ⟨y0, y1, y2, y3, _, _, _, _⟩ := cells4 (HN.out.drop.drop.drop.drop.drop.pt)
      go_loop [21] (fun v21 => ∃ i : Int, -1 ≤ i ∧ i ≤ 301 ∧ v21 = .int .i64 i) (fun v21 => (302 - intOf v21).toNat)
      case atStart => exact ⟨-1, by omega, by omega, rfl⟩
      case round =>
        obtain ⟨i, hi1, hi2, rfl⟩ := hrel
        by_cases g1 : i ≤ s
        · have d1 : decide (i ≤ (s : Int)) = true := decide_eq_true g1
          by_cases g2 : i ≤ b
          · have d2 : decide (i ≤ (b : Int)) = true := decide_eq_true g2
            have hend : ∀ fl cm : Int, fl = atI K2.F i → cm = atI K2.C i → True := fun _ _ _ _ => trivial
            clear hend
            by_cases g0 : 0 ≤ i
            · obtain ⟨n, rfl⟩ : ∃ n : Nat, i = n := ⟨i.toNat, by omega⟩
              have d0 : decide ((0 : Int) ≤ (n : Int)) = true := decide_eq_true g0
              have eF : atI K2.F n = if n < s then K2.F.getD n 0 else 0 := by
                unfold atI
                rw [LF.out, Int.toNat_natCast]
                by_cases h : n < s
                · rw [if_pos (by omega), if_pos h]
                · rw [if_neg (by omega), if_neg h]
              have eC : atI K2.C n = if n < b then K2.C.getD n 0 else 0 := by
                unfold atI
                rw [LC.out, Int.toNat_natCast]
                by_cases h : n < b
                · rw [if_pos (by omega), if_pos h]
                · rw [if_neg (by omega), if_neg h]
              have EF := Lib.hid eF
              have EC := Lib.hid eC
              clear eF eC
              by_cases k1 : n < s
              · have d3 : decide ((n : Int) < (s : Nat)) = true := decide_eq_true (by omega)
                obtain ⟨gs, rfl, zs, rs⟩ := row_cell (HN.out.drop) n (by rw [LF.out]; exact k1)
                rw [LF.out] at y0 rs
                by_cases k2 : n < b
                · have d4 : decide ((n : Int) < (b : Nat)) = true := decide_eq_true (by omega)
                  obtain ⟨gt, rfl, zt, rt⟩ := row_cell (HN.out.drop.drop) n (by rw [LC.out]; exact k2)
                  rw [LC.out] at y1 rt
                  have hF := EF.out
                  have hC := EC.out
                  rw [if_pos k1] at hF
                  rw [if_pos k2] at hC
                  rw [← hF] at zs
                  rw [← hC] at zt
                  clear hF hC
                  go_wp2_with (first | (go_at_call 45; refine (floor_any g K2 n _ (keepOf HN.out)).mono ?_; rintro e w' ⟨rfl, rfl⟩) | (go_at_call 46; refine (commitOf_any g K2 n _ (keepOf HN.out)).mono ?_; rintro e w' ⟨rfl, rfl⟩))
                  go_round
                  case rel => exact ⟨n + 1, by omega, by omega, by go_num⟩
                  case measure => simp [intOf]; omega
                · have d4 : decide ((n : Int) < (b : Nat)) = false := decide_eq_false (by omega)
                  have hF := EF.out
                  have hC := EC.out
                  rw [if_pos k1] at hF
                  rw [if_neg k2] at hC
                  rw [← hF] at zs
                  clear hF
                  go_wp2_with (first | (go_at_call 45; refine (floor_any g K2 n _ (keepOf HN.out)).mono ?_; rintro e w' ⟨rfl, rfl⟩) | (go_at_call 46; refine (commitOf_any g K2 n _ (keepOf HN.out)).mono ?_; rintro e w' ⟨rfl, rfl⟩))
                  go_round
                  case rel => exact ⟨n + 1, by omega, by omega, by go_num⟩
                  case measure => simp [intOf]; omega
              · have d3 : decide ((n : Int) < (s : Nat)) = false := decide_eq_false (by omega)
                by_cases k2 : n < b
                · have d4 : decide ((n : Int) < (b : Nat)) = true := decide_eq_true (by omega)
                  obtain ⟨gt, rfl, zt, rt⟩ := row_cell (HN.out.drop.drop) n (by rw [LC.out]; exact k2)
                  rw [LC.out] at y1 rt
                  have hF := EF.out
                  have hC := EC.out
                  rw [if_neg k1] at hF
                  rw [if_pos k2] at hC
                  rw [← hC] at zt
                  clear hC
                  go_wp2_with (first | (go_at_call 45; refine (floor_any g K2 n _ (keepOf HN.out)).mono ?_; rintro e w' ⟨rfl, rfl⟩) | (go_at_call 46; refine (commitOf_any g K2 n _ (keepOf HN.out)).mono ?_; rintro e w' ⟨rfl, rfl⟩))
                  go_round
                  case rel => exact ⟨n + 1, by omega, by omega, by go_num⟩
                  case measure => simp [intOf]; omega
                · have d4 : decide ((n : Int) < (b : Nat)) = false := decide_eq_false (by omega)
                  have hF := EF.out
                  have hC := EC.out
                  rw [if_neg k1] at hF
                  rw [if_neg k2] at hC
                  go_wp2_with (first | (go_at_call 45; refine (floor_any g K2 n _ (keepOf HN.out)).mono ?_; rintro e w' ⟨rfl, rfl⟩) | (go_at_call 46; refine (commitOf_any g K2 n _ (keepOf HN.out)).mono ?_; rintro e w' ⟨rfl, rfl⟩))
                  go_round
                  case rel => exact ⟨n + 1, by omega, by omega, by go_num⟩
                  case measure => simp [intOf]; omega
            · have d0 : decide (0 ≤ i) = false := decide_eq_false g0
              have hF : atI K2.F i = 0 := by unfold atI; rw [if_neg (by omega)]
              have hC : atI K2.C i = 0 := by unfold atI; rw [if_neg (by omega)]
              go_wp2_with (first | (go_at_call 45; refine (floor_any g K2 i _ (keepOf HN.out)).mono ?_; rintro e w' ⟨rfl, rfl⟩) | (go_at_call 46; refine (commitOf_any g K2 i _ (keepOf HN.out)).mono ?_; rintro e w' ⟨rfl, rfl⟩))
              go_round
              case rel => exact ⟨i + 1, by omega, by omega, by go_num⟩
              case measure => simp [intOf]; omega
          · have d2 : decide (i ≤ (b : Int)) = false := decide_eq_false g2
            go_wp2_with fail
            refine (works_any _).mono ?_
            rintro e v9 ⟨rfl, hb⟩
            have HN := Aside0.mk (HN.out.move hb)
            clear hb
            go_wp2_with fail
            go_ret
            exact ⟨rfl, HN.out.below⟩
        · have d1 : decide (i ≤ (s : Int)) = false := decide_eq_false g1
          go_wp2_with fail
          refine (works_any _).mono ?_
          rintro e v9 ⟨rfl, hb⟩
          have HN := Aside0.mk (HN.out.move hb)
          clear hb
          go_wp2_with fail
          go_ret
          exact ⟨rfl, HN.out.below⟩

def decklelaw14_StateApplies.f (b ln y s p we : Int) (_l1 : List S73) (_l2 : List S73) : Option Bool := if (Lit.int .i64 b).wf = true ∧ (Lit.int .i64 ln).wf = true then some true else none
theorem decklelaw14_StateApplies.calls (a0_0 : Int) (a0_1 : Int) (a0_2 : Int) (a0_3 : Int) (a0_4 : Int) (a0_5 : Int) (A1 : Option Addr) (c1 : Nat) (l1 : List S73) (A2 : Option Addr) (c2 : Nat) (l2 : List S73) (r : Bool) (w : World) (hr1 : Kd.C k73 w A1 l1.length l1) (hc1 : l1.length ≤ c1) (hr2 : Kd.C k73 w A2 l2.length l2) (hc2 : l2.length ≤ c2) (h : decklelaw14_StateApplies.f a0_0 a0_1 a0_2 a0_3 a0_4 a0_5 l1 l2 = some r) :
    Calls Try.prog 8 #[.agg #[.int .i64 a0_0, .int .i64 a0_1, .int .i64 a0_2, .int .i64 a0_3, .int .i64 a0_4, .int .i64 a0_5], .slice A1 l1.length c1, .slice A2 l2.length c2] w fun e w' => e = .returned (.bool r) ∧ Below w.heap.size w w' := by
  unfold decklelaw14_StateApplies.f at h
  by_cases c : (Lit.int .i64 a0_0).wf = true ∧ (Lit.int .i64 a0_1).wf = true
  · rw [if_pos c] at h
    obtain rfl := Option.some.inj h
    by_cases hs : 300 < a0_3 ∨ 100 < l1.length ∨ 100 < l2.length
    · exact applies_small _ _ _ _ _ _ _ _ _ _ _ _ w hs
    · by_cases hg : GeoOk a0_0 a0_1 a0_2 a0_3 a0_4 a0_5
      · have hz := hg.1
        unfold SizesOk at hz
        obtain ⟨b, rfl⟩ := Int.eq_ofNat_of_zero_le (show 0 ≤ a0_0 by omega)
        obtain ⟨s, rfl⟩ := Int.eq_ofNat_of_zero_le (show 0 ≤ a0_3 by omega)
        exact applies_ok b s _ _ _ _ _ _ _ _ _ _ w (by omega) (by omega) (by omega) c.2 hg hr1 hr2
      · exact applies_bad _ _ _ _ _ _ _ _ _ _ _ _ w (by omega) (by omega) (by omega) c.1 c.2 hg
  · rw [if_neg c] at h
    cases h
end Go.Proofs.Ytiblpienmkjmgaa.StateA
