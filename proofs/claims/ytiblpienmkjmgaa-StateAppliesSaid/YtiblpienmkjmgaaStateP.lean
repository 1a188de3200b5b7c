/- The document's answer for what is durable, record by record. -/
import Derived.Test.YtiblpienmkjmgaaProg
import Derived.Below
import Derived.Deep.Draws
import Derived.Deep.AppendLies
import Derived.Maps.AppendAt
import Derived.OwnWalk
import Derived.Laws.BytesArg
import Derived.Laws.MakeOwn
import Derived.Laws.OwnMore
import Derived.Deep.OwnRows
import Derived.Tactics
import Derived.Lib.ConvBytes
import Derived.Laws.Slices
import Derived.WalkKit
import Derived.KernelRfl
import Derived.RowKit3
import Derived.Deep.LoopGhost
import Derived.Deep.QuietTactic
import Derived.BigQuiet
import Derived.WideLaws
import Derived.Deep.DeepCutAuto
import Derived.Deep.CutBlock
import Derived.Deep.RegionHeld3
import Derived.Deep.RegionWith
import Derived.Laws.Rows
import Derived.Lib.AppendStr
import Derived.ArgAppend
import Derived.Laws.IdiomCopy
import Derived.OrdersHeld
import Derived.Laws.BitsLemmas
import Derived.Outline
import Derived.RegionTactic
import Derived.Lib.Hide
import Derived.StillTailTactics
import Derived.Deep.RegionWith
import Derived.OpenShut
import Derived.Test.YtiblpienmkjmgaaWWords
import Derived.Test.YtiblpienmkjmgaaStateO
import Derived.Test.YtiblpienmkjmgaaStateK
import Derived.Test.YtiblpienmkjmgaaPSx32
import Derived.Test.YtiblpienmkjmgaaPSGeomRefCheck
set_option linter.unusedVariables false
namespace Go.Proofs.Ytiblpienmkjmgaa.StateA
open Go.RowKit Go.Proofs.YtiblpienmkjmgaaW.PrintWords Go.Proofs.Ytiblpienmkjmgaa.Mem Go.Proofs.Ytiblpienmkjmgaa.PS Go.Proofs.Ytiblpienmkjmgaa.Own

/-- Records one by one, up to the first that is refused. -/
def allK (K : Kp) : List S73 → Kp × Int
  | [] => (K, 0)
  | r :: rs => if (applyK K r.f0 r.f1 r.f2).2 = 0 then allK (applyK K r.f0 r.f1 r.f2).1 rs else (K, (applyK K r.f0 r.f1 r.f2).2)
theorem allK_fine (l : List S73) : ∀ K : Kp, K.Fine → (allK K l).1.Fine := by
  induction l with
  | nil => exact fun K h => h
  | cons r rs ih =>
    intro K h
    unfold allK
    split
    · exact ih _ (apply_fine K _ _ _ h).1
    · exact h
theorem apply_no (K : Kp) (k a b : Int) (h : (applyK K k a b).2 ≠ 0) : (applyK K k a b).1 = K := by
  unfold applyK at h ⊢
  split
  · rfl
  · split
    · rfl
    · rename_i h1 h2
      rw [if_neg h1, if_neg h2] at h
      split at h
      · exact absurd rfl h
      · split at h
        · split at h <;> exact absurd rfl h
        · exact absurd rfl h
theorem drop_rd (l : List S73) (n : Nat) (h : n < l.length) : l.drop n = rd_T73 l n :: l.drop (n + 1) := by
  rw [List.drop_eq_getElem_cons h]
  congr 1
  show _ = l.getD (n : Int).toNat _
  rw [Int.toNat_natCast, List.getD_eq_getElem?_getD, List.getElem?_eq_getElem h]
  rfl
abbrev nilSt : Obj := .cells #[.slice none 0 0, .slice none 0 0, .slice none 0 0, .slice none 0 0] 69 (0, 0)
def AfterA (w0 wx : World) (B2 B4 : Nat) (o2 o4 : Obj) (K : Kp) (L : List Asn) (s7 : Value) : Prop := ∃ B7 A1 A2 A3 A4 c1 c2 c3 c4, s7 = .pointer (some ⟨B7, 0, none⟩) ∧
  Own w0 wx (Pt B7 (stC K A1 A2 A3 A4 c1 c2 c3 c4) :: J A1 c1 K.F :: J A2 c2 K.C :: J A3 c3 K.S :: J A4 c4 K.T :: Pt B2 o2 :: Pt B4 o4 :: L)

theorem allK_one {K K' : Kp} {r : S73} {rs : List S73} (h : applyK K r.f0 r.f1 r.f2 = (K', 0)) : allK K (r :: rs) = allK K' rs := by
  show (if (applyK K r.f0 r.f1 r.f2).2 = 0 then _ else _) = _
  rw [h, if_pos rfl]
theorem allK_stop {K K' : Kp} {r : S73} {rs : List S73} {c : Int} (h : applyK K r.f0 r.f1 r.f2 = (K', c)) (hc : c ≠ 0) : allK K (r :: rs) = (K, c) := by
  show (if (applyK K r.f0 r.f1 r.f2).2 = 0 then _ else _) = _
  rw [h, if_neg hc]
def AfterB (w0 wx : World) (B2 B4 : Nat) (o2 o4 : Obj) (A1 A2 A3 A4 : Option Addr) (c1 c2 c3 c4 : Nat) (K : Kp) (L : List Asn) (s7 : Value) : Prop := (∃ B7 : Nat, s7 = .pointer (some ⟨B7, 0, none⟩)) ∧
  Own w0 wx (J A1 c1 K.F :: J A2 c2 K.C :: J A3 c3 K.S :: J A4 c4 K.T :: Pt B2 o2 :: Pt B4 o4 :: L)

set_option maxHeartbeats 4000000 in
set_option maxRecDepth 100000 in
theorem refAll_own {w0 w : World} {L : List Asn} {K0 : Kp} (A1 A2 A3 A4 : Option Addr) (c1 c2 c3 c4 : Nat) (A0 : Option Addr) (c0 : Nat) (l0 : List S73) (HO : Own w0 w (J A1 c1 K0.F :: J A2 c2 K0.C :: J A3 c3 K0.S :: J A4 c4 K0.T :: L)) (fine : K0.Fine)
    (hr0 : Kd.C k73 w0 A0 l0.length l0) :
    Calls Try.prog 43 #[stV K0 A1 A2 A3 A4 c1 c2 c3 c4, .slice A0 l0.length c0] w fun e w' => ∃ A1 A2 A3 A4 c1 c2 c3 c4, e = .returned (.tuple #[stV (allK K0 l0).1 A1 A2 A3 A4 c1 c2 c3 c4, .int .i64 (allK K0 l0).2]) ∧
      Own w0 w' (J A1 c1 (allK K0 l0).1.F :: J A2 c2 (allK K0 l0).1.C :: J A3 c3 (allK K0 l0).1.S :: J A4 c4 (allK K0 l0).1.T :: L) := by
  have HR0 := Aside0.mk hr0
  have HF := Aside0.mk fine
  have HO := Aside0.mk HO
  have hn := Kd.C_max hr0
  clear hr0 fine
  go_enter Try.func43, Try.ntmps43
  go_wp2_with fail
  have ho2 := (HO.out.alloc (stC K0 A1 A2 A3 A4 c1 c2 c3 c4)).alloc nilSt
  rw [World.size_alloc] at ho2
  have HO := Aside0.mk ho2.push5.push4
  clear ho2
  go_loopw [6] (fun v6 wr => ∃ (i : Nat) (K : Kp) (A1 A2 A3 A4 : Option Addr) (c1 c2 c3 c4 : Nat), i ≤ l0.length ∧ v6 = .int .i64 i ∧ Aside0 (allK K0 l0 = allK K (l0.drop i) ∧ K.Fine) ∧ Aside0 (Own w0 wr (J A1 c1 K.F :: J A2 c2 K.C :: J A3 c3 K.S :: J A4 c4 K.T :: Pt w.heap.size (stC K A1 A2 A3 A4 c1 c2 c3 c4) :: Pt (w.heap.size + 1) nilSt :: L))) (fun v6 _ => l0.length - (intOf v6).toNat)
  case atStart => exact ⟨0, K0, A1, A2, A3, A4, c1, c2, c3, c4, Nat.zero_le _, rfl, ⟨rfl, HF.out⟩, HO⟩
  case round =>
    clear HO
    obtain ⟨i, K, A1, A2, A3, A4, c1, c2, c3, c4, hi, rfl, HK, HO⟩ := hrel
    obtain ⟨x0, x1, x2, x3, z0, z1, z2, z3⟩ := cells4 (HO.out.drop.drop.drop.drop.pt)
    have hsz := blk_lt (HO.out.drop.drop.drop.drop.drop.pt)
    obtain ⟨p0, p1, p2, p3, r0, r1, r2, r3⟩ := cells4 (HO.out.drop.drop.drop.drop.drop.pt)
    by_cases hlt : i < l0.length
    · have dl : decide ((i : Int) < (l0.length : Nat)) = true := decide_eq_true (by omega)
      obtain ⟨ad, rfl, q0, q1, q2⟩ := at_T73 (Kd.C_below HR0.out HO.out.below) (i : Int) (by omega) (by omega)
      rw [Int.toNat_natCast] at q0 q1 q2
      obtain ⟨⟨k, a, b⟩, hR⟩ : ∃ R, R = rd_T73 l0 i := ⟨_, rfl⟩
      obtain ⟨ad2, ead, e0, e1, e2⟩ := at_T73 (Kd.C_below HR0.out (HO.out.alloc' nilSt).below) (i : Int) (by omega) (by omega)
      obtain rfl := Option.some.inj ead
      rw [Int.toNat_natCast] at e0 e1 e2
      rw [← hR] at q0 q1 q2 e0 e1 e2
      dsimp only at q0 q1 q2 e0 e1 e2
      clear ead
      have HD := Lib.hid (drop_rd l0 i hlt)
      have HRR := Lib.hid hR
      clear hR
      have hb2 := blk_lt (HO.out.drop.drop.drop.drop.pt)
      have HA : Aside0 (Own w0 (wr.drew.alloc nilSt) (J A1 c1 K.F :: J A2 c2 K.C :: J A3 c3 K.S :: J A4 c4 K.T :: Pt wr.heap.size nilSt :: Pt w.heap.size (stC K A1 A2 A3 A4 c1 c2 c3 c4) :: Pt (w.heap.size + 1) nilSt :: L)) := ⟨(HO.out.drew.alloc nilSt).push4⟩
      have hap : ∃ K' c, applyK K k a b = (K', c) := ⟨_, _, rfl⟩
      obtain ⟨K', c, hap⟩ := hap
      have HAP := Lib.hid hap
      by_cases hc : c = 0
      · subst hc
        have HCT : Aside0 (∀ (W : World) (L' : List Asn), Own w0 W (J A1 c1 K.F :: J A2 c2 K.C :: J A3 c3 K.S :: J A4 c4 K.T :: L') →
            Calls Try.prog 40 #[stV K A1 A2 A3 A4 c1 c2 c3 c4, recV k a b] W fun e w' => ∃ A1 A2 A3 A4 c1 c2 c3 c4, e = .returned (.tuple #[stV K' A1 A2 A3 A4 c1 c2 c3 c4, .int .i64 0]) ∧ Own w0 w' (J A1 c1 K'.F :: J A2 c2 K'.C :: J A3 c3 K'.S :: J A4 c4 K'.T :: L')) := ⟨fun W L' ho => by
          have := refApply_own A1 A2 A3 A4 c1 c2 c3 c4 k a b ho HK.out.2
          rw [hap] at this
          exact this⟩
        clear hap p0 p1 p2 p3 r0 r1 r2 r3
        go_wp2_with fail
        go_cut [7, 8] (fun s7 s8 wx => s8 = .int .i64 0 ∧ AfterA w0 wx w.heap.size (w.heap.size + 1) (stC K A1 A2 A3 A4 c1 c2 c3 c4) nilSt K' L s7)
        case first =>
          go_region_with (go_at_call 40; refine (HCT.out _ _ (by first | exact HO.out.drew | exact HA.out)).mono ?_; rintro e w' ⟨E1, E2, E3, E4, f1, f2, f3, f4, rfl, ho⟩; obtain ⟨y0, y1, y2, y3, t0, t1, t2, t3⟩ := cells4 ho.drop.drop.drop.drop.pt; have HN := Aside0.mk ho; clear ho)
          all_goals go_wp2_with fail
          all_goals go_meet
          all_goals first | exact ⟨rfl, _, E1, E2, E3, E4, f1, f2, f3, f4, rfl, HN.out.alloc _⟩ | exact ⟨rfl, _, E1, E2, E3, E4, f1, f2, f3, f4, rfl, HN.out.pull5.set4 _ _ _ _⟩
        case rest =>
          obtain ⟨rfl, B7, E1, E2, E3, E4, f1, f2, f3, f4, rfl, ho⟩ := hcut
          obtain ⟨t0, t1, t2, t3, _, _, _, _⟩ := cells4 ho.pt
          obtain ⟨m0, m1, m2, m3, n0, n1, n2, n3⟩ := cells4 (ho.drop.drop.drop.drop.drop.pt)
          have HN := Aside0.mk ho
          clear ho HO HA q0 q1 q2 x0 x1 x2 x3 z0 z1 z2 z3
          go_wp2_with fail
          go_roundw
          case rel =>
            exact ⟨i + 1, K', E1, E2, E3, E4, f1, f2, f3, f4, by omega, by go_num, ⟨by rw [HK.out.1, HD.out, ← HRR.out]; exact allK_one HAP.out, by have := (apply_fine K k a b HK.out.2).1; rw [HAP.out] at this; exact this⟩, ⟨(HN.out.drop.pull5.set4 _ _ _ _).push4⟩⟩
          case measure => simp [intOf]; omega
      · have hcb : (c != 0) = true := by simpa using hc
        have HC := Lib.hid hc
        have HCT : Aside0 (∀ (W : World), Calls Try.prog 40 #[stV K A1 A2 A3 A4 c1 c2 c3 c4, recV k a b] W fun e w' => e = .returned (.tuple #[stV K A1 A2 A3 A4 c1 c2 c3 c4, .int .i64 c]) ∧ Below W.heap.size W w') := ⟨fun W => by
          have := refApply_no A1 A2 A3 A4 c1 c2 c3 c4 k a b K W HK.out.2 (by rw [hap]; exact hc)
          rw [hap] at this
          exact this⟩
        clear hap hc p0 p1 p2 p3 r0 r1 r2 r3
        go_wp2_with fail
        go_cut [7, 8] (fun s7 s8 wx => s8 = .int .i64 c ∧ AfterB w0 wx w.heap.size (w.heap.size + 1) (stC K A1 A2 A3 A4 c1 c2 c3 c4) nilSt A1 A2 A3 A4 c1 c2 c3 c4 K L s7)
        case first =>
          go_region_with (go_at_call 40; refine (HCT.out _).mono ?_; rintro e w' ⟨rfl, hb⟩; (first | have HN := Aside0.mk (HA.out.move hb) | have HN := Aside0.mk (HO.out.drew.move hb)); obtain ⟨y0, y1, y2, y3, t0, t1, t2, t3⟩ := cells4 HN.out.drop.drop.drop.drop.pt; clear hb)
          all_goals go_wp2_with fail
          all_goals go_meet
          all_goals first | exact ⟨rfl, ⟨_, rfl⟩, HN.out.alloc' _⟩ | exact ⟨rfl, ⟨_, rfl⟩, (HN.out.pull5.set4 _ _ _ _).drop⟩
        case rest =>
          obtain ⟨rfl, ⟨B7, rfl⟩, ho⟩ := hcut
          obtain ⟨m0, m1, m2, m3, n0, n1, n2, n3⟩ := cells4 (ho.drop.drop.drop.drop.pt)
          obtain ⟨p0, p1, p2, p3, r0, r1, r2, r3⟩ := cells4 (ho.drop.drop.drop.drop.drop.pt)
          have HN := Aside0.mk ho
          clear ho HO HA q0 q1 q2 x0 x1 x2 x3 z0 z1 z2 z3
          go_wp2_with fail
          have hfin := HN.out.pull6.set4 (.slice A1 K.F.length c1) (.slice A2 K.C.length c2) (.slice A3 K.S.length c3) (.slice A4 K.T.length c4)
          obtain ⟨q0, q1, q2, q3, _, _, _, _⟩ := cells4 hfin.pt
          refine bodyPost_ret (v := .tuple #[stV K A1 A2 A3 A4 c1 c2 c3 c4, .int .i64 c]) (by simp [results, Try.results43, go_sem, q0, q1, q2, q3]) rfl ?_
          have ha : allK K0 l0 = (K, c) := by rw [HK.out.1, HD.out, ← HRR.out]; exact allK_stop HAP.out HC.out
          rw [ha]
          exact ⟨A1, A2, A3, A4, c1, c2, c3, c4, rfl, hfin.drop.pull5.drop⟩
    · obtain rfl : i = l0.length := by omega
      clear hlt
      have HN := HO
      clear HO
      go_wp2_with fail
      have hfin := HN.out.pull6.set4 (.slice A1 K.F.length c1) (.slice A2 K.C.length c2) (.slice A3 K.S.length c3) (.slice A4 K.T.length c4)
      obtain ⟨q0, q1, q2, q3, _, _, _, _⟩ := cells4 hfin.pt
      refine bodyPost_ret (v := .tuple #[stV K A1 A2 A3 A4 c1 c2 c3 c4, .int .i64 0]) (by simp [results, Try.results43, go_sem, q0, q1, q2, q3]) rfl ?_
      have ha : allK K0 l0 = (K, 0) := by rw [HK.out.1, List.drop_of_length_le (Nat.le_refl _)]; rfl
      rw [ha]
      exact ⟨A1, A2, A3, A4, c1, c2, c3, c4, rfl, hfin.drop.pull5.drop⟩
end Go.Proofs.Ytiblpienmkjmgaa.StateA
