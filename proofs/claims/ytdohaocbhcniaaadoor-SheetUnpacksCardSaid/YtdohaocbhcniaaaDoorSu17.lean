/- The law's proof: words, contracts of the functions that it reaches, plain lemmas. -/
import Derived.ArgAppend
import Derived.Below
import Derived.BigQuiet
import Derived.Carry
import Derived.Deep.AppendLies
import Derived.Deep.CutBlock
import Derived.Deep.DeepCutAuto
import Derived.Deep.Draws
import Derived.Deep.LoopGhost
import Derived.Deep.OwnRows
import Derived.Deep.QuietTactic
import Derived.Deep.RegionHeld3
import Derived.Deep.RegionWith
import Derived.KernelRfl
import Derived.Laws.BitsLemmas
import Derived.Laws.BytesArg
import Derived.Laws.IdiomCopy
import Derived.Laws.MakeOwn
import Derived.Laws.OwnMore
import Derived.Laws.Rows
import Derived.Laws.Slices
import Derived.Lib.AppendStr
import Derived.Lib.BufferMore
import Derived.Lib.ConvBytes
import Derived.Lib.Hide
import Derived.Lib.LazyBuf
import Derived.Maps.AppendAt
import Derived.OpenShut
import Derived.OrdersHeld
import Derived.Outline
import Derived.OwnWalk
import Derived.OwnWalkIn
import Derived.RegionTactic
import Derived.RowKit3
import Derived.StillTailTactics
import Derived.Tactics
import Derived.WalkKit
import Derived.WideLaws
import Derived.Test.YtdohaocbhcniaaaDoorSu9
import Derived.Test.YtdohaocbhcniaaaDoorSu16
import Derived.Test.YtdohaocbhcniaaaDoorSu3
section
/- The law SheetBack, by hand: the walk. -/
set_option linter.unusedVariables false
set_option linter.unusedSimpArgs false
namespace Go.Proofs.YtdohaocbhcniaaaDoor.PG
open Go.RowKit Go.Shelf Go.Proofs.YtdohaocbhcniaaaDoorW.PrintWords Go.Proofs.YtdohaocbhcniaaaDoor.Mem Go.Proofs.YtdohaocbhcniaaaDoor.Own Go.Proofs.YtdohaocbhcniaaaDoor.Hw

theorem own_sw2 {w0 w : World} (A B : Asn) {L : List Asn} (h : Own w0 w (A :: B :: L)) : Own w0 w (B :: A :: L) := h.map fun _ => Hold.swap
def decklelaw12_SheetBack.f (l0 : List S30) (a1 : Int) : Option Bool := some true
set_option maxHeartbeats 4000000 in
set_option maxRecDepth 100000 in
theorem back_many (A0 : Option Addr) (c0 : Nat) (l0 : List S30) (a1 : Int) (w : World) (h : 200 < l0.length) :
    Calls Tryd.prog 3 #[.slice A0 l0.length c0, .int .i64 a1] w fun e w' => e = .returned (.bool true) ∧ Below w.heap.size w w' := by
  have d1 : decide ((l0.length : Int) > 200) = true := decide_eq_true (by omega)
  have d2 : decide (200 < (l0.length : Int)) = true := decide_eq_true (by omega)
  have d3 : decide (200 < l0.length) = true := decide_eq_true h
  go_enter Tryd.func3, Tryd.ntmps3
  go_wp2_with fail
  refine (works_calls _).mono ?_
  rintro e w1 ⟨rfl, hb⟩
  go_wp2_with fail
  go_ret
  exact ⟨rfl, hb⟩
set_option maxHeartbeats 4000000 in
set_option maxRecDepth 100000 in
theorem back_no2 (A0 : Option Addr) (c0 : Nat) (l0 : List S30) (a1 : Int) (w : World) (hr0 : Kd.C k30 w A0 l0.length l0) (hl : ¬ 200 < l0.length) (hh : sheet_Hold.f a1 = some 0)
    (hpk : ∀ w1 : World, Below w.heap.size w w1 → Calls Tryd.prog 9 #[.slice A0 l0.length c0, .int .i64 a1] w1 fun e w' => ∃ v, e = .returned (.tuple #[v, .int .i64 2]) ∧ Own w w' (Txt v [] :: [])) :
    Calls Tryd.prog 3 #[.slice A0 l0.length c0, .int .i64 a1] w fun e w' => e = .returned (.bool true) ∧ Below w.heap.size w w' := by
  have HPK := Aside0.mk hpk
  have HH := Aside0.mk hh
  have HR0 := Aside0.mk hr0
  have d1 : decide ((l0.length : Int) > 200) = false := decide_eq_false (by omega)
  have d2 : decide (200 < (l0.length : Int)) = false := decide_eq_false (by omega)
  have d3 : decide (200 < l0.length) = false := decide_eq_false hl
  clear hpk hh hr0
  go_enter Tryd.func3, Tryd.ntmps3
  go_wp2_with fail
  refine (works_calls _).mono ?_
  rintro e w1 ⟨rfl, hb⟩
  have HW1 := Aside0.mk hb
  clear hb
  go_wp2_with fail
  clear d1 d2 d3
  refine (HPK.out _ HW1.out).mono ?_
  rintro e w2 ⟨v, rfl, ho⟩
  obtain ⟨A, c, rfl, _, _⟩ := ho.reads
  have H2 := Aside0.mk ho
  clear ho HPK HW1
  go_wp2_with fail
  refine (sheet_Hold.calls a1 _ _ HH.out).mono ?_
  rintro e w3 ⟨rfl, hb⟩
  have H3 := Aside0.mk (H2.out.move hb.below)
  clear hb H2
  go_wp2_with fail
  go_loopw [33, 8] (fun v33 v8 wr => ∃ (i : Nat) (b : Bool), i ≤ l0.length ∧ v33 = .int .i64 i ∧ v8 = .bool b ∧ Aside0 (b = false → ∀ j, j < i → mayR (l0.getD j z30)) ∧ Aside0 (Own w wr (Txt (.slice A 0 c) [] :: []))) (fun v33 _ _ => l0.length - (intOf v33).toNat)
  case atStart => exact ⟨0, false, by omega, rfl, rfl, ⟨fun _ j hj => by omega⟩, H3⟩
  case round =>
    clear H3
    obtain ⟨i, b, hin, rfl, rfl, HM, HO⟩ := hrel
    by_cases hlt : i < l0.length
    · have dl : decide ((i : Int) < (l0.length : Int)) = true := decide_eq_true (by omega)
      have dln : decide (i < l0.length) = true := decide_eq_true hlt
      obtain ⟨ad, rfl, x0, x1, x2⟩ := at_T30 (Kd.C_below HR0.out HO.out.below) (i : Int) (by omega) (by omega)
      obtain ⟨x, hx⟩ : ∃ x, x = l0.getD i z30 := ⟨_, rfl⟩
      have hx' : rd_T30 l0 (i : Int) = x := by rw [hx]; unfold rd_T30; rw [Int.toNat_natCast]
      rw [hx', Int.toNat_natCast] at x0 x1 x2
      have HX := Aside0.mk hx
      clear hx hx'
      have g1 : (0 ≤ (i : Int)) = True := eq_true (by omega)
      have g2 : ((i : Int) < (l0.length : Nat)) = True := eq_true (by omega)
      have g3 : (i < l0.length) = True := eq_true hlt
      have H4 := Aside0.mk (HO.out.alloc' (.cells #[.int .i64 x.f0, .int .i64 x.f1, .int .i64 x.f2] 30))
      clear HO
      cases b with
      | true =>
        go_wp2_with fail
        go_roundw
        case rel => exact ⟨i + 1, true, by omega, by go_num, rfl, ⟨fun q => by cases q⟩, ⟨H4.out⟩⟩
        case measure => simp [intOf]; omega
      | false =>
        go_wp2_with fail
        refine (rec_May.calls 2 x.f0 x.f1 x.f2 (decide (mayR x)) _ (rmay_is x 0)).mono ?_
        rintro e w4 ⟨rfl, hb⟩
        have H5 := Aside0.mk (H4.out.move hb)
        clear hb H4
        by_cases hm : mayR x
        · rw [decide_eq_true hm]
          go_wp2_with fail
          go_roundw
          case rel =>
            refine ⟨i + 1, false, by omega, by go_num, rfl, ⟨fun _ j hj => ?_⟩, ⟨H5.out⟩⟩
            by_cases e : j = i
            · rw [e, ← HX.out]; exact hm
            · exact HM.out (by first | rfl | trivial) j (by omega)
          case measure => simp [intOf]; omega
        · rw [decide_eq_false hm]
          go_wp2_with fail
          go_roundw
          case rel => exact ⟨i + 1, true, by omega, by go_num, rfl, ⟨fun q => by cases q⟩, ⟨H5.out⟩⟩
          case measure => simp [intOf]; omega
    · obtain rfl : i = l0.length := by omega
      have dl : decide ((l0.length : Int) < (l0.length : Int)) = false := decide_eq_false (by omega)
      have dln : decide (l0.length < l0.length) = false := decide_eq_false (by omega)
      go_wp2_with fail
      go_ret
      exact ⟨rfl, HO.out.below⟩
set_option maxHeartbeats 4000000 in
set_option maxRecDepth 100000 in
theorem back_no110 (A0 : Option Addr) (c0 : Nat) (l0 : List S30) (a1 : Int) (hd : Int) (w : World) (hr0 : Kd.C k30 w A0 l0.length l0) (hl : ¬ 200 < l0.length) (hh : sheet_Hold.f a1 = some hd) (hd0 : hd ≠ 0) (hbad : ¬ allR l0)
    (hpk : ∀ w1 : World, Below w.heap.size w w1 → Calls Tryd.prog 9 #[.slice A0 l0.length c0, .int .i64 a1] w1 fun e w' => ∃ v, e = .returned (.tuple #[v, .int .i64 110]) ∧ Own w w' (Txt v [] :: [])) :
    Calls Tryd.prog 3 #[.slice A0 l0.length c0, .int .i64 a1] w fun e w' => e = .returned (.bool true) ∧ Below w.heap.size w w' := by
  have HPK := Aside0.mk hpk
  have HH := Aside0.mk hh
  have HR0 := Aside0.mk hr0
  have HBAD := Aside0.mk hbad
  have HD0 := Lib.hid hd0
  clear hbad hd0
  have d1 : decide ((l0.length : Int) > 200) = false := decide_eq_false (by omega)
  have d2 : decide (200 < (l0.length : Int)) = false := decide_eq_false (by omega)
  have d3 : decide (200 < l0.length) = false := decide_eq_false hl
  clear hpk hh hr0
  go_enter Tryd.func3, Tryd.ntmps3
  go_wp2_with fail
  refine (works_calls _).mono ?_
  rintro e w1 ⟨rfl, hb⟩
  have HW1 := Aside0.mk hb
  clear hb
  go_wp2_with fail
  clear d1 d2 d3
  refine (HPK.out _ HW1.out).mono ?_
  rintro e w2 ⟨v, rfl, ho⟩
  obtain ⟨A, c, rfl, _, _⟩ := ho.reads
  have H2 := Aside0.mk ho
  clear ho HPK HW1
  go_wp2_with fail
  refine (sheet_Hold.calls a1 _ _ HH.out).mono ?_
  rintro e w3 ⟨rfl, hb⟩
  have H3 := Aside0.mk (H2.out.move hb.below)
  clear hb H2
  go_wp2_with fail
  go_loopw [33, 8] (fun v33 v8 wr => ∃ (i : Nat) (b : Bool), i ≤ l0.length ∧ v33 = .int .i64 i ∧ v8 = .bool b ∧ Aside0 (b = false → ∀ j, j < i → mayR (l0.getD j z30)) ∧ Aside0 (Own w wr (Txt (.slice A 0 c) [] :: []))) (fun v33 _ _ => l0.length - (intOf v33).toNat)
  case atStart => exact ⟨0, false, by omega, rfl, rfl, ⟨fun _ j hj => by omega⟩, H3⟩
  case round =>
    clear H3
    obtain ⟨i, b, hin, rfl, rfl, HM, HO⟩ := hrel
    by_cases hlt : i < l0.length
    · have dl : decide ((i : Int) < (l0.length : Int)) = true := decide_eq_true (by omega)
      have dln : decide (i < l0.length) = true := decide_eq_true hlt
      obtain ⟨ad, rfl, x0, x1, x2⟩ := at_T30 (Kd.C_below HR0.out HO.out.below) (i : Int) (by omega) (by omega)
      obtain ⟨x, hx⟩ : ∃ x, x = l0.getD i z30 := ⟨_, rfl⟩
      have hx' : rd_T30 l0 (i : Int) = x := by rw [hx]; unfold rd_T30; rw [Int.toNat_natCast]
      rw [hx', Int.toNat_natCast] at x0 x1 x2
      have HX := Aside0.mk hx
      clear hx hx'
      have g1 : (0 ≤ (i : Int)) = True := eq_true (by omega)
      have g2 : ((i : Int) < (l0.length : Nat)) = True := eq_true (by omega)
      have g3 : (i < l0.length) = True := eq_true hlt
      have H4 := Aside0.mk (HO.out.alloc' (.cells #[.int .i64 x.f0, .int .i64 x.f1, .int .i64 x.f2] 30))
      clear HO
      cases b with
      | true =>
        go_wp2_with fail
        go_roundw
        case rel => exact ⟨i + 1, true, by omega, by go_num, rfl, ⟨fun q => by cases q⟩, ⟨H4.out⟩⟩
        case measure => simp [intOf]; omega
      | false =>
        go_wp2_with fail
        refine (rec_May.calls 2 x.f0 x.f1 x.f2 (decide (mayR x)) _ (rmay_is x 0)).mono ?_
        rintro e w4 ⟨rfl, hb⟩
        have H5 := Aside0.mk (H4.out.move hb)
        clear hb H4
        by_cases hm : mayR x
        · rw [decide_eq_true hm]
          go_wp2_with fail
          go_roundw
          case rel =>
            refine ⟨i + 1, false, by omega, by go_num, rfl, ⟨fun _ j hj => ?_⟩, ⟨H5.out⟩⟩
            by_cases e : j = i
            · rw [e, ← HX.out]; exact hm
            · exact HM.out (by first | rfl | trivial) j (by omega)
          case measure => simp [intOf]; omega
        · rw [decide_eq_false hm]
          go_wp2_with fail
          go_roundw
          case rel => exact ⟨i + 1, true, by omega, by go_num, rfl, ⟨fun q => by cases q⟩, ⟨H5.out⟩⟩
          case measure => simp [intOf]; omega
    · obtain rfl : i = l0.length := by omega
      have dl : decide ((l0.length : Int) < (l0.length : Int)) = false := decide_eq_false (by omega)
      have dln : decide (l0.length < l0.length) = false := decide_eq_false (by omega)
      have ehd : (hd == 0) = false := beq_eq_false_iff_ne.2 HD0.out
      cases b with
      | false => exact absurd (HM.out (by first | rfl | trivial)) HBAD.out
      | true =>
        go_wp2_with fail
        go_ret
        exact ⟨rfl, HO.out.below⟩
set_option maxHeartbeats 4000000 in
set_option maxRecDepth 100000 in
theorem back_yes (A0 : Option Addr) (c0 : Nat) (l0 : List S30) (n H : Nat) (w : World) (hr0 : Kd.C k30 w A0 l0.length l0) (hc0 : l0.length ≤ c0) (hl : ¬ 200 < l0.length) (h16 : 16 ≤ n) (h256 : n ≤ 256) (hH : H = (n - 1) / 9) (hal : allR l0) :
    Calls Tryd.prog 3 #[.slice A0 l0.length c0, .int .i64 n] w fun e w' => e = .returned (.bool true) ∧ Below w.heap.size w w' := by
  have h1 : 1 ≤ H := by omega
  have h28 : H ≤ 28 := by omega
  have hpa := (pack_all H n h1 (l0.length + 1) l0 [] (by omega)).1 hal
  rw [List.nil_append] at hpa
  obtain ⟨m, hm⟩ : ∃ m, m = pagesN H l0 := ⟨_, rfl⟩
  rw [← hm] at hpa
  obtain ⟨ts, hts⟩ : ∃ ts, ts = (List.range m).map (fun j => pageB n (chunk H l0 j)) := ⟨_, rfl⟩
  rw [← hts] at hpa
  have htl : ts.length = m := by rw [hts, List.length_map, List.length_range]
  have hmq : m = (l0.length + H - 1) / H := hm
  have hmle : m ≤ l0.length := by
    rw [hmq]
    by_cases z : l0.length = 0
    · rw [z, Nat.div_eq_of_lt (by omega)]; omega
    · refine Nat.le_trans (Nat.div_le_div_right (c := H) (show l0.length + H - 1 ≤ l0.length * H from ?_)) (by rw [Nat.mul_div_cancel _ (by omega)]; exact Nat.le_refl _)
      obtain ⟨p, hp⟩ : ∃ p, l0.length = p + 1 := ⟨l0.length - 1, by omega⟩
      rw [hp, Nat.add_mul, Nat.one_mul]
      have : p ≤ p * H := Nat.le_mul_of_pos_right _ (by omega)
      omega
  have hgt : ∀ i, i < m → ts.getD i ⟨#[]⟩ = pageB n (chunk H l0 i) := by
    intro i hi
    rw [hts, List.getD_eq_getElem?_getD, List.getElem?_map, List.getElem?_range hi]
    rfl
  have HPK := Aside0.mk (fun (w1 : World) (hb : Below w.heap.size w w1) => pack_yes (w0 := w) (w := w1) (L := []) A0 c0 l0 n H h16 h256 hH hr0 hc0 (by omega) ((Own.new w).move hb))
  have HPA := Aside0.mk hpa
  have HH := Aside0.mk (show sheet_Hold.f (n : Int) = some (H : Int) from by rw [hold_is]; unfold holdV; rw [if_neg (by omega)]; congr 1; omega)
  have HR0 := Aside0.mk hr0
  have HC0 := Lib.hid hc0
  have HAL := Aside0.mk hal
  have HGT := Aside0.mk hgt
  have HTL := Lib.hid htl
  have HM := Lib.hid hm
  have HHH := Lib.hid hH
  have q1 : ((l0.length : Int) + (H : Int) - 1) / (H : Int) = (m : Int) := by
    rw [hmq, Int.natCast_ediv]
    congr 1
    omega
  have q2 : Int.tdiv ((l0.length : Int) + (H : Int) - 1) (H : Int) = (m : Int) := by rw [Int.tdiv_eq_ediv_of_nonneg (by omega), q1]
  have HQ := Aside0.mk (And.intro q1 q2)
  have d1 : decide ((l0.length : Int) > 200) = false := decide_eq_false (by omega)
  have d2 : decide (200 < (l0.length : Int)) = false := decide_eq_false (by omega)
  have d3 : decide (200 < l0.length) = false := decide_eq_false hl
  clear hpa hr0 hc0 hal hgt htl hm hH hts hmq q1 q2
  go_enter Tryd.func3, Tryd.ntmps3
  go_wp2_with fail
  refine (works_calls _).mono ?_
  rintro e w1 ⟨rfl, hb⟩
  have HW1 := Aside0.mk hb
  clear hb
  go_wp2_with fail
  clear d1 d2 d3
  refine (HPK.out _ HW1.out).mono ?_
  rintro e w2 ⟨v, rfl, ho⟩
  rw [HPA.out] at ho
  rw [HPA.out]
  obtain ⟨A, c, rfl, _, _⟩ := ho.reads
  have H2 := Aside0.mk ho
  clear ho HPK HW1
  dsimp only at H2
  rw [HTL.out] at H2
  dsimp only
  rw [HTL.out]
  go_wp2_with fail
  refine (sheet_Hold.calls n _ _ HH.out).mono ?_
  rintro e w3 ⟨rfl, hb⟩
  have H3 := Aside0.mk (H2.out.move hb.below)
  clear hb H2
  obtain ⟨q1, q2⟩ := HQ.out
  have e1 : decide ((H : Int) < 1) = false := decide_eq_false (by omega)
  have e1n : decide (H < 1) = false := decide_eq_false (by omega)
  go_wp2_with fail
  clear q1 q2 e1 e1n
  go_loopw [77, 11] (fun v77 v11 wr => ∃ (i : Nat), i ≤ m ∧ v77 = .int .i64 i ∧ Aside0 (Own w wr (Recs v11 (l0.take (H * i)) :: Txt (.slice A m c) ts :: []))) (fun v77 _ _ => m - (intOf v77).toNat)
  case atStart => exact ⟨0, by omega, rfl, ⟨by rw [Nat.mul_zero, List.take_zero]; exact nilR H3.out⟩⟩
  case round =>
    clear H3
    obtain ⟨i, hin, rfl, HO⟩ := hrel
    by_cases hlt : i < m
    · have dl : decide ((i : Int) < (m : Int)) = true := decide_eq_true (by omega)
      have dln : decide (i < m) = true := decide_eq_true hlt
      obtain ⟨A', c', e', _, hr'⟩ := HO.out.drop.reads
      injection e' with e1 e2 e3
      subst e1
      obtain ⟨ad, rfl, x0⟩ := Kd.at_string hr' (i : Int) (by omega) (by rw [HTL.out]; omega)
      obtain ⟨pg, hpg⟩ : ∃ pg, pg = pageB n (chunk H l0 i) := ⟨_, rfl⟩
      have hrd : rdOf ByteArray.empty ts (i : Int) = pg := by
        rw [hpg, ← HGT.out i hlt]
        unfold rdOf
        rw [Int.toNat_natCast]
        rfl
      rw [hrd, Int.toNat_natCast] at x0
      obtain ⟨k1, k2, k3, k4⟩ := chunk_ok H l0 i h1 (by rw [← HM.out]; exact hlt) HAL.out
      obtain ⟨u1, u2⟩ := page_unp n (chunk H l0 i) h16 h256 k1 (by rw [← HHH.out]; exact k2) k3
      rw [← hpg] at u1 u2
      obtain ⟨ck, hck⟩ : ∃ ck, ck = chunk H l0 i := ⟨_, rfl⟩
      rw [← hck] at k1 k2 k4 u2
      obtain ⟨kn, hkn⟩ : ∃ kn, kn = ck.length := ⟨_, rfl⟩
      have hkH : kn ≤ H := by omega
      have K4 := Aside0.mk k4
      have U2 := Aside0.mk u2
      have KN := Lib.hid hkn
      have hz : (((pg.size : Nat) : Int) == (n : Int)) = true := beq_iff_eq.2 (by omega)
      have hzn : (pg.size == n) = true := beq_iff_eq.2 u1
      have U1 := Lib.hid u1
      have dk : decide ((kn : Int) > (H : Int)) = false := decide_eq_false (by omega)
      have dk2 : decide ((H : Int) < (kn : Int)) = false := decide_eq_false (by omega)
      have dk3 : decide (H < kn) = false := decide_eq_false (by omega)
      have g1 : (0 ≤ (i : Int)) = True := eq_true (by omega)
      have g2 : ((i : Int) < (m : Nat)) = True := eq_true (by omega)
      have g3 : (i < m) = True := eq_true hlt
      clear hrd hpg k1 k2 k3 k4 u1 u2 hck hkn e2 e3 hr'
      go_wp2_with fail
      refine (unpack_own pg (by have := U1.out; omega) HO.out).mono ?_
      rintro e w4 ⟨v2, rfl, ho⟩
      rw [U2.out] at ho
      rw [U2.out]
      obtain ⟨A2, c2, rfl, _, hr2⟩ := ho.reads
      have hr3 : Kd.C k30 w4 A2 ck.length ck := hr2
      have H5 := Aside0.mk (own_sw2 _ _ ho)
      have HR3 := Aside0.mk hr3
      clear ho hr2 hr3 HO x0
      dsimp only at H5
      dsimp only
      rw [← KN.out] at H5 HR3 ⊢
      have hl5 : ((l0.take (H * i)).length + kn) * 24 ≤ 140737488355328 := by rw [List.length_take]; omega
      have HL5 := Lib.hid hl5
      have hz0 : pg.size = n := U1.out
      have hz1 : ((n : Int) == (n : Int)) = true := beq_self_eq_true _
      clear hl5 hz hzn
      go_wp2_with (at_builtin; refine own_append_rows (w0 := w) k30 rfl (.tmp 100) (.tmp 101) 22 30 (.agg #[.int .i64 0, .int .i64 0, .int .i64 0]) 24 rfl Tryd.underlying22 infoRec rfl (by decide) (by decide) u11 (l0.take (H * i)) ck A2 kn c2 (by first | rfl | (go_simp; done)) (by first | rfl | (go_simp; done)) HR3.out (fun x cs h => by rw [k30_open h]; exact k30_mkM _ _ _ x) H5.out HL5.out ?_; intro v1 w5 ho)
      rw [K4.out] at ho
      have H6 := Aside0.mk (own_sw2 _ _ ho).drop
      clear ho H5 HR3
      go_roundw
      case rel => exact ⟨i + 1, by omega, by go_num, H6⟩
      case measure => simp [intOf]; omega
    · obtain rfl : i = m := by omega
      have dl : decide ((i : Int) < (i : Int)) = false := decide_eq_false (by omega)
      have dln : decide (i < i) = false := decide_eq_false (by omega)
      have hpe : l0.take (H * i) = l0 := by rw [HM.out]; exact pages_end H l0 h1
      rw [hpe] at HO
      obtain ⟨A3, c3, e3, hc3, hr3⟩ := HO.out.reads
      have HSM := Aside0.mk (decklebook_SameRecs.calls (l0.length + 1) A3 c3 l0 A0 c0 l0 true wr hr3 hc3 (Kd.C_below HR0.out HO.out.below) HC0.out (sameR_is l0 (by omega)))
      subst e3
      clear hr3 hc3 hpe
      go_wp2_with fail
      refine HSM.out.mono ?_
      rintro e w4 ⟨rfl, hb⟩
      have H5 := Aside0.mk (HO.out.move hb.below)
      clear hb HO
      go_wp2_with fail
      go_ret
      exact ⟨rfl, H5.out.below⟩
theorem decklelaw12_SheetBack.calls (A0 : Option Addr) (c0 : Nat) (l0 : List (S30)) (a1 : Int) (w : World) (hr0 : Kd.C k30 w A0 l0.length l0) (hc0 : l0.length ≤ c0) (h : decklelaw12_SheetBack.f l0 a1 = some true) (HL : Aside0 (Hu.Laid w)) :
    Calls Tryd.prog 3 #[.slice A0 l0.length c0, .int .i64 a1] w fun e w' => e = .returned (.bool true) ∧ Below w.heap.size w w' := by
  by_cases h1 : 200 < l0.length
  · exact back_many A0 c0 l0 a1 w h1
  by_cases h0 : holdV a1 = 0
  · exact back_no2 A0 c0 l0 a1 w hr0 h1 (by rw [hold_is, h0]) (fun w1 hb => pack_no A0 c0 l0 a1 h0 ((Own.new w).move hb))
  have hn : 16 ≤ a1 ∧ a1 ≤ 256 := by unfold holdV at h0; split at h0 <;> omega
  obtain ⟨n, rfl⟩ := Int.eq_ofNat_of_zero_le (show 0 ≤ a1 by omega)
  by_cases hal : allR l0
  · exact back_yes A0 c0 l0 n _ w hr0 hc0 h1 (by omega) (by omega) rfl hal
  · have hp := (pack_all ((n - 1) / 9) n (by omega) (l0.length + 1) l0 [] (by omega)).2 hal
    refine back_no110 A0 c0 l0 n (((n - 1) / 9 : Nat) : Int) w hr0 h1 (by rw [hold_is]; unfold holdV; rw [if_neg (by omega)]; congr 1; omega) (by omega) hal (fun w1 hb => ?_)
    have := pack_yes (w0 := w) (w := w1) (L := []) A0 c0 l0 n ((n - 1) / 9) (by omega) (by omega) rfl hr0 hc0 (by omega) ((Own.new w).move hb)
    rw [hp] at this
    exact this
end Go.Proofs.YtdohaocbhcniaaaDoor.PG
end
