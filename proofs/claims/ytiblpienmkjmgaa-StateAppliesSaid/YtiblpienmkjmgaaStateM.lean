/- The contract of StateOrder. -/
import Derived.Test.YtiblpienmkjmgaaProg
import Derived.Below
import Derived.Deep.Draws
import Derived.Deep.AppendLies
import Derived.Maps.AppendAt
import Derived.OwnWalk
import Derived.Laws.BytesArg
import Derived.Laws.MakeOwn
import Derived.Laws.OwnMore
import Derived.Deep.OwnRows
import Derived.Tactics
import Derived.Lib.ConvBytes
import Derived.Laws.Slices
import Derived.WalkKit
import Derived.KernelRfl
import Derived.RowKit3
import Derived.Deep.LoopGhost
import Derived.Deep.QuietTactic
import Derived.BigQuiet
import Derived.WideLaws
import Derived.Deep.DeepCutAuto
import Derived.Deep.CutBlock
import Derived.Deep.RegionHeld3
import Derived.Deep.RegionWith
import Derived.Laws.Rows
import Derived.Lib.AppendStr
import Derived.ArgAppend
import Derived.Laws.IdiomCopy
import Derived.OrdersHeld
import Derived.Laws.BitsLemmas
import Derived.Outline
import Derived.RegionTactic
import Derived.Lib.Hide
import Derived.StillTailTactics
import Derived.Deep.RegionWith
import Derived.OpenShut
import Derived.Test.YtiblpienmkjmgaaWWords
import Derived.Test.YtiblpienmkjmgaaStateL
import Derived.Test.YtiblpienmkjmgaaPSx7
set_option linter.unusedVariables false
namespace Go.Proofs.Ytiblpienmkjmgaa.StateA
open Go.RowKit Go.Proofs.YtiblpienmkjmgaaW.PrintWords Go.Proofs.Ytiblpienmkjmgaa.Mem Go.Proofs.Ytiblpienmkjmgaa.PS Go.Proofs.Ytiblpienmkjmgaa.Own

theorem below_book (x : Int) (n : Nat) (hn : 0 < n) (hn2 : n ≤ 1000) : ∃ B : Nat, B < n ∧ decklebook_Below.f x n = some (B : Int) := by
  unfold decklebook_Below.f
  rw [if_neg (by omega)]
  have h1 := Int.tmod_lt_of_pos x (show (0 : Int) < n by omega)
  have h2 : -(n : Int) < Int.tmod x n := by
    by_cases h0 : 0 ≤ x
    · have := Int.tmod_nonneg (n : Int) h0; omega
    · have h3 := Int.tmod_lt_of_pos (-x) (show (0 : Int) < n by omega)
      rw [Int.neg_tmod] at h3
      omega
  generalize Int.tmod x n = r at h1 h2 ⊢
  by_cases h : r < 0
  · rw [if_pos h, show wrap64 (r + n) = r + n by unfold wrap64; omega]
    exact ⟨(r + n).toNat, by omega, by congr 1; omega⟩
  · rw [if_neg h]
    exact ⟨r.toNat, by omega, by congr 1; omega⟩

theorem ints_reads {w0 w : World} {L : List Asn} {b d : Nat} {xs : List Int} (h : Own w0 w (Ints b d xs :: L)) : (Kd.int .i64).C w (some ⟨b, 0, none⟩) xs.length xs ∧ xs.length ≤ d := by
  obtain ⟨_, hs, _⟩ := h.head
  have := Kd.R_reads' hs
  exact ⟨this.2.2, this.2.1⟩
theorem place_int (len B i : Nat) (h : i < 2 * len) : (2 * (len : Int) - 1 - i + B) % len = (place len B i : Nat) := by
  unfold place
  rw [Int.natCast_emod]
  congr 1
  omega

set_option maxHeartbeats 8000000 in
set_option maxRecDepth 100000 in
theorem order (A0 : Option Addr) (c0 : Nat) (l0 : List S73) (from_ : Int) (w : World) (hr0 : Kd.C k73 w A0 l0.length l0) (hc0 : l0.length ≤ c0) (hlen : l0.length ≤ 60) :
    Calls Try.prog 7 #[.slice A0 l0.length c0, .int .i64 from_] w fun e w' => e = .returned (.bool true) ∧ Below w.heap.size w w' := by
  have HO := Aside0.mk (Own.new w)
  have HR0 := Aside0.mk hr0
  have d1 : decide ((60 : Int) < (l0.length : Nat)) = false := decide_eq_false (by omega)
  clear hr0
  go_enter Try.func7, Try.ntmps7
  go_wp2_with fail
  refine (works_any _).mono ?_
  rintro e v0 ⟨rfl, hb⟩
  have HO := Aside0.mk (HO.out.move hb)
  clear hb
  go_wp2_with fail
  refine (decklelaw14_geo.calls 8 6 64 4 0 4 _ rfl).mono ?_
  rintro e v1 ⟨rfl, hb⟩
  have HO := Aside0.mk (HO.out.move hb)
  clear hb
  go_wp2_with fail
  refine (new_own 8 4 6 64 0 4 HO.out geo_ok (by omega) (by omega)).mono ?_
  rintro e v2 ⟨L1, rfl, ho⟩
  have HO := Aside0.mk ho
  clear ho
  go_wp2_with fail
  refine (decklelaw14_geo.calls 8 6 64 4 0 4 _ rfl).mono ?_
  rintro e v3 ⟨rfl, hb⟩
  have HO := Aside0.mk (HO.out.move hb)
  clear hb
  go_wp2_with fail
  refine (new_own 8 4 6 64 0 4 HO.out geo_ok (by omega) (by omega)).mono ?_
  rintro e v4 ⟨L2, rfl, ho⟩
  have HO := Aside0.mk ho
  clear ho
  go_wp2_with fail
  go_loopw [43] (fun v43 wr => ∃ (n : Nat) (K : Kp), n ≤ l0.length ∧ v43 = .int .i64 n ∧ Aside0 (Top (Seen1 l0 n) K) ∧ Aside0 (Own w wr [Keep L1 K, Keep L2 (newK 8 4)])) (fun v43 _ => l0.length - (intOf v43).toNat)
  case atStart => exact ⟨0, newK 8 4, Nat.zero_le _, rfl, ⟨top_new1 l0⟩, ⟨HO.out.pull2⟩⟩
  case round =>
    clear HO
    obtain ⟨n, K, hn, rfl, HT, HO⟩ := hrel
    by_cases hlt : n < l0.length
    · have dl : decide ((n : Int) < (l0.length : Nat)) = true := decide_eq_true (by omega)
      obtain ⟨ad, rfl, q0, q1, q2⟩ := at_T73 (Kd.C_below HR0.out HO.out.below) (n : Int) (by omega) (by omega)
      rw [Int.toNat_natCast] at q0 q1 q2
      obtain ⟨⟨k, a, b⟩, hR⟩ : ∃ R, R = rd_T73 l0 n := ⟨_, rfl⟩
      rw [← hR] at q0 q1 q2
      dsimp only at q0 q1 q2
      by_cases hk : k = 1 ∨ k = 2
      · have HK := Aside0.mk (HT.out.one hR.symm hk)
        clear hR
        rcases hk with rfl | rfl
        all_goals
          go_wp2_with fail
          refine (apply_own _ _ _ _ HO.out rfl HT.out.fine).mono ?_
          rintro e v5 ⟨rfl, ho⟩
          have HO := Aside0.mk ho
          clear ho
          go_wp2_with fail
          go_roundw
          case rel => exact ⟨n + 1, _, by omega, by go_num, HK, HO⟩
          case measure => simp [intOf]; omega
      · have HK := Aside0.mk (HT.out.oneNot hR.symm hk)
        have k1 : (k == 1) = false := by simp; omega
        have k2 : (k == 2) = false := by simp; omega
        clear hR hk
        go_wp2_with fail
        go_roundw
        case rel => exact ⟨n + 1, _, by omega, by go_num, HK, HO⟩
        case measure => simp [intOf]; omega
    · obtain rfl : n = l0.length := by omega
      clear hlt
      obtain ⟨B, hBB⟩ : ∃ B : Nat, 0 < l0.length → B < l0.length ∧ decklebook_Below.f from_ l0.length = some (B : Int) := by
        by_cases hz : 0 < l0.length
        · obtain ⟨B, h1, h2⟩ := below_book from_ l0.length hz (by omega)
          exact ⟨B, fun _ => ⟨h1, h2⟩⟩
        · exact ⟨0, fun h => absurd h hz⟩
      have HB := Aside0.mk hBB
      clear hBB
      go_wp2_with fail
      go_loopw [70] (fun v70 wr => ∃ (i : Nat) (M : Kp), i ≤ 2 * l0.length ∧ v70 = .int .i64 i ∧ Aside0 (Top (Seen2 l0 B i) M) ∧ Aside0 (Own w wr [Keep L2 M, Keep L1 K])) (fun v70 _ => 2 * l0.length - (intOf v70).toNat)
      case atStart => exact ⟨0, newK 8 4, Nat.zero_le _, rfl, ⟨top_new2 l0 B⟩, ⟨HO.out.pull2⟩⟩
      case round =>
        clear HO
        obtain ⟨i, M, hi, rfl, HT2, HO⟩ := hrel
        by_cases hlt : i < 2 * l0.length
        · have dl : decide ((i : Int) < 2 * (l0.length : Nat)) = true := decide_eq_true (by omega)
          have hz : 0 < l0.length := by omega
          have hbb := (HB.out hz).1
          have hidx := place_int l0.length B i hlt
          have hm := Nat.mod_lt (2 * l0.length - 1 - i + B) hz
          change place l0.length B i < l0.length at hm
          have HIX := Lib.hid hidx
          have HBF := Lib.hid (HB.out hz).2
          have HID := Lib.hid hidx
          have i1 : 0 ≤ (2 * (l0.length : Int) - 1 - i + B) % l0.length := by rw [hidx]; omega
          have i2 : (2 * (l0.length : Int) - 1 - i + B) % l0.length < l0.length := by rw [hidx]; omega
          clear hidx
          go_wp2_with fail
          refine (decklebook_Below.calls _ _ _ _ HBF.out).mono ?_
          rintro e v5 ⟨rfl, hd⟩
          have HO := Aside0.mk (HO.out.move hd.below)
          have hidx := HID.out
          clear hd
          obtain ⟨ad, rfl, q0, q1, q2⟩ := at_T73 (Kd.C_below HR0.out HO.out.below) ((2 * (l0.length : Int) - 1 - i + B) % l0.length) (by rw [hidx]; omega) (by rw [hidx]; omega)
          obtain ⟨⟨k, a, b⟩, hR⟩ : ∃ R, R = rd_T73 l0 (place l0.length B i : Nat) := ⟨_, rfl⟩
          rw [hidx, ← hR, show ((place l0.length B i : Nat) : Int).toNat = (2 * l0.length - 1 - i + B) % l0.length from Int.toNat_natCast _] at q0 q1 q2
          dsimp only at q0 q1 q2
          clear hidx
          by_cases hk : k = 1 ∨ k = 2
          · have HK := Aside0.mk (HT2.out.two hR.symm hk)
            clear hR
            rcases hk with rfl | rfl
            all_goals
              go_wp2_with fail
              refine (apply_own _ _ _ _ (HO.out.alloc' _) rfl HT2.out.fine).mono ?_
              rintro e v5 ⟨rfl, ho⟩
              have HO := Aside0.mk ho
              clear ho
              go_wp2_with fail
              go_roundw
              case rel => exact ⟨i + 1, _, by omega, by go_num, HK, HO⟩
              case measure => simp [intOf]; omega
          · have HK := Aside0.mk (HT2.out.twoNot hR.symm hk)
            have k1 : (k == 1) = false := by simp; omega
            have k2 : (k == 2) = false := by simp; omega
            clear hR hk
            go_wp2_with fail
            go_roundw
            case rel => exact ⟨i + 1, _, by omega, by go_num, HK, ⟨HO.out.alloc' _⟩⟩
            case measure => simp [intOf]; omega
        · obtain rfl : i = 2 * l0.length := by omega
          have HE := Lib.hid (HT.out.eq HT2.out (seen_both l0 B))
          obtain rfl := HE.out
          clear hlt HE
          go_wp2_with fail
          refine (state_own HO.out.pull2 HT.out.fine.toOk).mono ?_
          rintro e v5 ⟨b1, b2, b3, b4, d1, d2, d3, d4, rfl, ho⟩
          have HO := Aside0.mk ho.pull6
          clear ho
          go_wp2_with fail
          refine (state_own HO.out HT.out.fine.toOk).mono ?_
          rintro e v6 ⟨e1, e2, e3, e4, f1, f2, f3, f4, rfl, ho⟩
          have HO := Aside0.mk ho
          clear ho
          go_wp2_with fail
          have hj := HO.out.drop.drop.drop.drop.drop
          refine (decklebook_SameState.calls 1000001 _ _ _ _ _ _ _ _ _ _ _ _ _ _ _ _ _ _ _ _ _ _ _ _ true _ (ints_reads hj).1 (ints_reads hj).2 (ints_reads hj.drop).1 (ints_reads hj.drop).2 (ints_reads hj.drop.drop).1 (ints_reads hj.drop.drop).2 (ints_reads hj.drop.drop.drop).1 (ints_reads hj.drop.drop.drop).2 (ints_reads HO.out).1 (ints_reads HO.out).2 (ints_reads HO.out.drop).1 (ints_reads HO.out.drop).2 (ints_reads HO.out.drop.drop).1 (ints_reads HO.out.drop.drop).2 (ints_reads HO.out.drop.drop.drop).1 (ints_reads HO.out.drop.drop.drop).2 (sameState_self K HT.out.fine.toOk)).mono ?_
          rintro e v7 ⟨rfl, hb⟩
          have HO := Aside0.mk (HO.out.move hb)
          clear hb hj
          go_wp2_with fail
          go_ret
          exact ⟨rfl, HO.out.below⟩

set_option maxHeartbeats 2000000 in
set_option maxRecDepth 100000 in
theorem order_long (A0 : Option Addr) (c0 : Nat) (l0 : List S73) (from_ : Int) (w : World) (hlen : 60 < l0.length) :
    Calls Try.prog 7 #[.slice A0 l0.length c0, .int .i64 from_] w fun e w' => e = .returned (.bool true) ∧ Below w.heap.size w w' := by
  have d1 : decide ((60 : Int) < (l0.length : Nat)) = true := decide_eq_true (by omega)
  go_enter Try.func7, Try.ntmps7
  go_wp2_with fail
  refine (works_any _).mono ?_
  rintro e v0 ⟨rfl, hb⟩
  have HB := Aside0.mk hb
  clear hb
  go_wp2_with fail
  go_ret
  exact ⟨rfl, HB.out⟩

def decklelaw14_StateOrder.f (_l0 : List S73) (_a1 : Int) : Option Bool := some true
theorem decklelaw14_StateOrder.calls (A0 : Option Addr) (c0 : Nat) (l0 : List S73) (a1 : Int) (r : Bool) (w : World) (hr0 : Kd.C k73 w A0 l0.length l0) (hc0 : l0.length ≤ c0) (h : decklelaw14_StateOrder.f l0 a1 = some r) :
    Calls Try.prog 7 #[.slice A0 l0.length c0, .int .i64 a1] w fun e w' => e = .returned (.bool r) ∧ Below w.heap.size w w' := by
  obtain rfl : true = r := Option.some.inj h
  by_cases c : l0.length ≤ 60
  · exact order A0 c0 l0 a1 w hr0 hc0 c
  · exact order_long A0 c0 l0 a1 w (by omega)
end Go.Proofs.Ytiblpienmkjmgaa.StateA
