/- Package load: the same again, the law. -/
import Derived.Test.YtcfonmbojkolfaaLoadK
import Derived.Test.YtcfonmbojkolfaaWEqStruct
import Derived.RegionIn
import Derived.Deep.RegionHeld3
import Derived.ControlIn
import Derived.OpenShut
import Derived.Deep.RegionWith
set_option linter.unusedVariables false
namespace Go.Proofs.Ytcfonmbojkolfaa.LoadA
open Go.RowKit Go.Shelf Go.Proofs.YtcfonmbojkolfaaW.PrintWords Go.Proofs.Ytcfonmbojkolfaa.Mem Go.Proofs.Ytcfonmbojkolfaa.Own Go.Proofs.Ytcfonmbojkolfaa.Rng Go.Proofs.Ytcfonmbojkolfaa.PL
attribute [local go_sem] Oper.semAt_some

theorem i64_and3 (n : Int) : bits .and .i64 n 3 = n % 4 := by
  have h3 : (BitVec.ofInt 64 3).toNat = 2 ^ 2 - 1 := by decide
  have key : (BitVec.ofInt 64 n &&& BitVec.ofInt 64 3).toNat = (n % ((2 ^ 64 : Nat) : Int)).toNat % 2 ^ 2 := by
    rw [BitVec.toNat_and, BitVec.toNat_ofInt, h3, Nat.and_two_pow_sub_one_eq_mod]
  show IntKind.i64.wrap ((BitVec.ofInt 64 n &&& BitVec.ofInt 64 3).toNat : Nat) = n % 4
  rw [key, IntKind.wrap_i64]
  omega
theorem i64_and31 (n : Int) : bits .and .i64 n 31 = n % 32 := by
  have h3 : (BitVec.ofInt 64 31).toNat = 2 ^ 5 - 1 := by decide
  have key : (BitVec.ofInt 64 n &&& BitVec.ofInt 64 31).toNat = (n % ((2 ^ 64 : Nat) : Int)).toNat % 2 ^ 5 := by
    rw [BitVec.toNat_and, BitVec.toNat_ofInt, h3, Nat.and_two_pow_sub_one_eq_mod]
  show IntKind.i64.wrap ((BitVec.ofInt 64 n &&& BitVec.ofInt 64 31).toNat : Nat) = n % 32
  rw [key, IntKind.wrap_i64]
  omega
theorem eqA73 (d : Nat) (w : World) (x0 y0 x1 y1 x2 y2 : Int) (x3 y3 : ByteArray) :
    (Op.equalIn (d + 2) 73 (.agg #[.int .i64 x0, .int .i64 x1, .int .i64 x2, .string x3]) (.agg #[.int .i64 y0, .int .i64 y1, .int .i64 y2, .string y3])).run Try.prog w = .ok (x0 == y0 && (x1 == y1 && (x2 == y2 && (x3.toList == y3.toList)))) w := by
  refine eqA_of Try.underlying73 (by kernel_rfl) ?_
  refine eqf_cons (by rfl) (by go_simp; rfl) (by go_simp; rfl) (by go_simp) ?_
  refine eqf_cons (by rfl) (by go_simp; rfl) (by go_simp; rfl) (by go_simp) ?_
  refine eqf_cons (by rfl) (by go_simp; rfl) (by go_simp; rfl) (by go_simp) ?_
  exact eqf_last (by rfl) (by go_simp; rfl) (by go_simp; rfl) (by go_simp)
attribute [local go_sem high] eqA73
theorem own_ne2 {w0 w : World} {L : List Asn} {g1 g2 : Nat} {o1 o2 : Obj} (h : Own.Own w0 w (Pt g1 o1 :: Pt g2 o2 :: L)) : g1 ≠ g2 := by
  obtain ⟨b, S, ⟨S1, S2, h1, ⟨S3, S4, h3, _, _, i3, _⟩, d, _, _⟩, _⟩ := h
  exact fun e => d g1 h1.2 (i3 g1 (e ▸ h3.2))
def SrcOk (x : Int) : Prop := 1 ≤ x ∧ x ≤ 18446744073709551615
theorem SrcOk.next {x : Int} (h : SrcOk x) : SrcOk (nextNum x) := ⟨nextNum_pos h.1 h.2, (nextNum_range x).2⟩
abbrev BoxB (B : Nat) (b : Bool) : Asn := Pt B (.cells #[.bool b] 4 (0, 0))
abbrev startS (kind seed : Int) : Ld := startOf 9 10 64 12 1 4 kind seed
theorem start_ok (kind seed : Int) : LdOk (startS kind seed) := ⟨by show (0 : Int) ≤ 64; omega, by show (64 : Int) ≤ 256; omega, by show (0 : Int) ≤ 0; omega, by show (0 : Int) < 1000; omega, by show (1 : Int) ≤ 12; omega, by show (12 : Int) ≤ 10000; omega, by show (0 : Int) ≤ 0; omega, by show (0 : Int) < 12; omega⟩
set_option maxHeartbeats 8000000 in
set_option maxRecDepth 100000 in
theorem same_all (seed kind n : Int) (w : World) (hseed : 0 ≤ seed) (hseed2 : SrcOk (if seed < 1 then 1 else seed)) :
    Calls Try.prog 8 #[.int .u64 seed, .int .i64 kind, .int .i64 n] w fun e w' => e = .returned (.bool true) ∧ Below w.heap.size w w' := by
  have HO := Aside0.mk ((Own.Own.new w).alloc (.cells #[.bool false] 4))
  have HS := Lib.hid hseed
  have HS2 := Lib.hid hseed2
  obtain ⟨B6, hB6⟩ : ∃ B6, B6 = w.heap.size := ⟨_, rfl⟩
  have HB6 := Lib.hid hB6
  rw [← hB6] at HO
  clear hseed hseed2 hB6
  refine (callsIn_wide (n := 3)).1 ?_
  refine callsIn_of_wp_marks Try.func8 rfl trivial ?_ rfl
  simp only [Try.ntmps8, List.size_toArray, List.length_cons, List.length_nil, Nat.reduceAdd, Nat.reduceSub, Array.replicate_succ, Array.replicate_zero, List.push_toArray, List.append_toArray, List.nil_append, List.cons_append]
  gi_wp2_with (fail)
  rw [← HB6.out]
  refine ⟨trivial, ?_⟩
  gi_at_call 29
  refine (callsIn_wide.2 (works_any _)).mono ?_
  rintro e w1 ⟨rfl, hb⟩
  have HA := Aside0.mk (HO.out.move hb)
  clear hb HO
  gi_wp2_with (fail)
  refine ⟨trivial, ?_⟩
  gi_at_call 23
  refine (callsIn_wide.2 (src_own seed HS.out HA.out)).mono ?_
  rintro e w2 ⟨g1, rfl, ho⟩
  have HB := Aside0.mk ho
  clear ho HA
  gi_wp2_with (fail)
  refine ⟨trivial, ?_⟩
  gi_at_call 23
  refine (callsIn_wide.2 (src_own seed HS.out HB.out)).mono ?_
  rintro e w3 ⟨g2, rfl, ho⟩
  obtain ⟨x0, hx0⟩ : ∃ x0, x0 = (if seed < 1 then 1 else seed) := ⟨_, rfl⟩
  rw [← hx0] at ho HS2
  have HC := Aside0.mk ho.pull2
  have HX := Aside0.mk HS2.out
  clear ho HB hx0 HS2
  gi_wp2_with (fail)
  gi_loopw [27] (fun v27 wr => ∃ (i : Nat) (x : Int), i ≤ 40 ∧ v27 = .int .i64 i ∧ Aside0 (SrcOk x) ∧ Aside0 (Own.Own w wr [SrcA g1 x, SrcA g2 x, BoxB B6 false])) (fun v27 _ => 40 - (intOf v27).toNat)
  case atStart => exact ⟨0, x0, by omega, rfl, HX, HC⟩
  case round =>
    clear HC HX
    obtain ⟨i, x, hi, rfl, HX, HO⟩ := hrel
    by_cases hlt : i < 40
    · have dl : decide ((i : Int) < 40) = true := decide_eq_true (by omega)
      gi_wp2_with (fail)
      refine ⟨trivial, ?_⟩
      gi_at_call 27
      refine (callsIn_wide.2 (next_own g1 x HO.out)).mono ?_
      rintro e w4 ⟨rfl, ho⟩
      have HD := Aside0.mk ho.pull2
      have hy : nextNum x ≠ 0 := by have := HX.out.next.1; omega
      have HX' := Aside0.mk HX.out.next
      obtain ⟨y, hy'⟩ : ∃ y, y = nextNum x := ⟨_, rfl⟩
      rw [← hy'] at hy HD HX'
      rw [← hy']
      have HY := Lib.hid hy'
      have hyb : (y == 0) = false := by simpa using hy
      clear ho HO HX hy' hy
      gi_wp2_with (fail)
      refine ⟨trivial, ?_⟩
      gi_at_call 27
      refine (callsIn_wide.2 (next_own g2 x HD.out)).mono ?_
      rintro e w5 ⟨rfl, ho⟩
      rw [← HY.out] at ho ⊢
      have HE := Aside0.mk ho.pull2
      clear ho HD
      gi_wp2_with (fail)
      go_roundw
      case rel => exact ⟨i + 1, y, by omega, by go_num, HX', HE⟩
      case measure => simp [intOf]; omega
    · obtain rfl : i = 40 := by omega
      have HA := Aside0.mk HO.out.drop.drop
      clear HO HX
      gi_wp2_with (fail)
      refine ⟨trivial, ?_⟩
      gi_at_call 34
      refine (callsIn_wide.2 (geo41_any _)).mono ?_
      rintro e w4 ⟨rfl, hb⟩
      have HB := Aside0.mk (HA.out.move hb)
      clear hb HA
      gi_wp2_with (fail)
      have hq := i64_and3 kind
      have hm31 := i64_and31 n
      obtain ⟨q, hqe⟩ : ∃ q, q = bits .and .i64 kind 3 := ⟨_, rfl⟩
      have HQ := Lib.hid hqe
      rw [← hqe]
      have hq0 : 0 ≤ q := by rw [hqe]; omega
      have hq3 : q ≤ 3 := by rw [hqe]; omega
      clear hq hqe
      obtain ⟨m, hme⟩ : ∃ m : Nat, (m : Int) = bits .and .i64 n 31 := ⟨(bits .and .i64 n 31).toNat, by omega⟩
      have HM := Lib.hid hme
      have hm : m ≤ 31 := by omega
      clear hme hm31
      refine ⟨trivial, ?_⟩
      gi_at_call 31
      refine (callsIn_wide.2 (new_own 9 10 64 12 1 4 q seed (by decide) (by decide) (by decide) hq0 hq3 HS.out HB.out)).mono ?_
      rintro e w5 ⟨gp, sp, rfl, ho⟩
      have HC := Aside0.mk ho
      clear ho HB
      gi_wp2_with (fail)
      refine ⟨trivial, ?_⟩
      gi_at_call 34
      refine (callsIn_wide.2 (geo41_any _)).mono ?_
      rintro e w6 ⟨rfl, hb⟩
      have HD := Aside0.mk (HC.out.move hb)
      clear hb HC
      gi_wp2_with (fail)
      rw [← HQ.out]
      refine ⟨trivial, ?_⟩
      gi_at_call 31
      refine (callsIn_wide.2 (new_own 9 10 64 12 1 4 q seed (by decide) (by decide) (by decide) hq0 hq3 HS.out HD.out)).mono ?_
      rintro e w7 ⟨gq, sq, rfl, ho⟩
      obtain ⟨BQ, hBQ⟩ : ∃ BQ, BQ = w7.heap.size := ⟨_, rfl⟩
      have ho2 := ho.alloc (.cells #[.pointer (some ⟨gq, 0, none⟩)] 69)
      rw [← hBQ] at ho2
      have HBQ := Lib.hid hBQ
      have HE := Aside0.mk ho2
      clear ho ho2 HD hBQ
      gi_wp2_with (fail)
      rw [← HBQ.out, ← HM.out]
      refine ⟨trivial, ?_⟩
      gi_at_call 35
      refine (callsIn_wide.2 (take_own gp (m : Int) HE.out)).mono ?_
      rintro e w8 ⟨Bl, Bn, rfl, ho⟩
      have HF := Aside0.mk (show Own.Own w w8 (Taken Bl Bn gp sp (m : Int) (startS q seed) (fun k => [BoxL BQ gq, LdA gq sq (after (startS q seed) k), BoxB B6 false]) 0 0) from
        own_swap [_, _, _] [_, _] (own_swap [_, _, _, _] [_] (own_swap [_, _] [_, _] ho)))
      clear ho HE
      gi_wp2_with (fail)
      refine wp_range_box (n := 3) (by omega) (gf := 54) (lb := #[.pointer (some ⟨Bn, 0, none⟩), .pointer (some ⟨Bl, 0, none⟩)]) rfl (enters_of Try.func54 (by kernel_rfl) rfl) (fun _ => rfl)
        (take_iter w Bl Bn gp sp m (start_ok q seed) (by omega) (fun k => [BoxL BQ gq, LdA gq sq (after (startS q seed) k), BoxB B6 false])) HF.out (fun _ _ => False) ?round ?done ?stop
      case round =>
        rintro l D o k d Lk W ⟨hk, hd, rfl⟩ hO
        obtain ⟨dk, dl, dn, ds⟩ := d
        have HDD := Lib.hid hd
        clear hd
        have HA2 := Aside0.mk (own_swap [_] [_, _] (hO.alloc (.cells #[.int .i64 dk, .int .i64 dl, .int .i64 dn, .string ds] 73)))
        obtain ⟨BD, hBD⟩ : ∃ BD, BD = W.heap.size := ⟨_, rfl⟩
        have HBD := Lib.hid hBD
        rw [← hBD] at HA2
        clear hO hBD
        gi_wp2_with (fail)
        refine ⟨_, HA2.out, ?_⟩
        clear HA2
        intro o2 W2 h2
        rw [← HBD.out]
        obtain ⟨x0, x1, x2, x3, _, _, _, _⟩ := cells4 h2.drop.drop.pt
        have b0 : W2.cell? ⟨BQ, 0, none⟩ = some (.pointer (some ⟨gq, 0, none⟩)) := blk_cell h2.drop.drop.drop.drop.drop.drop.pt 0
        have HA3 := Aside0.mk (own_swap [_, _, _, _, _, _, _] [_] h2)
        have HA3d := Aside0.mk HA3.out.drew
        clear h2
        have hmx : Try.prog.follows .mixedOrders = true := by kernel_rfl
        gi_wp2_with (fail)
        gi_region_with_o (refine ⟨trivial, ?_⟩; gi_at_call 32; refine (CallsIn.inRound l (callsIn_wide.2 (loadk_own gq sq (start_ok q seed) k (by omega) HA3d.out))).mono ?_; rintro e w9 ⟨rfl, ho⟩; have HA4 := Aside0.mk (own_swap [_] [_, _, _, _, _, _, _] ho); obtain ⟨z0, z1, z2, z3, _, _, _, _⟩ := cells4 HA4.out.drop.drop.pt; rw [← HDD.out]; clear ho)
        all_goals gi_wp2_with (fail)
        all_goals exact ⟨_, rfl, by first | exact (own_swap [_, _] [_] HA4.out).drop | exact ((own_swap [_, _] [_] HA4.out).drop).drew⟩
      case done =>
        intro D L W hL hO
        subst hL
        have hmd : (after (startS q seed) m).made = (m : Int) := by
          have := (after_inv (startS q seed) (start_ok q seed).y0 (start_ok q seed).s0 (start_ok q seed).a0 (start_ok q seed).a1 m).2.1
          rw [this]; show (0 : Int) + m = m; omega
        have HMD := Lib.hid hmd
        have b0 : W.cell? ⟨BQ, 0, none⟩ = some (.pointer (some ⟨gq, 0, none⟩)) := blk_cell hO.drop.drop.drop.drop.pt 0
        have H1 := Aside0.mk (own_swap [_, _, _] [_] hO).drew
        clear hO hmd
        have hmx : Try.prog.follows .mixedOrders = true := by kernel_rfl
        have t1 : True := trivial
        gi_wp2_with (fail)
        refine wpIn_wide.2 ?_
        go_region_held3 (fun w' => w'.cell? ⟨BQ, 0, none⟩ = some (.pointer (some ⟨gq, 0, none⟩))) (go_keep)
          (first
          | (go_at_call 33; refine (made_own gp sp _ H1.out).mono ?_; rintro e w9 ⟨rfl, rfl⟩; rw [HMD.out])
          | (go_at_call 32; have _t := t1; refine (loadk_own gp sp (start_ok q seed) m (by omega) H1.out).mono ?_; rintro e w10 ⟨rfl, ho⟩; have H2 := Aside0.mk (own_swap [_, _, _, _, _] [_] ho); have b1 : w10.cell? ⟨BQ, 0, none⟩ = some (.pointer (some ⟨gq, 0, none⟩)) := blk_cell H2.out.drop.drop.drop.drop.drop.pt 0; clear ho t1 _t)
          | (go_at_call 32; refine (loadk_own gq sq (start_ok q seed) m (by omega) H2.out).mono ?_; rintro e w11 ⟨rfl, ho⟩; have H3 := Aside0.mk ho; have b1 : w11.cell? ⟨BQ, 0, none⟩ = some (.pointer (some ⟨gq, 0, none⟩)) := blk_cell H3.out.drop.drop.drop.drop.drop.pt 0; have b2 : w11.cell? ⟨B6, 0, none⟩ = some (.bool false) := blk_cell H3.out.drop.drop.drop.drop.drop.drop.pt 0; have b3 : w11.frozen? ⟨B6, 0, none⟩ = false := blk_frozen H3.out.drop.drop.drop.drop.drop.drop.pt 0; have hne : BQ ≠ B6 := own_ne2 H3.out.drop.drop.drop.drop.drop; have hne2 : ¬ B6 = BQ := fun e => hne e.symm; clear ho))
        all_goals go_wp2_with fail
        all_goals gi_wp2_with (fail)
        all_goals
          have H4 := (own_swap [_, _, _, _, _, _] [_] H3.out).set (i := 0) (.bool true)
          have H5 := own_putObj (own_swap [_, _, _] [_] H4) (.deferred none)
          have hK := (own_swap [_, _, _] [_] H4).pt
          have hc : (World.putObj _ D (.deferred none)).cell? ⟨B6, 0, none⟩ = some (.bool true) := blk_cell H5.drop.pt 0
          refine ⟨by simp, .inl ⟨_, _, rfl, run_takeDeferred hK, ?_⟩⟩
          exact ⟨.bool true, by simp [results, Try.results8, go_sem, hc], rfl, H5.below⟩
      case stop =>
        intro D c L W h _
        exact h.elim

def decklelaw41_LoadSame.f (a0 : Int) (_a1 : Int) (_a2 : Int) : Option (Bool) := if (Lit.int .u64 a0).wf = true then some true else none
theorem decklelaw41_LoadSame.calls (a0 : Int) (a1 : Int) (a2 : Int) (r : Bool) (w : World) (h : decklelaw41_LoadSame.f a0 a1 a2 = some r) :
    Calls Try.prog 8 #[.int .u64 a0, .int .i64 a1, .int .i64 a2] w fun e w' => e = .returned (.bool r) ∧ Below w.heap.size w w' := by
  unfold decklelaw41_LoadSame.f at h
  by_cases c : (Lit.int .u64 a0).wf = true
  · rw [if_pos c] at h
    obtain rfl := Option.some.inj h
    have hb := Go.bounds_u64 c
    refine same_all a0 a1 a2 w hb.1 ?_
    unfold SrcOk
    split
    · omega
    · exact ⟨by omega, by have := hb.2; omega⟩
  · rw [if_neg c] at h
    cases h
end Go.Proofs.Ytcfonmbojkolfaa.LoadA
