/- The contract of StateRises. -/
import Derived.Test.YtiblpienmkjmgaaProg
import Derived.Below
import Derived.Deep.Draws
import Derived.Deep.AppendLies
import Derived.Maps.AppendAt
import Derived.OwnWalk
import Derived.Laws.BytesArg
import Derived.Laws.MakeOwn
import Derived.Laws.OwnMore
import Derived.Deep.OwnRows
import Derived.Tactics
import Derived.Lib.ConvBytes
import Derived.Laws.Slices
import Derived.WalkKit
import Derived.KernelRfl
import Derived.RowKit3
import Derived.Deep.LoopGhost
import Derived.Deep.QuietTactic
import Derived.BigQuiet
import Derived.WideLaws
import Derived.Deep.DeepCutAuto
import Derived.Deep.CutBlock
import Derived.Deep.RegionHeld3
import Derived.Deep.RegionWith
import Derived.Laws.Rows
import Derived.Lib.AppendStr
import Derived.ArgAppend
import Derived.Laws.IdiomCopy
import Derived.OrdersHeld
import Derived.Laws.BitsLemmas
import Derived.Outline
import Derived.RegionTactic
import Derived.Lib.Hide
import Derived.StillTailTactics
import Derived.Deep.RegionWith
import Derived.OpenShut
import Derived.Test.YtiblpienmkjmgaaWWords
import Derived.Test.YtiblpienmkjmgaaWKept
import Derived.Test.YtiblpienmkjmgaaStateH
import Derived.Test.YtiblpienmkjmgaaPSx7
import Derived.Test.YtiblpienmkjmgaaPSx0
import Derived.Test.YtiblpienmkjmgaaPSGeomLemmas
import Derived.WalkSpells
import Derived.Deep.RegionHeld3
import Derived.Lib.BufferMore
set_option linter.unusedVariables false
namespace Go.Proofs.Ytiblpienmkjmgaa.StateA
open Go.RowKit Go.Proofs.YtiblpienmkjmgaaW.PrintWords Go.Proofs.Ytiblpienmkjmgaa.Mem Go.Proofs.Ytiblpienmkjmgaa.PS

theorem st_new {w v : World} {K : Kp} {b1 b2 b3 b4 d1 d2 d3 d4 : Nat} (h : Rows4 w v K b1 b2 b3 b4 d1 d2 d3 d4) :
    StAt (v.alloc (.cells #[.slice (some ⟨b1, 0, none⟩) K.F.length d1, .slice (some ⟨b2, 0, none⟩) K.C.length d2, .slice (some ⟨b3, 0, none⟩) K.S.length d3, .slice (some ⟨b4, 0, none⟩) K.T.length d4] 69)) ⟨v.heap.size, b1, b2, b3, b4, d1, d2, d3, d4⟩ K :=
  ⟨blk_new _ _, h.s1.alloc' _, h.s2.alloc' _, h.s3.alloc' _, h.s4.alloc' _⟩
/-- What stands at a round's head. -/
structure RiseAt (w wr : World) (L M : Loc) (K : Kp) : Prop where
  keep : KeepAt wr L K
  st : StAt wr M K
  ng : M.g ≠ L.g
  sep : ∀ k, (k = M.g ∨ M.Of k) → ¬ L.Of k
  from_ : w.heap.size ≤ M.g
  below : Below w.heap.size w wr

theorem RiseAt.drewN {w wr : World} {L M : Loc} {K : Kp} (h : RiseAt w wr L M K) (n : Nat) : RiseAt w (wr.drewN n) L M K :=
  ⟨h.keep.drewN n, h.st.drewN n, h.ng, h.sep, h.from_, pw_below_drewN h.below n⟩
theorem KeepAt.lt {w : World} {l : Loc} {K : Kp} (h : KeepAt w l K) : ∀ k, (k = l.g ∨ l.Of k) → k < w.heap.size := by
  rintro k (rfl | rfl | rfl | rfl | rfl)
  · exact blk_lt h.blk
  · exact h.r1.lt
  · exact h.r2.lt
  · exact h.r3.lt
  · exact h.r4.lt
theorem StAt.lt {w : World} {l : Loc} {K : Kp} (h : StAt w l K) : ∀ k, (k = l.g ∨ l.Of k) → k < w.heap.size := by
  rintro k (rfl | rfl | rfl | rfl | rfl)
  · exact blk_lt h.blk
  · exact h.r1.lt
  · exact h.r2.lt
  · exact h.r3.lt
  · exact h.r4.lt
theorem rise_new {w v2 v3 v4 : World} {L : Loc} {K : Kp} {b1 b2 b3 b4 d1 d2 d3 d4 : Nat} (hk : KeepAt v2 L K) (hr : Rows4 v2 v3 K b1 b2 b3 b4 d1 d2 d3 d4) (hB : Below w.heap.size w v3)
    (h4 : Below (v3.alloc (.cells #[.slice (some ⟨b1, 0, none⟩) K.F.length d1, .slice (some ⟨b2, 0, none⟩) K.C.length d2, .slice (some ⟨b3, 0, none⟩) K.S.length d3, .slice (some ⟨b4, 0, none⟩) K.T.length d4] 69)).heap.size
      (v3.alloc (.cells #[.slice (some ⟨b1, 0, none⟩) K.F.length d1, .slice (some ⟨b2, 0, none⟩) K.C.length d2, .slice (some ⟨b3, 0, none⟩) K.S.length d3, .slice (some ⟨b4, 0, none⟩) K.T.length d4] 69)) v4) :
    RiseAt w v4 L ⟨v3.heap.size, b1, b2, b3, b4, d1, d2, d3, d4⟩ K := by
  have hz := hr.below.size
  have n1 := hr.n1
  have n2 := hr.n2
  have n3 := hr.n3
  have n4 := hr.n4
  have lt := hk.lt
  refine ⟨((hk.below hr.below).alloc _).below h4, (st_new hr).below h4, ?_, ?_, hB.size, (below_alloc hB _).trans (h4.mono (by have := hB.size; rw [World.size_alloc]; omega))⟩
  · have := lt L.g (.inl rfl)
    show v3.heap.size ≠ L.g
    omega
  · intro k hk2 hof
    have := lt k (.inr hof)
    rcases hk2 with e | e | e | e | e <;> simp only at e <;> omega
theorem rise_store {w v : World} {L M N : Loc} {K K' : Kp} (hn : RiseAt w v L N K') (hm : StAt v M K) (ng : M.g ≠ L.g) (sep : ∀ k, (k = M.g ∨ M.Of k) → ¬ L.Of k) (hf : w.heap.size ≤ M.g) (na : ¬ N.Of M.g) :
    RiseAt w ((((v.setCell ⟨M.g, 0, none⟩ (.slice (some ⟨N.a1, 0, none⟩) K'.F.length N.c1)).setCell ⟨M.g, 1, none⟩ (.slice (some ⟨N.a2, 0, none⟩) K'.C.length N.c2)).setCell ⟨M.g, 2, none⟩ (.slice (some ⟨N.a3, 0, none⟩) K'.S.length N.c3)).setCell ⟨M.g, 3, none⟩ (.slice (some ⟨N.a4, 0, none⟩) K'.T.length N.c4)) L ⟨M.g, N.a1, N.a2, N.a3, N.a4, N.c1, N.c2, N.c3, N.c4⟩ K' := by
  have m1 : N.a1 ≠ M.g := fun e => na (.inl e.symm)
  have m2 : N.a2 ≠ M.g := fun e => na (.inr (.inl e.symm))
  have m3 : N.a3 ≠ M.g := fun e => na (.inr (.inr (.inl e.symm)))
  have m4 : N.a4 ≠ M.g := fun e => na (.inr (.inr (.inr e.symm)))
  refine ⟨hn.keep.move (fun k _ hk => far4 _ _ k ?_ _ _ _ _), ⟨put4 hm.blk _ _ _ _, hn.st.r1.move (far4 _ _ _ m1 _ _ _ _), hn.st.r2.move (far4 _ _ _ m2 _ _ _ _), hn.st.r3.move (far4 _ _ _ m3 _ _ _ _), hn.st.r4.move (far4 _ _ _ m4 _ _ _ _)⟩, ng, ?_, hf, (((hn.below.setCell hf _).setCell hf _).setCell hf _).setCell hf _⟩
  · rintro rfl
    rcases hk with e | e
    · exact ng e
    · exact sep _ (.inl rfl) e
  · rintro k (e | e)
    · exact sep k (.inl e)
    · exact hn.sep k (.inr e)
/-- What a round has at hand. -/
structure RoundAt (w wr : World) (L M N : Loc) (K K' : Kp) (R : Nat) (k a b : Int) : Prop where
  ra : RiseAt w wr L N K'
  st : StAt wr M K
  rc : wr.heap[R]? = some (.cells #[.int .i64 k, .int .i64 a, .int .i64 b] 73 (0, 0))
theorem RoundAt.drewN {w wr : World} {L M N : Loc} {K K' : Kp} {R : Nat} {k a b : Int} (h : RoundAt w wr L M N K K' R k a b) (n : Nat) : RoundAt w (wr.drewN n) L M N K K' R k a b :=
  ⟨h.ra.drewN n, h.st.drewN n, blk_drewN h.rc n⟩

theorem rise_fin {w wr : World} {L M : Loc} {K K' : Kp} {g6 b1 b2 b3 b4 d1 d2 d3 d4 R : Nat} {k a b : Int} (hx : RoundAt w wr L M ⟨g6, b1, b2, b3, b4, d1, d2, d3, d4⟩ K K' R k a b)
    (ng : M.g ≠ L.g) (sep : ∀ k, (k = M.g ∨ M.Of k) → ¬ L.Of k) (hf : w.heap.size ≤ M.g) (h1 : M.g < b1) (h2 : M.g < b2) (h3 : M.g < b3) (h4 : M.g < b4) :
    RiseAt w ((((wr.setCell ⟨M.g, 0, none⟩ (.slice (some ⟨b1, 0, none⟩) K'.F.length d1)).setCell ⟨M.g, 1, none⟩ (.slice (some ⟨b2, 0, none⟩) K'.C.length d2)).setCell ⟨M.g, 2, none⟩ (.slice (some ⟨b3, 0, none⟩) K'.S.length d3)).setCell ⟨M.g, 3, none⟩ (.slice (some ⟨b4, 0, none⟩) K'.T.length d4)) L ⟨M.g, b1, b2, b3, b4, d1, d2, d3, d4⟩ K' := by
  have na : ¬ Loc.Of ⟨g6, b1, b2, b3, b4, d1, d2, d3, d4⟩ M.g := by
    intro e
    unfold Loc.Of at e
    dsimp only at e
    omega
  have := rise_store (N := ⟨g6, b1, b2, b3, b4, d1, d2, d3, d4⟩) hx.ra hx.st ng sep hf na
  exact this


set_option maxHeartbeats 8000000 in
set_option maxRecDepth 100000 in
theorem rises (A0 : Option Addr) (c0 : Nat) (l0 : List S73) (w : World) (hr0 : Kd.C k73 w A0 l0.length l0) (hc0 : l0.length ≤ c0) (hlen : l0.length ≤ 100) :
    Calls Try.prog 6 #[.slice A0 l0.length c0] w fun e w' => e = .returned (.bool true) ∧ Below w.heap.size w w' := by
  have HB := Aside0.mk (Below.refl w.heap.size w)
  have HR0 := Aside0.mk hr0
  have d1 : decide ((100 : Int) < (l0.length : Nat)) = false := decide_eq_false (by omega)
  obtain ⟨K0, hK0⟩ : ∃ K0, K0 = runK l0 0 := ⟨_, rfl⟩
  have HE0 := Lib.hid hK0
  have HS0 := Aside0.mk (by rw [hK0]; exact runK_sized l0 0 (by omega) : Sized K0 0)
  clear hr0 hK0
  go_enter Try.func6, Try.ntmps6
  go_wp2_with (first | (go_at_call 31; refine (works_any _).mono ?_; rintro e v0 ⟨rfl, hb1⟩; have HB' := Aside0.mk (HB.out.trans (hb1.mono HB.out.size)); clear HB hb1; have HB := HB'; clear HB') | (go_at_call 33; refine (decklelaw14_geo.calls 8 6 64 4 0 4 _ rfl).mono ?_; rintro e v1 ⟨rfl, hb1⟩; have HB' := Aside0.mk (HB.out.trans (hb1.mono HB.out.size)); clear HB hb1; have HB := HB'; clear HB') | (go_at_call 32; refine (new_ok 8 4 6 64 0 4 _ geo_ok (by omega) (by omega)).mono ?_; rintro e v2 ⟨L, rfl, hk, hl, hB, hb2⟩; have HL := Aside0.mk hl; have HF := Aside0.mk (hB.mono HB.out.size); have HB' := Aside0.mk (HB.out.trans (hb2.mono HB.out.size)); have HK := Aside0.mk (show KeepAt v2 L K0 by rw [HE0.out]; exact hk); clear HB hb2 hl hB hk; have HB := HB'; clear HB') | (go_at_call 34; refine (state_any L K0 _ (by exact HK.out) HS0.out.fine.toOk).mono ?_; rintro e v3 ⟨b1, b2, b3, b4, d1, d2, d3, d4, rfl, hr⟩; have HRS := Aside0.mk hr; have HB' := Aside0.mk (HB.out.trans (hr.below.mono HB.out.size)); have HKK := Aside0.mk (HK.out.below hr.below); have HKO := Aside0.mk (HK.out); have z3 := blk_lt HKK.out.blk; have zz := blk_lt HK.out.blk; clear HB HK hr; have HB := HB'; have HK := HKK; clear HB' HKK) | (go_at_call 35; refine (whole_any K0 _ _ _ _ _ _ _ _ _ HS0.out.f HS0.out.c (HS0.out.fine.sc.trans HS0.out.c) (HS0.out.fine.tc.trans HS0.out.c)).mono ?_; rintro e v4 ⟨rfl, hb4⟩; have HB4 := Aside0.mk hb4; clear hb4))
  have HRA := Aside0.mk (rise_new HKO.out HRS.out HB.out HB4.out)
  clear HRS HB4 HB HK HKO z3 zz
  have HBW := HRA.out.below
  go_loopw [42] (fun v42 wr => ∃ (i : Nat) (M : Loc), i ≤ l0.length ∧ v42 = .int .i64 i ∧ M.g = v3.heap.size ∧ Aside0 (RiseAt w wr L M (runK l0 i))) (fun v42 _ => l0.length - (intOf v42).toNat)
  case atStart => exact ⟨0, _, Nat.zero_le _, rfl, rfl, ⟨by rw [← HE0.out]; exact HRA.out⟩⟩
  case round =>
    obtain ⟨wo, hwo⟩ : ∃ x, x = wr := ⟨_, rfl⟩
    subst hwo
    obtain ⟨i, M, hi, rfl, hg, hra⟩ := hrel
    rw [← hg]
    clear HRA HBW
    by_cases hlt : i < l0.length
    · have dl : decide ((i : Int) < (l0.length : Nat)) = true := decide_eq_true (by omega)
      obtain ⟨ad, rfl, q0, q1, q2⟩ := at_T73 (Kd.C_below HR0.out hra.out.below) (i : Int) (by omega) (by omega)
      rw [Int.toNat_natCast] at q0 q1 q2
      obtain ⟨⟨k, a, b⟩, hR⟩ : ∃ R, R = rd_T73 l0 i := ⟨_, rfl⟩
      rw [← hR] at q0 q1 q2
      dsimp only at q0 q1 q2
      have hs := runK_sized l0 i (by omega)
      have hs' := runK_sized l0 (i + 1) (by omega)
      have hrun : runK l0 (i + 1) = (applyK (runK l0 i) k a b).1 := by
        show (applyK (runK l0 i) _ _ _).1 = _
        rw [← hR]
      have hrise := rise_apply hs (by omega) k a b
      rw [← hrun] at hrise
      obtain ⟨K', hK'⟩ : ∃ K', K' = runK l0 (i + 1) := ⟨_, rfl⟩
      rw [← hK'] at hrise hs' hrun
      obtain ⟨K, hK⟩ : ∃ K, K = runK l0 i := ⟨_, rfl⟩
      rw [← hK] at hrise hs hrun hra
      obtain ⟨c, hc⟩ : ∃ c, c = (applyK K k a b).2 := ⟨_, rfl⟩
      rw [← hc] at hrise
      have hap : applyK K k a b = (K', c) := by rw [hrun, hc]
      have HAP := Lib.hid hap
      have HS := Aside0.mk hs
      have HS' := Aside0.mk hs'
      have HRI := Aside0.mk hrise
      have HKE := Lib.hid hK'
      have hlt2 := hra.out.st.lt
      have hlt3 := hra.out.keep.lt
      clear hap hrise hK' hK hc hrun hs hs' hR
      go_wp2_with (first | (go_at_call 36; refine (apply_to L w.heap.size K K' c k a b _ HAP.out ((by exact hra.out.keep.alloc _)) HL.out HF.out HS.out.fine).mono ?_; rintro e v5 ⟨rfl, hk5, hm5⟩; have HK5 := Aside0.mk hk5; have HM5 := Aside0.mk hm5; have rc5 := Aside0.mk (hm5.blk (blk_new wo (.cells #[.int .i64 k, .int .i64 a, .int .i64 b] 73)) (fun hof => absurd (hlt3 _ (.inr hof)) (Nat.lt_irrefl _))); have z5 := blk_lt rc5.out; clear hk5 hm5) | (go_at_call 34; refine (state_any L K' _ (by exact HK5.out) HS'.out.fine.toOk).mono ?_; rintro e v6 ⟨b1, b2, b3, b4, d1, d2, d3, d4, rfl, hr⟩; have HRS := Aside0.mk hr; have rc6 := Aside0.mk (blk_below rc5.out hr.below); have z6 := blk_lt rc6.out; clear hr) | (go_at_call 35; refine (whole_any K' _ _ _ _ _ _ _ _ _ HS'.out.f HS'.out.c (HS'.out.fine.sc.trans HS'.out.c) (HS'.out.fine.tc.trans HS'.out.c)).mono ?_; rintro e v7 ⟨rfl, hb7⟩; have HB7 := Aside0.mk hb7; clear hb7))
      have HX : Aside0 (RoundAt w v7 L M ⟨v6.heap.size, b1, b2, b3, b4, d1, d2, d3, d4⟩ K K' wo.heap.size k a b) :=
        ⟨rise_new HK5.out HRS.out (((below_alloc hra.out.below _).trans HM5.out.below).trans (HRS.out.below.mono (by have := hra.out.below.size; have := HM5.out.size; rw [World.size_alloc] at this; omega))) HB7.out,
          ((((hra.out.st.below (below_alloc (Below.refl _ _) _)).move (fun q hl hq => HM5.out.kept.2 q hl (hra.out.sep q hq))).below HRS.out.below).below (below_alloc (Below.refl _ _) _)).below HB7.out,
          blk_below (blk_alloc rc6.out _) HB7.out⟩
      go_loopw [54] (fun v54 wx => ∃ j : Nat, j ≤ 4 ∧ v54 = .int .i64 j ∧ Aside0 (RoundAt w wx L M ⟨v6.heap.size, b1, b2, b3, b4, d1, d2, d3, d4⟩ K K' wo.heap.size k a b)) (fun v54 _ => 4 - (intOf v54).toNat)
      case atStart => exact ⟨0, by omega, rfl, HX⟩
      case round =>
        obtain ⟨j, hj, rfl, hx⟩ := hrel
        by_cases hjl : j < 4
        · have dj : decide ((j : Int) < 4) = true := decide_eq_true (by omega)
          have e1 : wr.cell? ⟨v6.heap.size, 0, none⟩ = some (.slice (some ⟨b1, 0, none⟩) K'.F.length d1) := blk_cell hx.out.ra.st.blk 0
          have e2 : wr.cell? ⟨M.g, 0, none⟩ = some (.slice (some ⟨M.a1, 0, none⟩) K.F.length M.c1) := blk_cell hx.out.st.blk 0
          have e3 := (hx.out.ra.st.r1.get j (by rw [HS'.out.f]; exact hjl)).1
          have e4 := (hx.out.st.r1.get j (by rw [HS.out.f]; exact hjl)).1
          have r1 := hx.out.ra.st.r1.room
          have r2 := hx.out.st.r1.room
          rw [HS'.out.f] at e1 r1
          rw [HS.out.f] at e2 r2
          rw [hg] at e2
          dsimp only at e3
          have fl : decide (K'.F.getD j 0 < K.F.getD j 0) = false := decide_eq_false (by have := HRI.out.f j; omega)
          generalize K'.F.getD j 0 = x at e3 fl
          generalize K.F.getD j 0 = y at e4 fl
          go_wp2
          go_region
          all_goals go_wp2
          go_roundw
          case rel => exact ⟨j + 1, by omega, by go_num, ⟨hx.out.drewN 1⟩⟩
          case measure => simp [intOf]; omega
        · obtain rfl : j = 4 := by omega
          clear hj hjl
          go_wp2
          have hg0 := hx
          clear hx
          go_loopw [10, 69] (fun v10 v69 wx => ∃ j : Nat, j ≤ 8 ∧ v69 = .int .i64 j ∧ v10 = .int .i64 (gain K K' j) ∧ Aside0 (RoundAt w wx L M ⟨v6.heap.size, b1, b2, b3, b4, d1, d2, d3, d4⟩ K K' wo.heap.size k a b)) (fun _ v69 _ => 8 - (intOf v69).toNat)
          case atStart => exact ⟨0, by omega, rfl, rfl, hg0⟩
          case round =>
            clear hg0
            obtain ⟨j, hj, rfl, rfl, hx⟩ := hrel
            have gb := gain_bounds HRI.out j
            obtain ⟨G, hG⟩ : ∃ x, x = gain K K' j := ⟨_, rfl⟩
            have HGJ := Lib.hid hG
            rw [← hG] at gb ⊢
            clear hG
            by_cases hjl : j < 8
            · have dj : decide ((j : Int) < 8) = true := decide_eq_true (by omega)
              have e1 : wr.cell? ⟨v6.heap.size, 2, none⟩ = some (.slice (some ⟨b3, 0, none⟩) K'.S.length d3) := blk_cell hx.out.ra.st.blk 2
              have e2 : wr.cell? ⟨M.g, 2, none⟩ = some (.slice (some ⟨M.a3, 0, none⟩) K.S.length M.c3) := blk_cell hx.out.st.blk 2
              have e5 : wr.cell? ⟨v6.heap.size, 3, none⟩ = some (.slice (some ⟨b4, 0, none⟩) K'.T.length d4) := blk_cell hx.out.ra.st.blk 3
              have e6 : wr.cell? ⟨M.g, 3, none⟩ = some (.slice (some ⟨M.a4, 0, none⟩) K.T.length M.c4) := blk_cell hx.out.st.blk 3
              have s1 : K'.S.length = 8 := HS'.out.fine.sc.trans HS'.out.c
              have s2 : K.S.length = 8 := HS.out.fine.sc.trans HS.out.c
              have s3 : K'.T.length = 8 := HS'.out.fine.tc.trans HS'.out.c
              have s4 : K.T.length = 8 := HS.out.fine.tc.trans HS.out.c
              have e3 := (hx.out.ra.st.r3.get j (by rw [s1]; exact hjl)).1
              have e4 := (hx.out.st.r3.get j (by rw [s2]; exact hjl)).1
              have e7 := (hx.out.ra.st.r4.get j (by rw [s3]; exact hjl)).1
              have e8 := (hx.out.st.r4.get j (by rw [s4]; exact hjl)).1
              have r1 := hx.out.ra.st.r3.room
              have r2 := hx.out.st.r3.room
              have r3 := hx.out.ra.st.r4.room
              have r4 := hx.out.st.r4.room
              rw [s1] at e1 r1
              rw [s2] at e2 r2
              rw [s3] at e5 r3
              rw [s4] at e6 r4
              rw [hg] at e2 e6
              dsimp only at e3 e7
              have q1 := HRI.out.s j
              have q2 := HRI.out.t j
              have m1 := HS.out.sn _ (getD_mem (xs := K.S) (i := j) (by omega))
              have m2 := HS.out.tn _ (getD_mem (xs := K.T) (i := j) (by omega))
              have hgain : gain K K' (j + 1) = gain K K' j + ((K'.S.getD j 0 - K.S.getD j 0) + (K'.T.getD j 0 - K.T.getD j 0)) := rfl
              clear s1 s2 s3 s4
              obtain ⟨x1, hx1⟩ : ∃ x, x = K'.S.getD j 0 := ⟨_, rfl⟩
              obtain ⟨y1, hy1⟩ : ∃ x, x = K.S.getD j 0 := ⟨_, rfl⟩
              obtain ⟨x2, hx2⟩ : ∃ x, x = K'.T.getD j 0 := ⟨_, rfl⟩
              obtain ⟨y2, hy2⟩ : ∃ x, x = K.T.getD j 0 := ⟨_, rfl⟩
              rw [← hx1, ← hx2, ← hy1, ← hy2, ← HGJ.out] at hgain
              rw [← hx1] at e3 q1
              rw [← hy1] at e4 q1 m1
              rw [← hx2] at e7 q2
              rw [← hy2] at e8 q2 m2
              have HG := Lib.hid hgain
              clear hgain hx1 hx2 hy1 hy2
              have f1 : decide (x1 - y1 < 0) = false := decide_eq_false (by omega)
              have f2 : decide (x2 - y2 < 0) = false := decide_eq_false (by omega)
              go_wp2
              go_quiet (fail)
              all_goals go_wp2
              go_roundw
              case rel =>
                repeat apply Exists.intro
                exact ⟨⟨j + 1, by omega, by go_num, by rw [HG.out], ⟨hx.out.drewN _⟩⟩, rfl⟩
              case measure => simp [intOf]; omega
            · have hj8 : j = 8 := by omega
              have hgain : G = if c = 0 ∧ k = 4 then 1 else 0 := by rw [HGJ.out, hj8]; exact HRI.out.g
              subst hj8
              clear hj hjl gb
              have k0 : wr.cell? ⟨wo.heap.size, 0, none⟩ = some (.int .i64 k) := blk_cell hx.out.rc 0
              obtain ⟨n0, n1, n2, n3, -, -, -, -⟩ := cells4 hx.out.ra.st.blk
              dsimp only at n0 n1 n2 n3
              obtain ⟨m0, m1, m2, m3, z0, z1, z2, z3⟩ := cells4 hx.out.st.blk
              rw [hg] at m0 m1 m2 m3 z0 z1 z2 z3
              have HGG := Lib.hid hgain
              clear hgain
              have lm := hlt2 M.g (.inl rfl)
              have h5 := HM5.out.size
              rw [World.size_alloc] at h5
              have p1 := HRS.out.n1
              have p2 := HRS.out.n2
              have p3 := HRS.out.n3
              have p4 := HRS.out.n4
              have FIN := Aside0.mk (rise_fin hx.out hra.out.ng hra.out.sep hra.out.from_ (by omega) (by omega) (by omega) (by omega))
              rw [hg] at FIN
              clear p1 p2 p3 p4 h5 lm
              by_cases hc0 : c = 0
              · by_cases hk4 : k = 4
                · subst hc0
                  subst hk4
                  obtain rfl : G = 1 := by rw [HGG.out, if_pos ⟨rfl, rfl⟩]
                  go_wp2
                  go_roundw
                  case rel =>
                    rw [hg]
                    repeat apply Exists.intro
                    exact ⟨⟨i + 1, ⟨v3.heap.size, b1, b2, b3, b4, d1, d2, d3, d4⟩, by omega, by go_num, rfl, ⟨by rw [← HKE.out]; exact FIN.out⟩⟩, rfl⟩
                  case measure => simp [intOf]; omega
                · have hkb : (k == 4) = false := by simpa using hk4
                  subst hc0
                  obtain rfl : G = 0 := by rw [HGG.out, if_neg (fun h => hk4 h.2)]
                  clear hk4
                  go_wp2
                  go_roundw
                  case rel =>
                    rw [hg]
                    repeat apply Exists.intro
                    exact ⟨⟨i + 1, ⟨v3.heap.size, b1, b2, b3, b4, d1, d2, d3, d4⟩, by omega, by go_num, rfl, ⟨by rw [← HKE.out]; exact FIN.out⟩⟩, rfl⟩
                  case measure => simp [intOf]; omega
              · have hcb : (c == 0) = false := by simpa using hc0
                obtain rfl : G = 0 := by rw [HGG.out, if_neg (fun h => hc0 h.1)]
                clear hc0
                go_wp2
                go_roundw
                case rel =>
                  rw [hg]
                  repeat apply Exists.intro
                  exact ⟨⟨i + 1, ⟨v3.heap.size, b1, b2, b3, b4, d1, d2, d3, d4⟩, by omega, by go_num, rfl, ⟨by rw [← HKE.out]; exact FIN.out⟩⟩, rfl⟩
                case measure => simp [intOf]; omega
    · obtain rfl : i = l0.length := by omega
      have dl : decide ((l0.length : Int) < (l0.length : Nat)) = false := decide_eq_false (by omega)
      clear hi hlt
      go_wp2
      go_ret
      exact ⟨rfl, hra.out.below⟩
end Go.Proofs.Ytiblpienmkjmgaa.StateA
