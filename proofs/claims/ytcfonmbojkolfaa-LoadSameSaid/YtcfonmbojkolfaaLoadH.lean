/- The law LoadMay, walked. -/
import Derived.Test.YtcfonmbojkolfaaLoadG
import Derived.IntWalk
set_option linter.unusedVariables false
namespace Go.Proofs.Ytcfonmbojkolfaa.LoadA
open Go.RowKit Go.Proofs.YtcfonmbojkolfaaW.PrintWords Go.Proofs.Ytcfonmbojkolfaa.Mem Go.Proofs.Ytcfonmbojkolfaa.PL

set_option maxHeartbeats 2000000 in
theorem may_out (b l y s p t kind seed : Int) (w : World) (hb : (Lit.int .i64 b).wf = true) (hl : (Lit.int .i64 l).wf = true) (h : ¬ (GeoOk b l y s p t ∧ 0 ≤ kind ∧ kind ≤ 3)) :
    Calls Try.prog 7 #[.agg #[.int .i64 b, .int .i64 l, .int .i64 y, .int .i64 s, .int .i64 p, .int .i64 t], .int .i64 kind, .int .u64 seed] w fun e w' => e = .returned (.bool true) ∧ Below w.heap.size w w' := by
  have hc := check_some b l y s p t hb hl 8 (by omega)
  obtain ⟨c, hc'⟩ : ∃ c : Int, c = if GeoOk b l y s p t then 0 else 60 := ⟨_, rfl⟩
  rw [← hc'] at hc
  have HC := Lib.hid hc
  have hcase : (c != 0) = true ∨ ((c != 0) = false ∧ (kind < 0 ∨ ¬ kind < 0 ∧ 3 < kind)) := by
    by_cases g : GeoOk b l y s p t
    · right
      rw [if_pos g] at hc'
      subst hc'
      have q : ¬ (0 ≤ kind ∧ kind ≤ 3) := fun q => h ⟨g, q⟩
      exact ⟨rfl, by omega⟩
    · left
      rw [if_neg g] at hc'
      subst hc'
      rfl
  clear hc hb hl h hc'
  rcases hcase with hc | ⟨hc, hk | ⟨hk, hk2⟩⟩
  all_goals
    go_enter Try.func7, Try.ntmps7
    go_wp2_with (first | (go_at_call 29; refine (works_any _).mono ?_; rintro e w1 ⟨rfl, hb1⟩; obtain ⟨u0, u1, u2, u3, u4, u5⟩ := cells6 (blk_below (blk_new w _) hb1); have HB1 := Aside0.mk hb1; clear hb1) | (go_at_call 30; refine (geom_Check.calls 8 b l y s p t c _ HC.out).mono ?_; rintro e w2 ⟨rfl, hb2⟩; have HB2 := Aside0.mk hb2; clear hb2))
    go_ret
    exact ⟨rfl, ((below_alloc (Below.refl _ w) _).trans (HB1.out.mono (B' := w.heap.size) (by simp))).trans (HB2.out.mono (by have := HB1.out.size; simp at this; omega))⟩

theorem made_q (gl gs : Nat) (L : Ld) (w : World) (h : BodyAt w gl gs L) : Calls Try.prog 33 #[.pointer (some ⟨gl, 0, none⟩)] w fun e w' => e = .returned (.int .i64 L.made) ∧ w' = w :=
  (made_any gl gs L w h).mono fun _ _ ⟨h1, h2⟩ => ⟨h1, h2.symm⟩

/-- What the loop's round knows. -/
structure Round (w wr : World) (gl gs : Nat) (L0 : Ld) (i : Nat) : Prop where
  load : LoadAt wr gl gs (after L0 i)
  below : Below w.heap.size w wr
  geo : wr.heap[w.heap.size]? = some (.cells #[.int .i64 L0.b, .int .i64 L0.l, .int .i64 L0.y, .int .i64 L0.s, .int .i64 L0.p, .int .i64 L0.t] 33 (0, 0))

theorem round_next {w wr w4 : World} {gl gs : Nat} {L0 M : Ld} {i : Nat} (hr : Round w wr gl gs L0 i) (hM : after L0 (i + 1) = M) (hl4 : LoadAt w4 gl gs M) (hm4 : Mod w.heap.size (fun k => k = gl ∨ k = gs) wr w4) (hn0 : ¬ (w.heap.size = gl ∨ w.heap.size = gs)) (o : Obj) (n : Nat) :
    Round w ((w4.alloc o).drewN n) gl gs L0 (i + 1) := by
  have b := hr.below.trans hm4.below
  have c := b.alloc b.size o
  exact ⟨by rw [hM]; exact ⟨blk_alloc hl4.1 _, blk_alloc hl4.2 _⟩, ⟨c.os, c.tape, c.output, c.size, c.block⟩, blk_alloc (hm4.blk hr.geo hn0) _⟩

set_option maxRecDepth 100000 in
set_option maxHeartbeats 4000000 in
theorem may_in (b l y s p t kind seed : Int) (w : World) (hb : (Lit.int .i64 b).wf = true) (hl : (Lit.int .i64 l).wf = true) (hg : GeoOk b l y s p t) (hk : 0 ≤ kind) (hk2 : kind ≤ 3) (hs : 0 ≤ seed) :
    Calls Try.prog 7 #[.agg #[.int .i64 b, .int .i64 l, .int .i64 y, .int .i64 s, .int .i64 p, .int .i64 t], .int .i64 kind, .int .u64 seed] w fun e w' => e = .returned (.bool true) ∧ Below w.heap.size w w' := by
  have hc := check_some b l y s p t hb hl 8 (by omega)
  rw [if_pos hg] at hc
  have HC := Lib.hid hc
  have HG := Lib.hid hg
  have HBW := Lib.hid hb
  have HLW := Lib.hid hl
  obtain ⟨⟨g1, g2, g3, g4, g5, g6, g7⟩, g8, g9, g10⟩ := hg
  clear hc hb hl g4 g8 g9 g10
  have d1 : decide (kind < 0) = false := by simp; omega
  have d2 : decide (3 < kind) = false := by simp; omega
  go_enter Try.func7, Try.ntmps7
  go_wp2_with (first | (go_at_call 29; refine (works_any _).mono ?_; rintro e w1 ⟨rfl, hb1⟩; obtain ⟨u0, u1, u2, u3, u4, u5⟩ := cells6 (blk_below (blk_new w _) hb1); have HB1 := Aside0.mk hb1; clear hb1) | (go_at_call 30; refine (geom_Check.calls 8 b l y s p t 0 _ HC.out).mono ?_; rintro e w2 ⟨rfl, hb2⟩; obtain ⟨v0, v1, v2, v3, v4, v5⟩ := cells6 (blk_below (blk_below (blk_new w _) HB1.out) hb2); have HB2 := Aside0.mk hb2; clear hb2) | (go_at_call 31; refine (new_ok b l y s p t kind seed _ HBW.out HLW.out HG.out hk hk2 hs).mono ?_; rintro e w3 ⟨gl, gs, rfl, hld, hne, hgl, hgs, hb3⟩; have HB3 := Aside0.mk hb3; have HGL := Aside0.mk hgl; have HGS := Aside0.mk hgs; clear hb3 hgl hgs))
  obtain ⟨L0, hL0⟩ : ∃ L0, L0 = startOf b l y s p t kind seed := ⟨_, rfl⟩
  have hR : Round w w3 gl gs L0 0 := by
    subst hL0
    refine ⟨hld, ?_, ?_⟩
    · have a := HB1.out.size
      simp at a
      exact (((below_alloc (Below.refl _ w) _).trans (HB1.out.mono (B' := w.heap.size) (by simp))).trans (HB2.out.mono (B' := w.heap.size) (by omega))).trans (HB3.out.mono (by have := HB2.out.size; omega))
    · exact blk_below (blk_below (blk_below (blk_new w _) HB1.out) HB2.out) HB3.out
  have HR := Aside0.mk hR
  have HGL' : w.heap.size < gl := by have := HGL.out; have := HB1.out.size; have := HB2.out.size; simp at *; omega
  have HGS' : w.heap.size < gs := by have := HGS.out; have := HB1.out.size; have := HB2.out.size; simp at *; omega
  have e1 : L0.kind = kind := by subst hL0; rfl
  have e2 : L0.s = s := by subst hL0; rfl
  have e3 : L0.y = y := by subst hL0; rfl
  have e4 : L0.at_ = 0 := by subst hL0; rfl
  have e5 : L0.made = 0 := by subst hL0; rfl
  have e6 : L0.b = b ∧ L0.l = l ∧ L0.p = p ∧ L0.t = t := by subst hL0; exact ⟨rfl, rfl, rfl, rfl⟩
  have INV := Lib.hid (after_inv L0 (by omega) (by omega) (by omega) (by omega))
  have E := Lib.hid (And.intro e1 (And.intro e2 (And.intro e3 (And.intro e4 (And.intro e5 e6)))))
  clear hL0 hR hld v0 v1 v2 v3 v4 v5 HB1 HB2 HB3 HGL HGS e1 e2 e3 e4 e5 e6 HC HG HBW HLW
  go_loopw [9, 38] (fun v9 v38 wr => ∃ (i : Nat) (last : Int), i ≤ 60 ∧ v38 = .int .i64 i ∧ v9 = .int .i64 last ∧ Aside0 (kind = 1 → (after L0 i).at_ = (last + 1) % s) ∧ Aside0 (-1 ≤ last ∧ last < s) ∧ Aside0 (Round w wr gl gs L0 i)) (fun _ v38 _ => 60 - (intOf v38).toNat)
  case atStart => exact ⟨0, -1, by omega, rfl, rfl, ⟨fun _ => by obtain ⟨_, _, _, e4, _⟩ := E.out; show L0.at_ = _; rw [e4]; simp⟩, ⟨by omega⟩, HR⟩
  case round =>
    obtain ⟨i, last, hi, rfl, rfl, hat, hlast, hr⟩ := hrel
    by_cases hlt : i < 60
    · obtain ⟨⟨a1, a2, a3, a4, a5, a6, a7⟩, hm, h0, h1⟩ := INV.out i
      obtain ⟨e1, e2, e3, e4, e5, e6⟩ := E.out
      have F := next_fine (after L0 i) (by omega) (by omega) h0 (by omega)
      obtain ⟨⟨k, q, n, str⟩, M, hd⟩ : ∃ d M, nextOf (after L0 i) = (d, M) := ⟨_, _, rfl⟩
      rw [hd] at F
      have hM : after L0 (i + 1) = M := by show (nextOf (after L0 i)).2 = M; rw [hd]
      have t1 : 0 ≤ q := F.lba0
      have t2 : q < s := by have := F.lba1; simp only at this; omega
      have t3 : 1 ≤ k := F.kind0
      have t4 : k ≤ 5 := F.kind1
      have t5 : 0 ≤ n := F.n0
      have t6 : n < 50 := F.n1
      have t7 : k = 2 → (str.size : Int) = y := fun e => by have := F.size e; simp only at this; omega
      have t8 : kind < 3 → k = 2 := fun e => F.alone (by omega) (by omega)
      have t9 : kind = 1 → q = (last + 1) % s ∧ M.at_ = (q + 1) % s := fun e => by
        obtain ⟨z1, z2⟩ := F.line (by omega)
        simp only at z1 z2
        have := hat.out e
        exact ⟨by omega, by rw [z2, z1, a4, e2]⟩
      have hmade : M.made = (i : Int) + 1 := by have := F.made; simp only at this; omega
      have HD := Lib.hid hd
      have hlast0 := hlast.out.1
      have hlast1 := hlast.out.2
      have hyy : 0 ≤ (after L0 i).y ∧ (after L0 i).y ≤ 256 ∧ 0 ≤ (after L0 i).made ∧ (after L0 i).made < 1000000 ∧ 1 ≤ (after L0 i).s ∧ (after L0 i).s ≤ 10000 ∧ 0 ≤ (after L0 i).at_ ∧ (after L0 i).at_ ≤ 10000 := by omega
      have HY := Lib.hid hyy
      have HMM := Lib.hid hM
      have HMD := Lib.hid hmade
      have GEO := hr.out.geo
      rw [e6.1, e6.2.1, e3, e2, e6.2.2.1, e6.2.2.2] at GEO
      have HGEO := Aside0.mk GEO
      have T9 := Lib.hid t9
      clear a1 a2 a3 a4 a5 a6 a7 hm h0 h1 e1 e2 e3 e4 e5 e6 F hd hlast hyy hM hmade GEO t9
      have hn0 : ¬ (w.heap.size = gl ∨ w.heap.size = gs) := by omega
      have step : ∀ (hk : (k == 2) = true ∨ (k == 2) = false), True := fun _ => trivial
      clear step
      have CALL : ∀ (W : World) (hW : LoadAt W gl gs (after L0 i)), Calls Try.prog 32 #[.pointer (some ⟨gl, 0, none⟩)] W fun e w' => e = .returned (doV k q n str) ∧ LoadAt w' gl gs M ∧ Mod w.heap.size (fun k => k = gl ∨ k = gs) W w' := fun W hW =>
        next_is gl gs w.heap.size (after L0 i) M k q n str W HD.out hW hne (by omega) (by omega) HY.out.1 HY.out.2.1 HY.out.2.2.1 HY.out.2.2.2.1 HY.out.2.2.2.2.1 HY.out.2.2.2.2.2.1 HY.out.2.2.2.2.2.2.1 HY.out.2.2.2.2.2.2.2
      have HCALL := Lib.hid CALL
      clear CALL
      by_cases ck : k = 2
      · subst ck
        have s1 : ((str.size : Int) != y) = false := by have := t7 rfl; simp [this]
        clear t7 t8
        by_cases c1 : kind = 1
        · obtain ⟨z1, z2⟩ := T9.out c1
          subst c1
          have s2 : (q != (last + 1) % s) = false := by simp [← z1]
          have Z2 := Lib.hid z2
          clear z1 z2
          go_wp2_with (go_at_call 32; refine (HCALL.out _ hr.out.load).mono ?_; rintro e w4 ⟨rfl, hl4, hm4⟩; obtain ⟨u0, u1, u2, u3, u4, u5⟩ := cells6 (hm4.blk HGEO.out hn0); have z4 := blk_lt (hm4.blk HGEO.out hn0); have HM4 := Aside0.mk hm4; clear hm4)
          have s3 : (M.made != (i : Int) + 1) = false := by have := HMD.out; simp [this]
          have BM : BodyAt (w4.alloc (.cells #[.int .i64 2, .int .i64 q, .int .i64 n, .string str] 73)) gl gs M := blk_alloc hl4.1 _
          have HBM := Aside0.mk BM
          clear BM
          clear HMD HY HCALL HD T9 E INV HR t3 t4 t5 t6
          go_quiet ((go_at_call 33; exact Calls.quiet_of_same (made_q gl gs M _ (by exact HBM.out))))
          go_wp2
          go_roundw
          case rel => exact ⟨i + 1, q, by omega, by go_num, rfl, ⟨fun _ => by rw [HMM.out]; exact Z2.out⟩, ⟨by omega⟩, ⟨round_next hr.out HMM.out hl4 HM4.out hn0 _ _⟩⟩
          case measure => simp [intOf]; omega
        · have C1 := Lib.hid c1
          have c1' : (kind == 1) = false := by simp [c1]
          clear c1
          by_cases c3 : kind < 3
          all_goals
            go_wp2_with (go_at_call 32; refine (HCALL.out _ hr.out.load).mono ?_; rintro e w4 ⟨rfl, hl4, hm4⟩; obtain ⟨u0, u1, u2, u3, u4, u5⟩ := cells6 (hm4.blk HGEO.out hn0); have z4 := blk_lt (hm4.blk HGEO.out hn0); have HM4 := Aside0.mk hm4; clear hm4)
            have s3 : (M.made != (i : Int) + 1) = false := by have := HMD.out; simp [this]
            have BM : BodyAt (w4.alloc (.cells #[.int .i64 2, .int .i64 q, .int .i64 n, .string str] 73)) gl gs M := blk_alloc hl4.1 _
            have HBM := Aside0.mk BM
            clear BM
            clear HMD HY HCALL HD T9 E INV HR t3 t4 t5 t6
            go_quiet ((go_at_call 33; exact Calls.quiet_of_same (made_q gl gs M _ (by exact HBM.out))))
            go_wp2
            go_roundw
            case rel => exact ⟨i + 1, q, by omega, by go_num, rfl, ⟨fun h => absurd h C1.out⟩, ⟨by omega⟩, ⟨round_next hr.out HMM.out hl4 HM4.out hn0 _ _⟩⟩
            case measure => simp [intOf]; omega
      · have c3 : ¬ kind < 3 := fun h => ck (t8 h)
        have ck' : (k == 2) = false := by simp [ck]
        have c1' : (kind == 1) = false := by simp; omega
        have C1 := Lib.hid (show ¬ kind = 1 by omega)
        clear t7 t8 ck
        go_wp2_with (go_at_call 32; refine (HCALL.out _ hr.out.load).mono ?_; rintro e w4 ⟨rfl, hl4, hm4⟩; obtain ⟨u0, u1, u2, u3, u4, u5⟩ := cells6 (hm4.blk HGEO.out hn0); have z4 := blk_lt (hm4.blk HGEO.out hn0); have HM4 := Aside0.mk hm4; clear hm4)
        have s3 : (M.made != (i : Int) + 1) = false := by have := HMD.out; simp [this]
        have BM : BodyAt (w4.alloc (.cells #[.int .i64 k, .int .i64 q, .int .i64 n, .string str] 73)) gl gs M := blk_alloc hl4.1 _
        have HBM := Aside0.mk BM
        clear BM
        clear HMD HY HCALL HD T9 E INV HR t3 t4 t5 t6
        go_quiet ((go_at_call 33; exact Calls.quiet_of_same (made_q gl gs M _ (by exact HBM.out))))
        go_wp2
        go_roundw
        case rel => exact ⟨i + 1, q, by omega, by go_num, rfl, ⟨fun h => absurd h C1.out⟩, ⟨by omega⟩, ⟨round_next hr.out HMM.out hl4 HM4.out hn0 _ _⟩⟩
        case measure => simp [intOf]; omega
    · obtain rfl : i = 60 := by omega
      go_wp2
      go_ret
      exact ⟨rfl, hr.out.below⟩
end Go.Proofs.Ytcfonmbojkolfaa.LoadA
