/- The law's proof: words, contracts of the functions that it reaches, plain lemmas. -/
import Derived.ArgAppend
import Derived.Below
import Derived.BigQuiet
import Derived.Carry
import Derived.Deep.AppendLies
import Derived.Deep.CutBlock
import Derived.Deep.DeepCutAuto
import Derived.Deep.Draws
import Derived.Deep.LoopGhost
import Derived.Deep.OwnRows
import Derived.Deep.QuietTactic
import Derived.Deep.RegionHeld3
import Derived.Deep.RegionWith
import Derived.KernelRfl
import Derived.Laws.BitsLemmas
import Derived.Laws.BytesArg
import Derived.Laws.IdiomCopy
import Derived.Laws.MakeOwn
import Derived.Laws.OwnMore
import Derived.Laws.Rows
import Derived.Laws.Slices
import Derived.Lib.AppendStr
import Derived.Lib.BufferMore
import Derived.Lib.ConvBytes
import Derived.Lib.Hide
import Derived.Lib.LazyBuf
import Derived.Maps.AppendAt
import Derived.OpenShut
import Derived.OrdersHeld
import Derived.Outline
import Derived.OwnWalk
import Derived.OwnWalkIn
import Derived.RegionTactic
import Derived.RowKit3
import Derived.StillTailTactics
import Derived.Tactics
import Derived.WalkKit
import Derived.WideLaws
import Derived.Test.YteofihmeiikhbaaDoorSb8
import Derived.Test.YteofihmeiikhbaaDoorSb16
import Derived.Test.YteofihmeiikhbaaDoorSb19
import Derived.Test.YteofihmeiikhbaaDoorSb3
section
/- The law SnapOne: the walk. -/
set_option linter.unusedVariables false
set_option linter.unusedSimpArgs false
namespace Go.Proofs.YteofihmeiikhbaaDoor.PG
open Go.RowKit Go.Shelf Go.Proofs.YteofihmeiikhbaaDoor.Tf Go.Proofs.YteofihmeiikhbaaDoorW.PrintWords Go.Proofs.YteofihmeiikhbaaDoorW.PrintLast Go.Proofs.YteofihmeiikhbaaDoor.Mem Go.Proofs.YteofihmeiikhbaaDoor.Own Go.Proofs.YteofihmeiikhbaaDoor.Hw

theorem putD_c (G : G6) (s : Dur) : ((putD G s).2 = 0 ↔ FitsD G s) ∧ (putD G s).1.length ≤ 60 := by
  unfold putD
  by_cases hok : G.Ok
  · rw [if_pos hok]
    by_cases hf : FitsD G s
    · rw [if_pos hf]
      exact ⟨⟨fun _ => hf, fun _ => rfl⟩, by show (pagesOf _ _ _).length ≤ 60; rw [pages_len]; exact (snN_room hok).2.2.2.1⟩
    · rw [if_neg hf]
      exact ⟨⟨fun h => (by cases h), fun h => absurd h hf⟩, by show 0 ≤ 60; omega⟩
  · rw [if_neg hok]
    exact ⟨⟨fun h => (by cases h), fun h => absurd h.1 hok⟩, by show 0 ≤ 60; omega⟩
theorem putD_inj {G : G6} {s t : Dur} (hs : FitsD G s) (ht : FitsD G t) : (putD G s).1 = (putD G t).1 ↔ s = t := by
  constructor
  · intro h
    have h1 := (put_take hs).1
    have h2 := (put_take ht).1
    rw [h, h2] at h1
    exact (congrArg Prod.fst h1).symm
  · intro h; rw [h]
theorem fits_calls {w : World} {G : G6} {s : Dur} {A0 A1 A2 A3 : Option Addr} {c0 c1 c2 c3 : Nat} (hb : (Lit.int .i64 G.b).wf = true) (hl : (Lit.int .i64 G.l).wf = true) (d : DurAt w s A0 A1 A2 A3 c0 c1 c2 c3) :
    Calls Tryd.prog 11 #[geoV G, durV s A0 A1 A2 A3 c0 c1 c2 c3] w fun e w' => e = .returned (.bool (decide (FitsD G s))) ∧ Below w.heap.size w w' :=
  snap_Fits.calls _ G.b G.l G.y G.s G.p G.w A0 c0 s.fl A1 c1 s.co A2 c2 s.sl A3 c3 s.tl _ w d.r0 d.h0 d.r1 d.h1 d.r2 d.h2 d.r3 d.h3 (fits_is G s hb hl (Kd.C_max d.r0) (Kd.C_max d.r1) (Kd.C_max d.r2) (Kd.C_max d.r3) _ (Nat.lt_succ_self _))
theorem hold2 {w : World} {b : Nat} {A B : Asn} {L : List Asn} {S : Nat → Prop} : Hold w b (A :: B :: L) S → Hold w b (A :: B :: []) S := Hold.cons (fun _ => Hold.cons (fun _ _ => trivial))
abbrev stC (s : Dur) (A0 A1 A2 A3 : Option Addr) (c0 c1 c2 c3 : Nat) : Obj := .cells #[.slice A0 s.fl.length c0, .slice A1 s.co.length c1, .slice A2 s.sl.length c2, .slice A3 s.tl.length c3] 26 (0, 0)
def one.T9 : Bool × List (List Nat × List Nat) := (true, [([], []), ([], []), ([0, 1], [0, 1]), ([], []), ([], []), ([3, 4, 2], [3, 4]), ([2, 5], [2, 5]), ([6, 5, 0, 1, 2, 3, 4, 5, 6], [6])])
def one.B9 : List Nat := [0, 0, 3, 0, 0, 31, 63, 127]
theorem one.tab9 : rtab .any (opsOf Tryd.f5 9) = one.T9 := by kernel_rfl
theorem one.bits9 : waitsOk one.T9.2 one.B9 = true := by kernel_rfl
set_option maxHeartbeats 8000000 in
set_option maxRecDepth 100000 in
theorem one_own {w : World} (G : G6) (s t : Dur) (A0 A1 A2 A3 D0 D1 D2 D3 : Option Addr) (c0 c1 c2 c3 d0 d1 d2 d3 : Nat) (hb : (Lit.int .i64 G.b).wf = true) (hl : (Lit.int .i64 G.l).wf = true) (hs : DurAt w s A0 A1 A2 A3 c0 c1 c2 c3) (ht : DurAt w t D0 D1 D2 D3 d0 d1 d2 d3)
    (hz0 : s.fl.length ≤ 9223372036854775806) (hz1 : s.co.length ≤ 9223372036854775806) (hz2 : s.sl.length ≤ 9223372036854775806) (hz3 : s.tl.length ≤ 9223372036854775806) :
    Calls Tryd.prog 5 #[geoV G, durV s A0 A1 A2 A3 c0 c1 c2 c3, durV t D0 D1 D2 D3 d0 d1 d2 d3] w fun e w' => e = .returned (.bool true) ∧ Below w.heap.size w w' := by
  have HS := Aside0.mk hs
  have HT := Aside0.mk ht
  have HZ := Aside0.mk (And.intro hz0 (And.intro hz1 (And.intro hz2 hz3)))
  have HWF := Aside0.mk (And.intro hb hl)
  have ha := (((Own.Own.new w).alloc (geoC G)).alloc (stC s A0 A1 A2 A3 c0 c1 c2 c3)).alloc (stC t D0 D1 D2 D3 d0 d1 d2 d3)
  simp only [World.size_alloc] at ha
  obtain ⟨B3, hB3⟩ : ∃ B, B = w.heap.size := ⟨_, rfl⟩
  obtain ⟨B4, hB4⟩ : ∃ B, B = B3 + 1 := ⟨_, rfl⟩
  obtain ⟨B5, hB5⟩ : ∃ B, B = B4 + 1 := ⟨_, rfl⟩
  rw [← hB3, ← hB4, ← hB5] at ha
  have HO := Aside0.mk ha
  have HB3 := Lib.hid hB3
  have HB4 := Lib.hid hB4
  have HB5 := Lib.hid hB5
  clear ha hs ht hb hl hB3 hB4 hB5 hz0 hz1 hz2 hz3
  go_enter Tryd.func5, Tryd.ntmps5
  go_wp2_with fail
  rw [← HB3.out, ← HB4.out, ← HB5.out]
  refine (works_calls _).mono ?_
  rintro e w1 ⟨rfl, hb⟩
  have H1 := Aside0.mk (HO.out.move hb)
  clear hb HO HB3 HB4 HB5
  obtain ⟨x0, x1, x2, x3, x4, x5⟩ := cells6 H1.out.drop.drop.pt
  obtain ⟨y0, y1, y2, y3, _, _, _, _⟩ := cells4 H1.out.drop.pt
  by_cases h300 : 300 < G.s
  · have e1 : decide (300 < G.s) = true := decide_eq_true h300
    have e2 : decide (G.s > 300) = true := decide_eq_true h300
    go_wp2_with fail
    go_ret
    exact ⟨rfl, H1.out.below⟩
  · have e1 : decide (300 < G.s) = false := decide_eq_false h300
    have e2 : decide (G.s > 300) = false := decide_eq_false h300
    go_wp2_with fail
    clear e1 e2
    refine (put_calls (w := w1) G s A0 A1 A2 A3 c0 c1 c2 c3 HWF.out.1 HWF.out.2 (HS.out.below H1.out.below)).mono ?_
    rintro e w2 ⟨v1, rfl, ho⟩
    have H2 := Aside0.mk (own_then H1.out ho)
    clear ho H1 x0 x1 x2 x3 x4 x5 y0 y1 y2 y3
    obtain ⟨x0, x1, x2, x3, x4, x5⟩ := cells6 (own_swap [_, _, _] [_] H2.out).pt
    obtain ⟨y0, y1, y2, y3, _, _, _, _⟩ := cells4 (own_swap [_] [_] H2.out).pt
    go_wp2_with fail
    refine (put_calls (w := w2) G t D0 D1 D2 D3 d0 d1 d2 d3 HWF.out.1 HWF.out.2 (HT.out.below H2.out.below)).mono ?_
    rintro e w3 ⟨v2, rfl, ho⟩
    have H3 := Aside0.mk (own_then H2.out ho)
    clear ho H2 x0 x1 x2 x3 x4 x5 y0 y1 y2 y3
    obtain ⟨p1, hp1⟩ : ∃ p, p = (putD G s).1 := ⟨_, rfl⟩
    obtain ⟨p2, hp2⟩ : ∃ p, p = (putD G t).1 := ⟨_, rfl⟩
    obtain ⟨k1, hk1⟩ : ∃ p, p = (putD G s).2 := ⟨_, rfl⟩
    obtain ⟨k2, hk2⟩ : ∃ p, p = (putD G t).2 := ⟨_, rfl⟩
    have q1 := putD_c G s
    have q2 := putD_c G t
    have qi : FitsD G s → FitsD G t → (p1 = p2 ↔ s = t) := fun a b => by rw [hp1, hp2]; exact putD_inj a b
    rw [← hk1, ← hp1] at q1
    rw [← hk2, ← hp2] at q2
    rw [← hk1, ← hk2]
    have H3 := Aside0.mk (show Own.Own w w3 (Txt v2 p2 :: Txt v1 p1 :: _) from by rw [hp1, hp2]; exact H3.out)
    have QI := Aside0.mk qi
    have Q1 := Aside0.mk q1
    have Q2 := Aside0.mk q2
    clear hp1 hp2 hk1 hk2 q1 q2 qi
    obtain ⟨x0, x1, x2, x3, x4, x5⟩ := cells6 (own_swap [_, _, _, _] [_] H3.out).pt
    obtain ⟨y0, y1, y2, y3, _, _, _, _⟩ := cells4 (own_swap [_, _, _] [_] H3.out).pt
    by_cases hk1 : k1 = 0
    · subst hk1
      by_cases hk2 : k2 = 0
      · subst hk2
        obtain ⟨a2, e2, rfl, he2, hr2⟩ := H3.out.reads
        obtain ⟨a1, e1, rfl, he1, hr1⟩ := (own_swap [_] [_] H3.out).reads
        go_upto_region 9 with (fail)
        have hbq : decide (p1 = p2) = sameB s t := by
          rw [Bool.eq_iff_iff, decide_eq_true_eq, sameB_iff]
          exact QI.out (Q1.out.1.1 (by first | rfl | trivial)) (Q2.out.1.1 (by first | rfl | trivial))
        obtain ⟨bq, hbb⟩ : ∃ b, b = decide (p1 = p2) := ⟨_, rfl⟩
        rw [← hbb] at hbq
        have HBQ := Lib.hid hbq
        have HST := Aside0.mk (show ∀ W : World, Below w.heap.size w W → Own.Own w W (Txt (.slice a2 p2.length e2) p2 :: Txt (.slice a1 p1.length e1) p1 :: []) → Calls Tryd.prog 13 #[.slice a1 p1.length e1, .slice a2 p2.length e2] W fun e w' => e = .returned (.bool bq) ∧ Drawn0 W w' from fun W _ h => by
          obtain ⟨a2', e2', q2, he2', hr2'⟩ := h.reads
          obtain ⟨a1', e1', q1, he1', hr1'⟩ := (own_swap [_] [_] h).reads
          injection q1 with q1 _ q1c
          injection q2 with q2 _ q2c
          subst q1 q2 q1c q2c
          have := decklebook_SameTexts.calls _ a1 e1 p1 a2 e2 p2 _ W hr1' he1' hr2' he2' (sameT_is p1 p2 (by have := Q1.out.2; omega) _ (Nat.lt_succ_self _))
          rw [← hbb] at this
          exact this)
        clear hbq hbb he1 he2 hr1 hr2 x0 x1 x2 x3 x4 x5 y0 y1 y2 y3
        have hmx : Tryd.prog.follows .mixedOrders = true := by kernel_rfl
        have hbs : (bq == bq) = true := by simp
        first | refine quiet_exit ?_ | skip
        refine start_ (n := 8) (S := fun w' => w'.cell? ⟨B4, 0, none⟩ = some (.slice A0 s.fl.length c0) ∧ w'.cell? ⟨B4, 1, none⟩ = some (.slice A1 s.co.length c1) ∧ w'.cell? ⟨B4, 2, none⟩ = some (.slice A2 s.sl.length c2) ∧ w'.cell? ⟨B4, 3, none⟩ = some (.slice A3 s.tl.length c3) ∧ w'.cell? ⟨B5, 0, none⟩ = some (.slice D0 t.fl.length d0) ∧ w'.cell? ⟨B5, 1, none⟩ = some (.slice D1 t.co.length d1) ∧ w'.cell? ⟨B5, 2, none⟩ = some (.slice D2 t.sl.length d2) ∧ w'.cell? ⟨B5, 3, none⟩ = some (.slice D3 t.tl.length d3)) (ds := []) (tfA 0 8) (by kernel_rfl) rfl rfl ⟨(blk_cell (own_swap [_, _, _] [_] H3.out.drew).pt 0).trans rfl, (blk_cell (own_swap [_, _, _] [_] H3.out.drew).pt 1).trans rfl, (blk_cell (own_swap [_, _, _] [_] H3.out.drew).pt 2).trans rfl, (blk_cell (own_swap [_, _, _] [_] H3.out.drew).pt 3).trans rfl, (blk_cell (own_swap [_, _] [_] H3.out.drew).pt 0).trans rfl, (blk_cell (own_swap [_, _] [_] H3.out.drew).pt 1).trans rfl, (blk_cell (own_swap [_, _] [_] H3.out.drew).pt 2).trans rfl, (blk_cell (own_swap [_, _] [_] H3.out.drew).pt 3).trans rfl⟩ (fun hHeld => ?_)
        refine with_tabW one.tab9 one.bits9 (fun HT_ HW_ => ?_)
        refine pure_ (i := 0) (N := some 48) (v := ?_) (a' := ?_) (tfA 1 8) rfl rfl (any_of HT_.out (by kernel_rfl)) (fun _ _ _ h => h) (Or.inl ⟨by rfl, ?_⟩) ?_ ?_
        rotate_left
        · intro w'
          go_simp
          with_reducible rfl
        rotate_left
        · simp only [Act.put, List.setIfInBounds_toArray, List.set_cons_zero, List.set_cons_succ, i64_w, i32_w]
          rfl
        refine pure_ (i := 1) (N := some 49) (v := ?_) (a' := ?_) (tfA 2 8) rfl rfl (any_of HT_.out (by kernel_rfl)) (fun _ _ _ h => h) (Or.inl ⟨by rfl, ?_⟩) ?_ ?_
        rotate_left
        · intro w'
          go_simp
          with_reducible rfl
        rotate_left
        · simp only [Act.put, List.setIfInBounds_toArray, List.set_cons_zero, List.set_cons_succ, i64_w, i32_w]
          rfl
        refine take_ (i := 3) (N := some 51) (v := ?_) (a' := ?_) #[true, true, false, true, false, false, false, false] rfl rfl (take_ofW HT_.out HW_.out (by kernel_rfl)) (fun _ _ _ h => h) (Or.inl ⟨by rfl, ?_⟩) hHeld ?_ ?_
        rotate_left
        · rintro w' ⟨s0, s1, s2, s3, s4, s5, s6, s7⟩
          go_simp
          with_reducible rfl
        rotate_left
        · simp only [Act.put, List.setIfInBounds_toArray, List.set_cons_zero, List.set_cons_succ, i64_w, i32_w]
          rfl
        refine take_ (i := 4) (N := some 52) (v := ?_) (a' := ?_) #[true, true, false, true, true, false, false, false] rfl rfl (take_ofW HT_.out HW_.out (by kernel_rfl)) (fun _ _ _ h => h) (Or.inl ⟨by rfl, ?_⟩) hHeld ?_ ?_
        rotate_left
        · rintro w' ⟨s0, s1, s2, s3, s4, s5, s6, s7⟩
          go_simp
          with_reducible rfl
        rotate_left
        · simp only [Act.put, List.setIfInBounds_toArray, List.set_cons_zero, List.set_cons_succ, i64_w, i32_w]
          rfl
        refine one_ (i := 2) (N := some 50) (tfA 5 8) rfl rfl (one_of HT_.out (by kernel_rfl)) (by decide) (fun K hK => ?_)
        refine goes_ Tryd.func13 (by kernel_rfl) rfl #[.slice a1 p1.length e1, .slice a2 p2.length e2] (by rfl) rfl rfl (by simp only [List.map_toArray, List.map_cons, List.map_nil]; rfl) ?_
        refine (HST.out _ H3.out.drew.below (H3.out.drew.map fun _ h => hold2 h)).mono ?_
        rintro e w4 ⟨rfl, hb⟩
        have H4 := Aside0.mk (H3.out.drew.move hb.below)
        refine ⟨_, rfl, ?_⟩
        clear hb H3
        refine hK.out _ _ ⟨(blk_cell (own_swap [_, _, _] [_] H4.out).pt 0).trans rfl, (blk_cell (own_swap [_, _, _] [_] H4.out).pt 1).trans rfl, (blk_cell (own_swap [_, _, _] [_] H4.out).pt 2).trans rfl, (blk_cell (own_swap [_, _, _] [_] H4.out).pt 3).trans rfl, (blk_cell (own_swap [_, _] [_] H4.out).pt 0).trans rfl, (blk_cell (own_swap [_, _] [_] H4.out).pt 1).trans rfl, (blk_cell (own_swap [_, _] [_] H4.out).pt 2).trans rfl, (blk_cell (own_swap [_, _] [_] H4.out).pt 3).trans rfl⟩ (fun hHeld => ?_)
        clear hK K
        refine norm_ (a' := ?_) ?_ ?_
        rotate_left
        · show Act.put _ (some 50) _ = _
          simp only [Act.put, List.setIfInBounds_toArray, List.set_cons_zero, List.set_cons_succ, i64_w, i32_w]
          rfl
        refine one_ (i := 5) (N := some 53) (tfA 6 8) rfl rfl (one_of HT_.out (by kernel_rfl)) (by decide) (fun K hK => ?_)
        refine goes_ Tryd.func14 (by kernel_rfl) rfl #[durV s A0 A1 A2 A3 c0 c1 c2 c3, durV t D0 D1 D2 D3 d0 d1 d2 d3] (by rfl) rfl rfl (by simp only [List.map_toArray, List.map_cons, List.map_nil]; rfl) ?_
        refine (same_calls (HS.out.below H4.out.below) (HT.out.below H4.out.below) HZ.out.1 HZ.out.2.1 HZ.out.2.2.1 HZ.out.2.2.2).mono ?_
        rintro e w5 ⟨rfl, hb⟩
        rw [← HBQ.out]
        have H5 := Aside0.mk (H4.out.move hb)
        refine ⟨_, rfl, ?_⟩
        clear hb H4
        refine hK.out _ _ ⟨(blk_cell (own_swap [_, _, _] [_] H5.out).pt 0).trans rfl, (blk_cell (own_swap [_, _, _] [_] H5.out).pt 1).trans rfl, (blk_cell (own_swap [_, _, _] [_] H5.out).pt 2).trans rfl, (blk_cell (own_swap [_, _, _] [_] H5.out).pt 3).trans rfl, (blk_cell (own_swap [_, _] [_] H5.out).pt 0).trans rfl, (blk_cell (own_swap [_, _] [_] H5.out).pt 1).trans rfl, (blk_cell (own_swap [_, _] [_] H5.out).pt 2).trans rfl, (blk_cell (own_swap [_, _] [_] H5.out).pt 3).trans rfl⟩ (fun hHeld => ?_)
        clear hK K
        refine norm_ (a' := ?_) ?_ ?_
        rotate_left
        · show Act.put _ (some 53) _ = _
          simp only [Act.put, List.setIfInBounds_toArray, List.set_cons_zero, List.set_cons_succ, i64_w, i32_w]
          rfl
        refine pure_ (i := 6) (N := some 54) (v := ?_) (a' := ?_) (tfA 7 8) rfl rfl (any_of HT_.out (by kernel_rfl)) (fun _ _ _ h => h) (Or.inl ⟨by rfl, ?_⟩) ?_ ?_
        rotate_left
        · intro w'
          go_simp
          with_reducible rfl
        rotate_left
        · simp only [Act.put, List.setIfInBounds_toArray, List.set_cons_zero, List.set_cons_succ, i64_w, i32_w]
          rfl
        refine pure_ (i := 7) (N := some 6) (v := ?_) (a' := ?_) (tfA 8 8) rfl rfl (any_of HT_.out (by kernel_rfl)) (fun _ _ _ h => h) (Or.inl ⟨by rfl, ?_⟩) ?_ ?_
        rotate_left
        · intro w'
          go_simp
          with_reducible rfl
        rotate_left
        · simp only [Act.put, List.setIfInBounds_toArray, List.set_cons_zero, List.set_cons_succ, i64_w, i32_w]
          rfl
        refine done_ (done_of HT_.out (by kernel_rfl)) ?_
        clear hHeld
        try refine then_n ?_
        go_wp2_with fail
        go_ret
        exact ⟨rfl, H5.out.below⟩
      · have g1 : decide (FitsD G s) = true := decide_eq_true (Q1.out.1.1 (by first | rfl | trivial))
        have n2 : (k2 == 0) = false := beq_eq_false_iff_ne.2 hk2
        have n2' : (k2 != 0) = true := by simpa using hk2
        have g2 : decide (FitsD G t) = false := decide_eq_false (fun q => hk2 (Q2.out.1.2 q))
        have F1 := Aside0.mk (fits_calls (w := w3) HWF.out.1 HWF.out.2 (HS.out.below H3.out.below))
        rw [g1] at F1
        have G2 := Lib.hid g2
        clear g1 g2
        go_wp2_with fail
        refine F1.out.mono ?_
        rintro e w4 ⟨rfl, hb⟩
        have H4 := Aside0.mk (H3.out.move hb)
        clear hb F1 x0 x1 x2 x3 x4 x5 y0 y1 y2 y3
        obtain ⟨x0, x1, x2, x3, x4, x5⟩ := cells6 (own_swap [_, _, _, _] [_] H4.out).pt
        obtain ⟨y0, y1, y2, y3, _, _, _, _⟩ := cells4 (own_swap [_, _] [_] H4.out).pt
        have F2 := Aside0.mk (fits_calls (w := w4) HWF.out.1 HWF.out.2 (HT.out.below H4.out.below))
        rw [G2.out] at F2
        go_wp2_with fail
        refine F2.out.mono ?_
        rintro e w5 ⟨rfl, hb⟩
        have H5 := Aside0.mk (H4.out.move hb)
        clear hb F2 x0 x1 x2 x3 x4 x5 y0 y1 y2 y3
        go_wp2_with fail
        go_ret
        exact ⟨rfl, H5.out.below⟩
    · by_cases hk2 : k2 = 0
      · subst hk2
        have n1 : (k1 == 0) = false := beq_eq_false_iff_ne.2 hk1
        have n1' : (k1 != 0) = true := by simpa using hk1
        have g1 : decide (FitsD G s) = false := decide_eq_false (fun q => hk1 (Q1.out.1.2 q))
        have g2 : decide (FitsD G t) = true := decide_eq_true (Q2.out.1.1 (by first | rfl | trivial))
        have F1 := Aside0.mk (fits_calls (w := w3) HWF.out.1 HWF.out.2 (HS.out.below H3.out.below))
        rw [g1] at F1
        have G2 := Lib.hid g2
        clear g1 g2
        go_wp2_with fail
        refine F1.out.mono ?_
        rintro e w4 ⟨rfl, hb⟩
        have H4 := Aside0.mk (H3.out.move hb)
        clear hb F1 x0 x1 x2 x3 x4 x5 y0 y1 y2 y3
        obtain ⟨x0, x1, x2, x3, x4, x5⟩ := cells6 (own_swap [_, _, _, _] [_] H4.out).pt
        obtain ⟨y0, y1, y2, y3, _, _, _, _⟩ := cells4 (own_swap [_, _] [_] H4.out).pt
        have F2 := Aside0.mk (fits_calls (w := w4) HWF.out.1 HWF.out.2 (HT.out.below H4.out.below))
        rw [G2.out] at F2
        go_wp2_with fail
        refine F2.out.mono ?_
        rintro e w5 ⟨rfl, hb⟩
        have H5 := Aside0.mk (H4.out.move hb)
        clear hb F2 x0 x1 x2 x3 x4 x5 y0 y1 y2 y3
        go_wp2_with fail
        go_ret
        exact ⟨rfl, H5.out.below⟩
      · have n1 : (k1 == 0) = false := beq_eq_false_iff_ne.2 hk1
        have n1' : (k1 != 0) = true := by simpa using hk1
        have g1 : decide (FitsD G s) = false := decide_eq_false (fun q => hk1 (Q1.out.1.2 q))
        have n2 : (k2 == 0) = false := beq_eq_false_iff_ne.2 hk2
        have n2' : (k2 != 0) = true := by simpa using hk2
        have g2 : decide (FitsD G t) = false := decide_eq_false (fun q => hk2 (Q2.out.1.2 q))
        have F1 := Aside0.mk (fits_calls (w := w3) HWF.out.1 HWF.out.2 (HS.out.below H3.out.below))
        rw [g1] at F1
        have G2 := Lib.hid g2
        clear g1 g2
        go_wp2_with fail
        refine F1.out.mono ?_
        rintro e w4 ⟨rfl, hb⟩
        have H4 := Aside0.mk (H3.out.move hb)
        clear hb F1 x0 x1 x2 x3 x4 x5 y0 y1 y2 y3
        obtain ⟨x0, x1, x2, x3, x4, x5⟩ := cells6 (own_swap [_, _, _, _] [_] H4.out).pt
        obtain ⟨y0, y1, y2, y3, _, _, _, _⟩ := cells4 (own_swap [_, _] [_] H4.out).pt
        have F2 := Aside0.mk (fits_calls (w := w4) HWF.out.1 HWF.out.2 (HT.out.below H4.out.below))
        rw [G2.out] at F2
        go_wp2_with fail
        refine F2.out.mono ?_
        rintro e w5 ⟨rfl, hb⟩
        have H5 := Aside0.mk (H4.out.move hb)
        clear hb F2 x0 x1 x2 x3 x4 x5 y0 y1 y2 y3
        go_wp2_with fail
        go_ret
        exact ⟨rfl, H5.out.below⟩
/-- The law, in plain words: it answers yes. -/
def decklelaw13_SnapOne.f (a0_0 a0_1 _a0_2 _a0_3 _a0_4 _a0_5 : Int) (l1_0 l1_1 l1_2 l1_3 _l2_0 _l2_1 _l2_2 _l2_3 : List Int) : Option Bool := if ((Lit.int .i64 a0_0).wf = true ∧ (Lit.int .i64 a0_1).wf = true) ∧ l1_0.length ≤ 9223372036854775806 ∧ l1_1.length ≤ 9223372036854775806 ∧ l1_2.length ≤ 9223372036854775806 ∧ l1_3.length ≤ 9223372036854775806 then some true else none
theorem decklelaw13_SnapOne.calls (a0_0 : Int) (a0_1 : Int) (a0_2 : Int) (a0_3 : Int) (a0_4 : Int) (a0_5 : Int) (A1_0 : Option Addr) (c1_0 : Nat) (l1_0 : List Int) (A1_1 : Option Addr) (c1_1 : Nat) (l1_1 : List Int) (A1_2 : Option Addr) (c1_2 : Nat) (l1_2 : List Int) (A1_3 : Option Addr) (c1_3 : Nat) (l1_3 : List Int) (A2_0 : Option Addr) (c2_0 : Nat) (l2_0 : List Int) (A2_1 : Option Addr) (c2_1 : Nat) (l2_1 : List Int) (A2_2 : Option Addr) (c2_2 : Nat) (l2_2 : List Int) (A2_3 : Option Addr) (c2_3 : Nat) (l2_3 : List Int) (w : World) (hr1_0 : Kd.C (Kd.int .i64) w A1_0 l1_0.length l1_0) (hc1_0 : l1_0.length ≤ c1_0) (hr1_1 : Kd.C (Kd.int .i64) w A1_1 l1_1.length l1_1) (hc1_1 : l1_1.length ≤ c1_1) (hr1_2 : Kd.C (Kd.int .i64) w A1_2 l1_2.length l1_2) (hc1_2 : l1_2.length ≤ c1_2) (hr1_3 : Kd.C (Kd.int .i64) w A1_3 l1_3.length l1_3) (hc1_3 : l1_3.length ≤ c1_3) (hr2_0 : Kd.C (Kd.int .i64) w A2_0 l2_0.length l2_0) (hc2_0 : l2_0.length ≤ c2_0) (hr2_1 : Kd.C (Kd.int .i64) w A2_1 l2_1.length l2_1) (hc2_1 : l2_1.length ≤ c2_1) (hr2_2 : Kd.C (Kd.int .i64) w A2_2 l2_2.length l2_2) (hc2_2 : l2_2.length ≤ c2_2) (hr2_3 : Kd.C (Kd.int .i64) w A2_3 l2_3.length l2_3) (hc2_3 : l2_3.length ≤ c2_3) (h : decklelaw13_SnapOne.f a0_0 a0_1 a0_2 a0_3 a0_4 a0_5 l1_0 l1_1 l1_2 l1_3 l2_0 l2_1 l2_2 l2_3 = some true) (HL : Aside0 (Hu.Laid w)) :
    Calls Tryd.prog 5 #[.agg #[.int .i64 a0_0, .int .i64 a0_1, .int .i64 a0_2, .int .i64 a0_3, .int .i64 a0_4, .int .i64 a0_5], .agg #[.slice A1_0 l1_0.length c1_0, .slice A1_1 l1_1.length c1_1, .slice A1_2 l1_2.length c1_2, .slice A1_3 l1_3.length c1_3], .agg #[.slice A2_0 l2_0.length c2_0, .slice A2_1 l2_1.length c2_1, .slice A2_2 l2_2.length c2_2, .slice A2_3 l2_3.length c2_3]] w fun e w' => e = .returned (.bool true) ∧ Below w.heap.size w w' := by
  unfold decklelaw13_SnapOne.f at h
  split at h
  · rename_i q
    exact one_own ⟨a0_0, a0_1, a0_2, a0_3, a0_4, a0_5⟩ ⟨l1_0, l1_1, l1_2, l1_3⟩ ⟨l2_0, l2_1, l2_2, l2_3⟩ A1_0 A1_1 A1_2 A1_3 A2_0 A2_1 A2_2 A2_3 c1_0 c1_1 c1_2 c1_3 c2_0 c2_1 c2_2 c2_3 q.1.1 q.1.2 ⟨hr1_0, hr1_1, hr1_2, hr1_3, hc1_0, hc1_1, hc1_2, hc1_3⟩ ⟨hr2_0, hr2_1, hr2_2, hr2_3, hc2_0, hc2_1, hc2_2, hc2_3⟩ q.2.1 q.2.2.1 q.2.2.2.1 q.2.2.2.2
  · cases h
end Go.Proofs.YteofihmeiikhbaaDoor.PG
end

section
/- The law SnapBack: the walk. -/
set_option linter.unusedVariables false
set_option linter.unusedSimpArgs false
namespace Go.Proofs.YteofihmeiikhbaaDoor.PG
open Go.RowKit Go.Shelf Go.Proofs.YteofihmeiikhbaaDoor.Tf Go.Proofs.YteofihmeiikhbaaDoorW.PrintWords Go.Proofs.YteofihmeiikhbaaDoorW.PrintLast Go.Proofs.YteofihmeiikhbaaDoor.Mem Go.Proofs.YteofihmeiikhbaaDoor.Own Go.Proofs.YteofihmeiikhbaaDoor.Hw

theorem takeEnd_dur {w w' : World} {G : G6} {l : List ByteArray} {e : Ending} (h : TakeEnd w G l e w') : ∃ A0 A1 A2 A3 c0 c1 c2 c3, e = .returned (.tuple #[durV (takeP G l).1 A0 A1 A2 A3 c0 c1 c2 c3, .int .i64 (takeP G l).2]) ∧ DurAt w' (takeP G l).1 A0 A1 A2 A3 c0 c1 c2 c3 ∧
    Own.Own w w' [Ints (.slice A0 (takeP G l).1.fl.length c0) (takeP G l).1.fl, Ints (.slice A1 (takeP G l).1.co.length c1) (takeP G l).1.co, Ints (.slice A2 (takeP G l).1.sl.length c2) (takeP G l).1.sl, Ints (.slice A3 (takeP G l).1.tl.length c3) (takeP G l).1.tl] := by
  obtain ⟨v0, v1, v2, v3, rfl, ho⟩ := h
  obtain ⟨a0, d0, rfl, hd0, hs0⟩ := ho.reads
  obtain ⟨a1, d1, rfl, hd1, hs1⟩ := (own_swap [_] [_] ho).reads
  obtain ⟨a2, d2, rfl, hd2, hs2⟩ := (own_swap [_, _] [_] ho).reads
  obtain ⟨a3, d3, rfl, hd3, hs3⟩ := (own_swap [_, _, _] [_] ho).reads
  exact ⟨a0, a1, a2, a3, d0, d1, d2, d3, rfl, ⟨hs0, hs1, hs2, hs3, hd0, hd1, hd2, hd3⟩, ho⟩
theorem putD_no {G : G6} {s : Dur} (h : ¬ FitsD G s) : (putD G s).1 = [] := by
  unfold putD
  by_cases hok : G.Ok
  · rw [if_pos hok, if_neg h]
  · rw [if_neg hok]
theorem takeP_code (G : G6) (l : List ByteArray) : (takeP G l).2 ≠ 0 → (takeP G l).1 = nilD := by
  unfold takeP
  split
  · split
    · intro h; exact absurd rfl h
    · intro _; rfl
  · intro _; rfl
theorem takeP_short (G : G6) (l : List ByteArray) : (takeP G l).1.fl.length ≤ 5000 ∧ (takeP G l).1.co.length ≤ 5000 ∧ (takeP G l).1.sl.length ≤ 5000 ∧ (takeP G l).1.tl.length ≤ 5000 := by
  unfold takeP
  split
  · rename_i hok
    have := hok.nums
    split
    · unfold takeD
      simp only [List.length_map, List.length_range]
      omega
    · exact ⟨by decide, by decide, by decide, by decide⟩
  · exact ⟨by decide, by decide, by decide, by decide⟩
set_option maxHeartbeats 8000000 in
set_option maxRecDepth 100000 in
theorem back_own {w : World} (G : G6) (s : Dur) (l : List ByteArray) (A0 A1 A2 A3 : Option Addr) (c0 c1 c2 c3 : Nat) (A : Option Addr) (c : Nat) (hb : (Lit.int .i64 G.b).wf = true) (hl : (Lit.int .i64 G.l).wf = true) (hs : DurAt w s A0 A1 A2 A3 c0 c1 c2 c3)
    (hc : l.length ≤ c) (hr : Kd.C Kd.string w A l.length l) (hz0 : s.fl.length ≤ 9223372036854775806) :
    Calls Tryd.prog 4 #[geoV G, durV s A0 A1 A2 A3 c0 c1 c2 c3, .slice A l.length c] w fun e w' => e = .returned (.bool true) ∧ Below w.heap.size w w' := by
  have HS := Aside0.mk hs
  have HR := Aside0.mk hr
  have HC := Lib.hid hc
  have HZ := Aside0.mk hz0
  have HWF := Aside0.mk (And.intro hb hl)
  have ha := ((Own.Own.new w).alloc (geoC G)).alloc (stC s A0 A1 A2 A3 c0 c1 c2 c3)
  simp only [World.size_alloc] at ha
  obtain ⟨B3, hB3⟩ : ∃ B, B = w.heap.size := ⟨_, rfl⟩
  obtain ⟨B4, hB4⟩ : ∃ B, B = B3 + 1 := ⟨_, rfl⟩
  rw [← hB3, ← hB4] at ha
  have HO := Aside0.mk ha
  have HB3 := Lib.hid hB3
  have HB4 := Lib.hid hB4
  clear ha hs hb hl hB3 hB4 hz0 hc hr
  go_enter Tryd.func4, Tryd.ntmps4
  go_wp2_with fail
  rw [← HB3.out, ← HB4.out]
  refine (works_calls _).mono ?_
  rintro e w1 ⟨rfl, hb⟩
  have H1 := Aside0.mk (HO.out.move hb)
  clear hb HO HB3 HB4
  obtain ⟨x0, x1, x2, x3, x4, x5⟩ := cells6 H1.out.drop.pt
  obtain ⟨y0, y1, y2, y3, _, _, _, _⟩ := cells4 H1.out.pt
  by_cases h300 : 300 < G.s
  · have e1 : decide (300 < G.s) = true := decide_eq_true h300
    have e2 : decide (G.s > 300) = true := decide_eq_true h300
    go_wp2_with fail
    go_ret
    exact ⟨rfl, H1.out.below⟩
  have e1 : decide (300 < G.s) = false := decide_eq_false h300
  have e2 : decide (G.s > 300) = false := decide_eq_false h300
  by_cases h100 : 100 < l.length
  · have f1 : decide (100 < (l.length : Int)) = true := decide_eq_true (by omega)
    have f2 : decide ((l.length : Int) > 100) = true := decide_eq_true (by omega)
    have f3 : decide (100 < l.length) = true := decide_eq_true h100
    go_wp2_with fail
    go_ret
    exact ⟨rfl, H1.out.below⟩
  have f1 : decide (100 < (l.length : Int)) = false := decide_eq_false (by omega)
  have f2 : decide ((l.length : Int) > 100) = false := decide_eq_false (by omega)
  have f3 : decide (100 < l.length) = false := decide_eq_false h100
  go_wp2_with fail
  clear e1 e2 f1 f2 f3
  refine (put_calls (w := w1) G s A0 A1 A2 A3 c0 c1 c2 c3 HWF.out.1 HWF.out.2 (HS.out.below H1.out.below)).mono ?_
  rintro e w2 ⟨v1, rfl, ho⟩
  obtain ⟨a1, d1, rfl, hd1, hr1⟩ := ho.reads
  have H2 := Aside0.mk (H1.out.move ho.below)
  have HR1 := Aside0.mk hr1
  have HD1 := Lib.hid hd1
  clear ho H1 x0 x1 x2 x3 x4 x5 y0 y1 y2 y3 hr1 hd1
  obtain ⟨x0, x1, x2, x3, x4, x5⟩ := cells6 H2.out.drop.pt
  obtain ⟨y0, y1, y2, y3, _, _, _, _⟩ := cells4 H2.out.pt
  obtain ⟨p1, hp1⟩ : ∃ p, p = (putD G s).1 := ⟨_, rfl⟩
  obtain ⟨k1, hk1⟩ : ∃ k, k = (putD G s).2 := ⟨_, rfl⟩
  have hpc := putD_c G s
  have hpn := fun q : ¬ FitsD G s => putD_no q
  have hpt := fun q : FitsD G s => (put_take q).1
  rw [← hp1, ← hk1] at hpc
  rw [← hp1] at hpn hpt
  rw [← hp1, ← hk1]
  have HR1 := Aside0.mk (show Kd.C Kd.string w2 a1 p1.length p1 by rw [hp1]; exact HR1.out)
  have HD1 := Lib.hid (show p1.length ≤ d1 by rw [hp1]; exact HD1.out)
  have HPC := Aside0.mk hpc
  have HPN := Aside0.mk hpn
  have HPT := Aside0.mk hpt
  clear hp1 hk1 hpc hpn hpt
  go_upto_if 32 with (fail)
  go_cut [9, 10, 32] from 33 to 60 (fun _ _ _ wx => Own.Own w wx [Pt B4 (stC s A0 A1 A2 A3 c0 c1 c2 c3), Pt B3 (geoC G)])
  case first =>
    by_cases hf : FitsD G s
    · obtain ⟨n1, n2⟩ := hf.1.nums
      have m0 : s.fl.length ≤ 9223372036854775806 := HZ.out
      have m1 : s.co.length ≤ 9223372036854775806 := by have := hf.2.2.1.2; omega
      have m2 : s.sl.length ≤ 9223372036854775806 := by have := hf.2.2.2.1.2; omega
      have m3 : s.tl.length ≤ 9223372036854775806 := by have := hf.2.2.2.2.2; omega
      have HM := Aside0.mk (And.intro m0 (And.intro m1 (And.intro m2 m3)))
      have hk := HPC.out.1.2 hf
      have q1 : (k1 == 0) = true := beq_iff_eq.2 hk
      have HTK := Aside0.mk (HPT.out hf)
      have HF := Aside0.mk (decide_eq_true hf)
      have HTE := Aside0.mk (take_calls (w := w2) G a1 d1 p1 HWF.out.1 HWF.out.2 HD1.out HR1.out)
      clear hk m0 m1 m2 m3 n1 n2 hf
      go_wp2_with fail
      refine HTE.out.mono ?_
      intro e w4 he
      obtain ⟨T0, T1, T2, T3, t0, t1, t2, t3, rfl, hT, ho⟩ := takeEnd_dur he
      rw [HTK.out] at hT ⊢
      have h4 := (H2.out.move ho.below).alloc (stC s T0 T1 T2 T3 t0 t1 t2 t3)
      obtain ⟨B9, hB9⟩ : ∃ B, B = w4.heap.size := ⟨_, rfl⟩
      rw [← hB9] at h4
      have H4 := Aside0.mk h4
      have HB9 := Lib.hid hB9
      have HT := Aside0.mk (hT.below (below_alloc (Below.refl _ _) (stC s T0 T1 T2 T3 t0 t1 t2 t3)))
      clear he ho hT h4 hB9 H2 x0 x1 x2 x3 x4 x5 y0 y1 y2 y3 HTE
      go_upto_region 8 with (fail)
      rw [← HB9.out]
      generalize hW : World.alloc w4 _ = w5 at H4 HT ⊢
      clear hW HB9
      obtain ⟨x0, x1, x2, x3, x4, x5⟩ := cells6 H4.out.drop.drop.pt
      obtain ⟨y0, y1, y2, y3, _, _, _, _⟩ := cells4 H4.out.drop.pt
      obtain ⟨z0, z1, z2, z3, _, _, _, _⟩ := cells4 H4.out.pt
      have HSM := Aside0.mk (same_calls HT.out (HS.out.below H4.out.below) HM.out.1 HM.out.2.1 HM.out.2.2.1 HM.out.2.2.2)
      rw [sameB_self] at HSM
      go_wp2_with fail
      refine HSM.out.mono ?_
      rintro e w6 ⟨rfl, hb⟩
      have H5 := Aside0.mk (H4.out.move hb)
      clear hb HSM x0 x1 x2 x3 x4 x5 y0 y1 y2 y3 z0 z1 z2 z3 H4 HT
      obtain ⟨x0, x1, x2, x3, x4, x5⟩ := cells6 H5.out.drop.drop.pt
      obtain ⟨y0, y1, y2, y3, _, _, _, _⟩ := cells4 H5.out.drop.pt
      have HFC := Aside0.mk (fits_calls (w := w6) HWF.out.1 HWF.out.2 (HS.out.below H5.out.below))
      rw [HF.out] at HFC
      go_wp2_with fail
      refine HFC.out.mono ?_
      rintro e w7 ⟨rfl, hb⟩
      have H6 := Aside0.mk (H5.out.move hb)
      clear hb HFC x0 x1 x2 x3 x4 x5 y0 y1 y2 y3 H5
      go_wp2_with fail
      go_meet
      exact H6.out.drop
    · have hk : k1 ≠ 0 := fun q => hf (HPC.out.1.1 q)
      have hl := HPN.out hf
      have e1 : decide ((p1.length : Int) > 0) = false := by rw [hl]; decide
      have e2 : decide (0 < (p1.length : Int)) = false := by rw [hl]; decide
      have e3 : decide (0 < p1.length) = false := by rw [hl]; decide
      have q1 : (k1 == 0) = false := beq_eq_false_iff_ne.2 hk
      have HFC := Aside0.mk (fits_calls (w := w2) HWF.out.1 HWF.out.2 (HS.out.below H2.out.below))
      rw [decide_eq_false hf] at HFC
      clear hl hf
      go_wp2_with fail
      refine HFC.out.mono ?_
      rintro e w7 ⟨rfl, hb⟩
      have H6 := Aside0.mk (H2.out.move hb)
      clear hb HFC x0 x1 x2 x3 x4 x5 y0 y1 y2 y3 H2
      go_wp2_with fail
      go_meet
      exact H6.out
  case rest =>
    have H3 := Aside0.mk hcut
    clear hcut H2 x0 x1 x2 x3 x4 x5 y0 y1 y2 y3 HR1 HD1
    obtain ⟨x0, x1, x2, x3, x4, x5⟩ := cells6 H3.out.drop.pt
    go_wp2_with fail
    refine (take_calls G A c l HWF.out.1 HWF.out.2 HC.out (Kd.C_below HR.out H3.out.below)).mono ?_
    intro e w4 he
    obtain ⟨T0, T1, T2, T3, t0, t1, t2, t3, rfl, hT, ho⟩ := takeEnd_dur he
    have H4 := Aside0.mk (H3.out.move ho.below)
    have HT := Aside0.mk hT
    clear he ho hT H3 x0 x1 x2 x3 x4 x5
    obtain ⟨td, htd⟩ : ∃ td, td = (takeP G l).1 := ⟨_, rfl⟩
    obtain ⟨tc, htc⟩ : ∃ tc, tc = (takeP G l).2 := ⟨_, rfl⟩
    rw [← htd, ← htc]
    have hsh := takeP_short G l
    rw [← htd] at hsh
    have HSH := Aside0.mk (And.intro (show td.fl.length ≤ 9223372036854775806 by omega) (And.intro (show td.co.length ≤ 9223372036854775806 by omega) (And.intro (show td.sl.length ≤ 9223372036854775806 by omega) (show td.tl.length ≤ 9223372036854775806 by omega))))
    have hno := takeP_code G l
    have hyes := fun q => take_put (G := G) (l := l) q
    rw [← htc, ← htd] at hno hyes
    have HT := Aside0.mk (show DurAt w4 td T0 T1 T2 T3 t0 t1 t2 t3 by rw [htd]; exact HT.out)
    have HNO := Aside0.mk hno
    have HYES := Aside0.mk hyes
    clear htd htc hsh hno hyes
    have h4 := H4.out.alloc (stC td T0 T1 T2 T3 t0 t1 t2 t3)
    obtain ⟨B11, hB11⟩ : ∃ B, B = w4.heap.size := ⟨_, rfl⟩
    rw [← hB11] at h4
    have H5 := Aside0.mk h4
    have HB11 := Lib.hid hB11
    have HT2 := Aside0.mk (HT.out.below (below_alloc (Below.refl _ _) (stC td T0 T1 T2 T3 t0 t1 t2 t3)))
    clear h4 hB11 H4 HT
    go_upto_region 13 with (fail)
    rw [← HB11.out]
    generalize hW : World.alloc w4 _ = w5 at H5 HT2 ⊢
    clear hW HB11
    obtain ⟨z0, z1, z2, z3, _, _, _, _⟩ := cells4 H5.out.pt
    by_cases hk : tc = 0
    · subst hk
      obtain ⟨x0, x1, x2, x3, x4, x5⟩ := cells6 H5.out.drop.drop.pt
      go_wp2_with fail
      refine (put_calls (w := w5) G td T0 T1 T2 T3 t0 t1 t2 t3 HWF.out.1 HWF.out.2 HT2.out).mono ?_
      rintro e w6 ⟨v6, rfl, ho⟩
      have hp := (HYES.out (by first | rfl | trivial)).1
      rw [hp] at ho ⊢
      obtain ⟨a6, d6, rfl, hd6, hr6⟩ := ho.reads
      have H6 := Aside0.mk (H5.out.move ho.below)
      have hst := decklebook_SameTexts.calls _ a6 d6 l A c l _ w6 hr6 hd6 (Kd.C_below HR.out H6.out.below) HC.out (sameT_is l l (by omega) _ (Nat.lt_succ_self _))
      rw [decide_eq_true rfl] at hst
      have HST := Aside0.mk hst
      clear hp ho hr6 hd6 hst H5 x0 x1 x2 x3 x4 x5 z0 z1 z2 z3
      go_wp2_with fail
      refine HST.out.mono ?_
      rintro e w7 ⟨rfl, hb⟩
      have H7 := Aside0.mk (H6.out.move hb.below)
      clear hb HST H6
      go_wp2_with fail
      go_ret
      exact ⟨rfl, H7.out.below⟩
    · have q1 : (tc == 0) = false := beq_eq_false_iff_ne.2 hk
      have q2 : (tc != 0) = true := by simpa using hk
      have hnil := HNO.out hk
      have HNIL := Aside0.mk (show DurAt w5 nilD none none none none 0 0 0 0 from ⟨⟨rfl, by decide, fun h => absurd h (by decide)⟩, ⟨rfl, by decide, fun h => absurd h (by decide)⟩, ⟨rfl, by decide, fun h => absurd h (by decide)⟩, ⟨rfl, by decide, fun h => absurd h (by decide)⟩, Nat.le_refl _, Nat.le_refl _, Nat.le_refl _, Nat.le_refl _⟩)
      have hsm := same_calls HT2.out HNIL.out HSH.out.1 HSH.out.2.1 HSH.out.2.2.1 HSH.out.2.2.2
      rw [show sameB td nilD = true by rw [hnil]; exact sameB_self _] at hsm
      have HSM := Aside0.mk hsm
      clear hsm hnil
      go_wp2_with fail
      refine HSM.out.mono ?_
      rintro e w6 ⟨rfl, hb⟩
      have H6 := Aside0.mk (H5.out.move hb)
      clear hb HSM
      go_wp2_with fail
      go_ret
      exact ⟨rfl, H6.out.below⟩
/-- The law, in plain words: it answers yes. -/
def decklelaw13_SnapBack.f (a0_0 a0_1 _a0_2 _a0_3 _a0_4 _a0_5 : Int) (l1_0 l1_1 l1_2 l1_3 : List Int) (l2 : List ByteArray) : Option Bool := if ((Lit.int .i64 a0_0).wf = true ∧ (Lit.int .i64 a0_1).wf = true) ∧ l1_0.length ≤ 9223372036854775806 then some true else none
theorem decklelaw13_SnapBack.calls (a0_0 : Int) (a0_1 : Int) (a0_2 : Int) (a0_3 : Int) (a0_4 : Int) (a0_5 : Int) (A1_0 : Option Addr) (c1_0 : Nat) (l1_0 : List Int) (A1_1 : Option Addr) (c1_1 : Nat) (l1_1 : List Int) (A1_2 : Option Addr) (c1_2 : Nat) (l1_2 : List Int) (A1_3 : Option Addr) (c1_3 : Nat) (l1_3 : List Int) (A2 : Option Addr) (c2 : Nat) (l2 : List ByteArray) (w : World) (hr1_0 : Kd.C (Kd.int .i64) w A1_0 l1_0.length l1_0) (hc1_0 : l1_0.length ≤ c1_0) (hr1_1 : Kd.C (Kd.int .i64) w A1_1 l1_1.length l1_1) (hc1_1 : l1_1.length ≤ c1_1) (hr1_2 : Kd.C (Kd.int .i64) w A1_2 l1_2.length l1_2) (hc1_2 : l1_2.length ≤ c1_2) (hr1_3 : Kd.C (Kd.int .i64) w A1_3 l1_3.length l1_3) (hc1_3 : l1_3.length ≤ c1_3) (hr2 : Kd.C Kd.string w A2 l2.length l2) (hc2 : l2.length ≤ c2) (h : decklelaw13_SnapBack.f a0_0 a0_1 a0_2 a0_3 a0_4 a0_5 l1_0 l1_1 l1_2 l1_3 l2 = some true) (HL : Aside0 (Hu.Laid w)) :
    Calls Tryd.prog 4 #[.agg #[.int .i64 a0_0, .int .i64 a0_1, .int .i64 a0_2, .int .i64 a0_3, .int .i64 a0_4, .int .i64 a0_5], .agg #[.slice A1_0 l1_0.length c1_0, .slice A1_1 l1_1.length c1_1, .slice A1_2 l1_2.length c1_2, .slice A1_3 l1_3.length c1_3], .slice A2 l2.length c2] w fun e w' => e = .returned (.bool true) ∧ Below w.heap.size w w' := by
  unfold decklelaw13_SnapBack.f at h
  split at h
  · rename_i q
    exact back_own ⟨a0_0, a0_1, a0_2, a0_3, a0_4, a0_5⟩ ⟨l1_0, l1_1, l1_2, l1_3⟩ l2 A1_0 A1_1 A1_2 A1_3 c1_0 c1_1 c1_2 c1_3 A2 c2 q.1.1 q.1.2 ⟨hr1_0, hr1_1, hr1_2, hr1_3, hc1_0, hc1_1, hc1_2, hc1_3⟩ hc2 hr2 q.2
  · cases h
end Go.Proofs.YteofihmeiikhbaaDoor.PG
end
