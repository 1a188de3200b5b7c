/- The law's proof: words, contracts of the functions that it reaches, plain lemmas. -/
import Derived.ArgAppend
import Derived.Below
import Derived.BigQuiet
import Derived.Carry
import Derived.Deep.AppendLies
import Derived.Deep.CutBlock
import Derived.Deep.DeepCutAuto
import Derived.Deep.Draws
import Derived.Deep.LoopGhost
import Derived.Deep.OwnRows
import Derived.Deep.QuietTactic
import Derived.Deep.RegionHeld3
import Derived.Deep.RegionWith
import Derived.KernelRfl
import Derived.Laws.BitsLemmas
import Derived.Laws.BytesArg
import Derived.Laws.IdiomCopy
import Derived.Laws.MakeOwn
import Derived.Laws.OwnMore
import Derived.Laws.Rows
import Derived.Laws.Slices
import Derived.Lib.AppendStr
import Derived.Lib.BufferMore
import Derived.Lib.ConvBytes
import Derived.Lib.Hide
import Derived.Lib.LazyBuf
import Derived.Maps.AppendAt
import Derived.OpenShut
import Derived.OrdersHeld
import Derived.Outline
import Derived.OwnWalk
import Derived.OwnWalkIn
import Derived.RegionTactic
import Derived.RowKit3
import Derived.StillTailTactics
import Derived.Tactics
import Derived.WalkKit
import Derived.WideLaws
import Derived.Test.YteofihmeiikhbaaDoorSb8
import Derived.Test.YteofihmeiikhbaaDoorSb16
import Derived.Test.YteofihmeiikhbaaDoorSb18
import Derived.Test.YteofihmeiikhbaaDoorSb17
section
/- Package snap: the chapter's example. -/
set_option linter.unusedVariables false
set_option linter.unusedSimpArgs false
namespace Go.Proofs.YteofihmeiikhbaaDoor.PG
open Go.RowKit Go.Shelf Go.Proofs.YteofihmeiikhbaaDoor.Tf Go.Proofs.YteofihmeiikhbaaDoorW.PrintWords Go.Proofs.YteofihmeiikhbaaDoorW.PrintLast Go.Proofs.YteofihmeiikhbaaDoor.Mem Go.Proofs.YteofihmeiikhbaaDoor.Own Go.Proofs.YteofihmeiikhbaaDoor.Hw

abbrev G0 : G6 := ⟨8, 6, 64, 4, 0, 4⟩
abbrev s0D : Dur := ⟨[1, 2, 3, 4], zs8, zs8, zs8⟩
/-- The slots of the example's walk. -/
abbrev actW (B1 : Nat) (x2 x10 x11 x12 x13 x14 : Value) : Act := { tmps := #[.bool false, .pointer (some ⟨B1, 0, none⟩), x2, undef, undef, undef, undef, undef, undef, geoV G0, x10, x11, x12, x13, x14, undef, undef, undef, undef, undef, undef, undef, undef, undef, undef, undef, undef, undef, undef, undef, undef, undef, undef, undef, undef, undef, undef, undef, undef, undef, undef, undef, undef, undef, undef, undef, undef, undef, undef, undef, undef, undef, undef, undef, undef, undef, undef, undef, undef, undef, undef, undef, undef, undef], defers := [] }
noncomputable abbrev opsW : Array Oper := opsOf Tryd.f6 2
theorem opsW_size : opsW.size = 7 := by kernel_rfl
theorem readyW (b0 b1 b2 b3 b4 b5 b6 : Bool) : (0 ∈ Region.ready .any opsW #[b0, b1, b2, b3, b4, b5, b6] → b0 = false) ∧ (1 ∈ Region.ready .any opsW #[b0, b1, b2, b3, b4, b5, b6] → b1 = false) ∧ (2 ∈ Region.ready .any opsW #[b0, b1, b2, b3, b4, b5, b6] → b2 = false) ∧ (3 ∈ Region.ready .any opsW #[b0, b1, b2, b3, b4, b5, b6] → b3 = false) ∧
    (4 ∈ Region.ready .any opsW #[b0, b1, b2, b3, b4, b5, b6] → b4 = false ∧ b0 = true ∧ b1 = true ∧ b2 = true ∧ b3 = true) ∧ (5 ∈ Region.ready .any opsW #[b0, b1, b2, b3, b4, b5, b6] → b5 = false) ∧ (6 ∈ Region.ready .any opsW #[b0, b1, b2, b3, b4, b5, b6] → b6 = false ∧ b4 = true ∧ b5 = true) ∧
    (Region.ready .any opsW #[b0, b1, b2, b3, b4, b5, b6] = [] → b0 = true ∧ b1 = true ∧ b2 = true ∧ b3 = true ∧ b4 = true ∧ b5 = true ∧ b6 = true) := by
  cases b0 <;> cases b1 <;> cases b2 <;> cases b3 <;> cases b4 <;> cases b5 <;> cases b6 <;> decide +kernel
theorem op0 (B1 : Nat) (x2 x10 x11 x12 x13 x14 : Value) (w : World) : ∃ o, opsW[0]? = some o ∧ o.guard = none ∧ o.dst = some 10 ∧ (execOp (actW B1 x2 x10 x11 x12 x13 x14).eval o).run Tryd.prog w = .ok (.value (.slice (some ⟨w.heap.size, 0, none⟩) 4 4)) (w.alloc (.cells (nums .i64 [1, 2, 3, 4]).toArray 3)) := ⟨_, rfl, rfl, rfl, by kernel_rfl⟩
theorem op123 (j : Nat) (h : j = 1 ∨ j = 2 ∨ j = 3) (B1 : Nat) (x2 x10 x11 x12 x13 x14 : Value) (w : World) : ∃ o, opsW[j]? = some o ∧ o.guard = none ∧ o.dst = some (10 + j) ∧ (execOp (actW B1 x2 x10 x11 x12 x13 x14).eval o).run Tryd.prog w = .ok (.value (.slice (some ⟨w.heap.size, 0, none⟩) 8 8)) (w.alloc (.cells (madeCells #[.int .i64 0] 8) 3)) := by
  rcases h with rfl | rfl | rfl
  · exact ⟨_, rfl, rfl, rfl, by kernel_rfl⟩
  · exact ⟨_, rfl, rfl, rfl, by kernel_rfl⟩
  · exact ⟨_, rfl, rfl, rfl, by kernel_rfl⟩
theorem op4 (B1 : Nat) (x2 x14 : Value) (A0 A1 A2 A3 : Option Addr) (n0 n1 n2 n3 c0 c1 c2 c3 : Nat) (w : World) : ∃ o, opsW[4]? = some o ∧ o.guard = none ∧ o.dst = some 14 ∧ (execOp (actW B1 x2 (.slice A0 n0 c0) (.slice A1 n1 c1) (.slice A2 n2 c2) (.slice A3 n3 c3) x14).eval o).run Tryd.prog w = .ok (.value (.agg #[.slice A0 n0 c0, .slice A1 n1 c1, .slice A2 n2 c2, .slice A3 n3 c3])) w := ⟨_, rfl, rfl, rfl, by kernel_rfl⟩
theorem op5 (B1 : Nat) (x2 x10 x11 x12 x13 x14 : Value) (w : World) : ∃ o, opsW[5]? = some o ∧ o.guard = none ∧ o.dst = some 2 ∧ (execOp (actW B1 x2 x10 x11 x12 x13 x14).eval o).run Tryd.prog w = .ok (.value (.pointer (some ⟨w.heap.size, 0, none⟩))) (w.alloc (.cells #[.slice none 0 0, .slice none 0 0, .slice none 0 0, .slice none 0 0] 26)) := ⟨_, rfl, rfl, rfl, by kernel_rfl⟩
theorem op6 (B1 B : Nat) (x10 x11 x12 x13 : Value) (A0 A1 A2 A3 : Option Addr) (n0 n1 n2 n3 c0 c1 c2 c3 : Nat) (w : World) {v0 v1 v2 v3 : Value} (hp : w.heap[B]? = some (.cells #[v0, v1, v2, v3] 26 (0, 0))) : ∃ o, opsW[6]? = some o ∧ o.guard = none ∧ o.dst = none ∧
    (execOp (actW B1 (.pointer (some ⟨B, 0, none⟩)) x10 x11 x12 x13 (.agg #[.slice A0 n0 c0, .slice A1 n1 c1, .slice A2 n2 c2, .slice A3 n3 c3])).eval o).run Tryd.prog w = .ok .skip ((((w.setCell ⟨B, 0, none⟩ (.slice A0 n0 c0)).setCell ⟨B, 1, none⟩ (.slice A1 n1 c1)).setCell ⟨B, 2, none⟩ (.slice A2 n2 c2)).setCell ⟨B, 3, none⟩ (.slice A3 n3 c3)) := by
  obtain ⟨x0, x1, x2, x3, f0, f1, f2, f3⟩ := cells4 hp
  refine ⟨_, rfl, rfl, rfl, ?_⟩
  have hop : (opsW[6]'(by rw [opsW_size]; decide)).op = .store 26 (.tmp 2) (.tmp 14) := by kernel_rfl
  unfold execOp
  rw [hop]
  go_simp
theorem lit_step {w0 : World} {Q : Exit → Act → World → Prop} {L : List Asn} (B1 : Nat) (l : Array Bool) (a : Act) (w : World) (hI : LitI w0 (actW B1) L l a w) (i : Nat) (hi : i ∈ Region.ready .any opsW l) :
    wpOp Tryd.prog opsW Q i (fun a' w' => LitI w0 (actW B1) L (l.setIfInBounds i true) a' w') a w := by
  obtain ⟨b0, b1, b2, b3, b4, b5, b6, x2, x10, x11, x12, x13, x14, B, rfl, rfl, h4, h6, h5, HO⟩ := hI
  obtain ⟨r0, r1, r2, r3, r4, r5, r6, _⟩ := readyW b0 b1 b2 b3 b4 b5 b6
  have hi7 : i < 7 := by
    obtain ⟨_, o, ho, _⟩ := mem_ready.1 hi
    have := (Array.getElem?_eq_some_iff.1 ho).1
    rw [opsW_size] at this
    exact this
  rcases (by omega : i = 0 ∨ i = 1 ∨ i = 2 ∨ i = 3 ∨ i = 4 ∨ i = 5 ∨ i = 6) with rfl | rfl | rfl | rfl | rfl | rfl | rfl
  · obtain rfl := r0 hi
    obtain rfl : b4 = false := by cases b4 with | false => rfl | true => exact absurd (h4 rfl).1 (by decide)
    obtain rfl : b6 = false := by cases b6 with | false => rfl | true => exact absurd (h6 rfl).1 (by decide)
    obtain ⟨o, ho, hg, hd, hr⟩ := op0 B1 x2 x10 x11 x12 x13 x14 w
    refine wpOp_go ho hg hr ?_
    rw [hd]
    exact ⟨true, b1, b2, b3, false, b5, false, x2, _, x11, x12, x13, x14, B, rfl, rfl, fun q => (by cases q), fun q => (by cases q), h5, (own_sw2 _ _ (lit_own HO [1, 2, 3, 4] (by decide))).drop⟩
  · obtain rfl := r1 hi
    obtain rfl : b4 = false := by cases b4 with | false => rfl | true => exact absurd (h4 rfl).2.1 (by decide)
    obtain rfl : b6 = false := by cases b6 with | false => rfl | true => exact absurd (h6 rfl).1 (by decide)
    obtain ⟨o, ho, hg, hd, hr⟩ := op123 1 (by decide) B1 x2 x10 x11 x12 x13 x14 w
    refine wpOp_go ho hg hr ?_
    rw [hd]
    exact ⟨b0, true, b2, b3, false, b5, false, x2, x10, _, x12, x13, x14, B, rfl, rfl, fun q => (by cases q), fun q => (by cases q), h5, (own_swap [_, _] [_] (own_sw2 _ _ (made_own HO 8 (by decide)))).drop |> fun h => h⟩
  · obtain rfl := r2 hi
    obtain rfl : b4 = false := by cases b4 with | false => rfl | true => exact absurd (h4 rfl).2.2.1 (by decide)
    obtain rfl : b6 = false := by cases b6 with | false => rfl | true => exact absurd (h6 rfl).1 (by decide)
    obtain ⟨o, ho, hg, hd, hr⟩ := op123 2 (by decide) B1 x2 x10 x11 x12 x13 x14 w
    refine wpOp_go ho hg hr ?_
    rw [hd]
    exact ⟨b0, b1, true, b3, false, b5, false, x2, x10, x11, _, x13, x14, B, rfl, rfl, fun q => (by cases q), fun q => (by cases q), h5, (own_swap [_, _, _] [_] (own_swap [_] [_, _] (made_own HO 8 (by decide)))).drop |> fun h => h⟩
  · obtain rfl := r3 hi
    obtain rfl : b4 = false := by cases b4 with | false => rfl | true => exact absurd (h4 rfl).2.2.2.1 (by decide)
    obtain rfl : b6 = false := by cases b6 with | false => rfl | true => exact absurd (h6 rfl).1 (by decide)
    obtain ⟨o, ho, hg, hd, hr⟩ := op123 3 (by decide) B1 x2 x10 x11 x12 x13 x14 w
    refine wpOp_go ho hg hr ?_
    rw [hd]
    exact ⟨b0, b1, b2, true, false, b5, false, x2, x10, x11, x12, _, x14, B, rfl, rfl, fun q => (by cases q), fun q => (by cases q), h5, (own_swap [_, _, _, _] [_] (own_swap [_] [_, _, _] (made_own HO 8 (by decide)))).drop |> fun h => h⟩
  · obtain ⟨rfl, rfl, rfl, rfl, rfl⟩ := r4 hi
    obtain rfl : b6 = false := by cases b6 with | false => rfl | true => exact absurd (h6 rfl).1 (by decide)
    have HO' : Own.Own w0 w (Ints x10 [1, 2, 3, 4] :: Ints x11 zs8 :: Ints x12 zs8 :: Ints x13 zs8 :: cnd b5 (Pt B (.cells (boxC false x10 x11 x12 x13) 26 (0, 0))) :: L) := HO
    obtain ⟨A0, c0, rfl, _, _⟩ := HO'.reads
    obtain ⟨A1, c1, rfl, _, _⟩ := (own_swap [_] [_] HO').reads
    obtain ⟨A2, c2, rfl, _, _⟩ := (own_swap [_, _] [_] HO').reads
    obtain ⟨A3, c3, rfl, _, _⟩ := (own_swap [_, _, _] [_] HO').reads
    obtain ⟨o, ho, hg, hd, hr⟩ := op4 B1 x2 x14 A0 A1 A2 A3 4 8 8 8 c0 c1 c2 c3 w
    refine wpOp_go ho hg hr ?_
    rw [hd]
    exact ⟨true, true, true, true, true, b5, false, x2, _, _, _, _, _, B, rfl, rfl, fun _ => ⟨rfl, rfl, rfl, rfl, rfl⟩, fun q => (by cases q), h5, HO'⟩
  · obtain rfl := r5 hi
    obtain rfl : b6 = false := by cases b6 with | false => rfl | true => exact absurd (h6 rfl).2 (by decide)
    obtain ⟨o, ho, hg, hd, hr⟩ := op5 B1 x2 x10 x11 x12 x13 x14 w
    refine wpOp_go ho hg hr ?_
    rw [hd]
    exact ⟨b0, b1, b2, b3, b4, true, false, _, x10, x11, x12, x13, x14, w.heap.size, rfl, rfl, h4, fun q => (by cases q), fun _ => rfl, (own_swap [_, _, _, _, _] [_] (own_swap [_] [_, _, _, _] (HO.alloc (.cells #[.slice none 0 0, .slice none 0 0, .slice none 0 0, .slice none 0 0] 26)))).drop |> fun h => h⟩
  · obtain ⟨rfl, rfl, rfl⟩ := r6 hi
    obtain ⟨rfl, rfl, rfl, rfl, rfl⟩ := h4 rfl
    obtain rfl := h5 rfl
    have HO' : Own.Own w0 w (Ints x10 [1, 2, 3, 4] :: Ints x11 zs8 :: Ints x12 zs8 :: Ints x13 zs8 :: Pt B (.cells #[.slice none 0 0, .slice none 0 0, .slice none 0 0, .slice none 0 0] 26 (0, 0)) :: L) := HO
    obtain ⟨A0, c0, rfl, _, _⟩ := HO'.reads
    obtain ⟨A1, c1, rfl, _, _⟩ := (own_swap [_] [_] HO').reads
    obtain ⟨A2, c2, rfl, _, _⟩ := (own_swap [_, _] [_] HO').reads
    obtain ⟨A3, c3, rfl, _, _⟩ := (own_swap [_, _, _] [_] HO').reads
    have HB := own_swap [_, _, _, _] [_] HO'
    obtain ⟨o, ho, hg, hd, hr⟩ := op6 B1 B (.slice A0 4 c0) (.slice A1 8 c1) (.slice A2 8 c2) (.slice A3 8 c3) A0 A1 A2 A3 4 8 8 8 c0 c1 c2 c3 w HB.pt
    refine wpOp_skip ho hg hd hr ?_
    exact ⟨true, true, true, true, true, true, true, _, _, _, _, _, _, B, rfl, rfl, fun _ => ⟨rfl, rfl, rfl, rfl, rfl⟩, fun _ => ⟨rfl, rfl⟩, fun _ => rfl, own_swap [_] [_, _, _, _] (HB.set4 _ _ _ _)⟩
theorem fit0 : FitsD G0 s0D := by decide +kernel
theorem sn0 : snN G0 = 2 := by decide +kernel
theorem put0 : ∃ P0 P1 : ByteArray, putD G0 s0D = ([P0, P1], 0) ∧ P0.size = 64 ∧ bt P0 6 = 2 ∧ takeP G0 [P0, P1] = (s0D, 0) := by
  have h := put_take fit0
  have e : putD G0 s0D = (pagesOf (allS G0 s0D) 64 2, 0) := by unfold putD; rw [if_pos fit0.1, if_pos fit0, sn0]; rfl
  have hz := allS_size fit0.1 s0D
  rw [sn0] at hz
  have hz' : (allS G0 s0D).size = 2 * 64 := hz
  have e2 : pagesOf (allS G0 s0D) 64 2 = [(allS G0 s0D).extract (0 * 64) (0 * 64 + 64), (allS G0 s0D).extract (1 * 64) (1 * 64 + 64)] := rfl
  refine ⟨_, _, by rw [e, e2], ?_, ?_, ?_⟩
  · rw [size_extract' _ _ _ (by omega)]
  · have h6 := bn_extract (allS G0 s0D) (0 * 64) (0 * 64 + 64) 6 (by omega) (by omega)
    have h7 := allS_bn_fl (G := G0) s0D (0 * 64 + 6) (by decide)
    rw [h7] at h6
    have h8 : bn (leStr (s0D.fl.getD ((0 * 64 + 6) / 6) 0) 6) ((0 * 64 + 6) % 6) = 2 := by decide +kernel
    rw [h8] at h6
    have := bn_bt ((allS G0 s0D).extract (0 * 64) (0 * 64 + 64)) 6
    rw [h6] at this
    exact this
  · have := h.1
    rw [e, e2] at this
    exact this
theorem take0 : takeP G0 [] = (nilD, 130) := by
  unfold takeP
  rw [if_pos fit0.1, if_neg]
  rintro ⟨h, _⟩
  rw [sn0] at h
  cases h
set_option maxHeartbeats 8000000 in
set_option maxRecDepth 100000 in
theorem works_calls (w : World) : Calls Tryd.prog 6 #[] w fun e w' => e = .returned (.bool true) ∧ Below w.heap.size w w' := by
  have ha := (Own.Own.new w).alloc (geoC G0)
  obtain ⟨B1, hB1⟩ : ∃ B, B = w.heap.size := ⟨_, rfl⟩
  rw [← hB1] at ha
  have HO := Aside0.mk ha
  have HB1 := Lib.hid hB1
  clear ha hB1
  obtain ⟨P0, P1, hput, hP0, hP6, htake⟩ := put0
  have HPUT := Aside0.mk hput
  have HTK := Aside0.mk htake
  have HP6 := Lib.hid hP6
  have HP0 := Lib.hid hP0
  clear hput htake hP6 hP0
  go_enter Tryd.func6, Tryd.ntmps6
  go_upto_region 2 with (fail)
  rw [← HB1.out]
  refine wp_region_any (by kernel_rfl) ?_
  refine wpAny_inv (LitI w (actW B1) [Pt B1 (geoC G0)]) ?_ (fun l a w1 hI i hi => lit_step B1 l a w1 hI i hi) ?_ _ _ _ _ ?_ ?_
  · rintro l a w1 ⟨b0, b1, b2, b3, b4, b5, b6, _, _, _, _, _, _, _, rfl, _⟩
    rfl
  · rintro l a w1 ⟨b0, b1, b2, b3, b4, b5, b6, x2, x10, x11, x12, x13, x14, B, rfl, rfl, h4, h6, h5, ho⟩ hr
    obtain ⟨rfl, rfl, rfl, rfl, rfl, rfl, rfl⟩ := (readyW b0 b1 b2 b3 b4 b5 b6).2.2.2.2.2.2.2 hr
    obtain ⟨_, _, _, _, rfl⟩ := h4 rfl
    obtain rfl := h5 rfl
    have HO' : Own.Own w w1 (Ints x10 [1, 2, 3, 4] :: Ints x11 zs8 :: Ints x12 zs8 :: Ints x13 zs8 :: Pt B (.cells #[x10, x11, x12, x13] 26 (0, 0)) :: [Pt B1 (geoC G0)]) := ho
    obtain ⟨A0, c0, rfl, hc0, hr0⟩ := HO'.reads
    obtain ⟨A1, c1, rfl, hc1, hr1⟩ := (own_swap [_] [_] HO').reads
    obtain ⟨A2, c2, rfl, hc2, hr2⟩ := (own_swap [_, _] [_] HO').reads
    obtain ⟨A3, c3, rfl, hc3, hr3⟩ := (own_swap [_, _, _] [_] HO').reads
    have HD := Aside0.mk (show DurAt w1 s0D A0 A1 A2 A3 c0 c1 c2 c3 from ⟨hr0, hr1, hr2, hr3, hc0, hc1, hc2, hc3⟩)
    have H1 := Aside0.mk (own_swap [_, _, _, _] [_, _] HO')
    clear ho HO' hr0 hr1 hr2 hr3 hc0 hc1 hc2 hc3 h4 h5 h6 hr HO
    refine then_n ?_
    obtain ⟨x0, x1, x2, x3, x4, x5⟩ := cells6 H1.out.drop.pt
    obtain ⟨y0, y1, y2, y3, _, _, _, _⟩ := cells4 H1.out.pt
    go_wp2_with fail
    have hpt := put_calls (w := w1) G0 s0D A0 A1 A2 A3 c0 c1 c2 c3 (by decide) (by decide) HD.out
    rw [HPUT.out] at hpt
    refine hpt.mono ?_
    rintro e w2 ⟨v, rfl, ho⟩
    have ho2 := own_then H1.out ho
    obtain ⟨Ap, cp, rfl, hcp, hrp⟩ := ho2.reads
    have H2 := Aside0.mk (show Own.Own w w2 (Txt (.slice Ap 2 cp) [P0, P1] :: Pt B (.cells #[.slice A0 4 c0, .slice A1 8 c1, .slice A2 8 c2, .slice A3 8 c3] 26 (0, 0)) :: Pt B1 (geoC G0) :: (Ints (.slice A0 4 c0) [1, 2, 3, 4] :: Ints (.slice A1 8 c1) zs8 :: Ints (.slice A2 8 c2) zs8 :: Ints (.slice A3 8 c3) zs8 :: [])) from ho2)
    have HRP := Aside0.mk hrp
    have HCP := Lib.hid hcp
    have HDw := Aside0.mk (HD.out.below ho.below)
    obtain ⟨ap, rfl, z0⟩ := Kd.at_string hrp 0 (by decide) (by show (0 : Int) < 2; decide)
    rw [show rdOf ByteArray.empty [P0, P1] 0 = P0 from rfl] at z0
    have z0' : w2.cell? ap = some (.string P0) := z0
    have hp64 : P0.size = 64 := HP0.out
    clear ho ho2 hcp hrp H1 HD hpt x0 x1 x2 x3 x4 x5 y0 y1 y2 y3
    obtain ⟨x0, x1, x2, x3, x4, x5⟩ := cells6 H2.out.drop.drop.pt
    go_wp2_with fail
    have htk := take_calls (w := w2) G0 (some ap) cp [P0, P1] (by decide) (by decide) HCP.out HRP.out
    refine htk.mono ?_
    rintro e w3 ⟨v0, v1, v2, v3, rfl, ho⟩
    rw [HTK.out] at ho ⊢
    obtain ⟨a0, d0, rfl, hd0, hs0⟩ := ho.reads
    obtain ⟨a1, d1, rfl, hd1, hs1⟩ := (own_swap [_] [_] ho).reads
    obtain ⟨a2, d2, rfl, hd2, hs2⟩ := (own_swap [_, _] [_] ho).reads
    obtain ⟨a3, d3, rfl, hd3, hs3⟩ := (own_swap [_, _, _] [_] ho).reads
    have HT := Aside0.mk (show DurAt w3 s0D a0 a1 a2 a3 d0 d1 d2 d3 from ⟨hs0, hs1, hs2, hs3, hd0, hd1, hd2, hd3⟩)
    have h3 := (own_then H2.out ho).alloc (.cells #[.slice a0 4 d0, .slice a1 8 d1, .slice a2 8 d2, .slice a3 8 d3] 26)
    obtain ⟨B5, hB5⟩ : ∃ B, B = w3.heap.size := ⟨_, rfl⟩
    rw [← hB5] at h3
    have H3 := Aside0.mk (show Own.Own w _ (Pt B5 (.cells #[.slice a0 4 d0, .slice a1 8 d1, .slice a2 8 d2, .slice a3 8 d3] 26 (0, 0)) :: Ints (.slice a0 4 d0) [1, 2, 3, 4] :: Ints (.slice a1 8 d1) zs8 :: Ints (.slice a2 8 d2) zs8 :: Ints (.slice a3 8 d3) zs8 :: Txt (.slice (some ap) 2 cp) [P0, P1] :: Pt B (.cells #[.slice A0 4 c0, .slice A1 8 c1, .slice A2 8 c2, .slice A3 8 c3] 26 (0, 0)) :: Pt B1 (geoC G0) :: (Ints (.slice A0 4 c0) [1, 2, 3, 4] :: Ints (.slice A1 8 c1) zs8 :: Ints (.slice A2 8 c2) zs8 :: Ints (.slice A3 8 c3) zs8 :: [])) from h3)
    have HB5 := Lib.hid hB5
    have HDx := Aside0.mk (HDw.out.below ho.below)
    clear ho htk x0 x1 x2 x3 x4 x5 H2 h3 hB5 hs0 hs1 hs2 hs3 hd0 hd1 hd2 hd3 z0 z0' HRP HCP HDw
    go_upto_region 7 with (fail)
    rw [← HB5.out]
    have HDx := Aside0.mk (HDx.out.below (below_alloc (Below.refl _ _) (.cells #[.slice a0 4 d0, .slice a1 8 d1, .slice a2 8 d2, .slice a3 8 d3] 26)))
    have HTx := Aside0.mk (HT.out.below (below_alloc (Below.refl _ _) (.cells #[.slice a0 4 d0, .slice a1 8 d1, .slice a2 8 d2, .slice a3 8 d3] 26)))
    generalize hW : World.alloc w3 _ = w4 at H3 HDx HTx ⊢
    clear hW HB5 HT
    obtain ⟨x0, x1, x2, x3, x4, x5⟩ := cells6 (own_swap [_, _, _, _, _, _, _] [_] H3.out).pt
    go_wp2_with fail
    have htk := take_calls (w := w4) G0 none 0 [] (by decide) (by decide) (Nat.le_refl _) ⟨rfl, by decide, fun h => absurd h (by decide)⟩
    refine htk.mono ?_
    rintro e w5 ⟨v0, v1, v2, v3, rfl, ho⟩
    rw [take0] at ho ⊢
    obtain ⟨e0, g0, rfl, _, _⟩ := ho.reads
    obtain ⟨e1, g1, rfl, _, _⟩ := (own_swap [_] [_] ho).reads
    obtain ⟨e2, g2, rfl, _, _⟩ := (own_swap [_, _] [_] ho).reads
    obtain ⟨e3, g3, rfl, _, _⟩ := (own_swap [_, _, _] [_] ho).reads
    simp only [show nilD.fl.length = 0 from rfl, show nilD.co.length = 0 from rfl, show nilD.sl.length = 0 from rfl, show nilD.tl.length = 0 from rfl]
    have H4 := Aside0.mk ((H3.out.move ho.below).alloc' (.cells #[.slice e0 0 g0, .slice e1 0 g1, .slice e2 0 g2, .slice e3 0 g3] 26))
    have hbl := below_alloc ho.below (.cells #[.slice e0 0 g0, .slice e1 0 g1, .slice e2 0 g2, .slice e3 0 g3] 26)
    have HDy := Aside0.mk (HDx.out.below hbl)
    have HTy := Aside0.mk (HTx.out.below hbl)
    clear ho htk x0 x1 x2 x3 x4 x5 H3 HDx HTx hbl
    go_upto_region 8 with (fail)
    generalize hW : World.alloc w5 _ = w6 at H4 HDy HTy ⊢
    clear hW
    obtain ⟨y0, y1, y2, y3, _, _, _, _⟩ := cells4 H4.out.pt
    obtain ⟨z0, z1, z2, z3, _, _, _, _⟩ := cells4 (own_swap [_, _, _, _, _, _] [_] H4.out).pt
    have HSM := Aside0.mk (same_calls HTy.out HDy.out (by decide) (by decide) (by decide) (by decide))
    rw [sameB_self] at HSM
    go_wp2_with fail
    refine HSM.out.mono ?_
    rintro e w7 ⟨rfl, hb⟩
    have H5 := Aside0.mk (H4.out.move hb)
    obtain ⟨aq, cq, eq, _, hrq⟩ := (own_swap [_, _, _, _, _] [_] H5.out).reads
    injection eq with eq1 eq2 eq3
    subst eq1
    obtain ⟨ap', eq', z0'⟩ := Kd.at_string hrq 0 (by decide) (by show (0 : Int) < 2; decide)
    injection eq' with eq'
    subst eq'
    rw [show rdOf ByteArray.empty [P0, P1] 0 = P0 from rfl] at z0'
    have zz : w7.cell? ap = some (.string P0) := z0'
    have hb6 := HP6.out
    have hsz := HP0.out
    have hu : (P0[6]'(by rw [hsz]; decide)).toNat = 2 := by
      unfold bt at hb6
      rw [dif_pos (by rw [hsz]; decide)] at hb6
      have : ((P0[(6 : Int).toNat]'(by rw [hsz]; decide)).toNat : Int) = 2 := hb6
      exact_mod_cast this
    clear hb HSM y0 y1 y2 y3 z0 z1 z2 z3 z0' H4
    go_wp2_with fail
    go_ret
    exact ⟨rfl, H5.out.below⟩
  · decide
  · exact ⟨false, false, false, false, false, false, false, undef, undef, undef, undef, undef, undef, 0, rfl, rfl, fun q => (by cases q), fun q => (by cases q), fun q => (by cases q), own_emp (own_emp (own_emp (own_emp (own_emp HO.out.drew))))⟩
end Go.Proofs.YteofihmeiikhbaaDoor.PG
end
