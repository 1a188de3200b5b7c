/- frame.Decode: what bytes are. -/
import Derived.ArgAppend
import Derived.Below
import Derived.BigQuiet
import Derived.Carry
import Derived.Deep.AppendLies
import Derived.Deep.CutBlock
import Derived.Deep.DeepCutAuto
import Derived.Deep.Draws
import Derived.Deep.LoopGhost
import Derived.Deep.OwnRows
import Derived.Deep.QuietTactic
import Derived.Deep.RegionHeld3
import Derived.Deep.RegionWith
import Derived.KernelRfl
import Derived.Laws.BitsLemmas
import Derived.Laws.BytesArg
import Derived.Laws.IdiomCopy
import Derived.Laws.MakeOwn
import Derived.Laws.OwnMore
import Derived.Laws.Rows
import Derived.Laws.Slices
import Derived.Lib.AppendStr
import Derived.Lib.BufferMore
import Derived.Lib.ConvBytes
import Derived.Lib.Hide
import Derived.Lib.LazyBuf
import Derived.Maps.AppendAt
import Derived.OpenShut
import Derived.OrdersHeld
import Derived.Outline
import Derived.OwnWalk
import Derived.OwnWalkIn
import Derived.RegionTactic
import Derived.RowKit3
import Derived.StillTailTactics
import Derived.Tactics
import Derived.WalkKit
import Derived.WideLaws
import Derived.Lib.BufferMore
import Derived.Lib.LazyBuf
import Derived.RegionIn
import Derived.ControlIn
import Derived.Sort.CutIn
import Derived.WalkMore
import Derived.Test.YtbcgddacmjliaaaDoorWWords
import Derived.Test.YtbcgddacmjliaaaDoorWLast
import Derived.Test.YtbcgddacmjliaaaDoorLaid
import Derived.Test.YtbcgddacmjliaaaDoorBldA
import Derived.Test.YtbcgddacmjliaaaDoorErased
import Derived.Test.YtbcgddacmjliaaaDoorPFy2
import Derived.Test.YtbcgddacmjliaaaDoorPFy3
set_option linter.unusedVariables false
set_option linter.unusedSimpArgs false
namespace Go.Proofs.YtbcgddacmjliaaaDoor.PF
open Go.RowKit Go.Shelf Go.Proofs.YtbcgddacmjliaaaDoorW.PrintWords Go.Proofs.YtbcgddacmjliaaaDoor.Mem Go.Proofs.YtbcgddacmjliaaaDoor.Own Go.Proofs.YtbcgddacmjliaaaDoor.Rng Go.Proofs.YtbcgddacmjliaaaDoor.Hw

attribute [local go_sem] Oper.semAt_some
/-- The first j chunks: what they hold, what they are, and whether one is bad. -/
def decAt (s : ByteArray) : Nat → Option (ByteArray × Int × Bool)
  | 0 => some (⟨#[]⟩, 2, false)
  | j + 1 => (decAt s j).bind fun x => if x.2.2 = true then some x else (ham_Decode.f 40 (chk s j)).bind fun d => if d.2.1 = 4 then some (x.1, 4, true) else if x.1.size + d.1.size ≤ 140737488355328 then some (x.1 ++ d.1, if d.2.1 = 3 then 3 else x.2.1, false) else none
theorem decAt_le {s : ByteArray} (i : Nat) : ∀ (n : Nat) (r : ByteArray × Int × Bool), decAt s n = some r → i ≤ n → ∃ q, decAt s i = some q ∧ (q.2.2 = true → r = q)
  | 0, r, h, hi => ⟨r, by rw [Nat.le_zero.1 hi]; exact h, fun _ => rfl⟩
  | n + 1, r, h, hi => by
    rcases Nat.lt_or_ge n i with h1 | h1
    · have : i = n + 1 := by omega
      exact ⟨r, by rw [this]; exact h, fun _ => rfl⟩
    · obtain ⟨b, hb, h⟩ := Option.bind_eq_some_iff.mp h
      obtain ⟨q, hq, hr⟩ := decAt_le i n b hb h1
      refine ⟨q, hq, fun e => ?_⟩
      have := hr e
      subst this
      rw [if_pos e] at h
      exact (Option.some.inj h).symm
theorem decAt_step {s : ByteArray} {k n : Nat} {r : ByteArray × Int × Bool} {x : ByteArray} {wh : Int} (h : decAt s n = some r) (hk : k < n) (hI : decAt s k = some (x, wh, false)) :
    ∃ d is e, ham_Decode.f 40 (chk s k) = some (d, is, e) ∧ (is = 4 → r = (x, 4, true)) ∧ (is ≠ 4 → x.size + d.size ≤ 140737488355328 ∧ decAt s (k + 1) = some (x ++ d, if is = 3 then 3 else wh, false)) := by
  obtain ⟨q, hq, hr⟩ := decAt_le (k + 1) n r h hk
  have hq0 := hq
  obtain ⟨b, hb, hq⟩ := Option.bind_eq_some_iff.mp hq
  obtain rfl : (x, wh, false) = b := Option.some.inj (hI.symm.trans hb)
  rw [if_neg (by simp)] at hq
  obtain ⟨⟨d, is, e⟩, hd, hq⟩ := Option.bind_eq_some_iff.mp hq
  refine ⟨d, is, e, hd, fun h4 => ?_, fun h4 => ?_⟩
  · rw [if_pos h4] at hq
    have hq := (Option.some.inj hq).symm
    rw [hr (by rw [hq]), hq]
  · rw [if_neg h4] at hq
    by_cases hl : x.size + d.size ≤ 140737488355328
    · rw [if_pos hl] at hq
      exact ⟨hl, by rw [hq0, ← hq]⟩
    · rw [if_neg hl] at hq
      cases hq
abbrev Page6 := Int × Int × Int × Int × Int × ByteArray
def frame_Decode.f (s : ByteArray) : Option Page6 := if s.size ≤ 1000000 then (if s.size % 9 ≠ 0 ∨ s.size / 9 < 4 ∨ 35 < s.size / 9 then some (4, 0, 0, 0, 0, ⟨#[]⟩) else
  (frame_erased.f s).bind fun er => if er = true then some (1, 0, 0, 0, 0, ⟨#[]⟩) else (decAt s (s.size / 9)).bind fun x => if x.2.2 = true then some (4, 0, 0, 0, 0, ⟨#[]⟩) else if x.1.size = 0 then none else frame_whole.f 40 x.1 x.2.1) else none
abbrev Pg6 (g : Nat) (a b c d e : Int) (x : ByteArray) : Asn := Pt g (.cells #[.int .i64 a, .int .i64 b, .int .i64 c, .int .i64 d, .int .i64 e, .string x] 30)
abbrev BoxI (g : Nat) (a : Int) : Asn := Pt g (.cells #[.int .i64 a] 3)
theorem set6 {w0 w : World} {L : List Asn} {g : Nat} {T : TypeId} {a b c d e f : Value} (h : Own.Own w0 w (Pt g (.cells #[a, b, c, d, e, f] T (0, 0)) :: L)) (u1 u2 u3 u4 u5 u6 : Value) :
    Own.Own w0 ((((((w.setCell ⟨g, 0, none⟩ u1).setCell ⟨g, 1, none⟩ u2).setCell ⟨g, 2, none⟩ u3).setCell ⟨g, 3, none⟩ u4).setCell ⟨g, 4, none⟩ u5).setCell ⟨g, 5, none⟩ u6) (Pt g (.cells #[u1, u2, u3, u4, u5, u6] T (0, 0)) :: L) :=
  ((((((h.set (i := 0) u1).set (i := 1) u2).set (i := 2) u3).set (i := 3) u4).set (i := 4) u5).set (i := 5) u6)
def accD (s : ByteArray) (k : Nat) : ByteArray := ((decAt s k).getD (⟨#[]⟩, 2, false)).1
def whD (s : ByteArray) (k : Nat) : Int := ((decAt s k).getD (⟨#[]⟩, 2, false)).2.1
abbrev restD (BB B6 B3 B2 : Nat) (s : ByteArray) (k : Nat) : List Asn := [BldA BB (accD s k), BoxI B6 (whD s k), Pg6 B3 4 0 0 0 0 ⟨#[]⟩, Pg6 B2 0 0 0 0 0 ⟨#[]⟩]
def InvD (s : ByteArray) (k : Nat) : Prop := ∃ x wh, decAt s k = some (x, wh, false) ∧ (wh = 2 ∨ wh = 3)
theorem inv_acc {s : ByteArray} {k : Nat} {x : ByteArray} {wh : Int} {b : Bool} (h : decAt s k = some (x, wh, b)) : accD s k = x ∧ whD s k = wh := by unfold accD whD; rw [h]; exact ⟨rfl, rfl⟩
theorem own_ne {w0 w : World} {g h : Nat} {o o2 : Obj} {L : List Asn} (H : Own.Own w0 w (Pt g o :: Pt h o2 :: L)) : g ≠ h := by
  obtain ⟨_, S, ⟨S1, S2, ⟨_, h1⟩, ⟨S3, S4, ⟨_, h3⟩, _, _, i3, _⟩, d, _, _⟩, _⟩ := H
  rintro rfl
  exact d _ h1 (i3 _ h3)
/-- What the function's result cell holds. -/
theorem page_res {w0 W : World} {L : List Asn} {B2 : Nat} {a b c d e : Int} {x : ByteArray} {tmps : Array Value} (hp : Own.Own w0 W (Pg6 B2 a b c d e x :: L)) (ht : tmps[2]? = some (.pointer (some ⟨B2, 0, none⟩))) :
    (results Tryd.f12 tmps).run Tryd.prog W = .ok (.agg #[.int .i64 a, .int .i64 b, .int .i64 c, .int .i64 d, .int .i64 e, .string x]) W := by
  obtain ⟨y0, y1, y2, y3, y4, y5⟩ := cells6 hp.pt
  have hu30 := Tryd.underlying30
  have hu23 := Tryd.underlying23
  simp [results, Tryd.results12, go_sem, ht, y0, y1, y2, y3, y4, y5]
set_option maxHeartbeats 4000000 in
set_option maxRecDepth 100000 in
theorem frame_Decode.calls (s : ByteArray) (r1 r2 r3 r4 r5 : Int) (r6 : ByteArray) (w : World) (h : frame_Decode.f s = some (r1, r2, r3, r4, r5, r6)) (HL : Aside0 (Laid w) := by first | exact HL | exact Hw.laid_at HL (by repeat (first | (with_reducible first | exact HB.out | apply below_alloc | apply pw_below_drewN | apply below_drew1) | exact HB.out | exact Below.refl _ _ | refine below_set ?_ (by apply Aside0.out; assumption)))) :
    Calls Tryd.prog 12 #[.string s] w fun e w' => e = .returned (.agg #[.int .i64 r1, .int .i64 r2, .int .i64 r3, .int .i64 r4, .int .i64 r5, .string r6]) ∧ Below w.heap.size w w' := by
  unfold frame_Decode.f at h
  by_cases hs : s.size ≤ 1000000
  · rw [if_pos hs] at h
    have ha := ((Own.Own.new w).alloc (.cells #[.int .i64 0, .int .i64 0, .int .i64 0, .int .i64 0, .int .i64 0, .string ⟨#[]⟩] 30)).alloc (.cells #[.int .i64 4, .int .i64 0, .int .i64 0, .int .i64 0, .int .i64 0, .string ⟨#[]⟩] 30)
    rw [World.size_alloc] at ha
    obtain ⟨B2, hB2⟩ : ∃ B2, B2 = w.heap.size := ⟨_, rfl⟩
    obtain ⟨B3, hB3⟩ : ∃ B3, B3 = w.heap.size + 1 := ⟨_, rfl⟩
    rw [← hB3, ← hB2] at ha
    have HO := Aside0.mk ha
    have HB2 := Lib.hid hB2
    have HB3 := Lib.hid hB3
    have HS := Lib.hid hs
    obtain ⟨n, hn⟩ : ∃ n : Nat, n = s.size / 9 := ⟨_, rfl⟩
    obtain ⟨m, hm⟩ : ∃ m : Nat, m = s.size % 9 := ⟨_, rfl⟩
    rw [← hn, ← hm] at h
    have q1 : Int.tdiv (s.size : Int) 9 = (n : Int) := by rw [Int.tdiv_eq_ediv_of_nonneg (by omega)]; omega
    have q2 : Int.tmod (s.size : Int) 9 = (m : Int) := by rw [Int.tmod_eq_emod_of_nonneg (by omega)]; omega
    clear ha hs hB2 hB3
    refine (callsIn_wide (n := 3)).1 ?_
    refine callsIn_of_wp_marks Tryd.func12 rfl trivial ?_ rfl
    simp only [Tryd.ntmps12, List.size_toArray, List.length_cons, List.length_nil, Nat.reduceAdd, Nat.reduceSub, Array.replicate_succ, Array.replicate_zero, List.push_toArray, List.append_toArray, List.nil_append, List.cons_append]
    refine wpIn_wide.2 ?_
    have hu30 := Tryd.underlying30
    have hu23 := Tryd.underlying23
    go_wp2_with fail
    apply wp_scope_straight
    go_upto_region 2 with (fail)
    rw [← HB3.out, ← HB2.out]
    have hOO := HO.out
    clear HO
    generalize hW : World.alloc _ _ = w2 at hOO ⊢
    clear hW
    have HO := Aside0.mk hOO
    clear hOO
    by_cases hbad : m ≠ 0 ∨ n < 4 ∨ 35 < n
    · rw [if_pos hbad] at h
      simp only [Option.some.injEq, Prod.mk.injEq] at h
      obtain ⟨rfl, rfl, rfl, rfl, rfl, rfl⟩ := h
      obtain ⟨x0, x1, x2, x3, x4, x5⟩ := cells6 HO.out.pt
      have wn : wrap64 (n : Int) = (n : Int) := by unfold wrap64; have := HS.out; omega
      have wn2 : IntKind.i64.wrap (n : Int) = (n : Int) := (Go.Proofs.YtbcgddacmjliaaaDoorW.PrintLast.i64_w _).trans wn
      have hlt := blk_lt HO.out.drop.pt
      have g0 := blk_frozen HO.out.drop.pt 0
      have g1 := blk_frozen HO.out.drop.pt 1
      have g2 := blk_frozen HO.out.drop.pt 2
      have g3 := blk_frozen HO.out.drop.pt 3
      have g4 := blk_frozen HO.out.drop.pt 4
      have g5 := blk_frozen HO.out.drop.pt 5
      have z0 := blk_cell HO.out.drop.pt 0
      have z1 := blk_cell HO.out.drop.pt 1
      have z2 := blk_cell HO.out.drop.pt 2
      have z3 := blk_cell HO.out.drop.pt 3
      have z4 := blk_cell HO.out.drop.pt 4
      have z5 := blk_cell HO.out.drop.pt 5
      simp only [List.getElem?_toArray, List.getElem?_cons_zero, List.getElem?_cons_succ] at z0 z1 z2 z3 z4 z5
      by_cases e1 : m = 0
      · have c2 : ((m : Int) != 0) = false := by subst e1; rfl
        by_cases e2 : n < 4
        · have d1 : decide ((n : Int) < 4) = true := decide_eq_true (by omega)
          clear hbad hn hm
          go_wp2_with fail
          rw [Exit.noGoto_ret]
          have hp := set6 HO.out.pull2 (.int .i64 4) (.int .i64 0) (.int .i64 0) (.int .i64 0) (.int .i64 0) (.string ⟨#[]⟩)
          exact ⟨_, page_res hp rfl, rfl, hp.below⟩
        · have d1 : decide ((n : Int) < 4) = false := decide_eq_false (by omega)
          have d2 : decide (35 < (n : Int)) = true := decide_eq_true (by omega)
          clear hbad hn hm
          go_wp2_with fail
          rw [Exit.noGoto_ret]
          have hp := set6 HO.out.pull2 (.int .i64 4) (.int .i64 0) (.int .i64 0) (.int .i64 0) (.int .i64 0) (.string ⟨#[]⟩)
          exact ⟨_, page_res hp rfl, rfl, hp.below⟩
      · have c2 : ((m : Int) != 0) = true := by simp; omega
        clear hbad hn hm
        go_wp2_with fail
        rw [Exit.noGoto_ret]
        have hp := set6 HO.out.pull2 (.int .i64 4) (.int .i64 0) (.int .i64 0) (.int .i64 0) (.int .i64 0) (.string ⟨#[]⟩)
        exact ⟨_, page_res hp rfl, rfl, hp.below⟩
    · rw [if_neg hbad] at h
      obtain ⟨er, her, h⟩ := Option.bind_eq_some_iff.mp h
      have m0 : m = 0 := by omega
      have n4 : 4 ≤ n := by omega
      have n35 : n ≤ 35 := by omega
      clear hbad
      subst m0
      have wn : wrap64 (n : Int) = (n : Int) := by unfold wrap64; have := HS.out; omega
      have wn2 : IntKind.i64.wrap (n : Int) = (n : Int) := (Go.Proofs.YtbcgddacmjliaaaDoorW.PrintLast.i64_w _).trans wn
      have c2 : (((0 : Nat) : Int) != 0) = false := rfl
      have d1 : decide ((n : Int) < 4) = false := decide_eq_false (by omega)
      have d2 : decide (35 < (n : Int)) = false := decide_eq_false (by omega)
      have HE := Aside0.mk her
      have HN := Lib.hid hn
      clear her hm hn
      go_wp2_with fail
      refine (frame_erased.calls s er _ HE.out (Hw.laid_at HL HO.out.below)).mono ?_
      rintro e w3 ⟨rfl, hb⟩
      have HP := Aside0.mk (HO.out.move hb)
      clear hb HO
      cases er with
      | true =>
        rw [if_pos rfl] at h
        simp only [Option.some.injEq, Prod.mk.injEq] at h
        obtain ⟨rfl, rfl, rfl, rfl, rfl, rfl⟩ := h
        have hlt := blk_lt HP.out.drop.pt
        have g0 := blk_frozen HP.out.drop.pt 0
        have g1 := blk_frozen HP.out.drop.pt 1
        have g2 := blk_frozen HP.out.drop.pt 2
        have g3 := blk_frozen HP.out.drop.pt 3
        have g4 := blk_frozen HP.out.drop.pt 4
        have g5 := blk_frozen HP.out.drop.pt 5
        have z0 := blk_cell HP.out.drop.pt 0
        have z1 := blk_cell HP.out.drop.pt 1
        have z2 := blk_cell HP.out.drop.pt 2
        have z3 := blk_cell HP.out.drop.pt 3
        have z4 := blk_cell HP.out.drop.pt 4
        have z5 := blk_cell HP.out.drop.pt 5
        simp only [List.getElem?_toArray, List.getElem?_cons_zero, List.getElem?_cons_succ] at z0 z1 z2 z3 z4 z5
        go_wp2_with fail
        rw [Exit.noGoto_ret]
        have hp := set6 HP.out.pull2 (.int .i64 1) (.int .i64 0) (.int .i64 0) (.int .i64 0) (.int .i64 0) (.string ⟨#[]⟩)
        exact ⟨_, page_res hp rfl, rfl, hp.below⟩
      | false =>
        rw [if_neg (by decide)] at h
        obtain ⟨⟨x, wh, bad⟩, hx, h⟩ := Option.bind_eq_some_iff.mp h
        have HX := Aside0.mk hx
        have HH := Aside0.mk h
        clear hx h
        go_upto_region 9 with (fail)
        have ho := (own_bld HP.out).alloc (.cells #[.int .i64 2] 3)
        rw [World.size_alloc] at ho
        obtain ⟨BB, hBB⟩ : ∃ B, B = w3.heap.size := ⟨_, rfl⟩
        obtain ⟨B6, hB6⟩ : ∃ B, B = w3.heap.size + 1 := ⟨_, rfl⟩
        rw [← hB6, ← hBB] at ho
        rw [← hB6, ← hBB]
        clear HP hB6 hBB
        generalize hW : World.alloc _ _ = w4 at ho ⊢
        clear hW
        have HQ := Aside0.mk (own_swap [_] [_] ho)
        clear ho
        go_wp2_with fail
        apply wp_label
        go_wp2_with fail
        refine (chunks_own s HQ.out).mono ?_
        rintro e w5 ⟨b, rfl, ho⟩
        have HF := Aside0.mk (show Own.Own w w5 (ChL b s (restD BB B6 B3 B2 s) 0) from ho)
        clear ho HQ
        go_wp2_with fail
        have hx2 : decAt s (s.size / 9) = some (x, wh, bad) := by rw [← HN.out]; exact HX.out
        clear HX
        have HX := Aside0.mk hx2
        clear hx2
        refine (wpIn_wide (n := 3)).1 ?_
        refine wp_range_loop (n := 3) (by omega) (gf := 58) (lb := #[.pointer (some ⟨b, 0, none⟩)]) rfl (enters_of Tryd.func58 (by kernel_rfl) rfl) (fun _ => rfl)
          (chunks_iter w b s HS.out (restD BB B6 B3 B2 s) (InvD s) ⟨_, _, rfl, .inl rfl⟩) HF.out
          (fun c L => c = .exit 0 ∧ bad = true ∧ ∃ x0, L = [BoxS b s, BldA BB x0, BoxI B6 4, Pg6 B3 4 0 0 0 0 ⟨#[]⟩, Pg6 B2 0 0 0 0 0 ⟨#[]⟩]) ?round ?done ?stop
        case round =>
          rintro l D o k c Lk W ⟨q0, rfl⟩ ⟨hk, hc, rfl, x0, w0, hI, hw⟩ hO
          subst hc
          obtain ⟨dd, is, ee, hd, h4, h5⟩ := decAt_step HX.out hk hI
          obtain ⟨ia, iw⟩ := inv_acc hI
          have hO2 : Own.Own w W (Dfr D :: Pt l (.loop q0) :: BoxS b s :: [BldA BB (accD s k), BoxI B6 (whD s k), Pg6 B3 4 0 0 0 0 ⟨#[]⟩, Pg6 B2 0 0 0 0 0 ⟨#[]⟩]) := hO
          rw [ia, iw] at hO2
          have HD := Aside0.mk hd
          have H4 := Aside0.mk h4
          have H5 := Aside0.mk h5
          have HW' := Lib.hid hw
          clear hd h4 h5 hI ia iw hO hw
          gi_wp2_with (fail)
          refine ⟨_, hO2, ?_⟩
          rintro o2 W2 ⟨q2, rfl⟩ h2
          gi_wp2_with (fail)
          refine ⟨trivial, ?_⟩
          gi_at_call 32
          refine (CallsIn.inRound l (callsIn_wide.2 (ham_Decode.calls 40 _ _ _ _ _ HD.out (Hw.laid_at HL h2.below)))).mono ?_
          rintro e w6 ⟨rfl, hb⟩
          have HC := Aside0.mk (h2.move hb)
          clear h2 hb hO2
          have z0 := blk_cell HC.out.drop.drop.drop.drop.pt 0
          have g0 := blk_frozen HC.out.drop.drop.drop.drop.pt 0
          simp only [List.getElem?_toArray, List.getElem?_cons_zero] at z0
          by_cases e4 : is = 4
          · have c4 : (is == 4) = true := by simpa using e4
            have hb1 : bad = true := by have := H4.out e4; simp only [Prod.mk.injEq] at this; exact this.2.2
            subst e4
            gi_wp2_with (fail)
            have hq := own_swap [_] [_, _, _, _] ((own_swap [_, _, _, _] [_] HC.out).set (i := 0) (.int .i64 4))
            exact ⟨_, ⟨rfl, hb1, _, rfl⟩, hq⟩
          · have c4 : (is == 4) = false := by simpa using e4
            obtain ⟨h6, h7⟩ := H5.out e4
            have H6 := Lib.hid h6
            have H7 := Aside0.mk h7
            obtain ⟨ia, iw⟩ := inv_acc h7
            have IA := Lib.hid ia
            have IW := Lib.hid iw
            have aw : ∀ v : Int, Away [Dfr D, Pt l (.loop q2), BoxS b s, BoxI B6 v, Pg6 B3 4 0 0 0 0 ⟨#[]⟩, Pg6 B2 0 0 0 0 0 ⟨#[]⟩] := fun v => Away.cons (away_pt (by intro c fz e; cases e)) (Away.cons (away_pt (by intro c fz e; cases e)) (Away.cons (away_pt (by intro c fz e; cases e)) (Away.cons (away_pt (by intro c fz e; cases e)) (Away.cons (away_pt (by intro c fz e; cases e)) (Away.cons (away_pt (by intro c fz e; cases e)) Away.nil)))))
            clear h6 h7 ia iw
            by_cases e3 : is = 3
            · subst e3
              have hq := own_swap [_] [_, _, _, _] ((own_swap [_, _, _, _] [_] HC.out).set (i := 0) (.int .i64 3))
              have HQ := Aside0.mk (own_swap [_, _, _] [_] hq)
              clear hq HC
              gi_wp2_with (fail)
              refine ⟨trivial, ?_⟩
              gi_at_call 24
              refine (CallsIn.inRound l (callsIn_wide.2 (own_write HQ.out (aw 3) H6.out))).mono ?_
              rintro e w7 ⟨rfl, ho⟩
              have HZ := Aside0.mk (own_swap [_] [_, _, _] ho)
              clear ho HQ
              gi_wp2_with (fail)
              refine ⟨_, ⟨?_, _, _, H7.out, .inr (by simp)⟩, HZ.out⟩
              show _ = [BoxS b s, BldA BB (accD s (k + 1)), BoxI B6 (whD s (k + 1)), Pg6 B3 4 0 0 0 0 ⟨#[]⟩, Pg6 B2 0 0 0 0 0 ⟨#[]⟩]
              rw [IA.out, IW.out]
              simp
              done
            · have c3 : (is == 3) = false := by simpa using e3
              have HQ := Aside0.mk (own_swap [_, _, _] [_] HC.out)
              clear HC
              gi_wp2_with (fail)
              refine ⟨trivial, ?_⟩
              gi_at_call 24
              refine (CallsIn.inRound l (callsIn_wide.2 (own_write HQ.out (aw w0) H6.out))).mono ?_
              rintro e w7 ⟨rfl, ho⟩
              have HZ := Aside0.mk (own_swap [_] [_, _, _] ho)
              clear ho HQ
              gi_wp2_with (fail)
              refine ⟨_, ⟨?_, _, _, H7.out, by rw [if_neg e3]; exact HW'.out⟩, HZ.out⟩
              show _ = [BoxS b s, BldA BB (accD s (k + 1)), BoxI B6 (whD s (k + 1)), Pg6 B3 4 0 0 0 0 ⟨#[]⟩, Pg6 B2 0 0 0 0 0 ⟨#[]⟩]
              rw [IA.out, IW.out, if_neg e3]
              rfl
        case done =>
          rintro D L W ⟨rfl, x0, w0, hI, hw⟩ hO
          have e0 := Option.some.inj (HX.out.symm.trans hI)
          simp only [Prod.mk.injEq] at e0
          obtain ⟨rfl, rfl, rfl⟩ := e0
          obtain ⟨ia, iw⟩ := inv_acc hI
          have hO2 : Own.Own w W (Dfr D :: BoxS b s :: [BldA BB (accD s (s.size / 9)), BoxI B6 (whD s (s.size / 9)), Pg6 B3 4 0 0 0 0 ⟨#[]⟩, Pg6 B2 0 0 0 0 0 ⟨#[]⟩]) := hO
          rw [ia, iw] at hO2
          have hh := HH.out
          rw [if_neg (by decide)] at hh
          by_cases hz : x.size = 0
          · rw [if_pos hz] at hh
            cases hh
          · rw [if_neg hz] at hh
            have HZ := Lib.hid hz
            have HH2 := Aside0.mk hh
            have c4 : (wh == 4) = false := by simp; omega
            have HC := Aside0.mk hO2
            have z0 := blk_cell HC.out.drop.drop.drop.pt 0
            simp only [List.getElem?_toArray, List.getElem?_cons_zero] at z0
            have HC0 := Aside0.mk (own_swap [_, _] [_] HC.out.drew)
            have aw : Away [Dfr D, BoxS b s, BoxI B6 wh, Pg6 B3 4 0 0 0 0 ⟨#[]⟩, Pg6 B2 0 0 0 0 0 ⟨#[]⟩] := Away.cons (away_pt (by intro c fz e; cases e)) (Away.cons (away_pt (by intro c fz e; cases e)) (Away.cons (away_pt (by intro c fz e; cases e)) (Away.cons (away_pt (by intro c fz e; cases e)) (Away.cons (away_pt (by intro c fz e; cases e)) Away.nil))))
            clear hh HH hO hO2 hI ia iw hz hw HF
            go_upto_region 20 with (fail)
            go_region_held3 (fun w' => w'.cell? ⟨B6, 0, none⟩ = some (.int .i64 wh)) (go_keep) (first
              | (go_at_call 25; refine (own_string HC0.out aw HZ.out).mono ?_; rintro e w7 ⟨rfl, ho⟩; have HV := Aside0.mk ho; have c5 : w7.cell? ⟨B6, 0, none⟩ = some (.int .i64 wh) := (blk_cell HV.out.drop.drop.drop.pt 0); clear ho)
              | (go_at_call 33; refine (frame_whole.calls 40 _ _ _ _ _ _ _ _ _ HH2.out (Hw.laid_at HL HV.out.below)).mono ?_; rintro e w8 ⟨rfl, hb⟩; have HU := Aside0.mk (own_swap [_, _, _, _, _] [_] (HV.out.move hb)); have hp8 := HU.out.pt; have hlt := blk_lt hp8; have g0 := blk_frozen hp8 0; have g1 := blk_frozen hp8 1; have g2 := blk_frozen hp8 2; have g3 := blk_frozen hp8 3; have g4 := blk_frozen hp8 4; have g5 := blk_frozen hp8 5; have y0 := blk_cell hp8 0; have y1 := blk_cell hp8 1; have y2 := blk_cell hp8 2; have y3 := blk_cell hp8 3; have y4 := blk_cell hp8 4; have y5 := blk_cell hp8 5; simp only [List.getElem?_toArray, List.getElem?_cons_zero, List.getElem?_cons_succ] at y0 y1 y2 y3 y4 y5; have c6 : w8.cell? ⟨B6, 0, none⟩ = some (.int .i64 wh) := (blk_cell HU.out.drop.drop.drop.drop.pt 0); have hne : B6 ≠ B2 := own_ne (own_swap [_, _, _, _] [_] HU.out); have hne2 := hne.symm; clear hp8 hb))
            all_goals go_wp2_with fail
            all_goals rw [Exit.noGoto_ret]
            all_goals
              have hp := set6 HU.out (.int .i64 r1) (.int .i64 r2) (.int .i64 r3) (.int .i64 r4) (.int .i64 r5) (.string r6)
              have H5 := own_putObj (own_swap [_, _] [_] hp) (.deferred none)
              have hK := (own_swap [_, _] [_] hp).pt
              refine ⟨by simp, .inl ⟨_, _, rfl, run_takeDeferred hK, ?_⟩⟩
              exact ⟨_, page_res H5.drop rfl, rfl, H5.below⟩
        case stop =>
          rintro D c L W ⟨rfl, rfl, x0, rfl⟩ hO
          have hh := HH.out
          rw [if_pos rfl] at hh
          simp only [Option.some.injEq, Prod.mk.injEq] at hh
          obtain ⟨rfl, rfl, rfl, rfl, rfl, rfl⟩ := hh
          have HC := Aside0.mk hO
          have z6 := blk_cell HC.out.drop.drop.drop.pt 0
          simp only [List.getElem?_toArray, List.getElem?_cons_zero] at z6
          have HP := Aside0.mk (own_swap [_, _, _, _] [_, _] HC.out)
          obtain ⟨x0, x1, x2, x3, x4, x5⟩ := cells6 HP.out.pt
          have hlt := blk_lt HP.out.drop.pt
          have g0 := blk_frozen HP.out.drop.pt 0
          have g1 := blk_frozen HP.out.drop.pt 1
          have g2 := blk_frozen HP.out.drop.pt 2
          have g3 := blk_frozen HP.out.drop.pt 3
          have g4 := blk_frozen HP.out.drop.pt 4
          have g5 := blk_frozen HP.out.drop.pt 5
          have z0 := blk_cell HP.out.drop.pt 0
          have z1 := blk_cell HP.out.drop.pt 1
          have z2 := blk_cell HP.out.drop.pt 2
          have z3 := blk_cell HP.out.drop.pt 3
          have z4 := blk_cell HP.out.drop.pt 4
          have z5 := blk_cell HP.out.drop.pt 5
          simp only [List.getElem?_toArray, List.getElem?_cons_zero, List.getElem?_cons_succ] at z0 z1 z2 z3 z4 z5
          have c4 : ((4 : Int) == 4) = true := rfl
          clear hO HF
          refine wpIn_wide.2 ?_
          go_wp2_with fail
          have hp := set6 HP.out.pull2 (.int .i64 4) (.int .i64 0) (.int .i64 0) (.int .i64 0) (.int .i64 0) (.string ⟨#[]⟩)
          have H5 := own_putObj (own_swap [_, _] [_] hp) (.deferred none)
          have hK := (own_swap [_, _] [_] hp).pt
          refine ⟨by simp, .inl ⟨_, _, rfl, run_takeDeferred hK, ?_⟩⟩
          exact ⟨_, page_res H5.drop rfl, rfl, H5.below⟩
  · rw [if_neg hs] at h
    cases h
end Go.Proofs.YtbcgddacmjliaaaDoor.PF
