/- The law's proof: words, contracts of the functions that it reaches, plain lemmas. -/
import Derived.ArgAppend
import Derived.Below
import Derived.BigQuiet
import Derived.Carry
import Derived.Deep.AppendLies
import Derived.Deep.CutBlock
import Derived.Deep.DeepCutAuto
import Derived.Deep.Draws
import Derived.Deep.LoopGhost
import Derived.Deep.OwnRows
import Derived.Deep.QuietTactic
import Derived.Deep.RegionHeld3
import Derived.Deep.RegionWith
import Derived.KernelRfl
import Derived.Laws.BitsLemmas
import Derived.Laws.BytesArg
import Derived.Laws.IdiomCopy
import Derived.Laws.MakeOwn
import Derived.Laws.OwnMore
import Derived.Laws.Rows
import Derived.Laws.Slices
import Derived.Lib.AppendStr
import Derived.Lib.BufferMore
import Derived.Lib.ConvBytes
import Derived.Lib.Hide
import Derived.Lib.LazyBuf
import Derived.Maps.AppendAt
import Derived.OpenShut
import Derived.OrdersHeld
import Derived.Outline
import Derived.OwnWalk
import Derived.OwnWalkIn
import Derived.RegionTactic
import Derived.RowKit3
import Derived.StillTailTactics
import Derived.Tactics
import Derived.WalkKit
import Derived.WideLaws
import Derived.RegionIn
import Derived.ControlIn
import Derived.Sort.CutIn
import Derived.WalkMore
import Derived.Test.YtbcgddacmjliaaaDoorFx3
import Derived.Test.YtbcgddacmjliaaaDoorFx1
import Derived.Test.YtbcgddacmjliaaaDoorFx9
import Derived.Test.YtbcgddacmjliaaaDoorFx16
import Derived.Test.YtbcgddacmjliaaaDoorFx21
import Derived.Test.YtbcgddacmjliaaaDoorFx17
import Derived.Test.YtbcgddacmjliaaaDoorFx18
import Derived.Test.YtbcgddacmjliaaaDoorFx0
import Derived.Test.YtbcgddacmjliaaaDoorFx7
import Derived.Test.YtbcgddacmjliaaaDoorFx15
import Derived.Test.YtbcgddacmjliaaaDoorFx19
section
/- frame.Decode: what bytes are. -/
set_option linter.unusedVariables false
set_option linter.unusedSimpArgs false
namespace Go.Proofs.YtbcgddacmjliaaaDoor.PF
open Go.RowKit Go.Shelf Go.Proofs.YtbcgddacmjliaaaDoorW.PrintWords Go.Proofs.YtbcgddacmjliaaaDoor.Mem Go.Proofs.YtbcgddacmjliaaaDoor.Own Go.Proofs.YtbcgddacmjliaaaDoor.Rng Go.Proofs.YtbcgddacmjliaaaDoor.Hw

attribute [local go_sem] Oper.semAt_some
/-- The first j chunks: what they hold, what they are, and whether one is bad. -/
def decAt (s : ByteArray) : Nat → Option (ByteArray × Int × Bool)
  | 0 => some (⟨#[]⟩, 2, false)
  | j + 1 => (decAt s j).bind fun x => if x.2.2 = true then some x else (ham_Decode.f 40 (chk s j)).bind fun d => if d.2.1 = 4 then some (x.1, 4, true) else if x.1.size + d.1.size ≤ 140737488355328 then some (x.1 ++ d.1, if d.2.1 = 3 then 3 else x.2.1, false) else none
theorem decAt_le {s : ByteArray} (i : Nat) : ∀ (n : Nat) (r : ByteArray × Int × Bool), decAt s n = some r → i ≤ n → ∃ q, decAt s i = some q ∧ (q.2.2 = true → r = q)
  | 0, r, h, hi => ⟨r, by rw [Nat.le_zero.1 hi]; exact h, fun _ => rfl⟩
  | n + 1, r, h, hi => by
    rcases Nat.lt_or_ge n i with h1 | h1
    · have : i = n + 1 := by omega
      exact ⟨r, by rw [this]; exact h, fun _ => rfl⟩
    · obtain ⟨b, hb, h⟩ := Option.bind_eq_some_iff.mp h
      obtain ⟨q, hq, hr⟩ := decAt_le i n b hb h1
      refine ⟨q, hq, fun e => ?_⟩
      have := hr e
      subst this
      rw [if_pos e] at h
      exact (Option.some.inj h).symm
theorem decAt_step {s : ByteArray} {k n : Nat} {r : ByteArray × Int × Bool} {x : ByteArray} {wh : Int} (h : decAt s n = some r) (hk : k < n) (hI : decAt s k = some (x, wh, false)) :
    ∃ d is e, ham_Decode.f 40 (chk s k) = some (d, is, e) ∧ (is = 4 → r = (x, 4, true)) ∧ (is ≠ 4 → x.size + d.size ≤ 140737488355328 ∧ decAt s (k + 1) = some (x ++ d, if is = 3 then 3 else wh, false)) := by
  obtain ⟨q, hq, hr⟩ := decAt_le (k + 1) n r h hk
  have hq0 := hq
  obtain ⟨b, hb, hq⟩ := Option.bind_eq_some_iff.mp hq
  obtain rfl : (x, wh, false) = b := Option.some.inj (hI.symm.trans hb)
  rw [if_neg (by simp)] at hq
  obtain ⟨⟨d, is, e⟩, hd, hq⟩ := Option.bind_eq_some_iff.mp hq
  refine ⟨d, is, e, hd, fun h4 => ?_, fun h4 => ?_⟩
  · rw [if_pos h4] at hq
    have hq := (Option.some.inj hq).symm
    rw [hr (by rw [hq]), hq]
  · rw [if_neg h4] at hq
    by_cases hl : x.size + d.size ≤ 140737488355328
    · rw [if_pos hl] at hq
      exact ⟨hl, by rw [hq0, ← hq]⟩
    · rw [if_neg hl] at hq
      cases hq
abbrev Page6 := Int × Int × Int × Int × Int × ByteArray
def frame_Decode.f (s : ByteArray) : Option Page6 := if s.size ≤ 1000000 then (if s.size % 9 ≠ 0 ∨ s.size / 9 < 4 ∨ 35 < s.size / 9 then some (4, 0, 0, 0, 0, ⟨#[]⟩) else
  (frame_erased.f s).bind fun er => if er = true then some (1, 0, 0, 0, 0, ⟨#[]⟩) else (decAt s (s.size / 9)).bind fun x => if x.2.2 = true then some (4, 0, 0, 0, 0, ⟨#[]⟩) else if x.1.size = 0 then none else frame_whole.f 40 x.1 x.2.1) else none
abbrev Pg6 (g : Nat) (a b c d e : Int) (x : ByteArray) : Asn := Pt g (.cells #[.int .i64 a, .int .i64 b, .int .i64 c, .int .i64 d, .int .i64 e, .string x] 30)
abbrev BoxI (g : Nat) (a : Int) : Asn := Pt g (.cells #[.int .i64 a] 3)
theorem set6 {w0 w : World} {L : List Asn} {g : Nat} {T : TypeId} {a b c d e f : Value} (h : Own.Own w0 w (Pt g (.cells #[a, b, c, d, e, f] T (0, 0)) :: L)) (u1 u2 u3 u4 u5 u6 : Value) :
    Own.Own w0 ((((((w.setCell ⟨g, 0, none⟩ u1).setCell ⟨g, 1, none⟩ u2).setCell ⟨g, 2, none⟩ u3).setCell ⟨g, 3, none⟩ u4).setCell ⟨g, 4, none⟩ u5).setCell ⟨g, 5, none⟩ u6) (Pt g (.cells #[u1, u2, u3, u4, u5, u6] T (0, 0)) :: L) :=
  ((((((h.set (i := 0) u1).set (i := 1) u2).set (i := 2) u3).set (i := 3) u4).set (i := 4) u5).set (i := 5) u6)
def accD (s : ByteArray) (k : Nat) : ByteArray := ((decAt s k).getD (⟨#[]⟩, 2, false)).1
def whD (s : ByteArray) (k : Nat) : Int := ((decAt s k).getD (⟨#[]⟩, 2, false)).2.1
abbrev restD (BB B6 B3 B2 : Nat) (s : ByteArray) (k : Nat) : List Asn := [BldA BB (accD s k), BoxI B6 (whD s k), Pg6 B3 4 0 0 0 0 ⟨#[]⟩, Pg6 B2 0 0 0 0 0 ⟨#[]⟩]
def InvD (s : ByteArray) (k : Nat) : Prop := ∃ x wh, decAt s k = some (x, wh, false) ∧ (wh = 2 ∨ wh = 3)
theorem inv_acc {s : ByteArray} {k : Nat} {x : ByteArray} {wh : Int} {b : Bool} (h : decAt s k = some (x, wh, b)) : accD s k = x ∧ whD s k = wh := by unfold accD whD; rw [h]; exact ⟨rfl, rfl⟩
theorem own_ne {w0 w : World} {g h : Nat} {o o2 : Obj} {L : List Asn} (H : Own.Own w0 w (Pt g o :: Pt h o2 :: L)) : g ≠ h := by
  obtain ⟨_, S, ⟨S1, S2, ⟨_, h1⟩, ⟨S3, S4, ⟨_, h3⟩, _, _, i3, _⟩, d, _, _⟩, _⟩ := H
  rintro rfl
  exact d _ h1 (i3 _ h3)
/-- What the function's result cell holds. -/
theorem page_res {w0 W : World} {L : List Asn} {B2 : Nat} {a b c d e : Int} {x : ByteArray} {tmps : Array Value} (hp : Own.Own w0 W (Pg6 B2 a b c d e x :: L)) (ht : tmps[2]? = some (.pointer (some ⟨B2, 0, none⟩))) :
    (results Tryd.f12 tmps).run Tryd.prog W = .ok (.agg #[.int .i64 a, .int .i64 b, .int .i64 c, .int .i64 d, .int .i64 e, .string x]) W := by
  obtain ⟨y0, y1, y2, y3, y4, y5⟩ := cells6 hp.pt
  have hu30 := Tryd.underlying30
  have hu23 := Tryd.underlying23
  simp [results, Tryd.results12, go_sem, ht, y0, y1, y2, y3, y4, y5]
set_option maxHeartbeats 4000000 in
set_option maxRecDepth 100000 in
theorem frame_Decode.calls (s : ByteArray) (r1 r2 r3 r4 r5 : Int) (r6 : ByteArray) (w : World) (h : frame_Decode.f s = some (r1, r2, r3, r4, r5, r6)) (HL : Aside0 (Laid w) := by first | exact HL | exact Hw.laid_at HL (by repeat (first | (with_reducible first | exact HB.out | apply below_alloc | apply pw_below_drewN | apply below_drew1) | exact HB.out | exact Below.refl _ _ | refine below_set ?_ (by apply Aside0.out; assumption)))) :
    Calls Tryd.prog 12 #[.string s] w fun e w' => e = .returned (.agg #[.int .i64 r1, .int .i64 r2, .int .i64 r3, .int .i64 r4, .int .i64 r5, .string r6]) ∧ Below w.heap.size w w' := by
  unfold frame_Decode.f at h
  by_cases hs : s.size ≤ 1000000
  · rw [if_pos hs] at h
    have ha := ((Own.Own.new w).alloc (.cells #[.int .i64 0, .int .i64 0, .int .i64 0, .int .i64 0, .int .i64 0, .string ⟨#[]⟩] 30)).alloc (.cells #[.int .i64 4, .int .i64 0, .int .i64 0, .int .i64 0, .int .i64 0, .string ⟨#[]⟩] 30)
    rw [World.size_alloc] at ha
    obtain ⟨B2, hB2⟩ : ∃ B2, B2 = w.heap.size := ⟨_, rfl⟩
    obtain ⟨B3, hB3⟩ : ∃ B3, B3 = w.heap.size + 1 := ⟨_, rfl⟩
    rw [← hB3, ← hB2] at ha
    have HO := Aside0.mk ha
    have HB2 := Lib.hid hB2
    have HB3 := Lib.hid hB3
    have HS := Lib.hid hs
    obtain ⟨n, hn⟩ : ∃ n : Nat, n = s.size / 9 := ⟨_, rfl⟩
    obtain ⟨m, hm⟩ : ∃ m : Nat, m = s.size % 9 := ⟨_, rfl⟩
    rw [← hn, ← hm] at h
    have q1 : Int.tdiv (s.size : Int) 9 = (n : Int) := by rw [Int.tdiv_eq_ediv_of_nonneg (by omega)]; omega
    have q2 : Int.tmod (s.size : Int) 9 = (m : Int) := by rw [Int.tmod_eq_emod_of_nonneg (by omega)]; omega
    clear ha hs hB2 hB3
    refine (callsIn_wide (n := 3)).1 ?_
    refine callsIn_of_wp_marks Tryd.func12 rfl trivial ?_ rfl
    simp only [Tryd.ntmps12, List.size_toArray, List.length_cons, List.length_nil, Nat.reduceAdd, Nat.reduceSub, Array.replicate_succ, Array.replicate_zero, List.push_toArray, List.append_toArray, List.nil_append, List.cons_append]
    refine wpIn_wide.2 ?_
    have hu30 := Tryd.underlying30
    have hu23 := Tryd.underlying23
    go_wp2_with fail
    apply wp_scope_straight
    go_upto_region 2 with (fail)
    rw [← HB3.out, ← HB2.out]
    have hOO := HO.out
    clear HO
    generalize hW : World.alloc _ _ = w2 at hOO ⊢
    clear hW
    have HO := Aside0.mk hOO
    clear hOO
    by_cases hbad : m ≠ 0 ∨ n < 4 ∨ 35 < n
    · rw [if_pos hbad] at h
      simp only [Option.some.injEq, Prod.mk.injEq] at h
      obtain ⟨rfl, rfl, rfl, rfl, rfl, rfl⟩ := h
      obtain ⟨x0, x1, x2, x3, x4, x5⟩ := cells6 HO.out.pt
      have wn : wrap64 (n : Int) = (n : Int) := by unfold wrap64; have := HS.out; omega
      have wn2 : IntKind.i64.wrap (n : Int) = (n : Int) := (Go.Proofs.YtbcgddacmjliaaaDoorW.PrintLast.i64_w _).trans wn
      have hlt := blk_lt HO.out.drop.pt
      have g0 := blk_frozen HO.out.drop.pt 0
      have g1 := blk_frozen HO.out.drop.pt 1
      have g2 := blk_frozen HO.out.drop.pt 2
      have g3 := blk_frozen HO.out.drop.pt 3
      have g4 := blk_frozen HO.out.drop.pt 4
      have g5 := blk_frozen HO.out.drop.pt 5
      have z0 := blk_cell HO.out.drop.pt 0
      have z1 := blk_cell HO.out.drop.pt 1
      have z2 := blk_cell HO.out.drop.pt 2
      have z3 := blk_cell HO.out.drop.pt 3
      have z4 := blk_cell HO.out.drop.pt 4
      have z5 := blk_cell HO.out.drop.pt 5
      simp only [List.getElem?_toArray, List.getElem?_cons_zero, List.getElem?_cons_succ] at z0 z1 z2 z3 z4 z5
      by_cases e1 : m = 0
      · have c2 : ((m : Int) != 0) = false := by subst e1; rfl
        by_cases e2 : n < 4
        · have d1 : decide ((n : Int) < 4) = true := decide_eq_true (by omega)
          clear hbad hn hm
          go_wp2_with fail
          rw [Exit.noGoto_ret]
          have hp := set6 HO.out.pull2 (.int .i64 4) (.int .i64 0) (.int .i64 0) (.int .i64 0) (.int .i64 0) (.string ⟨#[]⟩)
          exact ⟨_, page_res hp rfl, rfl, hp.below⟩
        · have d1 : decide ((n : Int) < 4) = false := decide_eq_false (by omega)
          have d2 : decide (35 < (n : Int)) = true := decide_eq_true (by omega)
          clear hbad hn hm
          go_wp2_with fail
          rw [Exit.noGoto_ret]
          have hp := set6 HO.out.pull2 (.int .i64 4) (.int .i64 0) (.int .i64 0) (.int .i64 0) (.int .i64 0) (.string ⟨#[]⟩)
          exact ⟨_, page_res hp rfl, rfl, hp.below⟩
      · have c2 : ((m : Int) != 0) = true := by simp; omega
        clear hbad hn hm
        go_wp2_with fail
        rw [Exit.noGoto_ret]
        have hp := set6 HO.out.pull2 (.int .i64 4) (.int .i64 0) (.int .i64 0) (.int .i64 0) (.int .i64 0) (.string ⟨#[]⟩)
        exact ⟨_, page_res hp rfl, rfl, hp.below⟩
    · rw [if_neg hbad] at h
      obtain ⟨er, her, h⟩ := Option.bind_eq_some_iff.mp h
      have m0 : m = 0 := by omega
      have n4 : 4 ≤ n := by omega
      have n35 : n ≤ 35 := by omega
      clear hbad
      subst m0
      have wn : wrap64 (n : Int) = (n : Int) := by unfold wrap64; have := HS.out; omega
      have wn2 : IntKind.i64.wrap (n : Int) = (n : Int) := (Go.Proofs.YtbcgddacmjliaaaDoorW.PrintLast.i64_w _).trans wn
      have c2 : (((0 : Nat) : Int) != 0) = false := rfl
      have d1 : decide ((n : Int) < 4) = false := decide_eq_false (by omega)
      have d2 : decide (35 < (n : Int)) = false := decide_eq_false (by omega)
      have HE := Aside0.mk her
      have HN := Lib.hid hn
      clear her hm hn
      go_wp2_with fail
      refine (frame_erased.calls s er _ HE.out (Hw.laid_at HL HO.out.below)).mono ?_
      rintro e w3 ⟨rfl, hb⟩
      have HP := Aside0.mk (HO.out.move hb)
      clear hb HO
      cases er with
      | true =>
        rw [if_pos rfl] at h
        simp only [Option.some.injEq, Prod.mk.injEq] at h
        obtain ⟨rfl, rfl, rfl, rfl, rfl, rfl⟩ := h
        have hlt := blk_lt HP.out.drop.pt
        have g0 := blk_frozen HP.out.drop.pt 0
        have g1 := blk_frozen HP.out.drop.pt 1
        have g2 := blk_frozen HP.out.drop.pt 2
        have g3 := blk_frozen HP.out.drop.pt 3
        have g4 := blk_frozen HP.out.drop.pt 4
        have g5 := blk_frozen HP.out.drop.pt 5
        have z0 := blk_cell HP.out.drop.pt 0
        have z1 := blk_cell HP.out.drop.pt 1
        have z2 := blk_cell HP.out.drop.pt 2
        have z3 := blk_cell HP.out.drop.pt 3
        have z4 := blk_cell HP.out.drop.pt 4
        have z5 := blk_cell HP.out.drop.pt 5
        simp only [List.getElem?_toArray, List.getElem?_cons_zero, List.getElem?_cons_succ] at z0 z1 z2 z3 z4 z5
        go_wp2_with fail
        rw [Exit.noGoto_ret]
        have hp := set6 HP.out.pull2 (.int .i64 1) (.int .i64 0) (.int .i64 0) (.int .i64 0) (.int .i64 0) (.string ⟨#[]⟩)
        exact ⟨_, page_res hp rfl, rfl, hp.below⟩
      | false =>
        rw [if_neg (by decide)] at h
        obtain ⟨⟨x, wh, bad⟩, hx, h⟩ := Option.bind_eq_some_iff.mp h
        have HX := Aside0.mk hx
        have HH := Aside0.mk h
        clear hx h
        go_upto_region 9 with (fail)
        have ho := (own_bld HP.out).alloc (.cells #[.int .i64 2] 3)
        rw [World.size_alloc] at ho
        obtain ⟨BB, hBB⟩ : ∃ B, B = w3.heap.size := ⟨_, rfl⟩
        obtain ⟨B6, hB6⟩ : ∃ B, B = w3.heap.size + 1 := ⟨_, rfl⟩
        rw [← hB6, ← hBB] at ho
        rw [← hB6, ← hBB]
        clear HP hB6 hBB
        generalize hW : World.alloc _ _ = w4 at ho ⊢
        clear hW
        have HQ := Aside0.mk (own_swap [_] [_] ho)
        clear ho
        go_wp2_with fail
        apply wp_label
        go_wp2_with fail
        refine (chunks_own s HQ.out).mono ?_
        rintro e w5 ⟨b, rfl, ho⟩
        have HF := Aside0.mk (show Own.Own w w5 (ChL b s (restD BB B6 B3 B2 s) 0) from ho)
        clear ho HQ
        go_wp2_with fail
        have hx2 : decAt s (s.size / 9) = some (x, wh, bad) := by rw [← HN.out]; exact HX.out
        clear HX
        have HX := Aside0.mk hx2
        clear hx2
        refine (wpIn_wide (n := 3)).1 ?_
        refine wp_range_loop (n := 3) (by omega) (gf := 58) (lb := #[.pointer (some ⟨b, 0, none⟩)]) rfl (enters_of Tryd.func58 (by kernel_rfl) rfl) (fun _ => rfl)
          (chunks_iter w b s HS.out (restD BB B6 B3 B2 s) (InvD s) ⟨_, _, rfl, .inl rfl⟩) HF.out
          (fun c L => c = .exit 0 ∧ bad = true ∧ ∃ x0, L = [BoxS b s, BldA BB x0, BoxI B6 4, Pg6 B3 4 0 0 0 0 ⟨#[]⟩, Pg6 B2 0 0 0 0 0 ⟨#[]⟩]) ?round ?done ?stop
        case round =>
          rintro l D o k c Lk W ⟨q0, rfl⟩ ⟨hk, hc, rfl, x0, w0, hI, hw⟩ hO
          subst hc
          obtain ⟨dd, is, ee, hd, h4, h5⟩ := decAt_step HX.out hk hI
          obtain ⟨ia, iw⟩ := inv_acc hI
          have hO2 : Own.Own w W (Dfr D :: Pt l (.loop q0) :: BoxS b s :: [BldA BB (accD s k), BoxI B6 (whD s k), Pg6 B3 4 0 0 0 0 ⟨#[]⟩, Pg6 B2 0 0 0 0 0 ⟨#[]⟩]) := hO
          rw [ia, iw] at hO2
          have HD := Aside0.mk hd
          have H4 := Aside0.mk h4
          have H5 := Aside0.mk h5
          have HW' := Lib.hid hw
          clear hd h4 h5 hI ia iw hO hw
          gi_wp2_with (fail)
          refine ⟨_, hO2, ?_⟩
          rintro o2 W2 ⟨q2, rfl⟩ h2
          gi_wp2_with (fail)
          refine ⟨trivial, ?_⟩
          gi_at_call 32
          refine (CallsIn.inRound l (callsIn_wide.2 (ham_Decode.calls 40 _ _ _ _ _ HD.out (Hw.laid_at HL h2.below)))).mono ?_
          rintro e w6 ⟨rfl, hb⟩
          have HC := Aside0.mk (h2.move hb)
          clear h2 hb hO2
          have z0 := blk_cell HC.out.drop.drop.drop.drop.pt 0
          have g0 := blk_frozen HC.out.drop.drop.drop.drop.pt 0
          simp only [List.getElem?_toArray, List.getElem?_cons_zero] at z0
          by_cases e4 : is = 4
          · have c4 : (is == 4) = true := by simpa using e4
            have hb1 : bad = true := by have := H4.out e4; simp only [Prod.mk.injEq] at this; exact this.2.2
            subst e4
            gi_wp2_with (fail)
            have hq := own_swap [_] [_, _, _, _] ((own_swap [_, _, _, _] [_] HC.out).set (i := 0) (.int .i64 4))
            exact ⟨_, ⟨rfl, hb1, _, rfl⟩, hq⟩
          · have c4 : (is == 4) = false := by simpa using e4
            obtain ⟨h6, h7⟩ := H5.out e4
            have H6 := Lib.hid h6
            have H7 := Aside0.mk h7
            obtain ⟨ia, iw⟩ := inv_acc h7
            have IA := Lib.hid ia
            have IW := Lib.hid iw
            have aw : ∀ v : Int, Away [Dfr D, Pt l (.loop q2), BoxS b s, BoxI B6 v, Pg6 B3 4 0 0 0 0 ⟨#[]⟩, Pg6 B2 0 0 0 0 0 ⟨#[]⟩] := fun v => Away.cons (away_pt (by intro c fz e; cases e)) (Away.cons (away_pt (by intro c fz e; cases e)) (Away.cons (away_pt (by intro c fz e; cases e)) (Away.cons (away_pt (by intro c fz e; cases e)) (Away.cons (away_pt (by intro c fz e; cases e)) (Away.cons (away_pt (by intro c fz e; cases e)) Away.nil)))))
            clear h6 h7 ia iw
            by_cases e3 : is = 3
            · subst e3
              have hq := own_swap [_] [_, _, _, _] ((own_swap [_, _, _, _] [_] HC.out).set (i := 0) (.int .i64 3))
              have HQ := Aside0.mk (own_swap [_, _, _] [_] hq)
              clear hq HC
              gi_wp2_with (fail)
              refine ⟨trivial, ?_⟩
              gi_at_call 24
              refine (CallsIn.inRound l (callsIn_wide.2 (own_write HQ.out (aw 3) H6.out))).mono ?_
              rintro e w7 ⟨rfl, ho⟩
              have HZ := Aside0.mk (own_swap [_] [_, _, _] ho)
              clear ho HQ
              gi_wp2_with (fail)
              refine ⟨_, ⟨?_, _, _, H7.out, .inr (by simp)⟩, HZ.out⟩
              show _ = [BoxS b s, BldA BB (accD s (k + 1)), BoxI B6 (whD s (k + 1)), Pg6 B3 4 0 0 0 0 ⟨#[]⟩, Pg6 B2 0 0 0 0 0 ⟨#[]⟩]
              rw [IA.out, IW.out]
              simp
              done
            · have c3 : (is == 3) = false := by simpa using e3
              have HQ := Aside0.mk (own_swap [_, _, _] [_] HC.out)
              clear HC
              gi_wp2_with (fail)
              refine ⟨trivial, ?_⟩
              gi_at_call 24
              refine (CallsIn.inRound l (callsIn_wide.2 (own_write HQ.out (aw w0) H6.out))).mono ?_
              rintro e w7 ⟨rfl, ho⟩
              have HZ := Aside0.mk (own_swap [_] [_, _, _] ho)
              clear ho HQ
              gi_wp2_with (fail)
              refine ⟨_, ⟨?_, _, _, H7.out, by rw [if_neg e3]; exact HW'.out⟩, HZ.out⟩
              show _ = [BoxS b s, BldA BB (accD s (k + 1)), BoxI B6 (whD s (k + 1)), Pg6 B3 4 0 0 0 0 ⟨#[]⟩, Pg6 B2 0 0 0 0 0 ⟨#[]⟩]
              rw [IA.out, IW.out, if_neg e3]
              rfl
        case done =>
          rintro D L W ⟨rfl, x0, w0, hI, hw⟩ hO
          have e0 := Option.some.inj (HX.out.symm.trans hI)
          simp only [Prod.mk.injEq] at e0
          obtain ⟨rfl, rfl, rfl⟩ := e0
          obtain ⟨ia, iw⟩ := inv_acc hI
          have hO2 : Own.Own w W (Dfr D :: BoxS b s :: [BldA BB (accD s (s.size / 9)), BoxI B6 (whD s (s.size / 9)), Pg6 B3 4 0 0 0 0 ⟨#[]⟩, Pg6 B2 0 0 0 0 0 ⟨#[]⟩]) := hO
          rw [ia, iw] at hO2
          have hh := HH.out
          rw [if_neg (by decide)] at hh
          by_cases hz : x.size = 0
          · rw [if_pos hz] at hh
            cases hh
          · rw [if_neg hz] at hh
            have HZ := Lib.hid hz
            have HH2 := Aside0.mk hh
            have c4 : (wh == 4) = false := by simp; omega
            have HC := Aside0.mk hO2
            have z0 := blk_cell HC.out.drop.drop.drop.pt 0
            simp only [List.getElem?_toArray, List.getElem?_cons_zero] at z0
            have HC0 := Aside0.mk (own_swap [_, _] [_] HC.out.drew)
            have aw : Away [Dfr D, BoxS b s, BoxI B6 wh, Pg6 B3 4 0 0 0 0 ⟨#[]⟩, Pg6 B2 0 0 0 0 0 ⟨#[]⟩] := Away.cons (away_pt (by intro c fz e; cases e)) (Away.cons (away_pt (by intro c fz e; cases e)) (Away.cons (away_pt (by intro c fz e; cases e)) (Away.cons (away_pt (by intro c fz e; cases e)) (Away.cons (away_pt (by intro c fz e; cases e)) Away.nil))))
            clear hh HH hO hO2 hI ia iw hz hw HF
            go_upto_region 20 with (fail)
            go_region_held3 (fun w' => w'.cell? ⟨B6, 0, none⟩ = some (.int .i64 wh)) (go_keep) (first
              | (go_at_call 25; refine (own_string HC0.out aw HZ.out).mono ?_; rintro e w7 ⟨rfl, ho⟩; have HV := Aside0.mk ho; have c5 : w7.cell? ⟨B6, 0, none⟩ = some (.int .i64 wh) := (blk_cell HV.out.drop.drop.drop.pt 0); clear ho)
              | (go_at_call 33; refine (frame_whole.calls 40 _ _ _ _ _ _ _ _ _ HH2.out (Hw.laid_at HL HV.out.below)).mono ?_; rintro e w8 ⟨rfl, hb⟩; have HU := Aside0.mk (own_swap [_, _, _, _, _] [_] (HV.out.move hb)); have hp8 := HU.out.pt; have hlt := blk_lt hp8; have g0 := blk_frozen hp8 0; have g1 := blk_frozen hp8 1; have g2 := blk_frozen hp8 2; have g3 := blk_frozen hp8 3; have g4 := blk_frozen hp8 4; have g5 := blk_frozen hp8 5; have y0 := blk_cell hp8 0; have y1 := blk_cell hp8 1; have y2 := blk_cell hp8 2; have y3 := blk_cell hp8 3; have y4 := blk_cell hp8 4; have y5 := blk_cell hp8 5; simp only [List.getElem?_toArray, List.getElem?_cons_zero, List.getElem?_cons_succ] at y0 y1 y2 y3 y4 y5; have c6 : w8.cell? ⟨B6, 0, none⟩ = some (.int .i64 wh) := (blk_cell HU.out.drop.drop.drop.drop.pt 0); have hne : B6 ≠ B2 := own_ne (own_swap [_, _, _, _] [_] HU.out); have hne2 := hne.symm; clear hp8 hb))
            all_goals go_wp2_with fail
            all_goals rw [Exit.noGoto_ret]
            all_goals
              have hp := set6 HU.out (.int .i64 r1) (.int .i64 r2) (.int .i64 r3) (.int .i64 r4) (.int .i64 r5) (.string r6)
              have H5 := own_putObj (own_swap [_, _] [_] hp) (.deferred none)
              have hK := (own_swap [_, _] [_] hp).pt
              refine ⟨by simp, .inl ⟨_, _, rfl, run_takeDeferred hK, ?_⟩⟩
              exact ⟨_, page_res H5.drop rfl, rfl, H5.below⟩
        case stop =>
          rintro D c L W ⟨rfl, rfl, x0, rfl⟩ hO
          have hh := HH.out
          rw [if_pos rfl] at hh
          simp only [Option.some.injEq, Prod.mk.injEq] at hh
          obtain ⟨rfl, rfl, rfl, rfl, rfl, rfl⟩ := hh
          have HC := Aside0.mk hO
          have z6 := blk_cell HC.out.drop.drop.drop.pt 0
          simp only [List.getElem?_toArray, List.getElem?_cons_zero] at z6
          have HP := Aside0.mk (own_swap [_, _, _, _] [_, _] HC.out)
          obtain ⟨x0, x1, x2, x3, x4, x5⟩ := cells6 HP.out.pt
          have hlt := blk_lt HP.out.drop.pt
          have g0 := blk_frozen HP.out.drop.pt 0
          have g1 := blk_frozen HP.out.drop.pt 1
          have g2 := blk_frozen HP.out.drop.pt 2
          have g3 := blk_frozen HP.out.drop.pt 3
          have g4 := blk_frozen HP.out.drop.pt 4
          have g5 := blk_frozen HP.out.drop.pt 5
          have z0 := blk_cell HP.out.drop.pt 0
          have z1 := blk_cell HP.out.drop.pt 1
          have z2 := blk_cell HP.out.drop.pt 2
          have z3 := blk_cell HP.out.drop.pt 3
          have z4 := blk_cell HP.out.drop.pt 4
          have z5 := blk_cell HP.out.drop.pt 5
          simp only [List.getElem?_toArray, List.getElem?_cons_zero, List.getElem?_cons_succ] at z0 z1 z2 z3 z4 z5
          have c4 : ((4 : Int) == 4) = true := rfl
          clear hO HF
          refine wpIn_wide.2 ?_
          go_wp2_with fail
          have hp := set6 HP.out.pull2 (.int .i64 4) (.int .i64 0) (.int .i64 0) (.int .i64 0) (.int .i64 0) (.string ⟨#[]⟩)
          have H5 := own_putObj (own_swap [_, _] [_] hp) (.deferred none)
          have hK := (own_swap [_, _] [_] hp).pt
          refine ⟨by simp, .inl ⟨_, _, rfl, run_takeDeferred hK, ?_⟩⟩
          exact ⟨_, page_res H5.drop rfl, rfl, H5.below⟩
  · rw [if_neg hs] at h
    cases h
end Go.Proofs.YtbcgddacmjliaaaDoor.PF
end

section
-- Written by a program (the kit's print.py, called by wip/bin/prseat.sh, mended by wip/bin/mend.py).
namespace Go.Proofs.YtbcgddacmjliaaaDoor.PF
open Go.Proofs.YtbcgddacmjliaaaDoor.Tf Go.RowKit Go.Proofs.YtbcgddacmjliaaaDoorW.PrintWords Go.Proofs.YtbcgddacmjliaaaDoorW.PrintLast Go.Proofs.YtbcgddacmjliaaaDoorW.PrintMore
attribute [local go_sem] max2_int min2_int max_two min_two max_three min_three max_four min_four   -- for this text's walks alone
set_option linter.unusedVariables false
set_option linter.unnecessarySimpa false
set_option linter.unusedSimpArgs false

attribute [local go_sem high] eqA30
/-! ### decklelaw05_works: function 9 -/
def decklelaw05_works.f  : Option (Bool) := (frame_Encode.f 1 2 3 4 (⟨#[97, 98, 99, 100, 101, 102, 103, 104]⟩ : ByteArray)).bind fun bt156 => ((frame_Blank.f 8).bind fun t158 => (if bt156.2 = 0 then (if (bt156.1.size : Int) = 36 then ((frame_Decode.f bt156.1).bind fun bt159 => (if (bt159.1 == 2 && ((bt159.2.1 == 1 && (bt159.2.2.1 == 2 && (bt159.2.2.2.1 == 3 && (bt159.2.2.2.2.1 == 4)))) && (bt159.2.2.2.2.2.toList == ([97, 98, 99, 100, 101, 102, 103, 104] : List UInt8)))) = true then (if (t158.size : Int) = 36 then ((frame_Decode.f t158).bind fun bt165 => (if (bt165.1 == 1 && ((bt165.2.1 == 0 && (bt165.2.2.1 == 0 && (bt165.2.2.2.1 == 0 && (bt165.2.2.2.2.1 == 0)))) && (bt165.2.2.2.2.2.toList == ([] : List UInt8)))) = true then ((frame_Hurt.f t158 0 0).bind fun t171 => ((frame_Decode.f t171).bind fun bt172 => (some (bt172.1 == 4 && ((bt172.2.1 == 0 && (bt172.2.2.1 == 0 && (bt172.2.2.2.1 == 0 && (bt172.2.2.2.2.1 == 0)))) && (bt172.2.2.2.2.2.toList == ([] : List UInt8))))))) else (some false))) else (some false)) else (some false))) else (some false)) else (some false)))
def decklelaw05_works.T4 : Bool × List (List Nat × List Nat) := (true, [([], []), ([0], [0]), ([1], [1]), ([2], [2]), ([3, 2], [2, 3]), ([4, 2], [2, 4]), ([2, 5], [2, 5]), ([6, 2], [6]), ([7], [7]), ([8, 7, 7], [7, 8]), ([7], [7]), ([10, 7], [7, 10]), ([9, 11, 7], [7, 9, 11]), ([7, 12], [7, 12]), ([13, 9], [13]), ([14], [14]), ([15, 14], [14, 15]), ([16, 14], [14, 16]), ([14, 17], [14, 17]), ([18, 14], [18]), ([19], [19]), ([20, 19, 19], [19, 20]), ([19], [19]), ([21, 22, 19], [19, 21, 22]), ([19, 23], [19, 23]), ([24, 21], [24]), ([25], [25]), ([26, 25, 25], [25, 26]), ([27, 27, 25], [25, 27]), ([25], [25]), ([28, 29, 25], [25, 28, 29]), ([25, 30], [25, 30]), ([31, 28, 0, 1, 2, 3, 4, 5, 6, 7, 8, 9, 10, 11, 12, 13, 14, 15, 16, 17, 18, 19, 20, 21, 22, 23, 24, 25, 26, 27, 28, 29, 30, 31], [31])])
def decklelaw05_works.B4 : List Nat := [0, 1, 3, 7, 15, 31, 63, 127, 255, 511, 255, 1279, 4095, 8191, 16383, 32767, 65535, 131071, 262143, 524287, 1048575, 2097151, 1048575, 8388607, 16777215, 33554431, 67108863, 134217727, 268435455, 67108863, 1073741823, 2147483647, 4294967295]
theorem decklelaw05_works.tab4 : rtab .any (opsOf Tryd.f9 4) = decklelaw05_works.T4 := by kernel_rfl
theorem decklelaw05_works.bits4 : waitsOk decklelaw05_works.T4.2 decklelaw05_works.B4 = true := by kernel_rfl
theorem works_dec1 {B : ByteArray} {a b c d e : Int} {x : ByteArray} (h : frame_Blank.f 8 = some B) (h2 : frame_Decode.f B = some (a, b, c, d, e, x)) : a = 1 ∧ b = 0 ∧ c = 0 ∧ d = 0 ∧ e = 0 ∧ x = ⟨#[]⟩ := by
  have h3 : (frame_Blank.f 8).bind (fun B => frame_Decode.f B) = some (1, 0, 0, 0, 0, ⟨#[]⟩) := by kernel_rfl
  rw [h] at h3
  have h4 := Option.some.inj (h2.symm.trans h3)
  simp only [Prod.mk.injEq] at h4
  exact h4
theorem works_true : decklelaw05_works.f = some true := by kernel_rfl
set_option maxHeartbeats 8000000 in
set_option maxRecDepth 100000 in
theorem decklelaw05_works.calls  (r : Bool) (w : World) (h : decklelaw05_works.f  = some r) (HL : Aside0 (Hw.Laid w) := by first | exact HL | exact Hw.laid_at HL (by repeat (first | (with_reducible first | exact HB.out | apply below_alloc | apply pw_below_drewN | apply below_drew1) | exact HB.out | exact Below.refl _ _ | refine below_set ?_ (by apply Aside0.out; assumption)))) :
    Calls Tryd.prog 9 #[] w fun e w' => e = .returned (.bool r) ∧ Below w.heap.size w w' := by
  have hu23 := Tryd.underlying23
  have hu30 := Tryd.underlying30
  have HB := Aside0.mk (Below.refl w.heap.size w)
  have H : ((frame_Encode.f 1 2 3 4 (⟨#[97, 98, 99, 100, 101, 102, 103, 104]⟩ : ByteArray)).bind fun bt156 => ((frame_Blank.f 8).bind fun t158 => (if bt156.2 = 0 then (if (bt156.1.size : Int) = 36 then ((frame_Decode.f bt156.1).bind fun bt159 => (if (bt159.1 == 2 && ((bt159.2.1 == 1 && (bt159.2.2.1 == 2 && (bt159.2.2.2.1 == 3 && (bt159.2.2.2.2.1 == 4)))) && (bt159.2.2.2.2.2.toList == ([97, 98, 99, 100, 101, 102, 103, 104] : List UInt8)))) = true then (if (t158.size : Int) = 36 then ((frame_Decode.f t158).bind fun bt165 => (if (bt165.1 == 1 && ((bt165.2.1 == 0 && (bt165.2.2.1 == 0 && (bt165.2.2.2.1 == 0 && (bt165.2.2.2.2.1 == 0)))) && (bt165.2.2.2.2.2.toList == ([] : List UInt8)))) = true then ((frame_Hurt.f t158 0 0).bind fun t171 => ((frame_Decode.f t171).bind fun bt172 => (some (bt172.1 == 4 && ((bt172.2.1 == 0 && (bt172.2.2.1 == 0 && (bt172.2.2.2.1 == 0 && (bt172.2.2.2.2.1 == 0)))) && (bt172.2.2.2.2.2.toList == ([] : List UInt8))))))) else (some false))) else (some false)) else (some false))) else (some false)) else (some false)))) = some r := h
  have HRT := Aside0.mk (Option.some.inj (h.symm.trans works_true))
  clear h
  replace H := Option.bind_eq_some_iff.mp H
  obtain ⟨⟨t156, t157⟩, A10, H⟩ := H
  replace H : ((frame_Blank.f 8).bind fun t158 => (if t157 = 0 then (if (t156.size : Int) = 36 then ((frame_Decode.f t156).bind fun bt159 => (if (bt159.1 == 2 && ((bt159.2.1 == 1 && (bt159.2.2.1 == 2 && (bt159.2.2.2.1 == 3 && (bt159.2.2.2.2.1 == 4)))) && (bt159.2.2.2.2.2.toList == ([97, 98, 99, 100, 101, 102, 103, 104] : List UInt8)))) = true then (if (t158.size : Int) = 36 then ((frame_Decode.f t158).bind fun bt165 => (if (bt165.1 == 1 && ((bt165.2.1 == 0 && (bt165.2.2.1 == 0 && (bt165.2.2.2.1 == 0 && (bt165.2.2.2.2.1 == 0)))) && (bt165.2.2.2.2.2.toList == ([] : List UInt8)))) = true then ((frame_Hurt.f t158 0 0).bind fun t171 => ((frame_Decode.f t171).bind fun bt172 => (some (bt172.1 == 4 && ((bt172.2.1 == 0 && (bt172.2.2.1 == 0 && (bt172.2.2.2.1 == 0 && (bt172.2.2.2.2.1 == 0)))) && (bt172.2.2.2.2.2.toList == ([] : List UInt8))))))) else (some false))) else (some false)) else (some false))) else (some false)) else (some false))) = some r := H
  have A1 := Aside0.mk A10
  clear A10
  replace H := Option.bind_eq_some_iff.mp H
  obtain ⟨t158, A20, H⟩ := H
  replace H : (if t157 = 0 then (if (t156.size : Int) = 36 then ((frame_Decode.f t156).bind fun bt159 => (if (bt159.1 == 2 && ((bt159.2.1 == 1 && (bt159.2.2.1 == 2 && (bt159.2.2.2.1 == 3 && (bt159.2.2.2.2.1 == 4)))) && (bt159.2.2.2.2.2.toList == ([97, 98, 99, 100, 101, 102, 103, 104] : List UInt8)))) = true then (if (t158.size : Int) = 36 then ((frame_Decode.f t158).bind fun bt165 => (if (bt165.1 == 1 && ((bt165.2.1 == 0 && (bt165.2.2.1 == 0 && (bt165.2.2.2.1 == 0 && (bt165.2.2.2.2.1 == 0)))) && (bt165.2.2.2.2.2.toList == ([] : List UInt8)))) = true then ((frame_Hurt.f t158 0 0).bind fun t171 => ((frame_Decode.f t171).bind fun bt172 => (some (bt172.1 == 4 && ((bt172.2.1 == 0 && (bt172.2.2.1 == 0 && (bt172.2.2.2.1 == 0 && (bt172.2.2.2.2.1 == 0)))) && (bt172.2.2.2.2.2.toList == ([] : List UInt8))))))) else (some false))) else (some false)) else (some false))) else (some false)) else (some false)) = some r := H
  have A2 := Aside0.mk A20
  clear A20
  by_cases c3 : t157 = 0
  · rw [if_pos c3] at H
    have c3b0 : (t157 == 0) = true := beq_iff_eq.mpr c3
    have c3b1 : (t157 != 0) = false := bne_eq_false_iff_eq.mpr c3
    clear c3
    by_cases c4 : (t156.size : Int) = 36
    · rw [if_pos c4] at H
      have c4b0 : ((t156.size : Int) == 36) = true := beq_iff_eq.mpr c4
      have c4b1 : ((t156.size : Int) != 36) = false := bne_eq_false_iff_eq.mpr c4
      clear c4
      replace H := Option.bind_eq_some_iff.mp H
      obtain ⟨⟨t159, t160, t161, t162, t163, t164⟩, A50, H⟩ := H
      replace H : (if (t159 == 2 && ((t160 == 1 && (t161 == 2 && (t162 == 3 && (t163 == 4)))) && (t164.toList == ([97, 98, 99, 100, 101, 102, 103, 104] : List UInt8)))) = true then (if (t158.size : Int) = 36 then ((frame_Decode.f t158).bind fun bt165 => (if (bt165.1 == 1 && ((bt165.2.1 == 0 && (bt165.2.2.1 == 0 && (bt165.2.2.2.1 == 0 && (bt165.2.2.2.2.1 == 0)))) && (bt165.2.2.2.2.2.toList == ([] : List UInt8)))) = true then ((frame_Hurt.f t158 0 0).bind fun t171 => ((frame_Decode.f t171).bind fun bt172 => (some (bt172.1 == 4 && ((bt172.2.1 == 0 && (bt172.2.2.1 == 0 && (bt172.2.2.2.1 == 0 && (bt172.2.2.2.2.1 == 0)))) && (bt172.2.2.2.2.2.toList == ([] : List UInt8))))))) else (some false))) else (some false)) else (some false)) = some r := H
      have A5 := Aside0.mk A50
      clear A50
      by_cases c6 : (t159 == 2 && ((t160 == 1 && (t161 == 2 && (t162 == 3 && (t163 == 4)))) && (t164.toList == ([97, 98, 99, 100, 101, 102, 103, 104] : List UInt8)))) = true
      · rw [if_pos c6] at H
        have c6b0 : (t159 == 2 && ((t160 == 1 && (t161 == 2 && (t162 == 3 && (t163 == 4)))) && (t164.toList == ([97, 98, 99, 100, 101, 102, 103, 104] : List UInt8)))) = true := c6
        (try (have c6b1 : decide (t159 = 2 && ((t160 == 1 && (t161 == 2 && (t162 == 3 && (t163 == 4)))) && (t164.toList == ([97, 98, 99, 100, 101, 102, 103, 104] : List UInt8)))) = true := by simpa using c6))
        (try (have c6b2 : (t159 == 2 && ((t160 == 1 && (t161 == 2 && (t162 == 3 && (t163 == 4)))) && (t164.toList == ([97, 98, 99, 100, 101, 102, 103, 104] : List UInt8)))) = true := by simpa using c6))
        clear c6
        by_cases c7 : (t158.size : Int) = 36
        · rw [if_pos c7] at H
          have c7b0 : ((t158.size : Int) == 36) = true := beq_iff_eq.mpr c7
          have c7b1 : ((t158.size : Int) != 36) = false := bne_eq_false_iff_eq.mpr c7
          clear c7
          replace H := Option.bind_eq_some_iff.mp H
          obtain ⟨⟨t165, t166, t167, t168, t169, t170⟩, A80, H⟩ := H
          replace H : (if (t165 == 1 && ((t166 == 0 && (t167 == 0 && (t168 == 0 && (t169 == 0)))) && (t170.toList == ([] : List UInt8)))) = true then ((frame_Hurt.f t158 0 0).bind fun t171 => ((frame_Decode.f t171).bind fun bt172 => (some (bt172.1 == 4 && ((bt172.2.1 == 0 && (bt172.2.2.1 == 0 && (bt172.2.2.2.1 == 0 && (bt172.2.2.2.2.1 == 0)))) && (bt172.2.2.2.2.2.toList == ([] : List UInt8))))))) else (some false)) = some r := H
          obtain ⟨rfl, rfl, rfl, rfl, rfl, rfl⟩ := works_dec1 A2.out A80
          have A8 := Aside0.mk A80
          clear A80
          by_cases c9 : ((1 : Int) == 1 && (((0 : Int) == 0 && ((0 : Int) == 0 && ((0 : Int) == 0 && ((0 : Int) == 0)))) && ((⟨#[]⟩ : ByteArray).toList == ([] : List UInt8)))) = true
          · rw [if_pos c9] at H
            have c9b0 : ((1 : Int) == 1 && (((0 : Int) == 0 && ((0 : Int) == 0 && ((0 : Int) == 0 && ((0 : Int) == 0)))) && ((⟨#[]⟩ : ByteArray).toList == ([] : List UInt8)))) = true := c9
            (try (have c9b1 : decide ((1 : Int) = 1 && (((0 : Int) == 0 && ((0 : Int) == 0 && ((0 : Int) == 0 && ((0 : Int) == 0)))) && ((⟨#[]⟩ : ByteArray).toList == ([] : List UInt8)))) = true := by simpa using c9))
            (try (have c9b2 : ((1 : Int) == 1 && (((0 : Int) == 0 && ((0 : Int) == 0 && ((0 : Int) == 0 && ((0 : Int) == 0)))) && ((⟨#[]⟩ : ByteArray).toList == ([] : List UInt8)))) = true := by simpa using c9))
            clear c9
            replace H := Option.bind_eq_some_iff.mp H
            obtain ⟨t171, A100, H⟩ := H
            replace H : ((frame_Decode.f t171).bind fun bt172 => (some (bt172.1 == 4 && ((bt172.2.1 == 0 && (bt172.2.2.1 == 0 && (bt172.2.2.2.1 == 0 && (bt172.2.2.2.2.1 == 0)))) && (bt172.2.2.2.2.2.toList == ([] : List UInt8)))))) = some r := H
            have A10 := Aside0.mk A100
            clear A100
            replace H := Option.bind_eq_some_iff.mp H
            obtain ⟨⟨t172, t173, t174, t175, t176, t177⟩, A110, H⟩ := H
            replace H : (some (t172 == 4 && ((t173 == 0 && (t174 == 0 && (t175 == 0 && (t176 == 0)))) && (t177.toList == ([] : List UInt8))))) = some r := H
            have A11 := Aside0.mk A110
            clear A110
            obtain rfl := Option.some.inj H
            go_enter Tryd.func9, Tryd.ntmps9
            try go_wp2_with (first | ((with_reducible refine gate_dst (N := 1) rfl ?_); (try (refine gate_guard (by rfl) ?_; dsimp only)); refine box_event ?hg (N := 1) ?hd (cs := #[.int .i64 0, .int .i64 0, .int .i64 0, .int .i64 0]) (t := 23) ?hr ?_; (case hd => rfl); (case hg => rfl); (case hr => first | (go_simp; done) | (go_simp; rfl)); intro gb155 hg w12 hbox hb; have n0_ := Aside0.mk (below_step (by repeat (first | (with_reducible first | exact HB.out | apply below_alloc | apply pw_below_drewN | apply below_drew1) | exact HB.out)) hb); have n1_ := Aside0.mk (hbox); have n2_ := Aside0.mk ((by rw [hg]; exact (below_size (by repeat (first | (with_reducible first | exact HB.out | apply below_alloc | apply pw_below_drewN | apply below_drew1) | exact HB.out))) : w.heap.size ≤ gb155)); have n3_ := Aside0.mk ((by rw [hg]; exact (below_size (by repeat (first | (with_reducible first | exact HB.out | apply below_alloc | apply pw_below_drewN | apply below_drew1) | exact HB.out))) : w.heap.size ≤ gb155)); clear HB; have HB := n0_; have BK155 := n1_; have GW155 := n2_; have GE155 := n3_; clear n0_ n1_ n2_ n3_; clear hb hbox hg; have hcz13_0 : w12.cell? ⟨gb155, 0, none⟩ = some (.int .i64 0) := (blk_cell BK155.out 0).trans rfl; have hcz13_1 : w12.cell? ⟨gb155, 1, none⟩ = some (.int .i64 0) := (blk_cell BK155.out 1).trans rfl; have hcz13_2 : w12.cell? ⟨gb155, 2, none⟩ = some (.int .i64 0) := (blk_cell BK155.out 2).trans rfl; have hcz13_3 : w12.cell? ⟨gb155, 3, none⟩ = some (.int .i64 0) := (blk_cell BK155.out 3).trans rfl; have hfz13_0 := blk_frozen BK155.out 0; have hfz13_1 := blk_frozen BK155.out 1; have hfz13_2 := blk_frozen BK155.out 2; have hfz13_3 := blk_frozen BK155.out 3) | ((with_reducible refine gate_callee (f := 10) rfl ?_); refine goesL_ (some 8) rfl rfl Tryd.func10 (by kernel_rfl) rfl #[.agg #[.int .i64 1, .int .i64 2, .int .i64 3, .int .i64 4], .string (⟨#[97, 98, 99, 100, 101, 102, 103, 104]⟩ : ByteArray)] rfl (by (try simp only [List.map_toArray, List.map_cons, List.map_nil]); first | done | rfl | (simp only [List.length_drop, List.length_take]; rfl)) ?_; (with_reducible refine (frame_Encode.calls 1 2 3 4 (⟨#[97, 98, 99, 100, 101, 102, 103, 104]⟩ : ByteArray) t156 t157 _ A1.out).mono ?_); rintro e w14 ⟨rfl, hb⟩; refine ⟨_, rfl, ?_⟩; have n0_ := Aside0.mk (blk_below (g := gb155) (o := .cells #[.int .i64 1, .int .i64 2, .int .i64 3, .int .i64 4] 23 (0, 0)) (by (with_reducible repeat (first | refine blk_drewN ?_ _ | refine blk_drew ?_ | refine blk_alloc ?_ _)); refine blk_put (cs := #[.int .i64 1, .int .i64 2, .int .i64 3, .int .i64 0]) ?_ 3 _ rfl; (with_reducible repeat (first | refine blk_drewN ?_ _ | refine blk_drew ?_ | refine blk_alloc ?_ _)); refine blk_put (cs := #[.int .i64 1, .int .i64 2, .int .i64 0, .int .i64 0]) ?_ 2 _ rfl; (with_reducible repeat (first | refine blk_drewN ?_ _ | refine blk_drew ?_ | refine blk_alloc ?_ _)); refine blk_put (cs := #[.int .i64 1, .int .i64 0, .int .i64 0, .int .i64 0]) ?_ 1 _ rfl; (with_reducible repeat (first | refine blk_drewN ?_ _ | refine blk_drew ?_ | refine blk_alloc ?_ _)); refine blk_put (cs := #[.int .i64 0, .int .i64 0, .int .i64 0, .int .i64 0]) ?_ 0 _ rfl; (with_reducible repeat (first | refine blk_drewN ?_ _ | refine blk_drew ?_ | refine blk_alloc ?_ _)); exact BK155.out) hb); have n1_ := Aside0.mk (below_step (by repeat (first | (with_reducible first | exact HB.out | apply below_alloc | apply pw_below_drewN | apply below_drew1 | refine below_set ?_ GE155.out) | exact HB.out)) hb); clear BK155; clear HB; have BK155 := n0_; have HB := n1_; clear n0_ n1_; (try clear hb); (try clear hb2); (try clear hk); (try clear hi)) | ((with_reducible refine gate_callee (f := 14) rfl ?_); refine goesL_ (some 11) rfl rfl Tryd.func14 (by kernel_rfl) rfl #[.int .i64 8] rfl (by (try simp only [List.map_toArray, List.map_cons, List.map_nil]); first | done | rfl | (simp only [List.length_drop, List.length_take]; rfl)) ?_; (with_reducible refine (frame_Blank.calls 8 t158 _ A2.out).mono ?_); rintro e w15 ⟨rfl, hb⟩; refine ⟨_, rfl, ?_⟩; have n0_ := Aside0.mk (blk_below (g := gb155) (o := .cells #[.int .i64 1, .int .i64 2, .int .i64 3, .int .i64 4] 23 (0, 0)) (by (with_reducible repeat (first | refine blk_drewN ?_ _ | refine blk_drew ?_ | refine blk_alloc ?_ _)); exact BK155.out) hb); have n1_ := Aside0.mk (below_step (by repeat (first | (with_reducible first | exact HB.out | apply below_alloc | apply pw_below_drewN | apply below_drew1 | refine below_set ?_ GE155.out) | exact HB.out)) hb); clear BK155; clear HB; have BK155 := n0_; have HB := n1_; clear n0_ n1_; (try clear hb); (try clear hb2); (try clear hk); (try clear hi)))
            have n0_ := Aside0.mk (blk_drew BK155.out)
            have n1_ := Aside0.mk (below_drew1 HB.out)
            clear BK155
            clear HB
            have BK155 := n0_
            have HB := n1_
            clear n0_ n1_
            refine start_ (n := 33) (S := fun w' => w'.cell? ⟨gb155, 0, none⟩ = some (.int .i64 1) ∧ w'.cell? ⟨gb155, 1, none⟩ = some (.int .i64 2) ∧ w'.cell? ⟨gb155, 2, none⟩ = some (.int .i64 3) ∧ w'.cell? ⟨gb155, 3, none⟩ = some (.int .i64 4)) (ds := []) (tfA 0 33) (by kernel_rfl) rfl rfl ⟨(blk_cell BK155.out 0).trans rfl, (blk_cell BK155.out 1).trans rfl, (blk_cell BK155.out 2).trans rfl, (blk_cell BK155.out 3).trans rfl⟩ (fun hHeld => ?_); refine with_tabW decklelaw05_works.tab4 decklelaw05_works.bits4 (fun HT_ HW_ => ?_)
            generalize w15.drew = w16 at BK155 HB hHeld ⊢
            refine pure_ (i := 0) (N := some 12) (v := ?_) (a' := ?_) (tfA 1 33) rfl rfl (any_of HT_.out (by kernel_rfl)) (fun _ _ _ h => h) (Or.inl ⟨by rfl, ?_⟩) ?_ ?_
            rotate_left
            · intro w'; go_simp; with_reducible rfl
            rotate_left
            · simp only [Act.put, sib, sc0, sc1, i64_w, i32_w]; rfl
            refine pure_ (i := 1) (N := some 13) (v := ?_) (a' := ?_) (tfA 2 33) rfl rfl (any_of HT_.out (by kernel_rfl)) (fun _ _ _ h => h) (Or.inl ⟨by rfl, ?_⟩) ?_ ?_
            rotate_left
            · intro w'; go_simp; with_reducible rfl
            rotate_left
            · simp only [Act.put, sib, sc0, sc1, i64_w, i32_w]; rfl
            refine pure_ (i := 2) (N := some 14) (v := ?_) (a' := ?_) (tfA 3 33) rfl rfl (any_of HT_.out (by kernel_rfl)) (fun _ _ _ h => h) (Or.inl ⟨by rfl, ?_⟩) ?_ ?_
            rotate_left
            · intro w'; go_simp; with_reducible rfl
            rotate_left
            · simp only [Act.put, sib, sc0, sc1, i64_w, i32_w]; rfl
            refine pure_ (i := 3) (N := some 15) (v := ?_) (a' := ?_) (tfA 4 33) rfl rfl (any_of HT_.out (by kernel_rfl)) (fun _ _ _ h => h) (Or.inl ⟨by rfl, ?_⟩) ?_ ?_
            rotate_left
            · intro w'; go_simp; with_reducible rfl
            rotate_left
            · simp only [Act.put, sib, sc0, sc1, i64_w, i32_w]; rfl
            refine pure_ (i := 4) (N := some 16) (v := ?_) (a' := ?_) (tfA 5 33) rfl rfl (any_of HT_.out (by kernel_rfl)) (fun _ _ _ h => h) (Or.inl ⟨by rfl, ?_⟩) ?_ ?_
            rotate_left
            · intro w'; go_simp; with_reducible rfl
            rotate_left
            · simp only [Act.put, sib, sc0, sc1, i64_w, i32_w]; rfl
            refine pure_ (i := 5) (N := some 17) (v := ?_) (a' := ?_) (tfA 6 33) rfl rfl (any_of HT_.out (by kernel_rfl)) (fun _ _ _ h => h) (Or.inl ⟨by rfl, ?_⟩) ?_ ?_
            rotate_left
            · intro w'; go_simp; with_reducible rfl
            rotate_left
            · simp only [Act.put, sib, sc0, sc1, i64_w, i32_w]; rfl
            refine pure_ (i := 6) (N := some 18) (v := ?_) (a' := ?_) (tfA 7 33) rfl rfl (any_of HT_.out (by kernel_rfl)) (fun _ _ _ h => h) (Or.inl ⟨by rfl, ?_⟩) ?_ ?_
            rotate_left
            · intro w'; go_simp; with_reducible rfl
            rotate_left
            · simp only [Act.put, sib, sc0, sc1, i64_w, i32_w]; rfl
            refine pure_ (i := 7) (N := some 19) (v := ?_) (a' := ?_) (tfA 8 33) rfl rfl (any_of HT_.out (by kernel_rfl)) (fun _ _ _ h => h) (Or.inl ⟨by rfl, ?_⟩) ?_ ?_
            rotate_left
            · intro w'; go_simp; with_reducible rfl
            rotate_left
            · simp only [Act.put, sib, sc0, sc1, i64_w, i32_w]; rfl
            refine pure_ (i := 8) (N := some 20) (v := ?_) (a' := ?_) (tfA 9 33) rfl rfl (any_of HT_.out (by kernel_rfl)) (fun _ _ _ h => h) (Or.inl ⟨by rfl, ?_⟩) ?_ ?_
            rotate_left
            · intro w'; go_simp; with_reducible rfl
            rotate_left
            · simp only [Act.put, sib, sc0, sc1, i64_w, i32_w]; rfl
            refine take_ (i := 10) (N := some 22) (v := ?_) (a' := ?_) #[true, true, true, true, true, true, true, true, true, false, true, false, false, false, false, false, false, false, false, false, false, false, false, false, false, false, false, false, false, false, false, false, false] rfl rfl (take_ofW HT_.out HW_.out (by kernel_rfl)) (fun _ _ _ h => h) (Or.inl ⟨by rfl, ?_⟩) hHeld ?_ ?_
            rotate_left
            · rintro w' ⟨s0, s1, s2, s3⟩
              go_simp
              with_reducible rfl
            rotate_left
            · simp only [Act.put, sib, sc0, sc1, i64_w, i32_w]
              rfl
            refine pure_ (i := 11) (N := some 23) (v := ?_) (a' := ?_) #[true, true, true, true, true, true, true, true, true, false, true, true, false, false, false, false, false, false, false, false, false, false, false, false, false, false, false, false, false, false, false, false, false] rfl rfl (any_of HT_.out (by kernel_rfl)) (fun _ _ _ h => h) (Or.inl ⟨by rfl, ?_⟩) ?_ ?_
            rotate_left
            · intro w'; go_simp; with_reducible rfl
            rotate_left
            · simp only [Act.put, sib, sc0, sc1, i64_w, i32_w]; rfl
            refine one_ (i := 9) (N := some 21) (tfA 12 33) rfl rfl (one_of HT_.out (by kernel_rfl)) (by decide) (fun K hK => ?_)
            refine goes_ Tryd.func12 (by kernel_rfl) rfl #[.string t156] (by rfl) rfl rfl (by (try simp only [List.map_toArray, List.map_cons, List.map_nil]); first | done | rfl | (simp only [List.length_drop, List.length_take]; rfl)) ?_
            with_reducible refine (frame_Decode.calls t156 t159 t160 t161 t162 t163 t164 _ A5.out).mono ?_
            rintro e w17 ⟨rfl, hb⟩
            refine ⟨_, rfl, ?_⟩
            have n0_ := Aside0.mk (blk_below (g := gb155) (o := .cells #[.int .i64 1, .int .i64 2, .int .i64 3, .int .i64 4] 23 (0, 0)) (by (with_reducible repeat (first | refine blk_drewN ?_ _ | refine blk_drew ?_ | refine blk_alloc ?_ _)); exact BK155.out) hb)
            have n1_ := Aside0.mk (below_step (by repeat (first | (with_reducible first | exact HB.out | apply below_alloc | apply pw_below_drewN | apply below_drew1 | refine below_set ?_ GE155.out) | exact HB.out)) hb)
            clear BK155
            clear HB
            have BK155 := n0_
            have HB := n1_
            clear n0_ n1_
            (try clear hb)
            (try clear hb2)
            (try clear hk)
            (try clear hi)
            refine hK.out _ _ ⟨(blk_cell BK155.out 0).trans rfl, (blk_cell BK155.out 1).trans rfl, (blk_cell BK155.out 2).trans rfl, (blk_cell BK155.out 3).trans rfl⟩ (fun hHeld => ?_)
            clear hK K
            refine norm_ (a' := ?_) ?_ ?_
            rotate_left
            · show Act.put _ (some 21) _ = _
              simp only [Act.put, sib, sc0, sc1, i64_w, i32_w]
              rfl
            refine pure_ (i := 12) (N := some 24) (v := ?_) (a' := ?_) (tfA 13 33) rfl rfl (any_of HT_.out (by kernel_rfl)) (fun _ _ _ h => h) (Or.inl ⟨by rfl, ?_⟩) ?_ ?_
            rotate_left
            · intro w'; go_simp; with_reducible rfl
            rotate_left
            · simp only [Act.put, sib, sc0, sc1, i64_w, i32_w]; rfl
            refine pure_ (i := 13) (N := some 25) (v := ?_) (a' := ?_) (tfA 14 33) rfl rfl (any_of HT_.out (by kernel_rfl)) (fun _ _ _ h => h) (Or.inl ⟨by rfl, ?_⟩) ?_ ?_
            rotate_left
            · intro w'; go_simp; with_reducible rfl
            rotate_left
            · simp only [Act.put, sib, sc0, sc1, i64_w, i32_w]; rfl
            refine pure_ (i := 14) (N := some 26) (v := ?_) (a' := ?_) (tfA 15 33) rfl rfl (any_of HT_.out (by kernel_rfl)) (fun _ _ _ h => h) (Or.inl ⟨by rfl, ?_⟩) ?_ ?_
            rotate_left
            · intro w'; go_simp; with_reducible rfl
            rotate_left
            · simp only [Act.put, sib, sc0, sc1, i64_w, i32_w]; rfl
            refine pure_ (i := 15) (N := some 27) (v := ?_) (a' := ?_) (tfA 16 33) rfl rfl (any_of HT_.out (by kernel_rfl)) (fun _ _ _ h => h) (Or.inl ⟨by rfl, ?_⟩) ?_ ?_
            rotate_left
            · intro w'; go_simp; with_reducible rfl
            rotate_left
            · simp only [Act.put, sib, sc0, sc1, i64_w, i32_w]; rfl
            refine pure_ (i := 16) (N := some 28) (v := ?_) (a' := ?_) (tfA 17 33) rfl rfl (any_of HT_.out (by kernel_rfl)) (fun _ _ _ h => h) (Or.inl ⟨by rfl, ?_⟩) ?_ ?_
            rotate_left
            · intro w'; go_simp; with_reducible rfl
            rotate_left
            · simp only [Act.put, sib, sc0, sc1, i64_w, i32_w]; rfl
            refine pure_ (i := 17) (N := some 29) (v := ?_) (a' := ?_) (tfA 18 33) rfl rfl (any_of HT_.out (by kernel_rfl)) (fun _ _ _ h => h) (Or.inl ⟨by rfl, ?_⟩) ?_ ?_
            rotate_left
            · intro w'; go_simp; with_reducible rfl
            rotate_left
            · simp only [Act.put, sib, sc0, sc1, i64_w, i32_w]; rfl
            refine pure_ (i := 18) (N := some 30) (v := ?_) (a' := ?_) (tfA 19 33) rfl rfl (any_of HT_.out (by kernel_rfl)) (fun _ _ _ h => h) (Or.inl ⟨by rfl, ?_⟩) ?_ ?_
            rotate_left
            · intro w'; go_simp; with_reducible rfl
            rotate_left
            · simp only [Act.put, sib, sc0, sc1, i64_w, i32_w]; rfl
            refine pure_ (i := 19) (N := some 31) (v := ?_) (a' := ?_) (tfA 20 33) rfl rfl (any_of HT_.out (by kernel_rfl)) (fun _ _ _ h => h) (Or.inl ⟨by rfl, ?_⟩) ?_ ?_
            rotate_left
            · intro w'; go_simp; with_reducible rfl
            rotate_left
            · simp only [Act.put, sib, sc0, sc1, i64_w, i32_w]; rfl
            refine pure_ (i := 20) (N := some 32) (v := ?_) (a' := ?_) (tfA 21 33) rfl rfl (any_of HT_.out (by kernel_rfl)) (fun _ _ _ h => h) (Or.inl ⟨by rfl, ?_⟩) ?_ ?_
            rotate_left
            · intro w'; go_simp; with_reducible rfl
            rotate_left
            · simp only [Act.put, sib, sc0, sc1, i64_w, i32_w]; rfl
            refine pure_ (i := 22) (N := some 34) (v := ?_) (a' := ?_) #[true, true, true, true, true, true, true, true, true, true, true, true, true, true, true, true, true, true, true, true, true, false, true, false, false, false, false, false, false, false, false, false, false] rfl rfl (any_of HT_.out (by kernel_rfl)) (fun _ _ _ h => h) (Or.inl ⟨by rfl, ?_⟩) ?_ ?_
            rotate_left
            · intro w'; go_simp; with_reducible rfl
            rotate_left
            · simp only [Act.put, sib, sc0, sc1, i64_w, i32_w]; rfl
            refine one_ (i := 21) (N := some 33) (tfA 23 33) rfl rfl (one_of HT_.out (by kernel_rfl)) (by decide) (fun K hK => ?_)
            refine goes_ Tryd.func12 (by kernel_rfl) rfl #[.string t158] (by rfl) rfl rfl (by (try simp only [List.map_toArray, List.map_cons, List.map_nil]); first | done | rfl | (simp only [List.length_drop, List.length_take]; rfl)) ?_
            with_reducible refine (frame_Decode.calls t158 (1 : Int) (0 : Int) (0 : Int) (0 : Int) (0 : Int) (⟨#[]⟩ : ByteArray) _ A8.out).mono ?_
            rintro e w18 ⟨rfl, hb⟩
            refine ⟨_, rfl, ?_⟩
            have n0_ := Aside0.mk (blk_below (g := gb155) (o := .cells #[.int .i64 1, .int .i64 2, .int .i64 3, .int .i64 4] 23 (0, 0)) (by (with_reducible repeat (first | refine blk_drewN ?_ _ | refine blk_drew ?_ | refine blk_alloc ?_ _)); exact BK155.out) hb)
            have n1_ := Aside0.mk (below_step (by repeat (first | (with_reducible first | exact HB.out | apply below_alloc | apply pw_below_drewN | apply below_drew1 | refine below_set ?_ GE155.out) | exact HB.out)) hb)
            clear BK155
            clear HB
            have BK155 := n0_
            have HB := n1_
            clear n0_ n1_
            (try clear hb)
            (try clear hb2)
            (try clear hk)
            (try clear hi)
            refine hK.out _ _ ⟨(blk_cell BK155.out 0).trans rfl, (blk_cell BK155.out 1).trans rfl, (blk_cell BK155.out 2).trans rfl, (blk_cell BK155.out 3).trans rfl⟩ (fun hHeld => ?_)
            clear hK K
            refine norm_ (a' := ?_) ?_ ?_
            rotate_left
            · show Act.put _ (some 33) _ = _
              simp only [Act.put, sib, sc0, sc1, i64_w, i32_w]
              rfl
            refine pure_ (i := 23) (N := some 35) (v := ?_) (a' := ?_) (tfA 24 33) rfl rfl (any_of HT_.out (by kernel_rfl)) (fun _ _ _ h => h) (Or.inl ⟨by rfl, ?_⟩) ?_ ?_
            rotate_left
            · intro w'; go_simp; with_reducible rfl
            rotate_left
            · simp only [Act.put, sib, sc0, sc1, i64_w, i32_w]; rfl
            refine pure_ (i := 24) (N := some 36) (v := ?_) (a' := ?_) (tfA 25 33) rfl rfl (any_of HT_.out (by kernel_rfl)) (fun _ _ _ h => h) (Or.inl ⟨by rfl, ?_⟩) ?_ ?_
            rotate_left
            · intro w'; go_simp; with_reducible rfl
            rotate_left
            · simp only [Act.put, sib, sc0, sc1, i64_w, i32_w]; rfl
            refine pure_ (i := 25) (N := some 37) (v := ?_) (a' := ?_) (tfA 26 33) rfl rfl (any_of HT_.out (by kernel_rfl)) (fun _ _ _ h => h) (Or.inl ⟨by rfl, ?_⟩) ?_ ?_
            rotate_left
            · intro w'; go_simp; with_reducible rfl
            rotate_left
            · simp only [Act.put, sib, sc0, sc1, i64_w, i32_w]; rfl
            refine pure_ (i := 26) (N := some 38) (v := ?_) (a' := ?_) (tfA 27 33) rfl rfl (any_of HT_.out (by kernel_rfl)) (fun _ _ _ h => h) (Or.inl ⟨by rfl, ?_⟩) ?_ ?_
            rotate_left
            · intro w'; go_simp; with_reducible rfl
            rotate_left
            · simp only [Act.put, sib, sc0, sc1, i64_w, i32_w]; rfl
            refine pure_ (i := 29) (N := some 41) (v := ?_) (a' := ?_) #[true, true, true, true, true, true, true, true, true, true, true, true, true, true, true, true, true, true, true, true, true, true, true, true, true, true, true, false, false, true, false, false, false] rfl rfl (any_of HT_.out (by kernel_rfl)) (fun _ _ _ h => h) (Or.inl ⟨by rfl, ?_⟩) ?_ ?_
            rotate_left
            · intro w'; go_simp; with_reducible rfl
            rotate_left
            · simp only [Act.put, sib, sc0, sc1, i64_w, i32_w]; rfl
            refine one_ (i := 27) (N := some 39) #[true, true, true, true, true, true, true, true, true, true, true, true, true, true, true, true, true, true, true, true, true, true, true, true, true, true, true, true, false, true, false, false, false] rfl rfl (one_of HT_.out (by kernel_rfl)) (by decide) (fun K hK => ?_)
            refine goes_ Tryd.func16 (by kernel_rfl) rfl #[.string t158, .int .i64 0, .int .i64 0] (by rfl) rfl rfl (by (try simp only [List.map_toArray, List.map_cons, List.map_nil]); first | done | rfl | (simp only [List.length_drop, List.length_take]; rfl)) ?_
            with_reducible refine (frame_Hurt.calls t158 0 0 t171 _ A10.out).mono ?_
            rintro e w19 ⟨rfl, hb⟩
            refine ⟨_, rfl, ?_⟩
            have n0_ := Aside0.mk (blk_below (g := gb155) (o := .cells #[.int .i64 1, .int .i64 2, .int .i64 3, .int .i64 4] 23 (0, 0)) (by (with_reducible repeat (first | refine blk_drewN ?_ _ | refine blk_drew ?_ | refine blk_alloc ?_ _)); exact BK155.out) hb)
            have n1_ := Aside0.mk (below_step (by repeat (first | (with_reducible first | exact HB.out | apply below_alloc | apply pw_below_drewN | apply below_drew1 | refine below_set ?_ GE155.out) | exact HB.out)) hb)
            clear BK155
            clear HB
            have BK155 := n0_
            have HB := n1_
            clear n0_ n1_
            (try clear hb)
            (try clear hb2)
            (try clear hk)
            (try clear hi)
            refine hK.out _ _ ⟨(blk_cell BK155.out 0).trans rfl, (blk_cell BK155.out 1).trans rfl, (blk_cell BK155.out 2).trans rfl, (blk_cell BK155.out 3).trans rfl⟩ (fun hHeld => ?_)
            clear hK K
            refine norm_ (a' := ?_) ?_ ?_
            rotate_left
            · show Act.put _ (some 39) _ = _
              simp only [Act.put, sib, sc0, sc1, i64_w, i32_w]
              rfl
            refine one_ (i := 28) (N := some 40) (tfA 30 33) rfl rfl (one_of HT_.out (by kernel_rfl)) (by decide) (fun K hK => ?_)
            refine goes_ Tryd.func12 (by kernel_rfl) rfl #[.string t171] (by rfl) rfl rfl (by (try simp only [List.map_toArray, List.map_cons, List.map_nil]); first | done | rfl | (simp only [List.length_drop, List.length_take]; rfl)) ?_
            with_reducible refine (frame_Decode.calls t171 t172 t173 t174 t175 t176 t177 _ A11.out).mono ?_
            rintro e w20 ⟨rfl, hb⟩
            refine ⟨_, rfl, ?_⟩
            have n0_ := Aside0.mk (blk_below (g := gb155) (o := .cells #[.int .i64 1, .int .i64 2, .int .i64 3, .int .i64 4] 23 (0, 0)) (by (with_reducible repeat (first | refine blk_drewN ?_ _ | refine blk_drew ?_ | refine blk_alloc ?_ _)); exact BK155.out) hb)
            have n1_ := Aside0.mk (below_step (by repeat (first | (with_reducible first | exact HB.out | apply below_alloc | apply pw_below_drewN | apply below_drew1 | refine below_set ?_ GE155.out) | exact HB.out)) hb)
            clear BK155
            clear HB
            have BK155 := n0_
            have HB := n1_
            clear n0_ n1_
            (try clear hb)
            (try clear hb2)
            (try clear hk)
            (try clear hi)
            refine hK.out _ _ ⟨(blk_cell BK155.out 0).trans rfl, (blk_cell BK155.out 1).trans rfl, (blk_cell BK155.out 2).trans rfl, (blk_cell BK155.out 3).trans rfl⟩ (fun hHeld => ?_)
            clear hK K
            refine norm_ (a' := ?_) ?_ ?_
            rotate_left
            · show Act.put _ (some 40) _ = _
              simp only [Act.put, sib, sc0, sc1, i64_w, i32_w]
              rfl
            refine pure_ (i := 30) (N := some 42) (v := ?_) (a' := ?_) (tfA 31 33) rfl rfl (any_of HT_.out (by kernel_rfl)) (fun _ _ _ h => h) (Or.inl ⟨by rfl, ?_⟩) ?_ ?_
            rotate_left
            · intro w'; go_simp; with_reducible rfl
            rotate_left
            · simp only [Act.put, sib, sc0, sc1, i64_w, i32_w]; rfl
            refine pure_ (i := 31) (N := some 43) (v := ?_) (a' := ?_) (tfA 32 33) rfl rfl (any_of HT_.out (by kernel_rfl)) (fun _ _ _ h => h) (Or.inl ⟨by rfl, ?_⟩) ?_ ?_
            rotate_left
            · intro w'; go_simp; with_reducible rfl
            rotate_left
            · simp only [Act.put, sib, sc0, sc1, i64_w, i32_w]; rfl
            refine pure_ (i := 32) (N := some 0) (v := ?_) (a' := ?_) (tfA 33 33) rfl rfl (any_of HT_.out (by kernel_rfl)) (fun _ _ _ h => h) (Or.inl ⟨by rfl, ?_⟩) ?_ ?_
            rotate_left
            · intro w'; go_simp; with_reducible rfl
            rotate_left
            · simp only [Act.put, sib, sc0, sc1, i64_w, i32_w]; rfl
            refine done_ (done_of HT_.out (by kernel_rfl)) ?_
            try go_wp2
            go_ret
            exact ⟨by first | rfl | (simp [errW_none, errW_some] <;> rfl) | (simp [*, errW_none, errW_some] <;> rfl), by repeat (first | (with_reducible first | exact HB.out | apply below_alloc | apply pw_below_drewN | apply below_drew1 | refine below_set ?_ GE155.out) | exact HB.out)⟩
          · rw [if_neg c9] at H
            exact absurd ((Option.some.inj H).trans HRT.out) (by decide)
        · rw [if_neg c7] at H
          exact absurd ((Option.some.inj H).trans HRT.out) (by decide)
      · rw [if_neg c6] at H
        exact absurd ((Option.some.inj H).trans HRT.out) (by decide)
    · rw [if_neg c4] at H
      exact absurd ((Option.some.inj H).trans HRT.out) (by decide)
  · rw [if_neg c3] at H
    exact absurd ((Option.some.inj H).trans HRT.out) (by decide)

end Go.Proofs.YtbcgddacmjliaaaDoor.PF
end

section
-- Written by a program (the kit's print.py, called by wip/bin/prseat.sh, mended by wip/bin/mend.py).
namespace Go.Proofs.YtbcgddacmjliaaaDoor.PF
open Go.Proofs.YtbcgddacmjliaaaDoor.Tf Go.RowKit Go.Proofs.YtbcgddacmjliaaaDoorW.PrintWords Go.Proofs.YtbcgddacmjliaaaDoorW.PrintLast Go.Proofs.YtbcgddacmjliaaaDoorW.PrintMore
attribute [local go_sem] max2_int min2_int max_two min_two max_three min_three max_four min_four   -- for this text's walks alone
set_option linter.unusedVariables false
set_option linter.unusedSimpArgs false

attribute [local go_sem high] eqA30
/-! ### decklelaw05_FrameFixes: function 7 -/
mutual
def decklelaw05_FrameFixes.l0 : Nat → ByteArray → List Int → ByteArray → ByteArray → Int → Int → Int → Int → Int → Int → Option (Bool)
  | 0, _, _, _, _, _, _, _, _, _, _ => none
  | k + 1, x1, x2, x7, x9, x10, x11, x381000, x381001, x381002, x381003 => if x11 < (x2.length : Int) then (decklelaw05_FrameFixes.j1 k x1 x2 x7 x9 x10 x11 (decide (x11 < (wrap64 ((x7.size : Int) / 9)))) x381000 x381001 x381002 x381003) else (decklelaw05_FrameFixes.j1 k x1 x2 x7 x9 x10 x11 false x381000 x381001 x381002 x381003)
def decklelaw05_FrameFixes.j1 : Nat → ByteArray → List Int → ByteArray → ByteArray → Int → Int → Bool → Int → Int → Int → Int → Option (Bool)
  | 0, _, _, _, _, _, _, _, _, _, _, _ => none
  | k + 1, x1, x2, x7, x9, x10, x11, x37, x381000, x381001, x381002, x381003 => if x37 = true then (if 0 ≤ x11 then (if x11 < (x2.length : Int) then (if (rd x2 x11) ≥ 0 then ((decklelaw05_turned.f x7 x11 (rd x2 x11)).bind fun t399 => ((decklelaw05_turned.f x9 x11 (rd x2 x11)).bind fun t401 => (decklelaw05_FrameFixes.l0 k x1 x2 t399 t401 3 (wrap64 (x11 + 1)) x381000 x381001 x381002 x381003))) else (decklelaw05_FrameFixes.l0 k x1 x2 x7 x9 x10 (wrap64 (x11 + 1)) x381000 x381001 x381002 x381003)) else (none)) else (none)) else ((frame_Decode.f x7).bind fun bt385 => (if (bt385.1 == x10 && ((bt385.2.1 == x381000 && (bt385.2.2.1 == x381001 && (bt385.2.2.2.1 == x381002 && (bt385.2.2.2.2.1 == x381003)))) && (bt385.2.2.2.2.2.toList == x1.toList))) = true then ((frame_Decode.f x9).bind fun bt391 => (some (bt391.1 == 1 && ((bt391.2.1 == 0 && (bt391.2.2.1 == 0 && (bt391.2.2.2.1 == 0 && (bt391.2.2.2.2.1 == 0)))) && (bt391.2.2.2.2.2.toList == ([] : List UInt8)))))) else (some false)))
end
def decklelaw05_FrameFixes.f (k : Nat) (a0_0 : Int) (a0_1 : Int) (a0_2 : Int) (a0_3 : Int) (a1 : ByteArray) (l2 : List Int) : Option (Bool) := (decklelaw05_works.f).bind fun t381 => (if t381 = true then ((frame_Encode.f a0_0 a0_1 a0_2 a0_3 a1).bind fun bt382 => (if bt382.2 = 0 then ((frame_Blank.f (a1.size : Int)).bind fun t384 => (decklelaw05_FrameFixes.l0 k a1 l2 bt382.1 t384 2 0 a0_0 a0_1 a0_2 a0_3)) else (some (bt382.1.toList == ([] : List UInt8))))) else (some false))
theorem decklelaw05_FrameFixes.mono_l : ∀ k, (∀ y0 y1 y2 y3 y4 y5 y6 y7 y8 y9, LeO (decklelaw05_FrameFixes.l0 k y0 y1 y2 y3 y4 y5 y6 y7 y8 y9) (decklelaw05_FrameFixes.l0 (k + 1) y0 y1 y2 y3 y4 y5 y6 y7 y8 y9)) ∧ (∀ y0 y1 y2 y3 y4 y5 y6 y7 y8 y9 y10, LeO (decklelaw05_FrameFixes.j1 k y0 y1 y2 y3 y4 y5 y6 y7 y8 y9 y10) (decklelaw05_FrameFixes.j1 (k + 1) y0 y1 y2 y3 y4 y5 y6 y7 y8 y9 y10))
  | 0 => ⟨fun _ _ _ _ _ _ _ _ _ _ r h => by simp [decklelaw05_FrameFixes.l0] at h, fun _ _ _ _ _ _ _ _ _ _ _ r h => by simp [decklelaw05_FrameFixes.j1] at h⟩
  | k + 1 => by
    obtain ⟨ih0, ih1⟩ := decklelaw05_FrameFixes.mono_l k
    refine ⟨?_, ?_⟩
    · intro y0 y1 y2 y3 y4 y5 y6 y7 y8 y9
      unfold decklelaw05_FrameFixes.l0
      repeat' first
      | (with_reducible exact ih0 _ _ _ _ _ _ _ _ _ _)
      | (with_reducible exact ih1 _ _ _ _ _ _ _ _ _ _ _)
      | (with_reducible exact LeO.refl _)
      | (with_reducible exact LeO.none _)
      | (with_reducible refine LeO.ite ?_ ?_)
      | (with_reducible refine LeO.bind ?_ (fun _ => ?_))
      | exact ih0 _ _ _ _ _ _ _ _ _ _
      | exact ih1 _ _ _ _ _ _ _ _ _ _ _
      | exact LeO.none _
      | refine LeO.ite ?_ ?_
      | refine LeO.bind ?_ (fun _ => ?_)
    · intro y0 y1 y2 y3 y4 y5 y6 y7 y8 y9 y10
      unfold decklelaw05_FrameFixes.j1
      repeat' first
      | (with_reducible exact ih0 _ _ _ _ _ _ _ _ _ _)
      | (with_reducible exact ih1 _ _ _ _ _ _ _ _ _ _ _)
      | (with_reducible exact LeO.refl _)
      | (with_reducible exact LeO.none _)
      | (with_reducible refine LeO.ite ?_ ?_)
      | (with_reducible refine LeO.bind ?_ (fun _ => ?_))
      | exact ih0 _ _ _ _ _ _ _ _ _ _
      | exact ih1 _ _ _ _ _ _ _ _ _ _ _
      | exact LeO.none _
      | refine LeO.ite ?_ ?_
      | refine LeO.bind ?_ (fun _ => ?_)
theorem decklelaw05_FrameFixes.mono : ∀ a0 a1 a2 a3 a4 a5 k, LeO (decklelaw05_FrameFixes.f k a0 a1 a2 a3 a4 a5) (decklelaw05_FrameFixes.f (k + 1) a0 a1 a2 a3 a4 a5) := by
  intro a0 a1 a2 a3 a4 a5 k
  obtain ⟨ih0, ih1⟩ := decklelaw05_FrameFixes.mono_l k
  unfold decklelaw05_FrameFixes.f
  repeat' first
      | (with_reducible exact ih0 _ _ _ _ _ _ _ _ _ _)
      | (with_reducible exact ih1 _ _ _ _ _ _ _ _ _ _ _)
      | (with_reducible exact LeO.refl _)
      | (with_reducible exact LeO.none _)
      | (with_reducible refine LeO.ite ?_ ?_)
      | (with_reducible refine LeO.bind ?_ (fun _ => ?_))
      | exact ih0 _ _ _ _ _ _ _ _ _ _
      | exact ih1 _ _ _ _ _ _ _ _ _ _ _
      | exact LeO.none _
      | refine LeO.ite ?_ ?_
      | refine LeO.bind ?_ (fun _ => ?_)
def decklelaw05_FrameFixes.T15 : Bool × List (List Nat × List Nat) := (true, [([], []), ([0], [0]), ([], []), ([], []), ([], []), ([2, 3, 4], [2, 3, 4]), ([1, 5], [1, 5]), ([6, 1], [6]), ([7], [7]), ([8, 7, 7], [7, 8]), ([7], [7]), ([9, 10, 7], [7, 9, 10]), ([7, 11], [7, 11]), ([12, 9, 0, 1, 2, 3, 4, 5, 6, 7, 8, 9, 10, 11, 12], [12])])
def decklelaw05_FrameFixes.B15 : List Nat := [0, 1, 0, 0, 0, 28, 63, 127, 255, 511, 255, 2047, 4095, 8191]
theorem decklelaw05_FrameFixes.tab15 : rtab .any (opsOf Tryd.f7 15) = decklelaw05_FrameFixes.T15 := by kernel_rfl
theorem decklelaw05_FrameFixes.bits15 : waitsOk decklelaw05_FrameFixes.T15.2 decklelaw05_FrameFixes.B15 = true := by kernel_rfl
set_option maxHeartbeats 8000000 in
set_option maxRecDepth 100000 in
theorem decklelaw05_FrameFixes.calls (k : Nat) (a0_0 : Int) (a0_1 : Int) (a0_2 : Int) (a0_3 : Int) (a1 : ByteArray) (A2 : Option Addr) (c2 : Nat) (l2 : List Int) (r : Bool) (w : World) (hr2 : Kd.C (Kd.int .i64) w A2 l2.length l2) (hc2 : l2.length ≤ c2) (h : decklelaw05_FrameFixes.f k a0_0 a0_1 a0_2 a0_3 a1 l2 = some r) (HL : Aside0 (Hw.Laid w) := by first | exact HL | exact Hw.laid_at HL (by repeat (first | (with_reducible first | exact HB.out | apply below_alloc | apply pw_below_drewN | apply below_drew1) | exact HB.out | exact Below.refl _ _ | refine below_set ?_ (by apply Aside0.out; assumption)))) :
    Calls Tryd.prog 7 #[.agg #[.int .i64 a0_0, .int .i64 a0_1, .int .i64 a0_2, .int .i64 a0_3], .string a1, .slice A2 l2.length c2] w fun e w' => e = .returned (.bool r) ∧ Below w.heap.size w w' := by
  have hu23 := Tryd.underlying23
  have hu30 := Tryd.underlying30
  have HR2 := Aside0.mk hr2
  have HC2 := Aside0.mk hc2
  clear hr2 hc2
  have HB := Aside0.mk (Below.refl w.heap.size w)
  have H : ((decklelaw05_works.f).bind fun t381 => (if t381 = true then ((frame_Encode.f a0_0 a0_1 a0_2 a0_3 a1).bind fun bt382 => (if bt382.2 = 0 then ((frame_Blank.f (a1.size : Int)).bind fun t384 => (decklelaw05_FrameFixes.l0 k a1 l2 bt382.1 t384 2 0 a0_0 a0_1 a0_2 a0_3)) else (some (bt382.1.toList == ([] : List UInt8))))) else (some false))) = some r := h
  clear h
  replace H := Option.bind_eq_some_iff.mp H
  obtain ⟨t381, A40, H⟩ := H
  replace H : (if t381 = true then ((frame_Encode.f a0_0 a0_1 a0_2 a0_3 a1).bind fun bt382 => (if bt382.2 = 0 then ((frame_Blank.f (a1.size : Int)).bind fun t384 => (decklelaw05_FrameFixes.l0 k a1 l2 bt382.1 t384 2 0 a0_0 a0_1 a0_2 a0_3)) else (some (bt382.1.toList == ([] : List UInt8))))) else (some false)) = some r := H
  have A4 := Aside0.mk A40
  clear A40
  by_cases c5 : t381 = true
  · subst c5
    have H1 : ((frame_Encode.f a0_0 a0_1 a0_2 a0_3 a1).bind fun bt382 => (if bt382.2 = 0 then ((frame_Blank.f (a1.size : Int)).bind fun t384 => (decklelaw05_FrameFixes.l0 k a1 l2 bt382.1 t384 2 0 a0_0 a0_1 a0_2 a0_3)) else (some (bt382.1.toList == ([] : List UInt8))))) = some r := by rw [if_pos rfl] at H; exact H
    clear H
    have H := H1
    clear H1
    replace H := Option.bind_eq_some_iff.mp H
    obtain ⟨⟨t382, t383⟩, A60, H⟩ := H
    replace H : (if t383 = 0 then ((frame_Blank.f (a1.size : Int)).bind fun t384 => (decklelaw05_FrameFixes.l0 k a1 l2 t382 t384 2 0 a0_0 a0_1 a0_2 a0_3)) else (some (t382.toList == ([] : List UInt8)))) = some r := H
    have A6 := Aside0.mk A60
    clear A60
    by_cases c7 : t383 = 0
    · rw [if_pos c7] at H
      have c7b0 : (t383 == 0) = true := beq_iff_eq.mpr c7
      have c7b1 : (t383 != 0) = false := bne_eq_false_iff_eq.mpr c7
      clear c7
      replace H := Option.bind_eq_some_iff.mp H
      obtain ⟨t384, A80, H⟩ := H
      replace H : (decklelaw05_FrameFixes.l0 k a1 l2 t382 t384 2 0 a0_0 a0_1 a0_2 a0_3) = some r := H
      have A8 := Aside0.mk A80
      clear A80
      have H' := Aside0.mk H
      clear H
      go_enter Tryd.func7, Tryd.ntmps7
      go_wp2_with (first | ((with_reducible refine gate_dst (N := 3) rfl ?_); (try (refine gate_guard (by rfl) ?_; dsimp only)); refine box_event ?hg (N := 3) ?hd (cs := #[.int .i64 a0_0, .int .i64 a0_1, .int .i64 a0_2, .int .i64 a0_3]) (t := 23) ?hr ?_; (case hd => rfl); (case hg => rfl); (case hr => first | (go_simp; done) | (go_simp; rfl)); intro gb380 hg w9 hbox hb; have n0_ := Aside0.mk (below_step (by repeat (first | (with_reducible first | exact HB.out | apply below_alloc | apply pw_below_drewN | apply below_drew1) | exact HB.out)) hb); have n1_ := Aside0.mk (hbox); have n2_ := Aside0.mk ((by rw [hg]; exact (below_size (by repeat (first | (with_reducible first | exact HB.out | apply below_alloc | apply pw_below_drewN | apply below_drew1) | exact HB.out))) : w.heap.size ≤ gb380)); have n3_ := Aside0.mk ((by rw [hg]; exact (below_size (by repeat (first | (with_reducible first | exact HB.out | apply below_alloc | apply pw_below_drewN | apply below_drew1) | exact HB.out))) : w.heap.size ≤ gb380)); clear HB; have HB := n0_; have BK380 := n1_; have GW380 := n2_; have GE380 := n3_; clear n0_ n1_ n2_ n3_; clear hb hbox hg) | ((with_reducible refine gate_callee (f := 9) rfl ?_); refine goesL_ (some 12) rfl rfl Tryd.func9 (by kernel_rfl) rfl #[] rfl (by (try simp only [List.map_toArray, List.map_cons, List.map_nil]); first | done | rfl | (simp only [List.length_drop, List.length_take]; rfl)) ?_; (with_reducible refine (decklelaw05_works.calls  true _ A4.out).mono ?_); rintro e w10 ⟨rfl, hb⟩; refine ⟨_, rfl, ?_⟩; have n0_ := Aside0.mk (blk_below (g := gb380) (o := .cells #[.int .i64 a0_0, .int .i64 a0_1, .int .i64 a0_2, .int .i64 a0_3] 23 (0, 0)) (by (with_reducible repeat (first | refine blk_drewN ?_ _ | refine blk_drew ?_ | refine blk_alloc ?_ _)); exact BK380.out) hb); have n1_ := Aside0.mk (below_step (by repeat (first | (with_reducible first | exact HB.out | apply below_alloc | apply pw_below_drewN | apply below_drew1 | refine below_set ?_ GE380.out) | exact HB.out)) hb); clear BK380; clear HB; have BK380 := n0_; have HB := n1_; clear n0_ n1_; (try clear hb); (try clear hb2); (try clear hk); (try clear hi); have hcz11_0 : w10.cell? ⟨gb380, 0, none⟩ = some (.int .i64 a0_0) := (blk_cell BK380.out 0).trans rfl; have hcz11_1 : w10.cell? ⟨gb380, 1, none⟩ = some (.int .i64 a0_1) := (blk_cell BK380.out 1).trans rfl; have hcz11_2 : w10.cell? ⟨gb380, 2, none⟩ = some (.int .i64 a0_2) := (blk_cell BK380.out 2).trans rfl; have hcz11_3 : w10.cell? ⟨gb380, 3, none⟩ = some (.int .i64 a0_3) := (blk_cell BK380.out 3).trans rfl; have hfz11_0 := blk_frozen BK380.out 0; have hfz11_1 := blk_frozen BK380.out 1; have hfz11_2 := blk_frozen BK380.out 2; have hfz11_3 := blk_frozen BK380.out 3) | ((with_reducible refine gate_callee (f := 10) rfl ?_); refine goesL_ (some 17) rfl rfl Tryd.func10 (by kernel_rfl) rfl #[.agg #[.int .i64 a0_0, .int .i64 a0_1, .int .i64 a0_2, .int .i64 a0_3], .string a1] rfl (by (try simp only [List.map_toArray, List.map_cons, List.map_nil]); first | done | rfl | (simp only [List.length_drop, List.length_take]; rfl)) ?_; (with_reducible refine (frame_Encode.calls a0_0 a0_1 a0_2 a0_3 a1 t382 t383 _ A6.out).mono ?_); rintro e w12 ⟨rfl, hb⟩; refine ⟨_, rfl, ?_⟩; have n0_ := Aside0.mk (blk_below (g := gb380) (o := .cells #[.int .i64 a0_0, .int .i64 a0_1, .int .i64 a0_2, .int .i64 a0_3] 23 (0, 0)) (by (with_reducible repeat (first | refine blk_drewN ?_ _ | refine blk_drew ?_ | refine blk_alloc ?_ _)); exact BK380.out) hb); have n1_ := Aside0.mk (below_step (by repeat (first | (with_reducible first | exact HB.out | apply below_alloc | apply pw_below_drewN | apply below_drew1 | refine below_set ?_ GE380.out) | exact HB.out)) hb); clear BK380; clear HB; have BK380 := n0_; have HB := n1_; clear n0_ n1_; (try clear hb); (try clear hb2); (try clear hk); (try clear hi)) | ((with_reducible refine gate_callee (f := 14) rfl ?_); refine goesL_ (some 26) rfl rfl Tryd.func14 (by kernel_rfl) rfl #[.int .i64 (a1.size : Int)] rfl (by (try simp only [List.map_toArray, List.map_cons, List.map_nil]); first | done | rfl | (simp only [List.length_drop, List.length_take]; rfl)) ?_; (with_reducible refine (frame_Blank.calls (a1.size : Int) t384 _ A8.out).mono ?_); rintro e w13 ⟨rfl, hb⟩; refine ⟨_, rfl, ?_⟩; have n0_ := Aside0.mk (blk_below (g := gb380) (o := .cells #[.int .i64 a0_0, .int .i64 a0_1, .int .i64 a0_2, .int .i64 a0_3] 23 (0, 0)) (by (with_reducible repeat (first | refine blk_drewN ?_ _ | refine blk_drew ?_ | refine blk_alloc ?_ _)); exact BK380.out) hb); have n1_ := Aside0.mk (below_step (by repeat (first | (with_reducible first | exact HB.out | apply below_alloc | apply pw_below_drewN | apply below_drew1 | refine below_set ?_ GE380.out) | exact HB.out)) hb); clear BK380; clear HB; have BK380 := n0_; have HB := n1_; clear n0_ n1_; (try clear hb); (try clear hb2); (try clear hk); (try clear hi)))
      go_loopg [7, 9, 10, 11] k (fun kq v7 v9 v10 v11 w' => ∃ (x7_1 : ByteArray) (x9_1 : ByteArray) (x10_1 : Int) (x11_1 : Int), v7 = .string x7_1 ∧ v9 = .string x9_1 ∧ v10 = .int .i64 x10_1 ∧ v11 = .int .i64 x11_1 ∧ Aside0 (decklelaw05_FrameFixes.l0 kq a1 l2 x7_1 x9_1 x10_1 x11_1 a0_0 a0_1 a0_2 a0_3 = some r) ∧ Aside0 (kq ≤ k) ∧ Aside0 (w'.heap[gb380]? = some (.cells #[.int .i64 a0_0, .int .i64 a0_1, .int .i64 a0_2, .int .i64 a0_3] 23 (0, 0))) ∧ Aside0 (Below w.heap.size w w'))
      case atStart => exact ⟨(t382), (t384), (2), (0), (by first | rfl | (simp; done) | (simp [*]; done)), (by first | rfl | (simp; done) | (simp [*]; done)), (by first | rfl | (simp; done) | (simp [*]; done)), (by first | rfl | (simp; done) | (simp [*]; done)), H', ⟨Nat.le_refl _⟩, ⟨by (with_reducible repeat (first | refine blk_drewN ?_ _ | refine blk_drew ?_ | refine blk_alloc ?_ _)); exact BK380.out⟩, ⟨by repeat (first | (with_reducible first | exact HB.out | apply below_alloc | apply pw_below_drewN | apply below_drew1 | refine below_set ?_ GE380.out) | exact HB.out)⟩⟩
      case round =>
        clear H'
        try clear c1
        try clear c2
        try clear p2
        try clear c5
        try clear c7
        try clear c7b0
        try clear c7b1
        try clear c9
        try clear c10
        try clear hcz11_0
        try clear hcz11_1
        try clear hcz11_2
        try clear hcz11_3
        try clear hfz11_0
        try clear hfz11_1
        try clear hfz11_2
        try clear hfz11_3
        obtain ⟨x7_1, x9_1, x10_1, x11_1, rfl, rfl, rfl, rfl, HA, HK1, BK380, HB⟩ := hrel
        cases gk with
        | zero => exact absurd HA.out (by simp [decklelaw05_FrameFixes.l0])
        | succ k1 =>
          have H := HA.out
          clear HA
          simp only [decklelaw05_FrameFixes.l0] at H
          have HC14 := Aside0.mk H
          clear H
          go_upto_region 9 with (fail)
          go_cut [37] (fun v37 wc => ∃ (kq : Nat) (x37_13 : Bool), v37 = .bool x37_13 ∧ Aside0 (decklelaw05_FrameFixes.j1 kq a1 l2 x7_1 x9_1 x10_1 x11_1 x37_13 a0_0 a0_1 a0_2 a0_3 = some r) ∧ Aside0 (kq ≤ k1) ∧ Aside0 (wc.heap[gb380]? = some (.cells #[.int .i64 a0_0, .int .i64 a0_1, .int .i64 a0_2, .int .i64 a0_3] 23 (0, 0))) ∧ Aside0 (Below w.heap.size w wc))
          case first =>
            have H := HC14.out
            clear HC14
            by_cases c15 : x11_1 < (l2.length : Int)
            · rw [if_pos c15] at H
              have c15b0 : decide (x11_1 < (l2.length : Int)) = true := decide_eq_true c15
              clear c15
              (first | rw [c15b0] | (simp only [i64_w, i32_w]; rw [c15b0]) | skip)
              have H' := Aside0.mk H
              clear H
              go_wp2
              go_meet
              case rel => exact ⟨_, (decide (x11_1 < (wrap64 ((x7_1.size : Int) / 9)))), (by first | rfl | (simp; done) | (simp [*]; done)), H', ⟨by have := HK1.out; first | omega | exact Nat.le_refl _⟩, ⟨by (with_reducible repeat (first | refine blk_drewN ?_ _ | refine blk_drew ?_ | refine blk_alloc ?_ _)); exact BK380.out⟩, ⟨by repeat (first | (with_reducible first | exact HB.out | apply below_alloc | apply pw_below_drewN | apply below_drew1 | refine below_set ?_ GE380.out) | exact HB.out)⟩⟩
            · rw [if_neg c15] at H
              have c15b0 : decide (x11_1 < (l2.length : Int)) = false := decide_eq_false c15
              clear c15
              (first | rw [c15b0] | (simp only [i64_w, i32_w]; rw [c15b0]) | skip)
              have H' := Aside0.mk H
              clear H
              go_wp2
              go_meet
              case rel => exact ⟨_, (false), (by first | rfl | (simp; done) | (simp [*]; done)), H', ⟨by have := HK1.out; first | omega | exact Nat.le_refl _⟩, ⟨by (with_reducible repeat (first | refine blk_drewN ?_ _ | refine blk_drew ?_ | refine blk_alloc ?_ _)); exact BK380.out⟩, ⟨by repeat (first | (with_reducible first | exact HB.out | apply below_alloc | apply pw_below_drewN | apply below_drew1 | refine below_set ?_ GE380.out) | exact HB.out)⟩⟩
          case rest =>
            clear HC14
            try clear c1
            try clear c2
            try clear p2
            try clear c5
            try clear p6
            try clear c7
            try clear c7b0
            try clear c7b1
            try clear c9
            try clear c10
            try clear c14
            try clear c15
            try clear c15b0
            try clear hcz11_0
            try clear hcz11_1
            try clear hcz11_2
            try clear hcz11_3
            try clear hfz11_0
            try clear hfz11_1
            try clear hfz11_2
            try clear hfz11_3
            try clear p2
            obtain ⟨kq, x37_13, rfl, HA, HJ13, BK380, HB⟩ := hcut
            cases kq with
            | zero => exact absurd HA.out (by simp [decklelaw05_FrameFixes.j1])
            | succ kj13 =>
              have H := HA.out
              clear HA
              simp only [decklelaw05_FrameFixes.j1] at H
              by_cases c16 : x37_13 = true
              · subst c16
                have H1 : (if 0 ≤ x11_1 then (if x11_1 < (l2.length : Int) then (if (rd l2 x11_1) ≥ 0 then ((decklelaw05_turned.f x7_1 x11_1 (rd l2 x11_1)).bind fun t399 => ((decklelaw05_turned.f x9_1 x11_1 (rd l2 x11_1)).bind fun t401 => (decklelaw05_FrameFixes.l0 kj13 a1 l2 t399 t401 3 (wrap64 (x11_1 + 1)) a0_0 a0_1 a0_2 a0_3))) else (decklelaw05_FrameFixes.l0 kj13 a1 l2 x7_1 x9_1 x10_1 (wrap64 (x11_1 + 1)) a0_0 a0_1 a0_2 a0_3)) else (none)) else (none)) = some r := by rw [if_pos rfl] at H; exact H
                clear H
                have H := H1
                clear H1
                by_cases c17 : 0 ≤ x11_1
                · rw [if_pos c17] at H
                  have c17b0 : decide (0 ≤ x11_1) = true := decide_eq_true c17
                  clear c17
                  by_cases c18 : x11_1 < (l2.length : Int)
                  · rw [if_pos c18] at H
                    have c18b0 : decide (x11_1 < (l2.length : Int)) = true := decide_eq_true c18
                    clear c18
                    by_cases c19 : (rd l2 x11_1) ≥ 0
                    · rw [if_pos c19] at H
                      have c19b0 : decide (0 ≤ (rd l2 x11_1)) = true := decide_eq_true c19
                      clear c19
                      replace H := Option.bind_eq_some_iff.mp H
                      obtain ⟨t399, A200, H⟩ := H
                      replace H : ((decklelaw05_turned.f x9_1 x11_1 (rd l2 x11_1)).bind fun t401 => (decklelaw05_FrameFixes.l0 kj13 a1 l2 t399 t401 3 (wrap64 (x11_1 + 1)) a0_0 a0_1 a0_2 a0_3)) = some r := H
                      have A20 := Aside0.mk A200
                      clear A200
                      replace H := Option.bind_eq_some_iff.mp H
                      obtain ⟨t401, A210, H⟩ := H
                      replace H : (decklelaw05_FrameFixes.l0 kj13 a1 l2 t399 t401 3 (wrap64 (x11_1 + 1)) a0_0 a0_1 a0_2 a0_3) = some r := H
                      have A21 := Aside0.mk A210
                      clear A210
                      have H' := Aside0.mk H
                      clear H
                      have p397 : 0 ≤ (x11_1 : Int) := of_decide_eq_true (by first | (with_reducible assumption) | assumption)
                      have q397 : x11_1 < (l2.length : Int) := of_decide_eq_true (by first | (with_reducible assumption) | assumption)
                      obtain ⟨ad397, e397, hx397_0⟩ := Kd.at_int HR2.out x11_1 p397 q397
                      cases e397
                      try replace hx397_0 := (HB.out.cell (World.block_lt_of_cell? w _ hx397_0)).trans hx397_0
                      replace p397 := eq_true p397
                      replace q397 := eq_true q397
                      have p398 : 0 ≤ (x11_1 : Int) := of_decide_eq_true (by first | (with_reducible assumption) | assumption)
                      have q398 : x11_1 < (l2.length : Int) := of_decide_eq_true (by first | (with_reducible assumption) | assumption)
                      obtain ⟨ad398, e398, hx398_0⟩ := Kd.at_int HR2.out x11_1 p398 q398
                      obtain rfl : ad397 = ad398 := (by injection e398)
                      try replace hx398_0 := (HB.out.cell (World.block_lt_of_cell? w _ hx398_0)).trans hx398_0
                      replace p398 := eq_true p398
                      replace q398 := eq_true q398
                      go_wp2_with (first | ((with_reducible refine gate_callee (f := 18) rfl ?_); refine goesL_ (some 51) rfl rfl Tryd.func18 (by kernel_rfl) rfl #[.string x7_1, .int .i64 x11_1, .int .i64 (rd l2 x11_1)] rfl (by (try simp only [List.map_toArray, List.map_cons, List.map_nil]); first | done | rfl | (simp only [List.length_drop, List.length_take]; rfl)) ?_; (with_reducible refine (decklelaw05_turned.calls x7_1 x11_1 (rd l2 x11_1) t399 _ A20.out).mono ?_); rintro e w22 ⟨rfl, hb⟩; refine ⟨_, rfl, ?_⟩; have n0_ := Aside0.mk (blk_below (g := gb380) (o := .cells #[.int .i64 a0_0, .int .i64 a0_1, .int .i64 a0_2, .int .i64 a0_3] 23 (0, 0)) (by (with_reducible repeat (first | refine blk_drewN ?_ _ | refine blk_drew ?_ | refine blk_alloc ?_ _)); exact BK380.out) hb); have n1_ := Aside0.mk (below_step (by repeat (first | (with_reducible first | exact HB.out | apply below_alloc | apply pw_below_drewN | apply below_drew1 | refine below_set ?_ GE380.out) | exact HB.out)) hb); clear BK380; clear HB; have BK380 := n0_; have HB := n1_; clear n0_ n1_; (try clear hb); (try clear hb2); (try clear hk); (try clear hi); have p400 : 0 ≤ (x11_1 : Int) := of_decide_eq_true (by first | (with_reducible assumption) | assumption); have q400 : x11_1 < (l2.length : Int) := of_decide_eq_true (by first | (with_reducible assumption) | assumption); obtain ⟨ad400, e400, hx400_0⟩ := Kd.at_int HR2.out x11_1 p400 q400; obtain rfl : ad397 = ad400 := (by injection e400); replace hx400_0 := (HB.out.cell (World.block_lt_of_cell? w _ hx400_0)).trans hx400_0; replace p400 := eq_true p400; replace q400 := eq_true q400) | ((with_reducible refine gate_callee (f := 18) rfl ?_); refine goesL_ (some 58) rfl rfl Tryd.func18 (by kernel_rfl) rfl #[.string x9_1, .int .i64 x11_1, .int .i64 (rd l2 x11_1)] rfl (by (try simp only [List.map_toArray, List.map_cons, List.map_nil]); first | done | rfl | (simp only [List.length_drop, List.length_take]; rfl)) ?_; (with_reducible refine (decklelaw05_turned.calls x9_1 x11_1 (rd l2 x11_1) t401 _ A21.out).mono ?_); rintro e w23 ⟨rfl, hb⟩; refine ⟨_, rfl, ?_⟩; have n0_ := Aside0.mk (blk_below (g := gb380) (o := .cells #[.int .i64 a0_0, .int .i64 a0_1, .int .i64 a0_2, .int .i64 a0_3] 23 (0, 0)) (by (with_reducible repeat (first | refine blk_drewN ?_ _ | refine blk_drew ?_ | refine blk_alloc ?_ _)); exact BK380.out) hb); have n1_ := Aside0.mk (below_step (by repeat (first | (with_reducible first | exact HB.out | apply below_alloc | apply pw_below_drewN | apply below_drew1 | refine below_set ?_ GE380.out) | exact HB.out)) hb); clear BK380; clear HB; have BK380 := n0_; have HB := n1_; clear n0_ n1_; (try clear hb); (try clear hb2); (try clear hk); (try clear hi)))
                      go_roundg kj13
                      case measure => have := HK1.out; have := HJ13.out; omega
                      case rel => exact ⟨(t399), (t401), (3), (wrap64 (x11_1 + 1)), (by first | rfl | (simp; done) | (simp [*]; done)), (by first | rfl | (simp; done) | (simp [*]; done)), (by first | rfl | (simp; done) | (simp [*]; done)), (by first | rfl | (simp; done) | (simp [*]; done)), H', ⟨by have := HK1.out; have := HJ13.out; omega⟩, ⟨by (with_reducible repeat (first | refine blk_drewN ?_ _ | refine blk_drew ?_ | refine blk_alloc ?_ _)); exact BK380.out⟩, ⟨by repeat (first | (with_reducible first | exact HB.out | apply below_alloc | apply pw_below_drewN | apply below_drew1 | refine below_set ?_ GE380.out) | exact HB.out)⟩⟩
                    · rw [if_neg c19] at H
                      have c19b0 : decide (0 ≤ (rd l2 x11_1)) = false := decide_eq_false c19
                      clear c19
                      have H' := Aside0.mk H
                      clear H
                      have p397 : 0 ≤ (x11_1 : Int) := of_decide_eq_true (by first | (with_reducible assumption) | assumption)
                      have q397 : x11_1 < (l2.length : Int) := of_decide_eq_true (by first | (with_reducible assumption) | assumption)
                      obtain ⟨ad397, e397, hx397_0⟩ := Kd.at_int HR2.out x11_1 p397 q397
                      cases e397
                      try replace hx397_0 := (HB.out.cell (World.block_lt_of_cell? w _ hx397_0)).trans hx397_0
                      replace p397 := eq_true p397
                      replace q397 := eq_true q397
                      go_wp2
                      go_roundg kj13
                      case measure => have := HK1.out; have := HJ13.out; omega
                      case rel => exact ⟨(x7_1), (x9_1), (x10_1), (wrap64 (x11_1 + 1)), (by first | rfl | (simp; done) | (simp [*]; done)), (by first | rfl | (simp; done) | (simp [*]; done)), (by first | rfl | (simp; done) | (simp [*]; done)), (by first | rfl | (simp; done) | (simp [*]; done)), H', ⟨by have := HK1.out; have := HJ13.out; omega⟩, ⟨by (with_reducible repeat (first | refine blk_drewN ?_ _ | refine blk_drew ?_ | refine blk_alloc ?_ _)); exact BK380.out⟩, ⟨by repeat (first | (with_reducible first | exact HB.out | apply below_alloc | apply pw_below_drewN | apply below_drew1 | refine below_set ?_ GE380.out) | exact HB.out)⟩⟩
                  · rw [if_neg c18] at H
                    exact absurd H (by simp)
                · rw [if_neg c17] at H
                  exact absurd H (by simp)
              · replace c16 := Bool.eq_false_iff.mpr c16
                subst c16
                have H1 : ((frame_Decode.f x7_1).bind fun bt385 => (if (bt385.1 == x10_1 && ((bt385.2.1 == a0_0 && (bt385.2.2.1 == a0_1 && (bt385.2.2.2.1 == a0_2 && (bt385.2.2.2.2.1 == a0_3)))) && (bt385.2.2.2.2.2.toList == a1.toList))) = true then ((frame_Decode.f x9_1).bind fun bt391 => (some (bt391.1 == 1 && ((bt391.2.1 == 0 && (bt391.2.2.1 == 0 && (bt391.2.2.2.1 == 0 && (bt391.2.2.2.2.1 == 0)))) && (bt391.2.2.2.2.2.toList == ([] : List UInt8)))))) else (some false))) = some r := by rw [if_neg (show ¬ (false = true) by decide)] at H; exact H
                clear H
                have H := H1
                clear H1
                replace H := Option.bind_eq_some_iff.mp H
                obtain ⟨⟨t385, t386, t387, t388, t389, t390⟩, A240, H⟩ := H
                replace H : (if (t385 == x10_1 && ((t386 == a0_0 && (t387 == a0_1 && (t388 == a0_2 && (t389 == a0_3)))) && (t390.toList == a1.toList))) = true then ((frame_Decode.f x9_1).bind fun bt391 => (some (bt391.1 == 1 && ((bt391.2.1 == 0 && (bt391.2.2.1 == 0 && (bt391.2.2.2.1 == 0 && (bt391.2.2.2.2.1 == 0)))) && (bt391.2.2.2.2.2.toList == ([] : List UInt8)))))) else (some false)) = some r := H
                have A24 := Aside0.mk A240
                clear A240
                by_cases c25 : (t385 == x10_1 && ((t386 == a0_0 && (t387 == a0_1 && (t388 == a0_2 && (t389 == a0_3)))) && (t390.toList == a1.toList))) = true
                · rw [if_pos c25] at H
                  have c25b0 : (t385 == x10_1 && ((t386 == a0_0 && (t387 == a0_1 && (t388 == a0_2 && (t389 == a0_3)))) && (t390.toList == a1.toList))) = true := c25
                  (try (have c25b1 : decide (t385 = x10_1 && ((t386 == a0_0 && (t387 == a0_1 && (t388 == a0_2 && (t389 == a0_3)))) && (t390.toList == a1.toList))) = true := by simpa using c25))
                  (try (have c25b2 : (t385 == x10_1 && ((t386 == a0_0 && (t387 == a0_1 && (t388 == a0_2 && (t389 == a0_3)))) && (t390.toList == a1.toList))) = true := by simpa using c25))
                  clear c25
                  replace H := Option.bind_eq_some_iff.mp H
                  obtain ⟨⟨t391, t392, t393, t394, t395, t396⟩, A260, H⟩ := H
                  replace H : (some (t391 == 1 && ((t392 == 0 && (t393 == 0 && (t394 == 0 && (t395 == 0)))) && (t396.toList == ([] : List UInt8))))) = some r := H
                  have A26 := Aside0.mk A260
                  clear A260
                  obtain rfl := Option.some.inj H
                  try go_wp2
                  have n0_ := Aside0.mk (blk_drew BK380.out)
                  have n1_ := Aside0.mk (below_drew1 HB.out)
                  clear BK380
                  clear HB
                  have BK380 := n0_
                  have HB := n1_
                  clear n0_ n1_
                  refine start_ (n := 14) (S := fun w' => w'.cell? ⟨gb380, 0, none⟩ = some (.int .i64 a0_0) ∧ w'.cell? ⟨gb380, 1, none⟩ = some (.int .i64 a0_1) ∧ w'.cell? ⟨gb380, 2, none⟩ = some (.int .i64 a0_2) ∧ w'.cell? ⟨gb380, 3, none⟩ = some (.int .i64 a0_3)) (ds := []) (tfA 0 14) (by kernel_rfl) rfl rfl ⟨(blk_cell BK380.out 0).trans rfl, (blk_cell BK380.out 1).trans rfl, (blk_cell BK380.out 2).trans rfl, (blk_cell BK380.out 3).trans rfl⟩ (fun hHeld => ?_); refine with_tabW decklelaw05_FrameFixes.tab15 decklelaw05_FrameFixes.bits15 (fun HT_ HW_ => ?_)
                  generalize wc.drew = w27 at BK380 HB hHeld ⊢
                  refine pure_ (i := 0) (N := some 59) (v := ?_) (a' := ?_) (tfA 1 14) rfl rfl (any_of HT_.out (by kernel_rfl)) (fun _ _ _ h => h) (Or.inl ⟨by rfl, ?_⟩) ?_ ?_
                  rotate_left
                  · intro w'; go_simp; with_reducible rfl
                  rotate_left
                  · simp only [Act.put, sib, sc0, sc1, i64_w, i32_w]; rfl
                  refine pure_ (i := 2) (N := some 61) (v := ?_) (a' := ?_) #[true, false, true, false, false, false, false, false, false, false, false, false, false, false] rfl rfl (any_of HT_.out (by kernel_rfl)) (fun _ _ _ h => h) (Or.inl ⟨by rfl, ?_⟩) ?_ ?_
                  rotate_left
                  · intro w'; go_simp; with_reducible rfl
                  rotate_left
                  · simp only [Act.put, sib, sc0, sc1, i64_w, i32_w]; rfl
                  refine pure_ (i := 4) (N := some 63) (v := ?_) (a' := ?_) #[true, false, true, false, true, false, false, false, false, false, false, false, false, false] rfl rfl (any_of HT_.out (by kernel_rfl)) (fun _ _ _ h => h) (Or.inl ⟨by rfl, ?_⟩) ?_ ?_
                  rotate_left
                  · intro w'; go_simp; with_reducible rfl
                  rotate_left
                  · simp only [Act.put, sib, sc0, sc1, i64_w, i32_w]; rfl
                  refine take_ (i := 3) (N := some 62) (v := ?_) (a' := ?_) #[true, false, true, true, true, false, false, false, false, false, false, false, false, false] rfl rfl (take_ofW HT_.out HW_.out (by kernel_rfl)) (fun _ _ _ h => h) (Or.inl ⟨by rfl, ?_⟩) hHeld ?_ ?_
                  rotate_left
                  · rintro w' ⟨s0, s1, s2, s3⟩
                    go_simp
                    with_reducible rfl
                  rotate_left
                  · simp only [Act.put, sib, sc0, sc1, i64_w, i32_w]
                    rfl
                  refine pure_ (i := 5) (N := some 64) (v := ?_) (a' := ?_) #[true, false, true, true, true, true, false, false, false, false, false, false, false, false] rfl rfl (any_of HT_.out (by kernel_rfl)) (fun _ _ _ h => h) (Or.inl ⟨by rfl, ?_⟩) ?_ ?_
                  rotate_left
                  · intro w'; go_simp; with_reducible rfl
                  rotate_left
                  · simp only [Act.put, sib, sc0, sc1, i64_w, i32_w]; rfl
                  refine one_ (i := 1) (N := some 60) (tfA 6 14) rfl rfl (one_of HT_.out (by kernel_rfl)) (by decide) (fun K hK => ?_)
                  refine goes_ Tryd.func12 (by kernel_rfl) rfl #[.string x7_1] (by rfl) rfl rfl (by (try simp only [List.map_toArray, List.map_cons, List.map_nil]); first | done | rfl | (simp only [List.length_drop, List.length_take]; rfl)) ?_
                  with_reducible refine (frame_Decode.calls x7_1 t385 t386 t387 t388 t389 t390 _ A24.out).mono ?_
                  rintro e w28 ⟨rfl, hb⟩
                  refine ⟨_, rfl, ?_⟩
                  have n0_ := Aside0.mk (blk_below (g := gb380) (o := .cells #[.int .i64 a0_0, .int .i64 a0_1, .int .i64 a0_2, .int .i64 a0_3] 23 (0, 0)) (by (with_reducible repeat (first | refine blk_drewN ?_ _ | refine blk_drew ?_ | refine blk_alloc ?_ _)); exact BK380.out) hb)
                  have n1_ := Aside0.mk (below_step (by repeat (first | (with_reducible first | exact HB.out | apply below_alloc | apply pw_below_drewN | apply below_drew1 | refine below_set ?_ GE380.out) | exact HB.out)) hb)
                  clear BK380
                  clear HB
                  have BK380 := n0_
                  have HB := n1_
                  clear n0_ n1_
                  (try clear hb)
                  (try clear hb2)
                  (try clear hk)
                  (try clear hi)
                  refine hK.out _ _ ⟨(blk_cell BK380.out 0).trans rfl, (blk_cell BK380.out 1).trans rfl, (blk_cell BK380.out 2).trans rfl, (blk_cell BK380.out 3).trans rfl⟩ (fun hHeld => ?_)
                  clear hK K
                  refine norm_ (a' := ?_) ?_ ?_
                  rotate_left
                  · show Act.put _ (some 60) _ = _
                    simp only [Act.put, sib, sc0, sc1, i64_w, i32_w]
                    rfl
                  refine pure_ (i := 6) (N := some 65) (v := ?_) (a' := ?_) (tfA 7 14) rfl rfl (any_of HT_.out (by kernel_rfl)) (fun _ _ _ h => h) (Or.inl ⟨by rfl, ?_⟩) ?_ ?_
                  rotate_left
                  · intro w'; go_simp; with_reducible rfl
                  rotate_left
                  · simp only [Act.put, sib, sc0, sc1, i64_w, i32_w]; rfl
                  refine pure_ (i := 7) (N := some 66) (v := ?_) (a' := ?_) (tfA 8 14) rfl rfl (any_of HT_.out (by kernel_rfl)) (fun _ _ _ h => h) (Or.inl ⟨by rfl, ?_⟩) ?_ ?_
                  rotate_left
                  · intro w'; go_simp; with_reducible rfl
                  rotate_left
                  · simp only [Act.put, sib, sc0, sc1, i64_w, i32_w]; rfl
                  refine pure_ (i := 8) (N := some 67) (v := ?_) (a' := ?_) (tfA 9 14) rfl rfl (any_of HT_.out (by kernel_rfl)) (fun _ _ _ h => h) (Or.inl ⟨by rfl, ?_⟩) ?_ ?_
                  rotate_left
                  · intro w'; go_simp; with_reducible rfl
                  rotate_left
                  · simp only [Act.put, sib, sc0, sc1, i64_w, i32_w]; rfl
                  refine pure_ (i := 10) (N := some 69) (v := ?_) (a' := ?_) #[true, true, true, true, true, true, true, true, true, false, true, false, false, false] rfl rfl (any_of HT_.out (by kernel_rfl)) (fun _ _ _ h => h) (Or.inl ⟨by rfl, ?_⟩) ?_ ?_
                  rotate_left
                  · intro w'; go_simp; with_reducible rfl
                  rotate_left
                  · simp only [Act.put, sib, sc0, sc1, i64_w, i32_w]; rfl
                  refine one_ (i := 9) (N := some 68) (tfA 11 14) rfl rfl (one_of HT_.out (by kernel_rfl)) (by decide) (fun K hK => ?_)
                  refine goes_ Tryd.func12 (by kernel_rfl) rfl #[.string x9_1] (by rfl) rfl rfl (by (try simp only [List.map_toArray, List.map_cons, List.map_nil]); first | done | rfl | (simp only [List.length_drop, List.length_take]; rfl)) ?_
                  with_reducible refine (frame_Decode.calls x9_1 t391 t392 t393 t394 t395 t396 _ A26.out).mono ?_
                  rintro e w29 ⟨rfl, hb⟩
                  refine ⟨_, rfl, ?_⟩
                  have n0_ := Aside0.mk (blk_below (g := gb380) (o := .cells #[.int .i64 a0_0, .int .i64 a0_1, .int .i64 a0_2, .int .i64 a0_3] 23 (0, 0)) (by (with_reducible repeat (first | refine blk_drewN ?_ _ | refine blk_drew ?_ | refine blk_alloc ?_ _)); exact BK380.out) hb)
                  have n1_ := Aside0.mk (below_step (by repeat (first | (with_reducible first | exact HB.out | apply below_alloc | apply pw_below_drewN | apply below_drew1 | refine below_set ?_ GE380.out) | exact HB.out)) hb)
                  clear BK380
                  clear HB
                  have BK380 := n0_
                  have HB := n1_
                  clear n0_ n1_
                  (try clear hb)
                  (try clear hb2)
                  (try clear hk)
                  (try clear hi)
                  refine hK.out _ _ ⟨(blk_cell BK380.out 0).trans rfl, (blk_cell BK380.out 1).trans rfl, (blk_cell BK380.out 2).trans rfl, (blk_cell BK380.out 3).trans rfl⟩ (fun hHeld => ?_)
                  clear hK K
                  refine norm_ (a' := ?_) ?_ ?_
                  rotate_left
                  · show Act.put _ (some 68) _ = _
                    simp only [Act.put, sib, sc0, sc1, i64_w, i32_w]
                    rfl
                  refine pure_ (i := 11) (N := some 70) (v := ?_) (a' := ?_) (tfA 12 14) rfl rfl (any_of HT_.out (by kernel_rfl)) (fun _ _ _ h => h) (Or.inl ⟨by rfl, ?_⟩) ?_ ?_
                  rotate_left
                  · intro w'; go_simp; with_reducible rfl
                  rotate_left
                  · simp only [Act.put, sib, sc0, sc1, i64_w, i32_w]; rfl
                  refine pure_ (i := 12) (N := some 71) (v := ?_) (a' := ?_) (tfA 13 14) rfl rfl (any_of HT_.out (by kernel_rfl)) (fun _ _ _ h => h) (Or.inl ⟨by rfl, ?_⟩) ?_ ?_
                  rotate_left
                  · intro w'; go_simp; with_reducible rfl
                  rotate_left
                  · simp only [Act.put, sib, sc0, sc1, i64_w, i32_w]; rfl
                  refine pure_ (i := 13) (N := some 6) (v := ?_) (a' := ?_) (tfA 14 14) rfl rfl (any_of HT_.out (by kernel_rfl)) (fun _ _ _ h => h) (Or.inl ⟨by rfl, ?_⟩) ?_ ?_
                  rotate_left
                  · intro w'; go_simp; with_reducible rfl
                  rotate_left
                  · simp only [Act.put, sib, sc0, sc1, i64_w, i32_w]; rfl
                  refine done_ (done_of HT_.out (by kernel_rfl)) ?_
                  try go_wp2
                  go_ret
                  exact ⟨by first | rfl | (simp [errW_none, errW_some] <;> rfl) | (simp [*, errW_none, errW_some] <;> rfl), by repeat (first | (with_reducible first | exact HB.out | apply below_alloc | apply pw_below_drewN | apply below_drew1 | refine below_set ?_ GE380.out) | exact HB.out)⟩
                · rw [if_neg c25] at H
                  have c25b0 : (t385 == x10_1 && ((t386 == a0_0 && (t387 == a0_1 && (t388 == a0_2 && (t389 == a0_3)))) && (t390.toList == a1.toList))) = false := by simpa using c25
                  (try (have c25b1 : decide (t385 = x10_1 && ((t386 == a0_0 && (t387 == a0_1 && (t388 == a0_2 && (t389 == a0_3)))) && (t390.toList == a1.toList))) = false := by simpa using c25))
                  (try (have c25b2 : (t385 == x10_1 && ((t386 == a0_0 && (t387 == a0_1 && (t388 == a0_2 && (t389 == a0_3)))) && (t390.toList == a1.toList))) = false := by simpa using c25))
                  (try (have c25b3 : ¬ (t385 = x10_1 && ((t386 == a0_0 && (t387 == a0_1 && (t388 == a0_2 && (t389 == a0_3)))) && (t390.toList == a1.toList))) := by simpa using c25))
                  clear c25
                  obtain rfl := Option.some.inj H
                  try go_wp2
                  have n0_ := Aside0.mk (blk_drew BK380.out)
                  have n1_ := Aside0.mk (below_drew1 HB.out)
                  clear BK380
                  clear HB
                  have BK380 := n0_
                  have HB := n1_
                  clear n0_ n1_
                  refine start_ (n := 14) (S := fun w' => w'.cell? ⟨gb380, 0, none⟩ = some (.int .i64 a0_0) ∧ w'.cell? ⟨gb380, 1, none⟩ = some (.int .i64 a0_1) ∧ w'.cell? ⟨gb380, 2, none⟩ = some (.int .i64 a0_2) ∧ w'.cell? ⟨gb380, 3, none⟩ = some (.int .i64 a0_3)) (ds := []) (tfA 0 14) (by kernel_rfl) rfl rfl ⟨(blk_cell BK380.out 0).trans rfl, (blk_cell BK380.out 1).trans rfl, (blk_cell BK380.out 2).trans rfl, (blk_cell BK380.out 3).trans rfl⟩ (fun hHeld => ?_); refine with_tabW decklelaw05_FrameFixes.tab15 decklelaw05_FrameFixes.bits15 (fun HT_ HW_ => ?_)
                  generalize wc.drew = w30 at BK380 HB hHeld ⊢
                  refine pure_ (i := 0) (N := some 59) (v := ?_) (a' := ?_) (tfA 1 14) rfl rfl (any_of HT_.out (by kernel_rfl)) (fun _ _ _ h => h) (Or.inl ⟨by rfl, ?_⟩) ?_ ?_
                  rotate_left
                  · intro w'; go_simp; with_reducible rfl
                  rotate_left
                  · simp only [Act.put, sib, sc0, sc1, i64_w, i32_w]; rfl
                  refine pure_ (i := 2) (N := some 61) (v := ?_) (a' := ?_) #[true, false, true, false, false, false, false, false, false, false, false, false, false, false] rfl rfl (any_of HT_.out (by kernel_rfl)) (fun _ _ _ h => h) (Or.inl ⟨by rfl, ?_⟩) ?_ ?_
                  rotate_left
                  · intro w'; go_simp; with_reducible rfl
                  rotate_left
                  · simp only [Act.put, sib, sc0, sc1, i64_w, i32_w]; rfl
                  refine pure_ (i := 4) (N := some 63) (v := ?_) (a' := ?_) #[true, false, true, false, true, false, false, false, false, false, false, false, false, false] rfl rfl (any_of HT_.out (by kernel_rfl)) (fun _ _ _ h => h) (Or.inl ⟨by rfl, ?_⟩) ?_ ?_
                  rotate_left
                  · intro w'; go_simp; with_reducible rfl
                  rotate_left
                  · simp only [Act.put, sib, sc0, sc1, i64_w, i32_w]; rfl
                  refine take_ (i := 3) (N := some 62) (v := ?_) (a' := ?_) #[true, false, true, true, true, false, false, false, false, false, false, false, false, false] rfl rfl (take_ofW HT_.out HW_.out (by kernel_rfl)) (fun _ _ _ h => h) (Or.inl ⟨by rfl, ?_⟩) hHeld ?_ ?_
                  rotate_left
                  · rintro w' ⟨s0, s1, s2, s3⟩
                    go_simp
                    with_reducible rfl
                  rotate_left
                  · simp only [Act.put, sib, sc0, sc1, i64_w, i32_w]
                    rfl
                  refine pure_ (i := 5) (N := some 64) (v := ?_) (a' := ?_) #[true, false, true, true, true, true, false, false, false, false, false, false, false, false] rfl rfl (any_of HT_.out (by kernel_rfl)) (fun _ _ _ h => h) (Or.inl ⟨by rfl, ?_⟩) ?_ ?_
                  rotate_left
                  · intro w'; go_simp; with_reducible rfl
                  rotate_left
                  · simp only [Act.put, sib, sc0, sc1, i64_w, i32_w]; rfl
                  refine one_ (i := 1) (N := some 60) (tfA 6 14) rfl rfl (one_of HT_.out (by kernel_rfl)) (by decide) (fun K hK => ?_)
                  refine goes_ Tryd.func12 (by kernel_rfl) rfl #[.string x7_1] (by rfl) rfl rfl (by (try simp only [List.map_toArray, List.map_cons, List.map_nil]); first | done | rfl | (simp only [List.length_drop, List.length_take]; rfl)) ?_
                  with_reducible refine (frame_Decode.calls x7_1 t385 t386 t387 t388 t389 t390 _ A24.out).mono ?_
                  rintro e w31 ⟨rfl, hb⟩
                  refine ⟨_, rfl, ?_⟩
                  have n0_ := Aside0.mk (blk_below (g := gb380) (o := .cells #[.int .i64 a0_0, .int .i64 a0_1, .int .i64 a0_2, .int .i64 a0_3] 23 (0, 0)) (by (with_reducible repeat (first | refine blk_drewN ?_ _ | refine blk_drew ?_ | refine blk_alloc ?_ _)); exact BK380.out) hb)
                  have n1_ := Aside0.mk (below_step (by repeat (first | (with_reducible first | exact HB.out | apply below_alloc | apply pw_below_drewN | apply below_drew1 | refine below_set ?_ GE380.out) | exact HB.out)) hb)
                  clear BK380
                  clear HB
                  have BK380 := n0_
                  have HB := n1_
                  clear n0_ n1_
                  (try clear hb)
                  (try clear hb2)
                  (try clear hk)
                  (try clear hi)
                  refine hK.out _ _ ⟨(blk_cell BK380.out 0).trans rfl, (blk_cell BK380.out 1).trans rfl, (blk_cell BK380.out 2).trans rfl, (blk_cell BK380.out 3).trans rfl⟩ (fun hHeld => ?_)
                  clear hK K
                  refine norm_ (a' := ?_) ?_ ?_
                  rotate_left
                  · show Act.put _ (some 60) _ = _
                    simp only [Act.put, sib, sc0, sc1, i64_w, i32_w]
                    rfl
                  refine pure_ (i := 6) (N := some 65) (v := ?_) (a' := ?_) (tfA 7 14) rfl rfl (any_of HT_.out (by kernel_rfl)) (fun _ _ _ h => h) (Or.inl ⟨by rfl, ?_⟩) ?_ ?_
                  rotate_left
                  · intro w'; go_simp; with_reducible rfl
                  rotate_left
                  · simp only [Act.put, sib, sc0, sc1, i64_w, i32_w]; rfl
                  refine pure_ (i := 7) (N := some 66) (v := ?_) (a' := ?_) (tfA 8 14) rfl rfl (any_of HT_.out (by kernel_rfl)) (fun _ _ _ h => h) (Or.inl ⟨by rfl, ?_⟩) ?_ ?_
                  rotate_left
                  · intro w'; go_simp; with_reducible rfl
                  rotate_left
                  · simp only [Act.put, sib, sc0, sc1, i64_w, i32_w]; rfl
                  refine pure_ (i := 8) (N := some 67) (v := undef) (a' := ?_) (tfA 9 14) rfl rfl (any_of HT_.out (by kernel_rfl)) (fun _ _ _ h => h) (Or.inr ⟨by rfl, rfl⟩) ?_ ?_
                  rotate_left
                  · simp only [Act.put, sib, sc0, sc1, i64_w, i32_w]
                    rfl
                  refine pure_ (i := 9) (N := some 68) (v := undef) (a' := ?_) (tfA 10 14) rfl rfl (any_of HT_.out (by kernel_rfl)) (fun _ _ _ h => h) (Or.inr ⟨by rfl, rfl⟩) ?_ ?_
                  rotate_left
                  · simp only [Act.put, sib, sc0, sc1, i64_w, i32_w]
                    rfl
                  refine pure_ (i := 10) (N := some 69) (v := undef) (a' := ?_) (tfA 11 14) rfl rfl (any_of HT_.out (by kernel_rfl)) (fun _ _ _ h => h) (Or.inr ⟨by rfl, rfl⟩) ?_ ?_
                  rotate_left
                  · simp only [Act.put, sib, sc0, sc1, i64_w, i32_w]
                    rfl
                  refine pure_ (i := 11) (N := some 70) (v := undef) (a' := ?_) (tfA 12 14) rfl rfl (any_of HT_.out (by kernel_rfl)) (fun _ _ _ h => h) (Or.inr ⟨by rfl, rfl⟩) ?_ ?_
                  rotate_left
                  · simp only [Act.put, sib, sc0, sc1, i64_w, i32_w]
                    rfl
                  refine pure_ (i := 12) (N := some 71) (v := ?_) (a' := ?_) (tfA 13 14) rfl rfl (any_of HT_.out (by kernel_rfl)) (fun _ _ _ h => h) (Or.inl ⟨by rfl, ?_⟩) ?_ ?_
                  rotate_left
                  · intro w'; go_simp; with_reducible rfl
                  rotate_left
                  · simp only [Act.put, sib, sc0, sc1, i64_w, i32_w]; rfl
                  refine pure_ (i := 13) (N := some 6) (v := ?_) (a' := ?_) (tfA 14 14) rfl rfl (any_of HT_.out (by kernel_rfl)) (fun _ _ _ h => h) (Or.inl ⟨by rfl, ?_⟩) ?_ ?_
                  rotate_left
                  · intro w'; go_simp; with_reducible rfl
                  rotate_left
                  · simp only [Act.put, sib, sc0, sc1, i64_w, i32_w]; rfl
                  refine done_ (done_of HT_.out (by kernel_rfl)) ?_
                  try go_wp2
                  go_ret
                  exact ⟨by first | rfl | (simp [errW_none, errW_some] <;> rfl) | (simp [*, errW_none, errW_some] <;> rfl), by repeat (first | (with_reducible first | exact HB.out | apply below_alloc | apply pw_below_drewN | apply below_drew1 | refine below_set ?_ GE380.out) | exact HB.out)⟩
    · rw [if_neg c7] at H
      have c7b0 : (t383 == 0) = false := beq_eq_false_iff_ne.mpr c7
      have c7b1 : (t383 != 0) = true := bne_iff_ne.mpr c7
      obtain rfl := Option.some.inj H
      go_enter Tryd.func7, Tryd.ntmps7
      go_wp2_with (first | ((with_reducible refine gate_dst (N := 3) rfl ?_); (try (refine gate_guard (by rfl) ?_; dsimp only)); refine box_event ?hg (N := 3) ?hd (cs := #[.int .i64 a0_0, .int .i64 a0_1, .int .i64 a0_2, .int .i64 a0_3]) (t := 23) ?hr ?_; (case hd => rfl); (case hg => rfl); (case hr => first | (go_simp; done) | (go_simp; rfl)); intro gb380 hg w32 hbox hb; have n0_ := Aside0.mk (below_step (by repeat (first | (with_reducible first | exact HB.out | apply below_alloc | apply pw_below_drewN | apply below_drew1) | exact HB.out)) hb); have n1_ := Aside0.mk (hbox); have n2_ := Aside0.mk ((by rw [hg]; exact (below_size (by repeat (first | (with_reducible first | exact HB.out | apply below_alloc | apply pw_below_drewN | apply below_drew1) | exact HB.out))) : w.heap.size ≤ gb380)); have n3_ := Aside0.mk ((by rw [hg]; exact (below_size (by repeat (first | (with_reducible first | exact HB.out | apply below_alloc | apply pw_below_drewN | apply below_drew1) | exact HB.out))) : w.heap.size ≤ gb380)); clear HB; have HB := n0_; have BK380 := n1_; have GW380 := n2_; have GE380 := n3_; clear n0_ n1_ n2_ n3_; clear hb hbox hg) | ((with_reducible refine gate_callee (f := 9) rfl ?_); refine goesL_ (some 12) rfl rfl Tryd.func9 (by kernel_rfl) rfl #[] rfl (by (try simp only [List.map_toArray, List.map_cons, List.map_nil]); first | done | rfl | (simp only [List.length_drop, List.length_take]; rfl)) ?_; (with_reducible refine (decklelaw05_works.calls  true _ A4.out).mono ?_); rintro e w33 ⟨rfl, hb⟩; refine ⟨_, rfl, ?_⟩; have n0_ := Aside0.mk (blk_below (g := gb380) (o := .cells #[.int .i64 a0_0, .int .i64 a0_1, .int .i64 a0_2, .int .i64 a0_3] 23 (0, 0)) (by (with_reducible repeat (first | refine blk_drewN ?_ _ | refine blk_drew ?_ | refine blk_alloc ?_ _)); exact BK380.out) hb); have n1_ := Aside0.mk (below_step (by repeat (first | (with_reducible first | exact HB.out | apply below_alloc | apply pw_below_drewN | apply below_drew1 | refine below_set ?_ GE380.out) | exact HB.out)) hb); clear BK380; clear HB; have BK380 := n0_; have HB := n1_; clear n0_ n1_; (try clear hb); (try clear hb2); (try clear hk); (try clear hi); have hcz34_0 : w33.cell? ⟨gb380, 0, none⟩ = some (.int .i64 a0_0) := (blk_cell BK380.out 0).trans rfl; have hcz34_1 : w33.cell? ⟨gb380, 1, none⟩ = some (.int .i64 a0_1) := (blk_cell BK380.out 1).trans rfl; have hcz34_2 : w33.cell? ⟨gb380, 2, none⟩ = some (.int .i64 a0_2) := (blk_cell BK380.out 2).trans rfl; have hcz34_3 : w33.cell? ⟨gb380, 3, none⟩ = some (.int .i64 a0_3) := (blk_cell BK380.out 3).trans rfl; have hfz34_0 := blk_frozen BK380.out 0; have hfz34_1 := blk_frozen BK380.out 1; have hfz34_2 := blk_frozen BK380.out 2; have hfz34_3 := blk_frozen BK380.out 3) | ((with_reducible refine gate_callee (f := 10) rfl ?_); refine goesL_ (some 17) rfl rfl Tryd.func10 (by kernel_rfl) rfl #[.agg #[.int .i64 a0_0, .int .i64 a0_1, .int .i64 a0_2, .int .i64 a0_3], .string a1] rfl (by (try simp only [List.map_toArray, List.map_cons, List.map_nil]); first | done | rfl | (simp only [List.length_drop, List.length_take]; rfl)) ?_; (with_reducible refine (frame_Encode.calls a0_0 a0_1 a0_2 a0_3 a1 t382 t383 _ A6.out).mono ?_); rintro e w35 ⟨rfl, hb⟩; refine ⟨_, rfl, ?_⟩; have n0_ := Aside0.mk (blk_below (g := gb380) (o := .cells #[.int .i64 a0_0, .int .i64 a0_1, .int .i64 a0_2, .int .i64 a0_3] 23 (0, 0)) (by (with_reducible repeat (first | refine blk_drewN ?_ _ | refine blk_drew ?_ | refine blk_alloc ?_ _)); exact BK380.out) hb); have n1_ := Aside0.mk (below_step (by repeat (first | (with_reducible first | exact HB.out | apply below_alloc | apply pw_below_drewN | apply below_drew1 | refine below_set ?_ GE380.out) | exact HB.out)) hb); clear BK380; clear HB; have BK380 := n0_; have HB := n1_; clear n0_ n1_; (try clear hb); (try clear hb2); (try clear hk); (try clear hi)))
      go_ret
      exact ⟨by first | rfl | (simp [errW_none, errW_some] <;> rfl) | (simp [*, errW_none, errW_some] <;> rfl), by repeat (first | (with_reducible first | exact HB.out | apply below_alloc | apply pw_below_drewN | apply below_drew1 | refine below_set ?_ GE380.out) | exact HB.out)⟩
  · replace c5 := Bool.eq_false_iff.mpr c5
    subst c5
    have H1 : (some false) = some r := by rw [if_neg (show ¬ (false = true) by decide)] at H; exact H
    clear H
    have H := H1
    clear H1
    obtain rfl := Option.some.inj H
    go_enter Tryd.func7, Tryd.ntmps7
    go_wp2_with (first | ((with_reducible refine gate_dst (N := 3) rfl ?_); (try (refine gate_guard (by rfl) ?_; dsimp only)); refine box_event ?hg (N := 3) ?hd (cs := #[.int .i64 a0_0, .int .i64 a0_1, .int .i64 a0_2, .int .i64 a0_3]) (t := 23) ?hr ?_; (case hd => rfl); (case hg => rfl); (case hr => first | (go_simp; done) | (go_simp; rfl)); intro gb380 hg w36 hbox hb; have n0_ := Aside0.mk (below_step (by repeat (first | (with_reducible first | exact HB.out | apply below_alloc | apply pw_below_drewN | apply below_drew1) | exact HB.out)) hb); have n1_ := Aside0.mk (hbox); have n2_ := Aside0.mk ((by rw [hg]; exact (below_size (by repeat (first | (with_reducible first | exact HB.out | apply below_alloc | apply pw_below_drewN | apply below_drew1) | exact HB.out))) : w.heap.size ≤ gb380)); have n3_ := Aside0.mk ((by rw [hg]; exact (below_size (by repeat (first | (with_reducible first | exact HB.out | apply below_alloc | apply pw_below_drewN | apply below_drew1) | exact HB.out))) : w.heap.size ≤ gb380)); clear HB; have HB := n0_; have BK380 := n1_; have GW380 := n2_; have GE380 := n3_; clear n0_ n1_ n2_ n3_; clear hb hbox hg) | ((with_reducible refine gate_callee (f := 9) rfl ?_); refine goesL_ (some 12) rfl rfl Tryd.func9 (by kernel_rfl) rfl #[] rfl (by (try simp only [List.map_toArray, List.map_cons, List.map_nil]); first | done | rfl | (simp only [List.length_drop, List.length_take]; rfl)) ?_; (with_reducible refine (decklelaw05_works.calls  false _ A4.out).mono ?_); rintro e w37 ⟨rfl, hb⟩; refine ⟨_, rfl, ?_⟩; have n0_ := Aside0.mk (blk_below (g := gb380) (o := .cells #[.int .i64 a0_0, .int .i64 a0_1, .int .i64 a0_2, .int .i64 a0_3] 23 (0, 0)) (by (with_reducible repeat (first | refine blk_drewN ?_ _ | refine blk_drew ?_ | refine blk_alloc ?_ _)); exact BK380.out) hb); have n1_ := Aside0.mk (below_step (by repeat (first | (with_reducible first | exact HB.out | apply below_alloc | apply pw_below_drewN | apply below_drew1 | refine below_set ?_ GE380.out) | exact HB.out)) hb); clear BK380; clear HB; have BK380 := n0_; have HB := n1_; clear n0_ n1_; (try clear hb); (try clear hb2); (try clear hk); (try clear hi)))
    go_ret
    exact ⟨by first | rfl | (simp [errW_none, errW_some] <;> rfl) | (simp [*, errW_none, errW_some] <;> rfl), by repeat (first | (with_reducible first | exact HB.out | apply below_alloc | apply pw_below_drewN | apply below_drew1 | refine below_set ?_ GE380.out) | exact HB.out)⟩

end Go.Proofs.YtbcgddacmjliaaaDoor.PF
end

section
-- Written by a program (the kit's print.py, called by wip/bin/prseat.sh, mended by wip/bin/mend.py).
namespace Go.Proofs.YtbcgddacmjliaaaDoor.PF
open Go.Proofs.YtbcgddacmjliaaaDoor.Tf Go.RowKit Go.Proofs.YtbcgddacmjliaaaDoorW.PrintWords Go.Proofs.YtbcgddacmjliaaaDoorW.PrintLast Go.Proofs.YtbcgddacmjliaaaDoorW.PrintMore
attribute [local go_sem] max2_int min2_int max_two min_two max_three min_three max_four min_four   -- for this text's walks alone
set_option linter.unusedVariables false
set_option linter.unusedSimpArgs false

attribute [local go_sem high] eqA30
/-! ### decklelaw05_FrameBack: function 6 -/
def decklelaw05_FrameBack.f (a0_0 : Int) (a0_1 : Int) (a0_2 : Int) (a0_3 : Int) (a1 : ByteArray) : Option (Bool) := (decklelaw05_works.f).bind fun t370 => (if t370 = true then ((frame_Encode.f a0_0 a0_1 a0_2 a0_3 a1).bind fun bt371 => (if bt371.2 = 0 then ((frame_Decode.f bt371.1).bind fun bt373 => (if (bt373.1 == 2 && ((bt373.2.1 == a0_0 && (bt373.2.2.1 == a0_1 && (bt373.2.2.2.1 == a0_2 && (bt373.2.2.2.2.1 == a0_3)))) && (bt373.2.2.2.2.2.toList == a1.toList))) = true then ((frame_Blank.f (a1.size : Int)).bind fun t379 => (some ((bt371.1.size : Int) == (t379.size : Int)))) else (some false))) else (some (bt371.1.toList == ([] : List UInt8))))) else (some false))
def decklelaw05_FrameBack.T6 : Bool × List (List Nat × List Nat) := (true, [([], []), ([0], [0]), ([], []), ([], []), ([2, 3], [2, 3]), ([1, 4], [1, 4]), ([5, 1], [5]), ([6], [6]), ([7, 6], [6, 7]), ([6], [6]), ([9, 6], [6, 9]), ([10, 6, 6], [6, 10]), ([11, 6], [6, 11]), ([8, 12, 6], [6, 8, 12]), ([6, 13], [6, 13]), ([14, 11, 0, 1, 2, 3, 4, 5, 6, 7, 8, 9, 10, 11, 12, 13, 14], [14])])
def decklelaw05_FrameBack.B6 : List Nat := [0, 1, 0, 0, 12, 31, 63, 127, 255, 127, 639, 1663, 3711, 8191, 16383, 32767]
theorem decklelaw05_FrameBack.tab6 : rtab .any (opsOf Tryd.f6 6) = decklelaw05_FrameBack.T6 := by kernel_rfl
theorem decklelaw05_FrameBack.bits6 : waitsOk decklelaw05_FrameBack.T6.2 decklelaw05_FrameBack.B6 = true := by kernel_rfl
set_option maxHeartbeats 8000000 in
set_option maxRecDepth 100000 in
theorem decklelaw05_FrameBack.calls (a0_0 : Int) (a0_1 : Int) (a0_2 : Int) (a0_3 : Int) (a1 : ByteArray) (r : Bool) (w : World) (h : decklelaw05_FrameBack.f a0_0 a0_1 a0_2 a0_3 a1 = some r) (HL : Aside0 (Hw.Laid w) := by first | exact HL | exact Hw.laid_at HL (by repeat (first | (with_reducible first | exact HB.out | apply below_alloc | apply pw_below_drewN | apply below_drew1) | exact HB.out | exact Below.refl _ _ | refine below_set ?_ (by apply Aside0.out; assumption)))) :
    Calls Tryd.prog 6 #[.agg #[.int .i64 a0_0, .int .i64 a0_1, .int .i64 a0_2, .int .i64 a0_3], .string a1] w fun e w' => e = .returned (.bool r) ∧ Below w.heap.size w w' := by
  have hu23 := Tryd.underlying23
  have hu30 := Tryd.underlying30
  have HB := Aside0.mk (Below.refl w.heap.size w)
  have H : ((decklelaw05_works.f).bind fun t370 => (if t370 = true then ((frame_Encode.f a0_0 a0_1 a0_2 a0_3 a1).bind fun bt371 => (if bt371.2 = 0 then ((frame_Decode.f bt371.1).bind fun bt373 => (if (bt373.1 == 2 && ((bt373.2.1 == a0_0 && (bt373.2.2.1 == a0_1 && (bt373.2.2.2.1 == a0_2 && (bt373.2.2.2.2.1 == a0_3)))) && (bt373.2.2.2.2.2.toList == a1.toList))) = true then ((frame_Blank.f (a1.size : Int)).bind fun t379 => (some ((bt371.1.size : Int) == (t379.size : Int)))) else (some false))) else (some (bt371.1.toList == ([] : List UInt8))))) else (some false))) = some r := h
  clear h
  replace H := Option.bind_eq_some_iff.mp H
  obtain ⟨t370, A30, H⟩ := H
  replace H : (if t370 = true then ((frame_Encode.f a0_0 a0_1 a0_2 a0_3 a1).bind fun bt371 => (if bt371.2 = 0 then ((frame_Decode.f bt371.1).bind fun bt373 => (if (bt373.1 == 2 && ((bt373.2.1 == a0_0 && (bt373.2.2.1 == a0_1 && (bt373.2.2.2.1 == a0_2 && (bt373.2.2.2.2.1 == a0_3)))) && (bt373.2.2.2.2.2.toList == a1.toList))) = true then ((frame_Blank.f (a1.size : Int)).bind fun t379 => (some ((bt371.1.size : Int) == (t379.size : Int)))) else (some false))) else (some (bt371.1.toList == ([] : List UInt8))))) else (some false)) = some r := H
  have A3 := Aside0.mk A30
  clear A30
  by_cases c4 : t370 = true
  · subst c4
    have H1 : ((frame_Encode.f a0_0 a0_1 a0_2 a0_3 a1).bind fun bt371 => (if bt371.2 = 0 then ((frame_Decode.f bt371.1).bind fun bt373 => (if (bt373.1 == 2 && ((bt373.2.1 == a0_0 && (bt373.2.2.1 == a0_1 && (bt373.2.2.2.1 == a0_2 && (bt373.2.2.2.2.1 == a0_3)))) && (bt373.2.2.2.2.2.toList == a1.toList))) = true then ((frame_Blank.f (a1.size : Int)).bind fun t379 => (some ((bt371.1.size : Int) == (t379.size : Int)))) else (some false))) else (some (bt371.1.toList == ([] : List UInt8))))) = some r := by rw [if_pos rfl] at H; exact H
    clear H
    have H := H1
    clear H1
    replace H := Option.bind_eq_some_iff.mp H
    obtain ⟨⟨t371, t372⟩, A50, H⟩ := H
    replace H : (if t372 = 0 then ((frame_Decode.f t371).bind fun bt373 => (if (bt373.1 == 2 && ((bt373.2.1 == a0_0 && (bt373.2.2.1 == a0_1 && (bt373.2.2.2.1 == a0_2 && (bt373.2.2.2.2.1 == a0_3)))) && (bt373.2.2.2.2.2.toList == a1.toList))) = true then ((frame_Blank.f (a1.size : Int)).bind fun t379 => (some ((t371.size : Int) == (t379.size : Int)))) else (some false))) else (some (t371.toList == ([] : List UInt8)))) = some r := H
    have A5 := Aside0.mk A50
    clear A50
    by_cases c6 : t372 = 0
    · rw [if_pos c6] at H
      have c6b0 : (t372 == 0) = true := beq_iff_eq.mpr c6
      have c6b1 : (t372 != 0) = false := bne_eq_false_iff_eq.mpr c6
      clear c6
      replace H := Option.bind_eq_some_iff.mp H
      obtain ⟨⟨t373, t374, t375, t376, t377, t378⟩, A70, H⟩ := H
      replace H : (if (t373 == 2 && ((t374 == a0_0 && (t375 == a0_1 && (t376 == a0_2 && (t377 == a0_3)))) && (t378.toList == a1.toList))) = true then ((frame_Blank.f (a1.size : Int)).bind fun t379 => (some ((t371.size : Int) == (t379.size : Int)))) else (some false)) = some r := H
      have A7 := Aside0.mk A70
      clear A70
      by_cases c8 : (t373 == 2 && ((t374 == a0_0 && (t375 == a0_1 && (t376 == a0_2 && (t377 == a0_3)))) && (t378.toList == a1.toList))) = true
      · rw [if_pos c8] at H
        have c8b0 : (t373 == 2 && ((t374 == a0_0 && (t375 == a0_1 && (t376 == a0_2 && (t377 == a0_3)))) && (t378.toList == a1.toList))) = true := c8
        (try (have c8b1 : decide (t373 = 2 && ((t374 == a0_0 && (t375 == a0_1 && (t376 == a0_2 && (t377 == a0_3)))) && (t378.toList == a1.toList))) = true := by simpa using c8))
        (try (have c8b2 : (t373 == 2 && ((t374 == a0_0 && (t375 == a0_1 && (t376 == a0_2 && (t377 == a0_3)))) && (t378.toList == a1.toList))) = true := by simpa using c8))
        clear c8
        replace H := Option.bind_eq_some_iff.mp H
        obtain ⟨t379, A90, H⟩ := H
        replace H : (some ((t371.size : Int) == (t379.size : Int))) = some r := H
        have A9 := Aside0.mk A90
        clear A90
        obtain rfl := Option.some.inj H
        go_enter Tryd.func6, Tryd.ntmps6
        try go_wp2_with (first | ((with_reducible refine gate_dst (N := 2) rfl ?_); (try (refine gate_guard (by rfl) ?_; dsimp only)); refine box_event ?hg (N := 2) ?hd (cs := #[.int .i64 a0_0, .int .i64 a0_1, .int .i64 a0_2, .int .i64 a0_3]) (t := 23) ?hr ?_; (case hd => rfl); (case hg => rfl); (case hr => first | (go_simp; done) | (go_simp; rfl)); intro gb369 hg w10 hbox hb; have n0_ := Aside0.mk (below_step (by repeat (first | (with_reducible first | exact HB.out | apply below_alloc | apply pw_below_drewN | apply below_drew1) | exact HB.out)) hb); have n1_ := Aside0.mk (hbox); have n2_ := Aside0.mk ((by rw [hg]; exact (below_size (by repeat (first | (with_reducible first | exact HB.out | apply below_alloc | apply pw_below_drewN | apply below_drew1) | exact HB.out))) : w.heap.size ≤ gb369)); have n3_ := Aside0.mk ((by rw [hg]; exact (below_size (by repeat (first | (with_reducible first | exact HB.out | apply below_alloc | apply pw_below_drewN | apply below_drew1) | exact HB.out))) : w.heap.size ≤ gb369)); clear HB; have HB := n0_; have BK369 := n1_; have GW369 := n2_; have GE369 := n3_; clear n0_ n1_ n2_ n3_; clear hb hbox hg) | ((with_reducible refine gate_callee (f := 9) rfl ?_); refine goesL_ (some 7) rfl rfl Tryd.func9 (by kernel_rfl) rfl #[] rfl (by (try simp only [List.map_toArray, List.map_cons, List.map_nil]); first | done | rfl | (simp only [List.length_drop, List.length_take]; rfl)) ?_; (with_reducible refine (decklelaw05_works.calls  true _ A3.out).mono ?_); rintro e w11 ⟨rfl, hb⟩; refine ⟨_, rfl, ?_⟩; have n0_ := Aside0.mk (blk_below (g := gb369) (o := .cells #[.int .i64 a0_0, .int .i64 a0_1, .int .i64 a0_2, .int .i64 a0_3] 23 (0, 0)) (by (with_reducible repeat (first | refine blk_drewN ?_ _ | refine blk_drew ?_ | refine blk_alloc ?_ _)); exact BK369.out) hb); have n1_ := Aside0.mk (below_step (by repeat (first | (with_reducible first | exact HB.out | apply below_alloc | apply pw_below_drewN | apply below_drew1 | refine below_set ?_ GE369.out) | exact HB.out)) hb); clear BK369; clear HB; have BK369 := n0_; have HB := n1_; clear n0_ n1_; (try clear hb); (try clear hb2); (try clear hk); (try clear hi); have hcz12_0 : w11.cell? ⟨gb369, 0, none⟩ = some (.int .i64 a0_0) := (blk_cell BK369.out 0).trans rfl; have hcz12_1 : w11.cell? ⟨gb369, 1, none⟩ = some (.int .i64 a0_1) := (blk_cell BK369.out 1).trans rfl; have hcz12_2 : w11.cell? ⟨gb369, 2, none⟩ = some (.int .i64 a0_2) := (blk_cell BK369.out 2).trans rfl; have hcz12_3 : w11.cell? ⟨gb369, 3, none⟩ = some (.int .i64 a0_3) := (blk_cell BK369.out 3).trans rfl; have hfz12_0 := blk_frozen BK369.out 0; have hfz12_1 := blk_frozen BK369.out 1; have hfz12_2 := blk_frozen BK369.out 2; have hfz12_3 := blk_frozen BK369.out 3) | ((with_reducible refine gate_callee (f := 10) rfl ?_); refine goesL_ (some 12) rfl rfl Tryd.func10 (by kernel_rfl) rfl #[.agg #[.int .i64 a0_0, .int .i64 a0_1, .int .i64 a0_2, .int .i64 a0_3], .string a1] rfl (by (try simp only [List.map_toArray, List.map_cons, List.map_nil]); first | done | rfl | (simp only [List.length_drop, List.length_take]; rfl)) ?_; (with_reducible refine (frame_Encode.calls a0_0 a0_1 a0_2 a0_3 a1 t371 t372 _ A5.out).mono ?_); rintro e w13 ⟨rfl, hb⟩; refine ⟨_, rfl, ?_⟩; have n0_ := Aside0.mk (blk_below (g := gb369) (o := .cells #[.int .i64 a0_0, .int .i64 a0_1, .int .i64 a0_2, .int .i64 a0_3] 23 (0, 0)) (by (with_reducible repeat (first | refine blk_drewN ?_ _ | refine blk_drew ?_ | refine blk_alloc ?_ _)); exact BK369.out) hb); have n1_ := Aside0.mk (below_step (by repeat (first | (with_reducible first | exact HB.out | apply below_alloc | apply pw_below_drewN | apply below_drew1 | refine below_set ?_ GE369.out) | exact HB.out)) hb); clear BK369; clear HB; have BK369 := n0_; have HB := n1_; clear n0_ n1_; (try clear hb); (try clear hb2); (try clear hk); (try clear hi)))
        have n0_ := Aside0.mk (blk_drew BK369.out)
        have n1_ := Aside0.mk (below_drew1 HB.out)
        clear BK369
        clear HB
        have BK369 := n0_
        have HB := n1_
        clear n0_ n1_
        refine start_ (n := 16) (S := fun w' => w'.cell? ⟨gb369, 0, none⟩ = some (.int .i64 a0_0) ∧ w'.cell? ⟨gb369, 1, none⟩ = some (.int .i64 a0_1) ∧ w'.cell? ⟨gb369, 2, none⟩ = some (.int .i64 a0_2) ∧ w'.cell? ⟨gb369, 3, none⟩ = some (.int .i64 a0_3)) (ds := []) (tfA 0 16) (by kernel_rfl) rfl rfl ⟨(blk_cell BK369.out 0).trans rfl, (blk_cell BK369.out 1).trans rfl, (blk_cell BK369.out 2).trans rfl, (blk_cell BK369.out 3).trans rfl⟩ (fun hHeld => ?_); refine with_tabW decklelaw05_FrameBack.tab6 decklelaw05_FrameBack.bits6 (fun HT_ HW_ => ?_)
        generalize w13.drew = w14 at BK369 HB hHeld ⊢
        refine pure_ (i := 0) (N := some 19) (v := ?_) (a' := ?_) (tfA 1 16) rfl rfl (any_of HT_.out (by kernel_rfl)) (fun _ _ _ h => h) (Or.inl ⟨by rfl, ?_⟩) ?_ ?_
        rotate_left
        · intro w'; go_simp; with_reducible rfl
        rotate_left
        · simp only [Act.put, sib, sc0, sc1, i64_w, i32_w]; rfl
        refine pure_ (i := 3) (N := some 22) (v := ?_) (a' := ?_) #[true, false, false, true, false, false, false, false, false, false, false, false, false, false, false, false] rfl rfl (any_of HT_.out (by kernel_rfl)) (fun _ _ _ h => h) (Or.inl ⟨by rfl, ?_⟩) ?_ ?_
        rotate_left
        · intro w'; go_simp; with_reducible rfl
        rotate_left
        · simp only [Act.put, sib, sc0, sc1, i64_w, i32_w]; rfl
        refine take_ (i := 2) (N := some 21) (v := ?_) (a' := ?_) #[true, false, true, true, false, false, false, false, false, false, false, false, false, false, false, false] rfl rfl (take_ofW HT_.out HW_.out (by kernel_rfl)) (fun _ _ _ h => h) (Or.inl ⟨by rfl, ?_⟩) hHeld ?_ ?_
        rotate_left
        · rintro w' ⟨s0, s1, s2, s3⟩
          go_simp
          with_reducible rfl
        rotate_left
        · simp only [Act.put, sib, sc0, sc1, i64_w, i32_w]
          rfl
        refine pure_ (i := 4) (N := some 23) (v := ?_) (a' := ?_) #[true, false, true, true, true, false, false, false, false, false, false, false, false, false, false, false] rfl rfl (any_of HT_.out (by kernel_rfl)) (fun _ _ _ h => h) (Or.inl ⟨by rfl, ?_⟩) ?_ ?_
        rotate_left
        · intro w'; go_simp; with_reducible rfl
        rotate_left
        · simp only [Act.put, sib, sc0, sc1, i64_w, i32_w]; rfl
        refine one_ (i := 1) (N := some 20) (tfA 5 16) rfl rfl (one_of HT_.out (by kernel_rfl)) (by decide) (fun K hK => ?_)
        refine goes_ Tryd.func12 (by kernel_rfl) rfl #[.string t371] (by rfl) rfl rfl (by (try simp only [List.map_toArray, List.map_cons, List.map_nil]); first | done | rfl | (simp only [List.length_drop, List.length_take]; rfl)) ?_
        with_reducible refine (frame_Decode.calls t371 t373 t374 t375 t376 t377 t378 _ A7.out).mono ?_
        rintro e w15 ⟨rfl, hb⟩
        refine ⟨_, rfl, ?_⟩
        have n0_ := Aside0.mk (blk_below (g := gb369) (o := .cells #[.int .i64 a0_0, .int .i64 a0_1, .int .i64 a0_2, .int .i64 a0_3] 23 (0, 0)) (by (with_reducible repeat (first | refine blk_drewN ?_ _ | refine blk_drew ?_ | refine blk_alloc ?_ _)); exact BK369.out) hb)
        have n1_ := Aside0.mk (below_step (by repeat (first | (with_reducible first | exact HB.out | apply below_alloc | apply pw_below_drewN | apply below_drew1 | refine below_set ?_ GE369.out) | exact HB.out)) hb)
        clear BK369
        clear HB
        have BK369 := n0_
        have HB := n1_
        clear n0_ n1_
        (try clear hb)
        (try clear hb2)
        (try clear hk)
        (try clear hi)
        refine hK.out _ _ ⟨(blk_cell BK369.out 0).trans rfl, (blk_cell BK369.out 1).trans rfl, (blk_cell BK369.out 2).trans rfl, (blk_cell BK369.out 3).trans rfl⟩ (fun hHeld => ?_)
        clear hK K
        refine norm_ (a' := ?_) ?_ ?_
        rotate_left
        · show Act.put _ (some 20) _ = _
          simp only [Act.put, sib, sc0, sc1, i64_w, i32_w]
          rfl
        refine pure_ (i := 5) (N := some 24) (v := ?_) (a' := ?_) (tfA 6 16) rfl rfl (any_of HT_.out (by kernel_rfl)) (fun _ _ _ h => h) (Or.inl ⟨by rfl, ?_⟩) ?_ ?_
        rotate_left
        · intro w'; go_simp; with_reducible rfl
        rotate_left
        · simp only [Act.put, sib, sc0, sc1, i64_w, i32_w]; rfl
        refine pure_ (i := 6) (N := some 25) (v := ?_) (a' := ?_) (tfA 7 16) rfl rfl (any_of HT_.out (by kernel_rfl)) (fun _ _ _ h => h) (Or.inl ⟨by rfl, ?_⟩) ?_ ?_
        rotate_left
        · intro w'; go_simp; with_reducible rfl
        rotate_left
        · simp only [Act.put, sib, sc0, sc1, i64_w, i32_w]; rfl
        refine pure_ (i := 7) (N := some 26) (v := ?_) (a' := ?_) (tfA 8 16) rfl rfl (any_of HT_.out (by kernel_rfl)) (fun _ _ _ h => h) (Or.inl ⟨by rfl, ?_⟩) ?_ ?_
        rotate_left
        · intro w'; go_simp; with_reducible rfl
        rotate_left
        · simp only [Act.put, sib, sc0, sc1, i64_w, i32_w]; rfl
        refine pure_ (i := 8) (N := some 27) (v := ?_) (a' := ?_) (tfA 9 16) rfl rfl (any_of HT_.out (by kernel_rfl)) (fun _ _ _ h => h) (Or.inl ⟨by rfl, ?_⟩) ?_ ?_
        rotate_left
        · intro w'; go_simp; with_reducible rfl
        rotate_left
        · simp only [Act.put, sib, sc0, sc1, i64_w, i32_w]; rfl
        refine pure_ (i := 9) (N := some 28) (v := ?_) (a' := ?_) (tfA 10 16) rfl rfl (any_of HT_.out (by kernel_rfl)) (fun _ _ _ h => h) (Or.inl ⟨by rfl, ?_⟩) ?_ ?_
        rotate_left
        · intro w'; go_simp; with_reducible rfl
        rotate_left
        · simp only [Act.put, sib, sc0, sc1, i64_w, i32_w]; rfl
        refine pure_ (i := 10) (N := some 29) (v := ?_) (a' := ?_) (tfA 11 16) rfl rfl (any_of HT_.out (by kernel_rfl)) (fun _ _ _ h => h) (Or.inl ⟨by rfl, ?_⟩) ?_ ?_
        rotate_left
        · intro w'; go_simp; with_reducible rfl
        rotate_left
        · simp only [Act.put, sib, sc0, sc1, i64_w, i32_w]; rfl
        refine one_ (i := 11) (N := some 30) (tfA 12 16) rfl rfl (one_of HT_.out (by kernel_rfl)) (by decide) (fun K hK => ?_)
        refine goes_ Tryd.func14 (by kernel_rfl) rfl #[.int .i64 (a1.size : Int)] (by rfl) rfl rfl (by (try simp only [List.map_toArray, List.map_cons, List.map_nil]); first | done | rfl | (simp only [List.length_drop, List.length_take]; rfl)) ?_
        with_reducible refine (frame_Blank.calls (a1.size : Int) t379 _ A9.out).mono ?_
        rintro e w16 ⟨rfl, hb⟩
        refine ⟨_, rfl, ?_⟩
        have n0_ := Aside0.mk (blk_below (g := gb369) (o := .cells #[.int .i64 a0_0, .int .i64 a0_1, .int .i64 a0_2, .int .i64 a0_3] 23 (0, 0)) (by (with_reducible repeat (first | refine blk_drewN ?_ _ | refine blk_drew ?_ | refine blk_alloc ?_ _)); exact BK369.out) hb)
        have n1_ := Aside0.mk (below_step (by repeat (first | (with_reducible first | exact HB.out | apply below_alloc | apply pw_below_drewN | apply below_drew1 | refine below_set ?_ GE369.out) | exact HB.out)) hb)
        clear BK369
        clear HB
        have BK369 := n0_
        have HB := n1_
        clear n0_ n1_
        (try clear hb)
        (try clear hb2)
        (try clear hk)
        (try clear hi)
        refine hK.out _ _ ⟨(blk_cell BK369.out 0).trans rfl, (blk_cell BK369.out 1).trans rfl, (blk_cell BK369.out 2).trans rfl, (blk_cell BK369.out 3).trans rfl⟩ (fun hHeld => ?_)
        clear hK K
        refine norm_ (a' := ?_) ?_ ?_
        rotate_left
        · show Act.put _ (some 30) _ = _
          simp only [Act.put, sib, sc0, sc1, i64_w, i32_w]
          rfl
        refine pure_ (i := 12) (N := some 31) (v := ?_) (a' := ?_) (tfA 13 16) rfl rfl (any_of HT_.out (by kernel_rfl)) (fun _ _ _ h => h) (Or.inl ⟨by rfl, ?_⟩) ?_ ?_
        rotate_left
        · intro w'; go_simp; with_reducible rfl
        rotate_left
        · simp only [Act.put, sib, sc0, sc1, i64_w, i32_w]; rfl
        refine pure_ (i := 13) (N := some 32) (v := ?_) (a' := ?_) (tfA 14 16) rfl rfl (any_of HT_.out (by kernel_rfl)) (fun _ _ _ h => h) (Or.inl ⟨by rfl, ?_⟩) ?_ ?_
        rotate_left
        · intro w'; go_simp; with_reducible rfl
        rotate_left
        · simp only [Act.put, sib, sc0, sc1, i64_w, i32_w]; rfl
        refine pure_ (i := 14) (N := some 33) (v := ?_) (a' := ?_) (tfA 15 16) rfl rfl (any_of HT_.out (by kernel_rfl)) (fun _ _ _ h => h) (Or.inl ⟨by rfl, ?_⟩) ?_ ?_
        rotate_left
        · intro w'; go_simp; with_reducible rfl
        rotate_left
        · simp only [Act.put, sib, sc0, sc1, i64_w, i32_w]; rfl
        refine pure_ (i := 15) (N := some 4) (v := ?_) (a' := ?_) (tfA 16 16) rfl rfl (any_of HT_.out (by kernel_rfl)) (fun _ _ _ h => h) (Or.inl ⟨by rfl, ?_⟩) ?_ ?_
        rotate_left
        · intro w'; go_simp; with_reducible rfl
        rotate_left
        · simp only [Act.put, sib, sc0, sc1, i64_w, i32_w]; rfl
        refine done_ (done_of HT_.out (by kernel_rfl)) ?_
        try go_wp2
        go_ret
        exact ⟨by first | rfl | (simp [errW_none, errW_some] <;> rfl) | (simp [*, errW_none, errW_some] <;> rfl), by repeat (first | (with_reducible first | exact HB.out | apply below_alloc | apply pw_below_drewN | apply below_drew1 | refine below_set ?_ GE369.out) | exact HB.out)⟩
      · rw [if_neg c8] at H
        have c8b0 : (t373 == 2 && ((t374 == a0_0 && (t375 == a0_1 && (t376 == a0_2 && (t377 == a0_3)))) && (t378.toList == a1.toList))) = false := by simpa using c8
        (try (have c8b1 : decide (t373 = 2 && ((t374 == a0_0 && (t375 == a0_1 && (t376 == a0_2 && (t377 == a0_3)))) && (t378.toList == a1.toList))) = false := by simpa using c8))
        (try (have c8b2 : (t373 == 2 && ((t374 == a0_0 && (t375 == a0_1 && (t376 == a0_2 && (t377 == a0_3)))) && (t378.toList == a1.toList))) = false := by simpa using c8))
        (try (have c8b3 : ¬ (t373 = 2 && ((t374 == a0_0 && (t375 == a0_1 && (t376 == a0_2 && (t377 == a0_3)))) && (t378.toList == a1.toList))) := by simpa using c8))
        clear c8
        obtain rfl := Option.some.inj H
        go_enter Tryd.func6, Tryd.ntmps6
        try go_wp2_with (first | ((with_reducible refine gate_dst (N := 2) rfl ?_); (try (refine gate_guard (by rfl) ?_; dsimp only)); refine box_event ?hg (N := 2) ?hd (cs := #[.int .i64 a0_0, .int .i64 a0_1, .int .i64 a0_2, .int .i64 a0_3]) (t := 23) ?hr ?_; (case hd => rfl); (case hg => rfl); (case hr => first | (go_simp; done) | (go_simp; rfl)); intro gb369 hg w17 hbox hb; have n0_ := Aside0.mk (below_step (by repeat (first | (with_reducible first | exact HB.out | apply below_alloc | apply pw_below_drewN | apply below_drew1) | exact HB.out)) hb); have n1_ := Aside0.mk (hbox); have n2_ := Aside0.mk ((by rw [hg]; exact (below_size (by repeat (first | (with_reducible first | exact HB.out | apply below_alloc | apply pw_below_drewN | apply below_drew1) | exact HB.out))) : w.heap.size ≤ gb369)); have n3_ := Aside0.mk ((by rw [hg]; exact (below_size (by repeat (first | (with_reducible first | exact HB.out | apply below_alloc | apply pw_below_drewN | apply below_drew1) | exact HB.out))) : w.heap.size ≤ gb369)); clear HB; have HB := n0_; have BK369 := n1_; have GW369 := n2_; have GE369 := n3_; clear n0_ n1_ n2_ n3_; clear hb hbox hg) | ((with_reducible refine gate_callee (f := 9) rfl ?_); refine goesL_ (some 7) rfl rfl Tryd.func9 (by kernel_rfl) rfl #[] rfl (by (try simp only [List.map_toArray, List.map_cons, List.map_nil]); first | done | rfl | (simp only [List.length_drop, List.length_take]; rfl)) ?_; (with_reducible refine (decklelaw05_works.calls  true _ A3.out).mono ?_); rintro e w18 ⟨rfl, hb⟩; refine ⟨_, rfl, ?_⟩; have n0_ := Aside0.mk (blk_below (g := gb369) (o := .cells #[.int .i64 a0_0, .int .i64 a0_1, .int .i64 a0_2, .int .i64 a0_3] 23 (0, 0)) (by (with_reducible repeat (first | refine blk_drewN ?_ _ | refine blk_drew ?_ | refine blk_alloc ?_ _)); exact BK369.out) hb); have n1_ := Aside0.mk (below_step (by repeat (first | (with_reducible first | exact HB.out | apply below_alloc | apply pw_below_drewN | apply below_drew1 | refine below_set ?_ GE369.out) | exact HB.out)) hb); clear BK369; clear HB; have BK369 := n0_; have HB := n1_; clear n0_ n1_; (try clear hb); (try clear hb2); (try clear hk); (try clear hi); have hcz19_0 : w18.cell? ⟨gb369, 0, none⟩ = some (.int .i64 a0_0) := (blk_cell BK369.out 0).trans rfl; have hcz19_1 : w18.cell? ⟨gb369, 1, none⟩ = some (.int .i64 a0_1) := (blk_cell BK369.out 1).trans rfl; have hcz19_2 : w18.cell? ⟨gb369, 2, none⟩ = some (.int .i64 a0_2) := (blk_cell BK369.out 2).trans rfl; have hcz19_3 : w18.cell? ⟨gb369, 3, none⟩ = some (.int .i64 a0_3) := (blk_cell BK369.out 3).trans rfl; have hfz19_0 := blk_frozen BK369.out 0; have hfz19_1 := blk_frozen BK369.out 1; have hfz19_2 := blk_frozen BK369.out 2; have hfz19_3 := blk_frozen BK369.out 3) | ((with_reducible refine gate_callee (f := 10) rfl ?_); refine goesL_ (some 12) rfl rfl Tryd.func10 (by kernel_rfl) rfl #[.agg #[.int .i64 a0_0, .int .i64 a0_1, .int .i64 a0_2, .int .i64 a0_3], .string a1] rfl (by (try simp only [List.map_toArray, List.map_cons, List.map_nil]); first | done | rfl | (simp only [List.length_drop, List.length_take]; rfl)) ?_; (with_reducible refine (frame_Encode.calls a0_0 a0_1 a0_2 a0_3 a1 t371 t372 _ A5.out).mono ?_); rintro e w20 ⟨rfl, hb⟩; refine ⟨_, rfl, ?_⟩; have n0_ := Aside0.mk (blk_below (g := gb369) (o := .cells #[.int .i64 a0_0, .int .i64 a0_1, .int .i64 a0_2, .int .i64 a0_3] 23 (0, 0)) (by (with_reducible repeat (first | refine blk_drewN ?_ _ | refine blk_drew ?_ | refine blk_alloc ?_ _)); exact BK369.out) hb); have n1_ := Aside0.mk (below_step (by repeat (first | (with_reducible first | exact HB.out | apply below_alloc | apply pw_below_drewN | apply below_drew1 | refine below_set ?_ GE369.out) | exact HB.out)) hb); clear BK369; clear HB; have BK369 := n0_; have HB := n1_; clear n0_ n1_; (try clear hb); (try clear hb2); (try clear hk); (try clear hi)))
        have n0_ := Aside0.mk (blk_drew BK369.out)
        have n1_ := Aside0.mk (below_drew1 HB.out)
        clear BK369
        clear HB
        have BK369 := n0_
        have HB := n1_
        clear n0_ n1_
        refine start_ (n := 16) (S := fun w' => w'.cell? ⟨gb369, 0, none⟩ = some (.int .i64 a0_0) ∧ w'.cell? ⟨gb369, 1, none⟩ = some (.int .i64 a0_1) ∧ w'.cell? ⟨gb369, 2, none⟩ = some (.int .i64 a0_2) ∧ w'.cell? ⟨gb369, 3, none⟩ = some (.int .i64 a0_3)) (ds := []) (tfA 0 16) (by kernel_rfl) rfl rfl ⟨(blk_cell BK369.out 0).trans rfl, (blk_cell BK369.out 1).trans rfl, (blk_cell BK369.out 2).trans rfl, (blk_cell BK369.out 3).trans rfl⟩ (fun hHeld => ?_); refine with_tabW decklelaw05_FrameBack.tab6 decklelaw05_FrameBack.bits6 (fun HT_ HW_ => ?_)
        generalize w20.drew = w21 at BK369 HB hHeld ⊢
        refine pure_ (i := 0) (N := some 19) (v := ?_) (a' := ?_) (tfA 1 16) rfl rfl (any_of HT_.out (by kernel_rfl)) (fun _ _ _ h => h) (Or.inl ⟨by rfl, ?_⟩) ?_ ?_
        rotate_left
        · intro w'; go_simp; with_reducible rfl
        rotate_left
        · simp only [Act.put, sib, sc0, sc1, i64_w, i32_w]; rfl
        refine pure_ (i := 3) (N := some 22) (v := ?_) (a' := ?_) #[true, false, false, true, false, false, false, false, false, false, false, false, false, false, false, false] rfl rfl (any_of HT_.out (by kernel_rfl)) (fun _ _ _ h => h) (Or.inl ⟨by rfl, ?_⟩) ?_ ?_
        rotate_left
        · intro w'; go_simp; with_reducible rfl
        rotate_left
        · simp only [Act.put, sib, sc0, sc1, i64_w, i32_w]; rfl
        refine take_ (i := 2) (N := some 21) (v := ?_) (a' := ?_) #[true, false, true, true, false, false, false, false, false, false, false, false, false, false, false, false] rfl rfl (take_ofW HT_.out HW_.out (by kernel_rfl)) (fun _ _ _ h => h) (Or.inl ⟨by rfl, ?_⟩) hHeld ?_ ?_
        rotate_left
        · rintro w' ⟨s0, s1, s2, s3⟩
          go_simp
          with_reducible rfl
        rotate_left
        · simp only [Act.put, sib, sc0, sc1, i64_w, i32_w]
          rfl
        refine pure_ (i := 4) (N := some 23) (v := ?_) (a' := ?_) #[true, false, true, true, true, false, false, false, false, false, false, false, false, false, false, false] rfl rfl (any_of HT_.out (by kernel_rfl)) (fun _ _ _ h => h) (Or.inl ⟨by rfl, ?_⟩) ?_ ?_
        rotate_left
        · intro w'; go_simp; with_reducible rfl
        rotate_left
        · simp only [Act.put, sib, sc0, sc1, i64_w, i32_w]; rfl
        refine one_ (i := 1) (N := some 20) (tfA 5 16) rfl rfl (one_of HT_.out (by kernel_rfl)) (by decide) (fun K hK => ?_)
        refine goes_ Tryd.func12 (by kernel_rfl) rfl #[.string t371] (by rfl) rfl rfl (by (try simp only [List.map_toArray, List.map_cons, List.map_nil]); first | done | rfl | (simp only [List.length_drop, List.length_take]; rfl)) ?_
        with_reducible refine (frame_Decode.calls t371 t373 t374 t375 t376 t377 t378 _ A7.out).mono ?_
        rintro e w22 ⟨rfl, hb⟩
        refine ⟨_, rfl, ?_⟩
        have n0_ := Aside0.mk (blk_below (g := gb369) (o := .cells #[.int .i64 a0_0, .int .i64 a0_1, .int .i64 a0_2, .int .i64 a0_3] 23 (0, 0)) (by (with_reducible repeat (first | refine blk_drewN ?_ _ | refine blk_drew ?_ | refine blk_alloc ?_ _)); exact BK369.out) hb)
        have n1_ := Aside0.mk (below_step (by repeat (first | (with_reducible first | exact HB.out | apply below_alloc | apply pw_below_drewN | apply below_drew1 | refine below_set ?_ GE369.out) | exact HB.out)) hb)
        clear BK369
        clear HB
        have BK369 := n0_
        have HB := n1_
        clear n0_ n1_
        (try clear hb)
        (try clear hb2)
        (try clear hk)
        (try clear hi)
        refine hK.out _ _ ⟨(blk_cell BK369.out 0).trans rfl, (blk_cell BK369.out 1).trans rfl, (blk_cell BK369.out 2).trans rfl, (blk_cell BK369.out 3).trans rfl⟩ (fun hHeld => ?_)
        clear hK K
        refine norm_ (a' := ?_) ?_ ?_
        rotate_left
        · show Act.put _ (some 20) _ = _
          simp only [Act.put, sib, sc0, sc1, i64_w, i32_w]
          rfl
        refine pure_ (i := 5) (N := some 24) (v := ?_) (a' := ?_) (tfA 6 16) rfl rfl (any_of HT_.out (by kernel_rfl)) (fun _ _ _ h => h) (Or.inl ⟨by rfl, ?_⟩) ?_ ?_
        rotate_left
        · intro w'; go_simp; with_reducible rfl
        rotate_left
        · simp only [Act.put, sib, sc0, sc1, i64_w, i32_w]; rfl
        refine pure_ (i := 6) (N := some 25) (v := ?_) (a' := ?_) (tfA 7 16) rfl rfl (any_of HT_.out (by kernel_rfl)) (fun _ _ _ h => h) (Or.inl ⟨by rfl, ?_⟩) ?_ ?_
        rotate_left
        · intro w'; go_simp; with_reducible rfl
        rotate_left
        · simp only [Act.put, sib, sc0, sc1, i64_w, i32_w]; rfl
        refine pure_ (i := 7) (N := some 26) (v := undef) (a' := ?_) (tfA 8 16) rfl rfl (any_of HT_.out (by kernel_rfl)) (fun _ _ _ h => h) (Or.inr ⟨by rfl, rfl⟩) ?_ ?_
        rotate_left
        · simp only [Act.put, sib, sc0, sc1, i64_w, i32_w]
          rfl
        refine pure_ (i := 8) (N := some 27) (v := undef) (a' := ?_) (tfA 9 16) rfl rfl (any_of HT_.out (by kernel_rfl)) (fun _ _ _ h => h) (Or.inr ⟨by rfl, rfl⟩) ?_ ?_
        rotate_left
        · simp only [Act.put, sib, sc0, sc1, i64_w, i32_w]
          rfl
        refine pure_ (i := 9) (N := some 28) (v := undef) (a' := ?_) (tfA 10 16) rfl rfl (any_of HT_.out (by kernel_rfl)) (fun _ _ _ h => h) (Or.inr ⟨by rfl, rfl⟩) ?_ ?_
        rotate_left
        · simp only [Act.put, sib, sc0, sc1, i64_w, i32_w]
          rfl
        refine pure_ (i := 10) (N := some 29) (v := undef) (a' := ?_) (tfA 11 16) rfl rfl (any_of HT_.out (by kernel_rfl)) (fun _ _ _ h => h) (Or.inr ⟨by rfl, rfl⟩) ?_ ?_
        rotate_left
        · simp only [Act.put, sib, sc0, sc1, i64_w, i32_w]
          rfl
        refine pure_ (i := 11) (N := some 30) (v := undef) (a' := ?_) (tfA 12 16) rfl rfl (any_of HT_.out (by kernel_rfl)) (fun _ _ _ h => h) (Or.inr ⟨by rfl, rfl⟩) ?_ ?_
        rotate_left
        · simp only [Act.put, sib, sc0, sc1, i64_w, i32_w]
          rfl
        refine pure_ (i := 12) (N := some 31) (v := undef) (a' := ?_) (tfA 13 16) rfl rfl (any_of HT_.out (by kernel_rfl)) (fun _ _ _ h => h) (Or.inr ⟨by rfl, rfl⟩) ?_ ?_
        rotate_left
        · simp only [Act.put, sib, sc0, sc1, i64_w, i32_w]
          rfl
        refine pure_ (i := 13) (N := some 32) (v := undef) (a' := ?_) (tfA 14 16) rfl rfl (any_of HT_.out (by kernel_rfl)) (fun _ _ _ h => h) (Or.inr ⟨by rfl, rfl⟩) ?_ ?_
        rotate_left
        · simp only [Act.put, sib, sc0, sc1, i64_w, i32_w]
          rfl
        refine pure_ (i := 14) (N := some 33) (v := ?_) (a' := ?_) (tfA 15 16) rfl rfl (any_of HT_.out (by kernel_rfl)) (fun _ _ _ h => h) (Or.inl ⟨by rfl, ?_⟩) ?_ ?_
        rotate_left
        · intro w'; go_simp; with_reducible rfl
        rotate_left
        · simp only [Act.put, sib, sc0, sc1, i64_w, i32_w]; rfl
        refine pure_ (i := 15) (N := some 4) (v := ?_) (a' := ?_) (tfA 16 16) rfl rfl (any_of HT_.out (by kernel_rfl)) (fun _ _ _ h => h) (Or.inl ⟨by rfl, ?_⟩) ?_ ?_
        rotate_left
        · intro w'; go_simp; with_reducible rfl
        rotate_left
        · simp only [Act.put, sib, sc0, sc1, i64_w, i32_w]; rfl
        refine done_ (done_of HT_.out (by kernel_rfl)) ?_
        try go_wp2
        go_ret
        exact ⟨by first | rfl | (simp [errW_none, errW_some] <;> rfl) | (simp [*, errW_none, errW_some] <;> rfl), by repeat (first | (with_reducible first | exact HB.out | apply below_alloc | apply pw_below_drewN | apply below_drew1 | refine below_set ?_ GE369.out) | exact HB.out)⟩
    · rw [if_neg c6] at H
      have c6b0 : (t372 == 0) = false := beq_eq_false_iff_ne.mpr c6
      have c6b1 : (t372 != 0) = true := bne_iff_ne.mpr c6
      obtain rfl := Option.some.inj H
      go_enter Tryd.func6, Tryd.ntmps6
      go_wp2_with (first | ((with_reducible refine gate_dst (N := 2) rfl ?_); (try (refine gate_guard (by rfl) ?_; dsimp only)); refine box_event ?hg (N := 2) ?hd (cs := #[.int .i64 a0_0, .int .i64 a0_1, .int .i64 a0_2, .int .i64 a0_3]) (t := 23) ?hr ?_; (case hd => rfl); (case hg => rfl); (case hr => first | (go_simp; done) | (go_simp; rfl)); intro gb369 hg w23 hbox hb; have n0_ := Aside0.mk (below_step (by repeat (first | (with_reducible first | exact HB.out | apply below_alloc | apply pw_below_drewN | apply below_drew1) | exact HB.out)) hb); have n1_ := Aside0.mk (hbox); have n2_ := Aside0.mk ((by rw [hg]; exact (below_size (by repeat (first | (with_reducible first | exact HB.out | apply below_alloc | apply pw_below_drewN | apply below_drew1) | exact HB.out))) : w.heap.size ≤ gb369)); have n3_ := Aside0.mk ((by rw [hg]; exact (below_size (by repeat (first | (with_reducible first | exact HB.out | apply below_alloc | apply pw_below_drewN | apply below_drew1) | exact HB.out))) : w.heap.size ≤ gb369)); clear HB; have HB := n0_; have BK369 := n1_; have GW369 := n2_; have GE369 := n3_; clear n0_ n1_ n2_ n3_; clear hb hbox hg) | ((with_reducible refine gate_callee (f := 9) rfl ?_); refine goesL_ (some 7) rfl rfl Tryd.func9 (by kernel_rfl) rfl #[] rfl (by (try simp only [List.map_toArray, List.map_cons, List.map_nil]); first | done | rfl | (simp only [List.length_drop, List.length_take]; rfl)) ?_; (with_reducible refine (decklelaw05_works.calls  true _ A3.out).mono ?_); rintro e w24 ⟨rfl, hb⟩; refine ⟨_, rfl, ?_⟩; have n0_ := Aside0.mk (blk_below (g := gb369) (o := .cells #[.int .i64 a0_0, .int .i64 a0_1, .int .i64 a0_2, .int .i64 a0_3] 23 (0, 0)) (by (with_reducible repeat (first | refine blk_drewN ?_ _ | refine blk_drew ?_ | refine blk_alloc ?_ _)); exact BK369.out) hb); have n1_ := Aside0.mk (below_step (by repeat (first | (with_reducible first | exact HB.out | apply below_alloc | apply pw_below_drewN | apply below_drew1 | refine below_set ?_ GE369.out) | exact HB.out)) hb); clear BK369; clear HB; have BK369 := n0_; have HB := n1_; clear n0_ n1_; (try clear hb); (try clear hb2); (try clear hk); (try clear hi); have hcz25_0 : w24.cell? ⟨gb369, 0, none⟩ = some (.int .i64 a0_0) := (blk_cell BK369.out 0).trans rfl; have hcz25_1 : w24.cell? ⟨gb369, 1, none⟩ = some (.int .i64 a0_1) := (blk_cell BK369.out 1).trans rfl; have hcz25_2 : w24.cell? ⟨gb369, 2, none⟩ = some (.int .i64 a0_2) := (blk_cell BK369.out 2).trans rfl; have hcz25_3 : w24.cell? ⟨gb369, 3, none⟩ = some (.int .i64 a0_3) := (blk_cell BK369.out 3).trans rfl; have hfz25_0 := blk_frozen BK369.out 0; have hfz25_1 := blk_frozen BK369.out 1; have hfz25_2 := blk_frozen BK369.out 2; have hfz25_3 := blk_frozen BK369.out 3) | ((with_reducible refine gate_callee (f := 10) rfl ?_); refine goesL_ (some 12) rfl rfl Tryd.func10 (by kernel_rfl) rfl #[.agg #[.int .i64 a0_0, .int .i64 a0_1, .int .i64 a0_2, .int .i64 a0_3], .string a1] rfl (by (try simp only [List.map_toArray, List.map_cons, List.map_nil]); first | done | rfl | (simp only [List.length_drop, List.length_take]; rfl)) ?_; (with_reducible refine (frame_Encode.calls a0_0 a0_1 a0_2 a0_3 a1 t371 t372 _ A5.out).mono ?_); rintro e w26 ⟨rfl, hb⟩; refine ⟨_, rfl, ?_⟩; have n0_ := Aside0.mk (blk_below (g := gb369) (o := .cells #[.int .i64 a0_0, .int .i64 a0_1, .int .i64 a0_2, .int .i64 a0_3] 23 (0, 0)) (by (with_reducible repeat (first | refine blk_drewN ?_ _ | refine blk_drew ?_ | refine blk_alloc ?_ _)); exact BK369.out) hb); have n1_ := Aside0.mk (below_step (by repeat (first | (with_reducible first | exact HB.out | apply below_alloc | apply pw_below_drewN | apply below_drew1 | refine below_set ?_ GE369.out) | exact HB.out)) hb); clear BK369; clear HB; have BK369 := n0_; have HB := n1_; clear n0_ n1_; (try clear hb); (try clear hb2); (try clear hk); (try clear hi)))
      go_ret
      exact ⟨by first | rfl | (simp [errW_none, errW_some] <;> rfl) | (simp [*, errW_none, errW_some] <;> rfl), by repeat (first | (with_reducible first | exact HB.out | apply below_alloc | apply pw_below_drewN | apply below_drew1 | refine below_set ?_ GE369.out) | exact HB.out)⟩
  · replace c4 := Bool.eq_false_iff.mpr c4
    subst c4
    have H1 : (some false) = some r := by rw [if_neg (show ¬ (false = true) by decide)] at H; exact H
    clear H
    have H := H1
    clear H1
    obtain rfl := Option.some.inj H
    go_enter Tryd.func6, Tryd.ntmps6
    go_wp2_with (first | ((with_reducible refine gate_dst (N := 2) rfl ?_); (try (refine gate_guard (by rfl) ?_; dsimp only)); refine box_event ?hg (N := 2) ?hd (cs := #[.int .i64 a0_0, .int .i64 a0_1, .int .i64 a0_2, .int .i64 a0_3]) (t := 23) ?hr ?_; (case hd => rfl); (case hg => rfl); (case hr => first | (go_simp; done) | (go_simp; rfl)); intro gb369 hg w27 hbox hb; have n0_ := Aside0.mk (below_step (by repeat (first | (with_reducible first | exact HB.out | apply below_alloc | apply pw_below_drewN | apply below_drew1) | exact HB.out)) hb); have n1_ := Aside0.mk (hbox); have n2_ := Aside0.mk ((by rw [hg]; exact (below_size (by repeat (first | (with_reducible first | exact HB.out | apply below_alloc | apply pw_below_drewN | apply below_drew1) | exact HB.out))) : w.heap.size ≤ gb369)); have n3_ := Aside0.mk ((by rw [hg]; exact (below_size (by repeat (first | (with_reducible first | exact HB.out | apply below_alloc | apply pw_below_drewN | apply below_drew1) | exact HB.out))) : w.heap.size ≤ gb369)); clear HB; have HB := n0_; have BK369 := n1_; have GW369 := n2_; have GE369 := n3_; clear n0_ n1_ n2_ n3_; clear hb hbox hg) | ((with_reducible refine gate_callee (f := 9) rfl ?_); refine goesL_ (some 7) rfl rfl Tryd.func9 (by kernel_rfl) rfl #[] rfl (by (try simp only [List.map_toArray, List.map_cons, List.map_nil]); first | done | rfl | (simp only [List.length_drop, List.length_take]; rfl)) ?_; (with_reducible refine (decklelaw05_works.calls  false _ A3.out).mono ?_); rintro e w28 ⟨rfl, hb⟩; refine ⟨_, rfl, ?_⟩; have n0_ := Aside0.mk (blk_below (g := gb369) (o := .cells #[.int .i64 a0_0, .int .i64 a0_1, .int .i64 a0_2, .int .i64 a0_3] 23 (0, 0)) (by (with_reducible repeat (first | refine blk_drewN ?_ _ | refine blk_drew ?_ | refine blk_alloc ?_ _)); exact BK369.out) hb); have n1_ := Aside0.mk (below_step (by repeat (first | (with_reducible first | exact HB.out | apply below_alloc | apply pw_below_drewN | apply below_drew1 | refine below_set ?_ GE369.out) | exact HB.out)) hb); clear BK369; clear HB; have BK369 := n0_; have HB := n1_; clear n0_ n1_; (try clear hb); (try clear hb2); (try clear hk); (try clear hi)))
    go_ret
    exact ⟨by first | rfl | (simp [errW_none, errW_some] <;> rfl) | (simp [*, errW_none, errW_some] <;> rfl), by repeat (first | (with_reducible first | exact HB.out | apply below_alloc | apply pw_below_drewN | apply below_drew1 | refine below_set ?_ GE369.out) | exact HB.out)⟩

end Go.Proofs.YtbcgddacmjliaaaDoor.PF
end

section
/- A page's bytes in plain words: what is encoded, chunk by chunk; what chunks come to; what a whole page is; which is erased. -/
set_option linter.unusedVariables false
set_option linter.unusedSimpArgs false
namespace Go.Proofs.YtbcgddacmjliaaaDoor.PF
open Go.RowKit Go.Proofs.YtbcgddacmjliaaaDoor.Hw Go.Proofs.YtbcgddacmjliaaaDoorW.PrintWords Go.Proofs.YtbcgddacmjliaaaDoorW.PrintLast

/-- Eight bytes with their check; the bytes of a whole page, chunk by chunk. -/
def enc9 (s : ByteArray) : ByteArray := s ++ strOfNums [((chkB s : Nat) : Int)]
def encs (all : ByteArray) : Nat → ByteArray
  | 0 => ⟨#[]⟩
  | j + 1 => encs all j ++ enc9 (all.extract (8 * j) (8 * j + 8))
theorem enc9_size (s : ByteArray) (h : s.size = 8) : (enc9 s).size = 9 := by unfold enc9; rw [ByteArray.size_append, son_size, h]; rfl
theorem encs_size (all : ByteArray) : ∀ n, 8 * n ≤ all.size → (encs all n).size = 9 * n
  | 0, _ => rfl
  | n + 1, h => by
    unfold encs
    rw [ByteArray.size_append, encs_size all n (by omega), enc9_size _ (by rw [size_extract' _ _ _ (by omega)]; omega)]
    omega
theorem encAt_is (all : ByteArray) : ∀ n, 8 * n ≤ all.size → n ≤ 1000 → encAt all n = some (encs all n)
  | 0, _, _ => rfl
  | n + 1, h, h2 => by
    have h8 : (all.extract (8 * n) (8 * n + 8)).size = 8 := by rw [size_extract' _ _ _ (by omega)]; omega
    have hz : (encs all n).size + (enc9 (all.extract (8 * n) (8 * n + 8))).size ≤ 140737488355328 := by rw [encs_size all n (by omega), enc9_size _ h8]; omega
    unfold encAt
    rw [encAt_is all n (by omega) (by omega), Option.bind_some, ham_enc _ h8, Option.bind_some]
    exact if_pos hz
theorem encs_chk (all : ByteArray) (j : Nat) : ∀ n, 8 * n ≤ all.size → j < n → chk (encs all n) j = enc9 (all.extract (8 * j) (8 * j + 8))
  | 0, _, h => by omega
  | n + 1, h, hj => by
    have hs := encs_size all n (by omega)
    have h9 : (enc9 (all.extract (8 * n) (8 * n + 8))).size = 9 := enc9_size _ (by rw [size_extract' _ _ _ (by omega)]; omega)
    unfold chk encs
    by_cases e : j = n
    · subst e
      rw [app_extract_r _ _ _ _ (by omega) (by omega), hs, Nat.sub_self, Nat.add_sub_cancel_left, ← h9, ext_all]
    · rw [app_extract_l _ _ _ _ (by omega)]
      exact encs_chk all j n (by omega) (by omega)
/-- What chunks come to. -/
def whAt (st : Nat → Int) : Nat → Int
  | 0 => 2
  | n + 1 => if st n = 3 then 3 else whAt st n
theorem ext_snoc (a : ByteArray) (m n : Nat) (h : n ≤ a.size) (hm : m ≤ n) : a.extract 0 m ++ a.extract m n = a.extract 0 n := by
  apply bext
  · rw [ByteArray.size_append, size_extract' _ _ _ (by omega), size_extract' _ _ _ (by omega), size_extract' _ _ _ (by omega)]; omega
  · intro i hi
    rw [ByteArray.size_append, size_extract' _ _ _ (by omega), size_extract' _ _ _ (by omega)] at hi
    rw [bn_append, size_extract' _ _ _ (by omega), bn_extract _ 0 n i (by omega) (by omega)]
    split
    · rw [bn_extract _ _ _ _ (by omega) (by omega)]
    · rw [bn_extract _ _ _ _ (by omega) (by omega)]; congr 1; omega
theorem dec_ok (s a : ByteArray) (st : Nat → Int) : ∀ n, 8 * n ≤ a.size → n ≤ 1000 → (∀ j, j < n → ham_Decode.f 40 (chk s j) = some (a.extract (8 * j) (8 * j + 8), st j, 0) ∧ st j ≠ 4) → decAt s n = some (a.extract 0 (8 * n), whAt st n, false)
  | 0, _, _, _ => by
    have : a.extract 0 (8 * 0) = ⟨#[]⟩ := bext (by rw [size_extract' _ _ _ (by omega)]; rfl) (fun i hi => by rw [size_extract' _ _ _ (by omega)] at hi; omega)
    rw [this]
    rfl
  | n + 1, h, h2, hh => by
    obtain ⟨h3, h4⟩ := hh n (by omega)
    have ih := dec_ok s a st n (by omega) (by omega) (fun j hj => hh j (by omega))
    unfold decAt
    rw [ih, Option.bind_some, if_neg (by decide : ¬ (false = true)), h3, Option.bind_some, if_neg h4, if_pos (by rw [size_extract' _ _ _ (by omega), size_extract' _ _ _ (by omega)]; omega), ext_snoc a _ _ (by omega) (by omega)]
    rfl
/-- What a whole page's bytes are. -/
def wholeP (a : ByteArray) (wh : Int) : Page6 :=
  if a.extract (a.size - 4) a.size = zero4 ∧ Sealed (a.extract 0 (a.size - 4)) ∧ TagOk (a.extract 0 16) then
    (wh, ((bn (a.extract 0 16) 1 : Nat) : Int), ((parts (a.extract 0 16) 2 4 : Nat) : Int), ((parts (a.extract 0 16) 4 10 : Nat) : Int), ((parts (a.extract 0 16) 10 14 : Nat) : Int), a.extract 16 (a.size - 8)) else (4, 0, 0, 0, 0, ⟨#[]⟩)
theorem frame_whole_is (a : ByteArray) (wh : Int) (h32 : 32 ≤ a.size) (h : a.size ≤ 1000) (k : Nat) (hk : 20 ≤ k) : frame_whole.f k a wh = some (wholeP a wh) := by
  obtain ⟨k, rfl⟩ : ∃ q, k = q + 20 := ⟨k - 20, by omega⟩
  have e : wrap64 ((a.size : Int) - 4) = ((a.size - 4 : Nat) : Int) := by rw [w64' _ (by omega)]; omega
  have e8 : wrap64 (((a.size - 4 : Nat) : Int) - 4) = ((a.size - 8 : Nat) : Int) := by rw [w64' _ (by omega)]; omega
  have hz4 : (a.extract (a.size - 4) a.size).toList = ([0, 0, 0, 0] : List UInt8) ↔ a.extract (a.size - 4) a.size = zero4 := by
    rw [show ([0, 0, 0, 0] : List UInt8) = zero4.toList by rw [ByteArray.toList_eq]]
    exact tl_inj _ _
  have hw := whole_is (a.extract 0 (a.size - 4)) (by rw [size_extract' _ _ _ (by omega)]; omega)
  unfold frame_whole.f
  rw [e, if_pos (by omega), if_pos (by omega), Int.toNat_natCast]
  unfold wholeP
  by_cases q1 : a.extract (a.size - 4) a.size = zero4
  · rw [if_pos (hz4.2 q1), hw, Option.bind_some]
    by_cases q2 : Sealed (a.extract 0 (a.size - 4))
    · rw [decide_eq_true q2, frame_whole.j0, if_neg (by decide), if_pos (by decide), if_pos (by omega), tag_dec _ (by rw [size_extract' _ _ _ (by omega)]) _ (by omega), Option.bind_some]
      by_cases q3 : TagOk (a.extract 0 16)
      · rw [if_pos q3, if_pos (by rfl), e8, if_pos (by omega), if_pos (by omega), Int.toNat_natCast, if_pos ⟨q1, q2, q3⟩]
      · rw [if_neg q3, if_neg (by decide), if_neg (fun x => q3 x.2.2)]
    · rw [decide_eq_false q2, frame_whole.j0, if_pos (by decide), if_neg (fun x => q2 x.2.1)]
  · rw [if_neg (fun x => q1 (hz4.1 x)), frame_whole.j0, if_pos rfl, if_neg (fun x => q1 x.1)]
/-- A page's bytes ahead of their checks. -/
def allOf (k l s e : Int) (d : ByteArray) : ByteArray := (strOfNums (tagInts k l s e) ++ d ++ sum4 (strOfNums (tagInts k l s e) ++ d)) ++ zero4
theorem allOf_size (k l s e : Int) (d : ByteArray) : (allOf k l s e d).size = d.size + 24 := by
  unfold allOf
  rw [ByteArray.size_append, ByteArray.size_append, ByteArray.size_append, tag_size, sum4_size]
  show 16 + d.size + 4 + 4 = _
  omega
def pageOf (k l s e : Int) (d : ByteArray) : ByteArray := encs (allOf k l s e d) ((d.size + 24) / 8)
theorem frame_enc (k l s e : Int) (d : ByteArray) : frame_Encode.f k l s e d = some (if mayB d.size = true then (if mayT k l s e = true then (pageOf k l s e d, 0) else (⟨#[]⟩, 1)) else (⟨#[]⟩, 2)) := by
  unfold frame_Encode.f
  rw [may_is, Option.bind_some]
  by_cases hm : mayB d.size = true
  · have hb := of_decide_eq_true hm
    rw [if_pos hm, if_pos hm]
    unfold tag_Encode.f
    rw [Option.bind_some]
    by_cases ht : mayT k l s e = true
    · have hz : (strOfNums (tagInts k l s e)).size = 16 := tag_size k l s e
      have hzd : (strOfNums (tagInts k l s e) ++ d).size = d.size + 16 := by rw [ByteArray.size_append, hz]; omega
      have hs2 : (strOfNums (tagInts k l s e) ++ d ++ sum4 (strOfNums (tagInts k l s e) ++ d)).size = d.size + 20 := by rw [ByteArray.size_append, sum4_size, hzd]
      rw [if_pos ht, if_pos ht, if_pos (by rfl), if_pos (by rw [hz]; omega), seal_is _ (by rw [hzd]; omega), Option.bind_some, hs2, if_pos ⟨by omega, by omega⟩]
      have := encAt_is (allOf k l s e d) ((d.size + 24) / 8) (by rw [allOf_size]; omega) (by omega)
      unfold allOf at this
      rw [show d.size + 20 + 4 = d.size + 24 by omega, this, Option.bind_some]
      rfl
    · rw [if_neg ht, if_neg ht, if_neg (by decide)]
  · rw [if_neg hm, if_neg hm]
/-- The page of what is encoded. -/
theorem whole_back (k l s e : Int) (d : ByteArray) (h8 : 8 ≤ d.size) (hm : mayT k l s e = true) (wh : Int) : wholeP (allOf k l s e d) wh = (wh, k, l, s, e, d) := by
  have hz := allOf_size k l s e d
  have ht := tag_size k l s e
  have hzd : (strOfNums (tagInts k l s e) ++ d).size = d.size + 16 := by rw [ByteArray.size_append, ht]; omega
  have hs2 : (strOfNums (tagInts k l s e) ++ d ++ sum4 (strOfNums (tagInts k l s e) ++ d)).size = d.size + 20 := by rw [ByteArray.size_append, sum4_size, hzd]
  have e1 : (allOf k l s e d).extract ((allOf k l s e d).size - 4) (allOf k l s e d).size = zero4 := by
    rw [hz]
    unfold allOf
    rw [app_extract_r _ _ _ _ (by omega) (by rw [hs2]; show _ ≤ _ + 4; omega), hs2, show d.size + 24 - 4 - (d.size + 20) = 0 by omega, show d.size + 24 - (d.size + 20) = 4 by omega]
    exact ext_all zero4
  have e2 : (allOf k l s e d).extract 0 ((allOf k l s e d).size - 4) = strOfNums (tagInts k l s e) ++ d ++ sum4 (strOfNums (tagInts k l s e) ++ d) := by
    rw [hz]
    unfold allOf
    rw [app_extract_l _ _ _ _ (by omega), show d.size + 24 - 4 = d.size + 20 by omega, ← hs2, ext_all]
  have e3 : (allOf k l s e d).extract 0 16 = strOfNums (tagInts k l s e) := by
    unfold allOf
    rw [app_extract_l _ _ _ _ (by omega), app_extract_l _ _ _ _ (by omega), app_extract_l _ _ _ _ (by omega), ← ht, ext_all]
  have e4 : (allOf k l s e d).extract 16 ((allOf k l s e d).size - 8) = d := by
    rw [hz]
    unfold allOf
    rw [app_extract_l _ _ _ _ (by omega), app_extract_l _ _ _ _ (by omega), app_extract_r _ _ _ _ (by omega) (by omega), ht, Nat.sub_self, show d.size + 24 - 8 - 16 = d.size by omega, ext_all]
  obtain ⟨t0, t1, t2, t3, t4⟩ := tag_parts k l s e hm
  unfold wholeP
  rw [e1, e2, e3, e4, if_pos ⟨rfl, seal_sealed _, t0⟩, t1, t2, t3, t4]
/-- Which chunks look erased. -/
theorem era_yes (s : ByteArray) : ∀ n, (∀ j, j < n → (chk s j).size ≤ 9 ∧ zerGo (chk s j) (chk s j).size ≤ 1) → eraAt s n = some true
  | 0, _ => rfl
  | n + 1, h => by
    obtain ⟨h1, h2⟩ := h n (by omega)
    unfold eraAt bits_Zeros.f
    rw [era_yes s n (fun j hj => h j (by omega)), Option.bind_some, if_pos rfl, if_pos (by omega), Option.bind_some, decide_eq_true (by omega)]
theorem era_some (s : ByteArray) : ∀ n, (∀ j, j < n → (chk s j).size ≤ 9) → ∃ b, eraAt s n = some b
  | 0, _ => ⟨true, rfl⟩
  | n + 1, h => by
    obtain ⟨b, hb⟩ := era_some s n (fun j hj => h j (by omega))
    have h1 := h n (by omega)
    unfold eraAt bits_Zeros.f
    rw [hb, Option.bind_some]
    cases b with
    | true => rw [if_pos rfl, if_pos (by omega), Option.bind_some]; exact ⟨_, rfl⟩
    | false => rw [if_neg (by decide)]; exact ⟨_, rfl⟩
theorem era_stay (s : ByteArray) (j : Nat) (h : eraAt s j = some false) : ∀ d, eraAt s (j + d) = some false
  | 0 => h
  | d + 1 => by
    show eraAt s (j + d + 1) = _
    unfold eraAt
    rw [era_stay s j h d, Option.bind_some, if_neg (by decide)]
theorem era_no (s : ByteArray) (n j : Nat) (hj : j < n) (h : ∀ i, i < n → (chk s i).size ≤ 9) (h2 : 1 < zerGo (chk s j) (chk s j).size) : eraAt s n = some false := by
  obtain ⟨b, hb⟩ := era_some s j (fun i hi => h i (by omega))
  have h9 := h j hj
  have h1 : eraAt s (j + 1) = some false := by
    unfold eraAt bits_Zeros.f
    rw [hb, Option.bind_some]
    cases b with
    | true => rw [if_pos rfl, if_pos (by omega), Option.bind_some, decide_eq_false (by omega)]
    | false => rw [if_neg (by decide)]
  have := era_stay s _ h1 (n - (j + 1))
  rw [show j + 1 + (n - (j + 1)) = n by omega] at this
  exact this
theorem zer_turn : ∀ (m : Fin 8) (c : Fin 256), zerB (c.val ^^^ 2 ^ m.val) ≤ zerB c.val + 1 ∧ zerB c.val ≤ zerB (c.val ^^^ 2 ^ m.val) + 1 := by decide +kernel
theorem zerGo_congr {s t : ByteArray} : ∀ n, (∀ i, i < n → bn s i = bn t i) → zerGo s n = zerGo t n
  | 0, _ => rfl
  | n + 1, h => by
    show zerGo s n + zerB (bn s n) = zerGo t n + zerB (bn t n)
    rw [zerGo_congr n (fun i hi => h i (by omega)), h n (by omega)]
theorem zerGo_turn (s : ByteArray) (j : Nat) (hj : j / 8 < s.size) : ∀ n, zerGo (flipAt s j) n ≤ zerGo s n + 1 ∧ zerGo s n ≤ zerGo (flipAt s j) n + 1
  | 0 => ⟨by show 0 ≤ 0 + 1; omega, by show 0 ≤ 0 + 1; omega⟩
  | n + 1 => by
    have ih := zerGo_turn s j hj n
    have hb := bn_flipAt s j n hj
    show zerGo (flipAt s j) n + zerB (bn (flipAt s j) n) ≤ zerGo s n + zerB (bn s n) + 1 ∧ zerGo s n + zerB (bn s n) ≤ zerGo (flipAt s j) n + zerB (bn (flipAt s j) n) + 1
    by_cases e : n = j / 8
    · have hc : zerGo (flipAt s j) n = zerGo s n := zerGo_congr n (fun i hi => by rw [bn_flipAt s j i hj, if_neg (by omega)])
      rw [if_pos e] at hb
      have z := zer_turn ⟨j % 8, by omega⟩ ⟨bn s n, bn_lt s n⟩
      simp only at z
      rw [hb, hc]
      omega
    · rw [if_neg e] at hb
      rw [hb]
      omega
theorem zerGo_mono (s : ByteArray) : ∀ n m, m ≤ n → zerGo s m ≤ zerGo s n
  | 0, m, h => by rw [Nat.le_zero.1 h]; exact Nat.le_refl _
  | n + 1, m, h => by
    by_cases e : m = n + 1
    · rw [e]; exact Nat.le_refl _
    · have := zerGo_mono s n m (by omega)
      show zerGo s m ≤ zerGo s n + zerB (bn s n)
      omega
/-- The first chunk of a page has four bits at least that are nought. -/
theorem first_zeros (k l s e : Int) (d : ByteArray) (h8 : 8 ≤ d.size) : 4 ≤ zerGo (chk (pageOf k l s e d) 0) 9 := by
  have hz := allOf_size k l s e d
  have ht := tag_size k l s e
  unfold pageOf
  rw [encs_chk _ 0 _ (by omega) (by omega)]
  have e0 : bn (enc9 ((allOf k l s e d).extract (8 * 0) (8 * 0 + 8))) 0 = 27 := by
    unfold enc9
    rw [bn_append, if_pos (by rw [size_extract' _ _ _ (by omega)]; omega), bn_extract _ _ _ _ (by omega) (by omega)]
    unfold allOf
    rw [bn_append, if_pos (by rw [ByteArray.size_append, ByteArray.size_append, ht]; omega), bn_append, if_pos (by rw [ByteArray.size_append, ht]; omega), bn_append, if_pos (by omega), tag_bn, if_pos (by omega), bn_son]
    rfl
  refine Nat.le_trans ?_ (zerGo_mono _ 9 1 (by omega))
  show 4 ≤ 0 + zerB _
  rw [e0]
  decide
end Go.Proofs.YtbcgddacmjliaaaDoor.PF
end

section
/- Law FrameBack in plain Lean. -/
set_option linter.unusedVariables false
set_option linter.unusedSimpArgs false
namespace Go.Proofs.YtbcgddacmjliaaaDoor.PF
open Go.RowKit Go.Proofs.YtbcgddacmjliaaaDoor.Hw Go.Proofs.YtbcgddacmjliaaaDoorW.PrintWords Go.Proofs.YtbcgddacmjliaaaDoorW.PrintLast

theorem nil_tl : (some (((⟨#[]⟩ : ByteArray).toList == ([] : List UInt8))) : Option Bool) = some true := by rw [ByteArray.toList_eq]; rfl
/-- Decode of bytes of so many chunks. -/
theorem frame_dec_good (s a : ByteArray) (n : Nat) (st : Nat → Int) (h4 : 4 ≤ n) (h35 : n ≤ 35) (hs : s.size = 9 * n) (ha : a.size = 8 * n) (he : frame_erased.f s = some false) (hh : ∀ j, j < n → ham_Decode.f 40 (chk s j) = some (a.extract (8 * j) (8 * j + 8), st j, 0) ∧ st j ≠ 4) :
    frame_Decode.f s = some (wholeP a (whAt st n)) := by
  unfold frame_Decode.f
  rw [if_pos (by omega), if_neg (by omega), he, Option.bind_some, if_neg (by decide), show s.size / 9 = n by omega, dec_ok s a st n (by omega) (by omega) hh, Option.bind_some, if_neg (by simp), ← ha, ext_all]
  rw [if_neg (by show ¬ a.size = 0; omega), frame_whole_is a _ (by omega) (by omega) 40 (by omega)]
theorem chk_size (s : ByteArray) (j : Nat) (h : 9 * j + 9 ≤ s.size) : (chk s j).size = 9 := by unfold chk; rw [size_extract' _ _ _ h]; omega
theorem page_size (k l s e : Int) (d : ByteArray) (h : d.size % 8 = 0) : (pageOf k l s e d).size = 9 * ((d.size + 24) / 8) := by
  unfold pageOf
  rw [encs_size _ _ (by rw [allOf_size]; omega)]
theorem page_chk (k l s e : Int) (d : ByteArray) (h : d.size % 8 = 0) (j : Nat) (hj : j < (d.size + 24) / 8) : chk (pageOf k l s e d) j = enc9 ((allOf k l s e d).extract (8 * j) (8 * j + 8)) ∧ ((allOf k l s e d).extract (8 * j) (8 * j + 8)).size = 8 := by
  have hz := allOf_size k l s e d
  exact ⟨encs_chk _ j _ (by omega) hj, by rw [size_extract' _ _ _ (by omega)]; omega⟩
theorem page_code (k l s e : Int) (d : ByteArray) (h : d.size % 8 = 0) (j : Nat) (hj : j < (d.size + 24) / 8) : IsCode (chk (pageOf k l s e d) j) ∧ (chk (pageOf k l s e d) j).extract 0 8 = (allOf k l s e d).extract (8 * j) (8 * j + 8) := by
  obtain ⟨h1, h2⟩ := page_chk k l s e d h j hj
  rw [h1]
  exact ⟨enc_code _ h2, enc_extract _ h2 _⟩
theorem wh_two (st : Nat → Int) : ∀ n, (∀ j, j < n → st j = 2) → whAt st n = 2
  | 0, _ => rfl
  | n + 1, h => by
    unfold whAt
    rw [h n (by omega), if_neg (by decide), wh_two st n (fun j hj => h j (by omega))]
end Go.Proofs.YtbcgddacmjliaaaDoor.PF
end

section
/- Law FrameFixes in plain Lean: one bit in each chunk. -/
set_option linter.unusedVariables false
set_option linter.unusedSimpArgs false
namespace Go.Proofs.YtbcgddacmjliaaaDoor.PF
open Go.RowKit Go.Proofs.YtbcgddacmjliaaaDoor.Hw Go.Proofs.YtbcgddacmjliaaaDoorW.PrintWords Go.Proofs.YtbcgddacmjliaaaDoorW.PrintLast

theorem ffs_size (n : Nat) : (ffs n).size = n := by
  unfold ffs
  show (List.replicate _ (255 : UInt8)).toArray.size = _
  simp
theorem ffs_bn (n i : Nat) (h : i < n) : bn (ffs n) i = 255 := by
  rw [bn_at _ i (by rw [ffs_size]; exact h)]
  simp [ffs, ByteArray.getElem_eq_getElem_data]
theorem ffs_chk (n j : Nat) (h : j < n) : chk (ffs (9 * n)) j = ffs 9 := by
  have hz := ffs_size (9 * n)
  unfold chk
  apply bext
  · rw [size_extract' _ _ _ (by omega), ffs_size]; omega
  · intro i hi
    rw [size_extract' _ _ _ (by omega)] at hi
    rw [bn_extract _ _ _ i hi (by omega), ffs_bn _ _ (by omega), ffs_bn _ _ (by omega)]
theorem ffs_zeros : zerGo (ffs 9) 9 = 0 := by
  have h : ∀ n, n ≤ 9 → zerGo (ffs 9) n = 0 := by
    intro n
    induction n with
    | zero => intro _; rfl
    | succ n ih =>
      intro h
      show zerGo (ffs 9) n + zerB (bn (ffs 9) n) = 0
      rw [ih (by omega), ffs_bn _ _ (by omega)]
      decide
  exact h 9 (Nat.le_refl _)
/-- A bit turned in one chunk. -/
theorem chk_turn (s : ByteArray) (n i b j : Nat) (hs : s.size = 9 * n) (hi : i < n) (hb : b < 72) (hj : j < n) : chk (flipAt s (72 * i + b)) j = if j = i then flipAt (chk s i) b else chk s j := by
  have hz : (flipAt s (72 * i + b)).size = 9 * n := by rw [flipAt_size, hs]
  have hsz := chk_size (flipAt s (72 * i + b)) j (by omega)
  apply bext
  · rw [hsz]
    split
    · rw [flipAt_size, chk_size _ _ (by omega)]
    · rw [chk_size _ _ (by omega)]
  · intro q hq
    rw [hsz] at hq
    have e : bn (chk (flipAt s (72 * i + b)) j) q = bn (flipAt s (72 * i + b)) (9 * j + q) := by
      unfold chk
      rw [bn_extract _ _ _ q (by omega) (by omega)]
    have e2 : bn (chk s j) q = bn s (9 * j + q) := by
      unfold chk
      rw [bn_extract _ _ _ q (by omega) (by omega)]
    rw [e, bn_flipAt _ _ _ (by omega)]
    by_cases hji : j = i
    · subst hji
      rw [if_pos rfl, bn_flipAt _ _ _ (by rw [chk_size _ _ (by omega)]; omega), e2]
      by_cases hq2 : q = b / 8
      · rw [if_pos (by omega), if_pos hq2, show (72 * j + b) % 8 = b % 8 by omega]
      · rw [if_neg (by omega), if_neg hq2]
    · rw [if_neg (by omega), if_neg hji, e2]
theorem turned_is (s : ByteArray) (n i : Nat) (b : Int) (hs : s.size = 9 * n) (hn : 1 ≤ n) (hn2 : n ≤ 1000) (hi : i < n) : decklelaw05_turned.f s (i : Int) b = some (flipAt s (72 * i + (b % 72).toNat)) := by
  unfold decklelaw05_turned.f
  have h1 : ((i : Int) % ((s.size / 9 : Nat) : Int)) = (i : Int) := by
    rw [hs, show 9 * n / 9 = n by omega]
    exact Int.emod_eq_of_lt (by omega) (by omega)
  rw [if_pos (by omega), h1]
  congr 2
  have := Int.emod_nonneg b (by decide : (72 : Int) ≠ 0)
  omega
/-- Which chunks of a page, and of a blank one, have a bit turned. -/
structure Hurt1 (P : ByteArray) (n i : Nat) (S Bl : ByteArray) (wh : Int) (st : Nat → Int) : Prop where
  size : S.size = 9 * n
  bsize : Bl.size = 9 * n
  left : ∀ j, i ≤ j → j < n → chk S j = chk P j ∧ st j = 2 ∧ chk Bl j = ffs 9
  done : ∀ j, j < i → j < n → ((chk S j = chk P j ∧ st j = 2 ∧ chk Bl j = ffs 9) ∨ ∃ b, b < 72 ∧ chk S j = flipAt (chk P j) b ∧ st j = 3 ∧ chk Bl j = flipAt (ffs 9) b)
  what : (wh = 2 ∧ ∀ j, j < n → st j = 2) ∨ (wh = 3 ∧ ∃ j, j < n ∧ st j = 3)
theorem Hurt1.same {P : ByteArray} {n i : Nat} {S Bl : ByteArray} {wh : Int} {st : Nat → Int} (h : Hurt1 P n i S Bl wh st) (hi : i < n) : Hurt1 P n (i + 1) S Bl wh st :=
  ⟨h.size, h.bsize, fun j hj hn => h.left j (by omega) hn, fun j hj hn => if e : j = i then Or.inl (h.left j (by omega) hn) else h.done j (by omega) hn, h.what⟩
theorem Hurt1.turn {P : ByteArray} {n i : Nat} {S Bl : ByteArray} {wh : Int} {st : Nat → Int} (h : Hurt1 P n i S Bl wh st) (hi : i < n) (b : Nat) (hb : b < 72) : Hurt1 P n (i + 1) (flipAt S (72 * i + b)) (flipAt Bl (72 * i + b)) 3 (fun j => if j = i then 3 else st j) := by
  refine ⟨by rw [flipAt_size, h.size], by rw [flipAt_size, h.bsize], ?_, ?_, Or.inr ⟨rfl, i, hi, if_pos rfl⟩⟩
  · intro j hj hn
    obtain ⟨a1, a2, a3⟩ := h.left j (by omega) hn
    rw [chk_turn S n i b j h.size hi hb hn, chk_turn Bl n i b j h.bsize hi hb hn]
    simp only [if_neg (by omega : ¬ j = i)]
    exact ⟨a1, a2, a3⟩
  · intro j hj hn
    rw [chk_turn S n i b j h.size hi hb hn, chk_turn Bl n i b j h.bsize hi hb hn]
    by_cases e : j = i
    · subst e
      obtain ⟨a1, a2, a3⟩ := h.left j (Nat.le_refl _) hn
      exact Or.inr ⟨b, hb, by rw [if_pos rfl, a1], by simp, by rw [if_pos rfl, a3]⟩
    · simp only [if_neg e]
      exact h.done j (by omega) hn
theorem wh_three (st : Nat → Int) : ∀ n, (∃ j, j < n ∧ st j = 3) → whAt st n = 3
  | 0, ⟨j, hj, _⟩ => by omega
  | n + 1, ⟨j, hj, h3⟩ => by
    unfold whAt
    by_cases e : st n = 3
    · rw [if_pos e]
    · rw [if_neg e]
      have : j ≠ n := fun x => e (x ▸ h3)
      exact wh_three st n ⟨j, by omega, h3⟩
/-- A blank page with at most one bit turned in each chunk. -/
theorem blank_dec (Bl : ByteArray) (n : Nat) (h4 : 4 ≤ n) (h35 : n ≤ 35) (hs : Bl.size = 9 * n) (h : ∀ j, j < n → chk Bl j = ffs 9 ∨ ∃ b, b < 72 ∧ chk Bl j = flipAt (ffs 9) b) : frame_Decode.f Bl = some (1, 0, 0, 0, 0, ⟨#[]⟩) := by
  have he : frame_erased.f Bl = some true := by
    unfold frame_erased.f
    rw [if_pos (by omega)]
    refine era_yes _ _ (fun j hj => ?_)
    have hz := chk_size Bl j (by omega)
    rw [hz]
    refine ⟨by omega, ?_⟩
    have z := ffs_zeros
    rcases h j (by omega) with e | ⟨b, hb, e⟩
    · rw [e]; omega
    · rw [e]
      have := (zerGo_turn (ffs 9) b (by rw [ffs_size]; omega) 9).1
      omega
  unfold frame_Decode.f
  rw [if_pos (by omega), if_neg (by omega), he, Option.bind_some, if_pos rfl]
/-- A page with at most one bit turned in each chunk. -/
theorem hurt_dec (k l s e : Int) (d : ByteArray) (hd : mayB d.size = true) (ht : mayT k l s e = true) (S : ByteArray) (st : Nat → Int) (hs : S.size = 9 * ((d.size + 24) / 8))
    (h : ∀ j, j < (d.size + 24) / 8 → (chk S j = chk (pageOf k l s e d) j ∧ st j = 2) ∨ ∃ b, b < 72 ∧ chk S j = flipAt (chk (pageOf k l s e d) j) b ∧ st j = 3) : frame_Decode.f S = some (whAt st ((d.size + 24) / 8), k, l, s, e, d) := by
  have hb := of_decide_eq_true hd
  have hm : d.size % 8 = 0 := by omega
  have hsz := page_size k l s e d hm
  have he : frame_erased.f S = some false := by
    unfold frame_erased.f
    rw [if_pos (by omega)]
    refine era_no _ _ 0 (by omega) (fun i hi => by rw [chk_size _ _ (by omega)]; omega) ?_
    have z := first_zeros k l s e d (by omega)
    rw [chk_size _ _ (by omega)]
    rcases h 0 (by omega) with ⟨x, _⟩ | ⟨b, hb, x, _⟩
    · rw [x]; omega
    · rw [x]
      have := (zerGo_turn (chk (pageOf k l s e d) 0) b (by rw [chk_size _ _ (by omega)]; omega) 9).2
      omega
  rw [frame_dec_good _ (allOf k l s e d) ((d.size + 24) / 8) st (by omega) (by omega) hs (by rw [allOf_size]; omega) he ?_, whole_back k l s e d (by omega) ht]
  intro j hj
  obtain ⟨c1, c2⟩ := page_code k l s e d hm j hj
  rcases h j hj with ⟨e1, e2⟩ | ⟨b, hb, e1, e2⟩
  · exact ⟨by rw [e1, c1.good 39, c2, e2], by rw [e2]; decide⟩
  · exact ⟨by rw [e1, c1.one b hb 39, c2, e2], by rw [e2]; decide⟩
theorem fixes_end (k l s e : Int) (d : ByteArray) (hd : mayB d.size = true) (ht : mayT k l s e = true) (l2 : List Int) (i : Nat) (S Bl : ByteArray) (wh : Int) (st : Nat → Int) (h : Hurt1 (pageOf k l s e d) ((d.size + 24) / 8) i S Bl wh st) (q : Nat) :
    decklelaw05_FrameFixes.j1 (q + 1) d l2 S Bl wh (i : Int) false k l s e = some true := by
  have hb := of_decide_eq_true hd
  have w : whAt st ((d.size + 24) / 8) = wh := by
    rcases h.what with ⟨a, b⟩ | ⟨a, b⟩
    · rw [a, wh_two _ _ b]
    · rw [a, wh_three _ _ b]
  have e1 := hurt_dec k l s e d hd ht S st h.size (fun j hj => if g : j < i then (by
    rcases h.done j g hj with x | ⟨b, hb, x⟩
    · exact Or.inl ⟨x.1, x.2.1⟩
    · exact Or.inr ⟨b, hb, x.1, x.2.1⟩) else Or.inl ⟨(h.left j (by omega) hj).1, (h.left j (by omega) hj).2.1⟩)
  have e2 := blank_dec Bl _ (by omega) (by omega) h.bsize (fun j hj => if g : j < i then (by
    rcases h.done j g hj with x | ⟨b, hb, x⟩
    · exact Or.inl x.2.2
    · exact Or.inr ⟨b, hb, x.2.2⟩) else Or.inl (h.left j (by omega) hj).2.2)
  rw [w] at e1
  rw [decklelaw05_FrameFixes.j1, if_neg (by decide), e1, Option.bind_some, if_pos (by simp), e2, Option.bind_some, ByteArray.toList_eq]
  rfl
theorem fixes_loop (k l s e : Int) (d : ByteArray) (hd : mayB d.size = true) (ht : mayT k l s e = true) (l2 : List Int) (hl : (l2.length : Int) ≤ 1000000000000000) : ∀ m i S Bl wh st, Hurt1 (pageOf k l s e d) ((d.size + 24) / 8) i S Bl wh st → i + m = min l2.length ((d.size + 24) / 8) →
    decklelaw05_FrameFixes.l0 (2 * m + 2) d l2 S Bl wh (i : Int) k l s e = some true := by
  have hb := of_decide_eq_true hd
  intro m
  induction m with
  | zero =>
    intro i S Bl wh st h hm
    rw [decklelaw05_FrameFixes.l0]
    by_cases hc : (i : Int) < (l2.length : Int)
    · have : (decide ((i : Int) < wrap64 ((S.size : Int) / 9))) = false := decide_eq_false (by rw [h.size, w64' _ (by omega)]; omega)
      rw [if_pos hc, this, fixes_end k l s e d hd ht l2 i S Bl wh st h]
    · rw [if_neg hc, fixes_end k l s e d hd ht l2 i S Bl wh st h]
  | succ m ih =>
    intro i S Bl wh st h hm
    have hi : i < (d.size + 24) / 8 := by omega
    have : (decide ((i : Int) < wrap64 ((S.size : Int) / 9))) = true := decide_eq_true (by rw [h.size, w64' _ (by omega)]; omega)
    rw [show 2 * (m + 1) + 2 = (2 * m + 2) + 1 + 1 by omega, decklelaw05_FrameFixes.l0, if_pos (by omega), this, decklelaw05_FrameFixes.j1, if_pos rfl, if_pos (by omega), if_pos (by omega), w64' _ (by omega)]
    by_cases hr : rd l2 (i : Int) ≥ 0
    · have b1 := Int.emod_nonneg (rd l2 (i : Int)) (by decide : (72 : Int) ≠ 0)
      have b2 := Int.emod_lt_of_pos (rd l2 (i : Int)) (by decide : (0 : Int) < 72)
      rw [if_pos hr, turned_is S _ i _ h.size (by omega) (by omega) hi, Option.bind_some, turned_is Bl _ i _ h.bsize (by omega) (by omega) hi, Option.bind_some]
      exact ih (i + 1) _ _ _ _ (h.turn hi _ (by omega)) (by omega)
    · rw [if_neg hr]
      exact ih (i + 1) _ _ _ _ (h.same hi) (by omega)
theorem frameFixes_true (k l s e : Int) (d : ByteArray) (l2 : List Int) (hl : (l2.length : Int) ≤ 1000000000000000) : ∃ q, decklelaw05_FrameFixes.f q k l s e d l2 = some true := by
  refine ⟨2 * (min l2.length ((d.size + 24) / 8)) + 2, ?_⟩
  unfold decklelaw05_FrameFixes.f
  rw [works_true, Option.bind_some, if_pos rfl, frame_enc, Option.bind_some]
  by_cases hd : mayB d.size = true
  · by_cases ht : mayT k l s e = true
    · have hb := of_decide_eq_true hd
      have hsz := page_size k l s e d (by omega)
      have hbl : frame_Blank.f (d.size : Int) = some (ffs (9 * ((d.size + 24) / 8))) := by
        unfold frame_Blank.f
        rw [if_pos hd, Nat.mul_comm]
        rfl
      rw [if_pos hd, if_pos ht, if_pos (by rfl), hbl, Option.bind_some]
      refine fixes_loop k l s e d hd ht l2 hl _ 0 _ _ _ (fun _ => 2) ⟨hsz, ffs_size _, fun j _ hj => ⟨rfl, rfl, ffs_chk _ j hj⟩, fun j hj => by omega, Or.inl ⟨rfl, fun _ _ => rfl⟩⟩ (by omega)
    · rw [if_pos hd, if_neg ht, if_neg (by simp)]
      exact nil_tl
  · rw [if_neg hd, if_neg (by simp)]
    exact nil_tl
end Go.Proofs.YtbcgddacmjliaaaDoor.PF
end
