/- The law's proof: words, contracts of the functions that it reaches, plain lemmas. -/
import Derived.ArgAppend
import Derived.Below
import Derived.BigQuiet
import Derived.Carry
import Derived.Deep.AppendLies
import Derived.Deep.CutBlock
import Derived.Deep.DeepCutAuto
import Derived.Deep.Draws
import Derived.Deep.LoopGhost
import Derived.Deep.OwnRows
import Derived.Deep.QuietTactic
import Derived.Deep.RegionHeld3
import Derived.Deep.RegionWith
import Derived.KernelRfl
import Derived.Laws.BitsLemmas
import Derived.Laws.BytesArg
import Derived.Laws.IdiomCopy
import Derived.Laws.MakeOwn
import Derived.Laws.OwnMore
import Derived.Laws.Rows
import Derived.Laws.Slices
import Derived.Lib.AppendStr
import Derived.Lib.BufferMore
import Derived.Lib.ConvBytes
import Derived.Lib.Hide
import Derived.Lib.LazyBuf
import Derived.Maps.AppendAt
import Derived.OpenShut
import Derived.OrdersHeld
import Derived.Outline
import Derived.OwnWalk
import Derived.OwnWalkIn
import Derived.RegionTactic
import Derived.RowKit3
import Derived.StillTailTactics
import Derived.Tactics
import Derived.WalkKit
import Derived.WideLaws
import Derived.RegionIn
import Derived.ControlIn
import Derived.Sort.CutIn
import Derived.WalkMore
import Derived.Test.YtbcgddacmjliaaaDoorFt3
import Derived.Test.YtbcgddacmjliaaaDoorFt1
import Derived.Test.YtbcgddacmjliaaaDoorFt9
import Derived.Test.YtbcgddacmjliaaaDoorFt16
import Derived.Test.YtbcgddacmjliaaaDoorFt21
import Derived.Test.YtbcgddacmjliaaaDoorFt17
import Derived.Test.YtbcgddacmjliaaaDoorFt18
import Derived.Test.YtbcgddacmjliaaaDoorFt0
import Derived.Test.YtbcgddacmjliaaaDoorFt7
import Derived.Test.YtbcgddacmjliaaaDoorFt15
section
/- frame.Decode: what bytes are. -/
set_option linter.unusedVariables false
set_option linter.unusedSimpArgs false
namespace Go.Proofs.YtbcgddacmjliaaaDoor.PF
open Go.RowKit Go.Shelf Go.Proofs.YtbcgddacmjliaaaDoorW.PrintWords Go.Proofs.YtbcgddacmjliaaaDoor.Mem Go.Proofs.YtbcgddacmjliaaaDoor.Own Go.Proofs.YtbcgddacmjliaaaDoor.Rng Go.Proofs.YtbcgddacmjliaaaDoor.Hw

attribute [local go_sem] Oper.semAt_some
/-- The first j chunks: what they hold, what they are, and whether one is bad. -/
def decAt (s : ByteArray) : Nat → Option (ByteArray × Int × Bool)
  | 0 => some (⟨#[]⟩, 2, false)
  | j + 1 => (decAt s j).bind fun x => if x.2.2 = true then some x else (ham_Decode.f 40 (chk s j)).bind fun d => if d.2.1 = 4 then some (x.1, 4, true) else if x.1.size + d.1.size ≤ 140737488355328 then some (x.1 ++ d.1, if d.2.1 = 3 then 3 else x.2.1, false) else none
theorem decAt_le {s : ByteArray} (i : Nat) : ∀ (n : Nat) (r : ByteArray × Int × Bool), decAt s n = some r → i ≤ n → ∃ q, decAt s i = some q ∧ (q.2.2 = true → r = q)
  | 0, r, h, hi => ⟨r, by rw [Nat.le_zero.1 hi]; exact h, fun _ => rfl⟩
  | n + 1, r, h, hi => by
    rcases Nat.lt_or_ge n i with h1 | h1
    · have : i = n + 1 := by omega
      exact ⟨r, by rw [this]; exact h, fun _ => rfl⟩
    · obtain ⟨b, hb, h⟩ := Option.bind_eq_some_iff.mp h
      obtain ⟨q, hq, hr⟩ := decAt_le i n b hb h1
      refine ⟨q, hq, fun e => ?_⟩
      have := hr e
      subst this
      rw [if_pos e] at h
      exact (Option.some.inj h).symm
theorem decAt_step {s : ByteArray} {k n : Nat} {r : ByteArray × Int × Bool} {x : ByteArray} {wh : Int} (h : decAt s n = some r) (hk : k < n) (hI : decAt s k = some (x, wh, false)) :
    ∃ d is e, ham_Decode.f 40 (chk s k) = some (d, is, e) ∧ (is = 4 → r = (x, 4, true)) ∧ (is ≠ 4 → x.size + d.size ≤ 140737488355328 ∧ decAt s (k + 1) = some (x ++ d, if is = 3 then 3 else wh, false)) := by
  obtain ⟨q, hq, hr⟩ := decAt_le (k + 1) n r h hk
  have hq0 := hq
  obtain ⟨b, hb, hq⟩ := Option.bind_eq_some_iff.mp hq
  obtain rfl : (x, wh, false) = b := Option.some.inj (hI.symm.trans hb)
  rw [if_neg (by simp)] at hq
  obtain ⟨⟨d, is, e⟩, hd, hq⟩ := Option.bind_eq_some_iff.mp hq
  refine ⟨d, is, e, hd, fun h4 => ?_, fun h4 => ?_⟩
  · rw [if_pos h4] at hq
    have hq := (Option.some.inj hq).symm
    rw [hr (by rw [hq]), hq]
  · rw [if_neg h4] at hq
    by_cases hl : x.size + d.size ≤ 140737488355328
    · rw [if_pos hl] at hq
      exact ⟨hl, by rw [hq0, ← hq]⟩
    · rw [if_neg hl] at hq
      cases hq
abbrev Page6 := Int × Int × Int × Int × Int × ByteArray
def frame_Decode.f (s : ByteArray) : Option Page6 := if s.size ≤ 1000000 then (if s.size % 9 ≠ 0 ∨ s.size / 9 < 4 ∨ 35 < s.size / 9 then some (4, 0, 0, 0, 0, ⟨#[]⟩) else
  (frame_erased.f s).bind fun er => if er = true then some (1, 0, 0, 0, 0, ⟨#[]⟩) else (decAt s (s.size / 9)).bind fun x => if x.2.2 = true then some (4, 0, 0, 0, 0, ⟨#[]⟩) else if x.1.size = 0 then none else frame_whole.f 40 x.1 x.2.1) else none
abbrev Pg6 (g : Nat) (a b c d e : Int) (x : ByteArray) : Asn := Pt g (.cells #[.int .i64 a, .int .i64 b, .int .i64 c, .int .i64 d, .int .i64 e, .string x] 30)
abbrev BoxI (g : Nat) (a : Int) : Asn := Pt g (.cells #[.int .i64 a] 3)
theorem set6 {w0 w : World} {L : List Asn} {g : Nat} {T : TypeId} {a b c d e f : Value} (h : Own.Own w0 w (Pt g (.cells #[a, b, c, d, e, f] T (0, 0)) :: L)) (u1 u2 u3 u4 u5 u6 : Value) :
    Own.Own w0 ((((((w.setCell ⟨g, 0, none⟩ u1).setCell ⟨g, 1, none⟩ u2).setCell ⟨g, 2, none⟩ u3).setCell ⟨g, 3, none⟩ u4).setCell ⟨g, 4, none⟩ u5).setCell ⟨g, 5, none⟩ u6) (Pt g (.cells #[u1, u2, u3, u4, u5, u6] T (0, 0)) :: L) :=
  ((((((h.set (i := 0) u1).set (i := 1) u2).set (i := 2) u3).set (i := 3) u4).set (i := 4) u5).set (i := 5) u6)
def accD (s : ByteArray) (k : Nat) : ByteArray := ((decAt s k).getD (⟨#[]⟩, 2, false)).1
def whD (s : ByteArray) (k : Nat) : Int := ((decAt s k).getD (⟨#[]⟩, 2, false)).2.1
abbrev restD (BB B6 B3 B2 : Nat) (s : ByteArray) (k : Nat) : List Asn := [BldA BB (accD s k), BoxI B6 (whD s k), Pg6 B3 4 0 0 0 0 ⟨#[]⟩, Pg6 B2 0 0 0 0 0 ⟨#[]⟩]
def InvD (s : ByteArray) (k : Nat) : Prop := ∃ x wh, decAt s k = some (x, wh, false) ∧ (wh = 2 ∨ wh = 3)
theorem inv_acc {s : ByteArray} {k : Nat} {x : ByteArray} {wh : Int} {b : Bool} (h : decAt s k = some (x, wh, b)) : accD s k = x ∧ whD s k = wh := by unfold accD whD; rw [h]; exact ⟨rfl, rfl⟩
theorem own_ne {w0 w : World} {g h : Nat} {o o2 : Obj} {L : List Asn} (H : Own.Own w0 w (Pt g o :: Pt h o2 :: L)) : g ≠ h := by
  obtain ⟨_, S, ⟨S1, S2, ⟨_, h1⟩, ⟨S3, S4, ⟨_, h3⟩, _, _, i3, _⟩, d, _, _⟩, _⟩ := H
  rintro rfl
  exact d _ h1 (i3 _ h3)
/-- What the function's result cell holds. -/
theorem page_res {w0 W : World} {L : List Asn} {B2 : Nat} {a b c d e : Int} {x : ByteArray} {tmps : Array Value} (hp : Own.Own w0 W (Pg6 B2 a b c d e x :: L)) (ht : tmps[2]? = some (.pointer (some ⟨B2, 0, none⟩))) :
    (results Tryd.f12 tmps).run Tryd.prog W = .ok (.agg #[.int .i64 a, .int .i64 b, .int .i64 c, .int .i64 d, .int .i64 e, .string x]) W := by
  obtain ⟨y0, y1, y2, y3, y4, y5⟩ := cells6 hp.pt
  have hu30 := Tryd.underlying30
  have hu23 := Tryd.underlying23
  simp [results, Tryd.results12, go_sem, ht, y0, y1, y2, y3, y4, y5]
set_option maxHeartbeats 4000000 in
set_option maxRecDepth 100000 in
theorem frame_Decode.calls (s : ByteArray) (r1 r2 r3 r4 r5 : Int) (r6 : ByteArray) (w : World) (h : frame_Decode.f s = some (r1, r2, r3, r4, r5, r6)) (HL : Aside0 (Laid w) := by first | exact HL | exact Hw.laid_at HL (by repeat (first | (with_reducible first | exact HB.out | apply below_alloc | apply pw_below_drewN | apply below_drew1) | exact HB.out | exact Below.refl _ _ | refine below_set ?_ (by apply Aside0.out; assumption)))) :
    Calls Tryd.prog 12 #[.string s] w fun e w' => e = .returned (.agg #[.int .i64 r1, .int .i64 r2, .int .i64 r3, .int .i64 r4, .int .i64 r5, .string r6]) ∧ Below w.heap.size w w' := by
  unfold frame_Decode.f at h
  by_cases hs : s.size ≤ 1000000
  · rw [if_pos hs] at h
    have ha := ((Own.Own.new w).alloc (.cells #[.int .i64 0, .int .i64 0, .int .i64 0, .int .i64 0, .int .i64 0, .string ⟨#[]⟩] 30)).alloc (.cells #[.int .i64 4, .int .i64 0, .int .i64 0, .int .i64 0, .int .i64 0, .string ⟨#[]⟩] 30)
    rw [World.size_alloc] at ha
    obtain ⟨B2, hB2⟩ : ∃ B2, B2 = w.heap.size := ⟨_, rfl⟩
    obtain ⟨B3, hB3⟩ : ∃ B3, B3 = w.heap.size + 1 := ⟨_, rfl⟩
    rw [← hB3, ← hB2] at ha
    have HO := Aside0.mk ha
    have HB2 := Lib.hid hB2
    have HB3 := Lib.hid hB3
    have HS := Lib.hid hs
    obtain ⟨n, hn⟩ : ∃ n : Nat, n = s.size / 9 := ⟨_, rfl⟩
    obtain ⟨m, hm⟩ : ∃ m : Nat, m = s.size % 9 := ⟨_, rfl⟩
    rw [← hn, ← hm] at h
    have q1 : Int.tdiv (s.size : Int) 9 = (n : Int) := by rw [Int.tdiv_eq_ediv_of_nonneg (by omega)]; omega
    have q2 : Int.tmod (s.size : Int) 9 = (m : Int) := by rw [Int.tmod_eq_emod_of_nonneg (by omega)]; omega
    clear ha hs hB2 hB3
    refine (callsIn_wide (n := 3)).1 ?_
    refine callsIn_of_wp_marks Tryd.func12 rfl trivial ?_ rfl
    simp only [Tryd.ntmps12, List.size_toArray, List.length_cons, List.length_nil, Nat.reduceAdd, Nat.reduceSub, Array.replicate_succ, Array.replicate_zero, List.push_toArray, List.append_toArray, List.nil_append, List.cons_append]
    refine wpIn_wide.2 ?_
    have hu30 := Tryd.underlying30
    have hu23 := Tryd.underlying23
    go_wp2_with fail
    apply wp_scope_straight
    go_upto_region 2 with (fail)
    rw [← HB3.out, ← HB2.out]
    have hOO := HO.out
    clear HO
    generalize hW : World.alloc _ _ = w2 at hOO ⊢
    clear hW
    have HO := Aside0.mk hOO
    clear hOO
    by_cases hbad : m ≠ 0 ∨ n < 4 ∨ 35 < n
    · rw [if_pos hbad] at h
      simp only [Option.some.injEq, Prod.mk.injEq] at h
      obtain ⟨rfl, rfl, rfl, rfl, rfl, rfl⟩ := h
      obtain ⟨x0, x1, x2, x3, x4, x5⟩ := cells6 HO.out.pt
      have wn : wrap64 (n : Int) = (n : Int) := by unfold wrap64; have := HS.out; omega
      have wn2 : IntKind.i64.wrap (n : Int) = (n : Int) := (Go.Proofs.YtbcgddacmjliaaaDoorW.PrintLast.i64_w _).trans wn
      have hlt := blk_lt HO.out.drop.pt
      have g0 := blk_frozen HO.out.drop.pt 0
      have g1 := blk_frozen HO.out.drop.pt 1
      have g2 := blk_frozen HO.out.drop.pt 2
      have g3 := blk_frozen HO.out.drop.pt 3
      have g4 := blk_frozen HO.out.drop.pt 4
      have g5 := blk_frozen HO.out.drop.pt 5
      have z0 := blk_cell HO.out.drop.pt 0
      have z1 := blk_cell HO.out.drop.pt 1
      have z2 := blk_cell HO.out.drop.pt 2
      have z3 := blk_cell HO.out.drop.pt 3
      have z4 := blk_cell HO.out.drop.pt 4
      have z5 := blk_cell HO.out.drop.pt 5
      simp only [List.getElem?_toArray, List.getElem?_cons_zero, List.getElem?_cons_succ] at z0 z1 z2 z3 z4 z5
      by_cases e1 : m = 0
      · have c2 : ((m : Int) != 0) = false := by subst e1; rfl
        by_cases e2 : n < 4
        · have d1 : decide ((n : Int) < 4) = true := decide_eq_true (by omega)
          clear hbad hn hm
          go_wp2_with fail
          rw [Exit.noGoto_ret]
          have hp := set6 HO.out.pull2 (.int .i64 4) (.int .i64 0) (.int .i64 0) (.int .i64 0) (.int .i64 0) (.string ⟨#[]⟩)
          exact ⟨_, page_res hp rfl, rfl, hp.below⟩
        · have d1 : decide ((n : Int) < 4) = false := decide_eq_false (by omega)
          have d2 : decide (35 < (n : Int)) = true := decide_eq_true (by omega)
          clear hbad hn hm
          go_wp2_with fail
          rw [Exit.noGoto_ret]
          have hp := set6 HO.out.pull2 (.int .i64 4) (.int .i64 0) (.int .i64 0) (.int .i64 0) (.int .i64 0) (.string ⟨#[]⟩)
          exact ⟨_, page_res hp rfl, rfl, hp.below⟩
      · have c2 : ((m : Int) != 0) = true := by simp; omega
        clear hbad hn hm
        go_wp2_with fail
        rw [Exit.noGoto_ret]
        have hp := set6 HO.out.pull2 (.int .i64 4) (.int .i64 0) (.int .i64 0) (.int .i64 0) (.int .i64 0) (.string ⟨#[]⟩)
        exact ⟨_, page_res hp rfl, rfl, hp.below⟩
    · rw [if_neg hbad] at h
      obtain ⟨er, her, h⟩ := Option.bind_eq_some_iff.mp h
      have m0 : m = 0 := by omega
      have n4 : 4 ≤ n := by omega
      have n35 : n ≤ 35 := by omega
      clear hbad
      subst m0
      have wn : wrap64 (n : Int) = (n : Int) := by unfold wrap64; have := HS.out; omega
      have wn2 : IntKind.i64.wrap (n : Int) = (n : Int) := (Go.Proofs.YtbcgddacmjliaaaDoorW.PrintLast.i64_w _).trans wn
      have c2 : (((0 : Nat) : Int) != 0) = false := rfl
      have d1 : decide ((n : Int) < 4) = false := decide_eq_false (by omega)
      have d2 : decide (35 < (n : Int)) = false := decide_eq_false (by omega)
      have HE := Aside0.mk her
      have HN := Lib.hid hn
      clear her hm hn
      go_wp2_with fail
      refine (frame_erased.calls s er _ HE.out (Hw.laid_at HL HO.out.below)).mono ?_
      rintro e w3 ⟨rfl, hb⟩
      have HP := Aside0.mk (HO.out.move hb)
      clear hb HO
      cases er with
      | true =>
        rw [if_pos rfl] at h
        simp only [Option.some.injEq, Prod.mk.injEq] at h
        obtain ⟨rfl, rfl, rfl, rfl, rfl, rfl⟩ := h
        have hlt := blk_lt HP.out.drop.pt
        have g0 := blk_frozen HP.out.drop.pt 0
        have g1 := blk_frozen HP.out.drop.pt 1
        have g2 := blk_frozen HP.out.drop.pt 2
        have g3 := blk_frozen HP.out.drop.pt 3
        have g4 := blk_frozen HP.out.drop.pt 4
        have g5 := blk_frozen HP.out.drop.pt 5
        have z0 := blk_cell HP.out.drop.pt 0
        have z1 := blk_cell HP.out.drop.pt 1
        have z2 := blk_cell HP.out.drop.pt 2
        have z3 := blk_cell HP.out.drop.pt 3
        have z4 := blk_cell HP.out.drop.pt 4
        have z5 := blk_cell HP.out.drop.pt 5
        simp only [List.getElem?_toArray, List.getElem?_cons_zero, List.getElem?_cons_succ] at z0 z1 z2 z3 z4 z5
        go_wp2_with fail
        rw [Exit.noGoto_ret]
        have hp := set6 HP.out.pull2 (.int .i64 1) (.int .i64 0) (.int .i64 0) (.int .i64 0) (.int .i64 0) (.string ⟨#[]⟩)
        exact ⟨_, page_res hp rfl, rfl, hp.below⟩
      | false =>
        rw [if_neg (by decide)] at h
        obtain ⟨⟨x, wh, bad⟩, hx, h⟩ := Option.bind_eq_some_iff.mp h
        have HX := Aside0.mk hx
        have HH := Aside0.mk h
        clear hx h
        go_upto_region 9 with (fail)
        have ho := (own_bld HP.out).alloc (.cells #[.int .i64 2] 3)
        rw [World.size_alloc] at ho
        obtain ⟨BB, hBB⟩ : ∃ B, B = w3.heap.size := ⟨_, rfl⟩
        obtain ⟨B6, hB6⟩ : ∃ B, B = w3.heap.size + 1 := ⟨_, rfl⟩
        rw [← hB6, ← hBB] at ho
        rw [← hB6, ← hBB]
        clear HP hB6 hBB
        generalize hW : World.alloc _ _ = w4 at ho ⊢
        clear hW
        have HQ := Aside0.mk (own_swap [_] [_] ho)
        clear ho
        go_wp2_with fail
        apply wp_label
        go_wp2_with fail
        refine (chunks_own s HQ.out).mono ?_
        rintro e w5 ⟨b, rfl, ho⟩
        have HF := Aside0.mk (show Own.Own w w5 (ChL b s (restD BB B6 B3 B2 s) 0) from ho)
        clear ho HQ
        go_wp2_with fail
        have hx2 : decAt s (s.size / 9) = some (x, wh, bad) := by rw [← HN.out]; exact HX.out
        clear HX
        have HX := Aside0.mk hx2
        clear hx2
        refine (wpIn_wide (n := 3)).1 ?_
        refine wp_range_loop (n := 3) (by omega) (gf := 58) (lb := #[.pointer (some ⟨b, 0, none⟩)]) rfl (enters_of Tryd.func58 (by kernel_rfl) rfl) (fun _ => rfl)
          (chunks_iter w b s HS.out (restD BB B6 B3 B2 s) (InvD s) ⟨_, _, rfl, .inl rfl⟩) HF.out
          (fun c L => c = .exit 0 ∧ bad = true ∧ ∃ x0, L = [BoxS b s, BldA BB x0, BoxI B6 4, Pg6 B3 4 0 0 0 0 ⟨#[]⟩, Pg6 B2 0 0 0 0 0 ⟨#[]⟩]) ?round ?done ?stop
        case round =>
          rintro l D o k c Lk W ⟨q0, rfl⟩ ⟨hk, hc, rfl, x0, w0, hI, hw⟩ hO
          subst hc
          obtain ⟨dd, is, ee, hd, h4, h5⟩ := decAt_step HX.out hk hI
          obtain ⟨ia, iw⟩ := inv_acc hI
          have hO2 : Own.Own w W (Dfr D :: Pt l (.loop q0) :: BoxS b s :: [BldA BB (accD s k), BoxI B6 (whD s k), Pg6 B3 4 0 0 0 0 ⟨#[]⟩, Pg6 B2 0 0 0 0 0 ⟨#[]⟩]) := hO
          rw [ia, iw] at hO2
          have HD := Aside0.mk hd
          have H4 := Aside0.mk h4
          have H5 := Aside0.mk h5
          have HW' := Lib.hid hw
          clear hd h4 h5 hI ia iw hO hw
          gi_wp2_with (fail)
          refine ⟨_, hO2, ?_⟩
          rintro o2 W2 ⟨q2, rfl⟩ h2
          gi_wp2_with (fail)
          refine ⟨trivial, ?_⟩
          gi_at_call 32
          refine (CallsIn.inRound l (callsIn_wide.2 (ham_Decode.calls 40 _ _ _ _ _ HD.out (Hw.laid_at HL h2.below)))).mono ?_
          rintro e w6 ⟨rfl, hb⟩
          have HC := Aside0.mk (h2.move hb)
          clear h2 hb hO2
          have z0 := blk_cell HC.out.drop.drop.drop.drop.pt 0
          have g0 := blk_frozen HC.out.drop.drop.drop.drop.pt 0
          simp only [List.getElem?_toArray, List.getElem?_cons_zero] at z0
          by_cases e4 : is = 4
          · have c4 : (is == 4) = true := by simpa using e4
            have hb1 : bad = true := by have := H4.out e4; simp only [Prod.mk.injEq] at this; exact this.2.2
            subst e4
            gi_wp2_with (fail)
            have hq := own_swap [_] [_, _, _, _] ((own_swap [_, _, _, _] [_] HC.out).set (i := 0) (.int .i64 4))
            exact ⟨_, ⟨rfl, hb1, _, rfl⟩, hq⟩
          · have c4 : (is == 4) = false := by simpa using e4
            obtain ⟨h6, h7⟩ := H5.out e4
            have H6 := Lib.hid h6
            have H7 := Aside0.mk h7
            obtain ⟨ia, iw⟩ := inv_acc h7
            have IA := Lib.hid ia
            have IW := Lib.hid iw
            have aw : ∀ v : Int, Away [Dfr D, Pt l (.loop q2), BoxS b s, BoxI B6 v, Pg6 B3 4 0 0 0 0 ⟨#[]⟩, Pg6 B2 0 0 0 0 0 ⟨#[]⟩] := fun v => Away.cons (away_pt (by intro c fz e; cases e)) (Away.cons (away_pt (by intro c fz e; cases e)) (Away.cons (away_pt (by intro c fz e; cases e)) (Away.cons (away_pt (by intro c fz e; cases e)) (Away.cons (away_pt (by intro c fz e; cases e)) (Away.cons (away_pt (by intro c fz e; cases e)) Away.nil)))))
            clear h6 h7 ia iw
            by_cases e3 : is = 3
            · subst e3
              have hq := own_swap [_] [_, _, _, _] ((own_swap [_, _, _, _] [_] HC.out).set (i := 0) (.int .i64 3))
              have HQ := Aside0.mk (own_swap [_, _, _] [_] hq)
              clear hq HC
              gi_wp2_with (fail)
              refine ⟨trivial, ?_⟩
              gi_at_call 24
              refine (CallsIn.inRound l (callsIn_wide.2 (own_write HQ.out (aw 3) H6.out))).mono ?_
              rintro e w7 ⟨rfl, ho⟩
              have HZ := Aside0.mk (own_swap [_] [_, _, _] ho)
              clear ho HQ
              gi_wp2_with (fail)
              refine ⟨_, ⟨?_, _, _, H7.out, .inr (by simp)⟩, HZ.out⟩
              show _ = [BoxS b s, BldA BB (accD s (k + 1)), BoxI B6 (whD s (k + 1)), Pg6 B3 4 0 0 0 0 ⟨#[]⟩, Pg6 B2 0 0 0 0 0 ⟨#[]⟩]
              rw [IA.out, IW.out]
              simp
              done
            · have c3 : (is == 3) = false := by simpa using e3
              have HQ := Aside0.mk (own_swap [_, _, _] [_] HC.out)
              clear HC
              gi_wp2_with (fail)
              refine ⟨trivial, ?_⟩
              gi_at_call 24
              refine (CallsIn.inRound l (callsIn_wide.2 (own_write HQ.out (aw w0) H6.out))).mono ?_
              rintro e w7 ⟨rfl, ho⟩
              have HZ := Aside0.mk (own_swap [_] [_, _, _] ho)
              clear ho HQ
              gi_wp2_with (fail)
              refine ⟨_, ⟨?_, _, _, H7.out, by rw [if_neg e3]; exact HW'.out⟩, HZ.out⟩
              show _ = [BoxS b s, BldA BB (accD s (k + 1)), BoxI B6 (whD s (k + 1)), Pg6 B3 4 0 0 0 0 ⟨#[]⟩, Pg6 B2 0 0 0 0 0 ⟨#[]⟩]
              rw [IA.out, IW.out, if_neg e3]
              rfl
        case done =>
          rintro D L W ⟨rfl, x0, w0, hI, hw⟩ hO
          have e0 := Option.some.inj (HX.out.symm.trans hI)
          simp only [Prod.mk.injEq] at e0
          obtain ⟨rfl, rfl, rfl⟩ := e0
          obtain ⟨ia, iw⟩ := inv_acc hI
          have hO2 : Own.Own w W (Dfr D :: BoxS b s :: [BldA BB (accD s (s.size / 9)), BoxI B6 (whD s (s.size / 9)), Pg6 B3 4 0 0 0 0 ⟨#[]⟩, Pg6 B2 0 0 0 0 0 ⟨#[]⟩]) := hO
          rw [ia, iw] at hO2
          have hh := HH.out
          rw [if_neg (by decide)] at hh
          by_cases hz : x.size = 0
          · rw [if_pos hz] at hh
            cases hh
          · rw [if_neg hz] at hh
            have HZ := Lib.hid hz
            have HH2 := Aside0.mk hh
            have c4 : (wh == 4) = false := by simp; omega
            have HC := Aside0.mk hO2
            have z0 := blk_cell HC.out.drop.drop.drop.pt 0
            simp only [List.getElem?_toArray, List.getElem?_cons_zero] at z0
            have HC0 := Aside0.mk (own_swap [_, _] [_] HC.out.drew)
            have aw : Away [Dfr D, BoxS b s, BoxI B6 wh, Pg6 B3 4 0 0 0 0 ⟨#[]⟩, Pg6 B2 0 0 0 0 0 ⟨#[]⟩] := Away.cons (away_pt (by intro c fz e; cases e)) (Away.cons (away_pt (by intro c fz e; cases e)) (Away.cons (away_pt (by intro c fz e; cases e)) (Away.cons (away_pt (by intro c fz e; cases e)) (Away.cons (away_pt (by intro c fz e; cases e)) Away.nil))))
            clear hh HH hO hO2 hI ia iw hz hw HF
            go_upto_region 20 with (fail)
            go_region_held3 (fun w' => w'.cell? ⟨B6, 0, none⟩ = some (.int .i64 wh)) (go_keep) (first
              | (go_at_call 25; refine (own_string HC0.out aw HZ.out).mono ?_; rintro e w7 ⟨rfl, ho⟩; have HV := Aside0.mk ho; have c5 : w7.cell? ⟨B6, 0, none⟩ = some (.int .i64 wh) := (blk_cell HV.out.drop.drop.drop.pt 0); clear ho)
              | (go_at_call 33; refine (frame_whole.calls 40 _ _ _ _ _ _ _ _ _ HH2.out (Hw.laid_at HL HV.out.below)).mono ?_; rintro e w8 ⟨rfl, hb⟩; have HU := Aside0.mk (own_swap [_, _, _, _, _] [_] (HV.out.move hb)); have hp8 := HU.out.pt; have hlt := blk_lt hp8; have g0 := blk_frozen hp8 0; have g1 := blk_frozen hp8 1; have g2 := blk_frozen hp8 2; have g3 := blk_frozen hp8 3; have g4 := blk_frozen hp8 4; have g5 := blk_frozen hp8 5; have y0 := blk_cell hp8 0; have y1 := blk_cell hp8 1; have y2 := blk_cell hp8 2; have y3 := blk_cell hp8 3; have y4 := blk_cell hp8 4; have y5 := blk_cell hp8 5; simp only [List.getElem?_toArray, List.getElem?_cons_zero, List.getElem?_cons_succ] at y0 y1 y2 y3 y4 y5; have c6 : w8.cell? ⟨B6, 0, none⟩ = some (.int .i64 wh) := (blk_cell HU.out.drop.drop.drop.drop.pt 0); have hne : B6 ≠ B2 := own_ne (own_swap [_, _, _, _] [_] HU.out); have hne2 := hne.symm; clear hp8 hb))
            all_goals go_wp2_with fail
            all_goals rw [Exit.noGoto_ret]
            all_goals
              have hp := set6 HU.out (.int .i64 r1) (.int .i64 r2) (.int .i64 r3) (.int .i64 r4) (.int .i64 r5) (.string r6)
              have H5 := own_putObj (own_swap [_, _] [_] hp) (.deferred none)
              have hK := (own_swap [_, _] [_] hp).pt
              refine ⟨by simp, .inl ⟨_, _, rfl, run_takeDeferred hK, ?_⟩⟩
              exact ⟨_, page_res H5.drop rfl, rfl, H5.below⟩
        case stop =>
          rintro D c L W ⟨rfl, rfl, x0, rfl⟩ hO
          have hh := HH.out
          rw [if_pos rfl] at hh
          simp only [Option.some.injEq, Prod.mk.injEq] at hh
          obtain ⟨rfl, rfl, rfl, rfl, rfl, rfl⟩ := hh
          have HC := Aside0.mk hO
          have z6 := blk_cell HC.out.drop.drop.drop.pt 0
          simp only [List.getElem?_toArray, List.getElem?_cons_zero] at z6
          have HP := Aside0.mk (own_swap [_, _, _, _] [_, _] HC.out)
          obtain ⟨x0, x1, x2, x3, x4, x5⟩ := cells6 HP.out.pt
          have hlt := blk_lt HP.out.drop.pt
          have g0 := blk_frozen HP.out.drop.pt 0
          have g1 := blk_frozen HP.out.drop.pt 1
          have g2 := blk_frozen HP.out.drop.pt 2
          have g3 := blk_frozen HP.out.drop.pt 3
          have g4 := blk_frozen HP.out.drop.pt 4
          have g5 := blk_frozen HP.out.drop.pt 5
          have z0 := blk_cell HP.out.drop.pt 0
          have z1 := blk_cell HP.out.drop.pt 1
          have z2 := blk_cell HP.out.drop.pt 2
          have z3 := blk_cell HP.out.drop.pt 3
          have z4 := blk_cell HP.out.drop.pt 4
          have z5 := blk_cell HP.out.drop.pt 5
          simp only [List.getElem?_toArray, List.getElem?_cons_zero, List.getElem?_cons_succ] at z0 z1 z2 z3 z4 z5
          have c4 : ((4 : Int) == 4) = true := rfl
          clear hO HF
          refine wpIn_wide.2 ?_
          go_wp2_with fail
          have hp := set6 HP.out.pull2 (.int .i64 4) (.int .i64 0) (.int .i64 0) (.int .i64 0) (.int .i64 0) (.string ⟨#[]⟩)
          have H5 := own_putObj (own_swap [_, _] [_] hp) (.deferred none)
          have hK := (own_swap [_, _] [_] hp).pt
          refine ⟨by simp, .inl ⟨_, _, rfl, run_takeDeferred hK, ?_⟩⟩
          exact ⟨_, page_res H5.drop rfl, rfl, H5.below⟩
  · rw [if_neg hs] at h
    cases h
end Go.Proofs.YtbcgddacmjliaaaDoor.PF
end

section
-- Written by a program (the kit's print.py, called by wip/bin/prseat.sh, mended by wip/bin/mend.py).
namespace Go.Proofs.YtbcgddacmjliaaaDoor.PF
open Go.Proofs.YtbcgddacmjliaaaDoor.Tf Go.RowKit Go.Proofs.YtbcgddacmjliaaaDoorW.PrintWords Go.Proofs.YtbcgddacmjliaaaDoorW.PrintLast Go.Proofs.YtbcgddacmjliaaaDoorW.PrintMore
attribute [local go_sem] max2_int min2_int max_two min_two max_three min_three max_four min_four   -- for this text's walks alone
set_option linter.unusedVariables false
set_option linter.unnecessarySimpa false
set_option linter.unusedSimpArgs false

attribute [local go_sem high] eqA30
/-! ### decklelaw05_works: function 9 -/
def decklelaw05_works.f  : Option (Bool) := (frame_Encode.f 1 2 3 4 (⟨#[97, 98, 99, 100, 101, 102, 103, 104]⟩ : ByteArray)).bind fun bt156 => ((frame_Blank.f 8).bind fun t158 => (if bt156.2 = 0 then (if (bt156.1.size : Int) = 36 then ((frame_Decode.f bt156.1).bind fun bt159 => (if (bt159.1 == 2 && ((bt159.2.1 == 1 && (bt159.2.2.1 == 2 && (bt159.2.2.2.1 == 3 && (bt159.2.2.2.2.1 == 4)))) && (bt159.2.2.2.2.2.toList == ([97, 98, 99, 100, 101, 102, 103, 104] : List UInt8)))) = true then (if (t158.size : Int) = 36 then ((frame_Decode.f t158).bind fun bt165 => (if (bt165.1 == 1 && ((bt165.2.1 == 0 && (bt165.2.2.1 == 0 && (bt165.2.2.2.1 == 0 && (bt165.2.2.2.2.1 == 0)))) && (bt165.2.2.2.2.2.toList == ([] : List UInt8)))) = true then ((frame_Hurt.f t158 0 0).bind fun t171 => ((frame_Decode.f t171).bind fun bt172 => (some (bt172.1 == 4 && ((bt172.2.1 == 0 && (bt172.2.2.1 == 0 && (bt172.2.2.2.1 == 0 && (bt172.2.2.2.2.1 == 0)))) && (bt172.2.2.2.2.2.toList == ([] : List UInt8))))))) else (some false))) else (some false)) else (some false))) else (some false)) else (some false)))
def decklelaw05_works.T4 : Bool × List (List Nat × List Nat) := (true, [([], []), ([0], [0]), ([1], [1]), ([2], [2]), ([3, 2], [2, 3]), ([4, 2], [2, 4]), ([2, 5], [2, 5]), ([6, 2], [6]), ([7], [7]), ([8, 7, 7], [7, 8]), ([7], [7]), ([10, 7], [7, 10]), ([9, 11, 7], [7, 9, 11]), ([7, 12], [7, 12]), ([13, 9], [13]), ([14], [14]), ([15, 14], [14, 15]), ([16, 14], [14, 16]), ([14, 17], [14, 17]), ([18, 14], [18]), ([19], [19]), ([20, 19, 19], [19, 20]), ([19], [19]), ([21, 22, 19], [19, 21, 22]), ([19, 23], [19, 23]), ([24, 21], [24]), ([25], [25]), ([26, 25, 25], [25, 26]), ([27, 27, 25], [25, 27]), ([25], [25]), ([28, 29, 25], [25, 28, 29]), ([25, 30], [25, 30]), ([31, 28, 0, 1, 2, 3, 4, 5, 6, 7, 8, 9, 10, 11, 12, 13, 14, 15, 16, 17, 18, 19, 20, 21, 22, 23, 24, 25, 26, 27, 28, 29, 30, 31], [31])])
def decklelaw05_works.B4 : List Nat := [0, 1, 3, 7, 15, 31, 63, 127, 255, 511, 255, 1279, 4095, 8191, 16383, 32767, 65535, 131071, 262143, 524287, 1048575, 2097151, 1048575, 8388607, 16777215, 33554431, 67108863, 134217727, 268435455, 67108863, 1073741823, 2147483647, 4294967295]
theorem decklelaw05_works.tab4 : rtab .any (opsOf Tryd.f9 4) = decklelaw05_works.T4 := by kernel_rfl
theorem decklelaw05_works.bits4 : waitsOk decklelaw05_works.T4.2 decklelaw05_works.B4 = true := by kernel_rfl
theorem works_dec1 {B : ByteArray} {a b c d e : Int} {x : ByteArray} (h : frame_Blank.f 8 = some B) (h2 : frame_Decode.f B = some (a, b, c, d, e, x)) : a = 1 ∧ b = 0 ∧ c = 0 ∧ d = 0 ∧ e = 0 ∧ x = ⟨#[]⟩ := by
  have h3 : (frame_Blank.f 8).bind (fun B => frame_Decode.f B) = some (1, 0, 0, 0, 0, ⟨#[]⟩) := by kernel_rfl
  rw [h] at h3
  have h4 := Option.some.inj (h2.symm.trans h3)
  simp only [Prod.mk.injEq] at h4
  exact h4
theorem works_true : decklelaw05_works.f = some true := by kernel_rfl
set_option maxHeartbeats 8000000 in
set_option maxRecDepth 100000 in
theorem decklelaw05_works.calls  (r : Bool) (w : World) (h : decklelaw05_works.f  = some r) (HL : Aside0 (Hw.Laid w) := by first | exact HL | exact Hw.laid_at HL (by repeat (first | (with_reducible first | exact HB.out | apply below_alloc | apply pw_below_drewN | apply below_drew1) | exact HB.out | exact Below.refl _ _ | refine below_set ?_ (by apply Aside0.out; assumption)))) :
    Calls Tryd.prog 9 #[] w fun e w' => e = .returned (.bool r) ∧ Below w.heap.size w w' := by
  have hu23 := Tryd.underlying23
  have hu30 := Tryd.underlying30
  have HB := Aside0.mk (Below.refl w.heap.size w)
  have H : ((frame_Encode.f 1 2 3 4 (⟨#[97, 98, 99, 100, 101, 102, 103, 104]⟩ : ByteArray)).bind fun bt156 => ((frame_Blank.f 8).bind fun t158 => (if bt156.2 = 0 then (if (bt156.1.size : Int) = 36 then ((frame_Decode.f bt156.1).bind fun bt159 => (if (bt159.1 == 2 && ((bt159.2.1 == 1 && (bt159.2.2.1 == 2 && (bt159.2.2.2.1 == 3 && (bt159.2.2.2.2.1 == 4)))) && (bt159.2.2.2.2.2.toList == ([97, 98, 99, 100, 101, 102, 103, 104] : List UInt8)))) = true then (if (t158.size : Int) = 36 then ((frame_Decode.f t158).bind fun bt165 => (if (bt165.1 == 1 && ((bt165.2.1 == 0 && (bt165.2.2.1 == 0 && (bt165.2.2.2.1 == 0 && (bt165.2.2.2.2.1 == 0)))) && (bt165.2.2.2.2.2.toList == ([] : List UInt8)))) = true then ((frame_Hurt.f t158 0 0).bind fun t171 => ((frame_Decode.f t171).bind fun bt172 => (some (bt172.1 == 4 && ((bt172.2.1 == 0 && (bt172.2.2.1 == 0 && (bt172.2.2.2.1 == 0 && (bt172.2.2.2.2.1 == 0)))) && (bt172.2.2.2.2.2.toList == ([] : List UInt8))))))) else (some false))) else (some false)) else (some false))) else (some false)) else (some false)))) = some r := h
  have HRT := Aside0.mk (Option.some.inj (h.symm.trans works_true))
  clear h
  replace H := Option.bind_eq_some_iff.mp H
  obtain ⟨⟨t156, t157⟩, A10, H⟩ := H
  replace H : ((frame_Blank.f 8).bind fun t158 => (if t157 = 0 then (if (t156.size : Int) = 36 then ((frame_Decode.f t156).bind fun bt159 => (if (bt159.1 == 2 && ((bt159.2.1 == 1 && (bt159.2.2.1 == 2 && (bt159.2.2.2.1 == 3 && (bt159.2.2.2.2.1 == 4)))) && (bt159.2.2.2.2.2.toList == ([97, 98, 99, 100, 101, 102, 103, 104] : List UInt8)))) = true then (if (t158.size : Int) = 36 then ((frame_Decode.f t158).bind fun bt165 => (if (bt165.1 == 1 && ((bt165.2.1 == 0 && (bt165.2.2.1 == 0 && (bt165.2.2.2.1 == 0 && (bt165.2.2.2.2.1 == 0)))) && (bt165.2.2.2.2.2.toList == ([] : List UInt8)))) = true then ((frame_Hurt.f t158 0 0).bind fun t171 => ((frame_Decode.f t171).bind fun bt172 => (some (bt172.1 == 4 && ((bt172.2.1 == 0 && (bt172.2.2.1 == 0 && (bt172.2.2.2.1 == 0 && (bt172.2.2.2.2.1 == 0)))) && (bt172.2.2.2.2.2.toList == ([] : List UInt8))))))) else (some false))) else (some false)) else (some false))) else (some false)) else (some false))) = some r := H
  have A1 := Aside0.mk A10
  clear A10
  replace H := Option.bind_eq_some_iff.mp H
  obtain ⟨t158, A20, H⟩ := H
  replace H : (if t157 = 0 then (if (t156.size : Int) = 36 then ((frame_Decode.f t156).bind fun bt159 => (if (bt159.1 == 2 && ((bt159.2.1 == 1 && (bt159.2.2.1 == 2 && (bt159.2.2.2.1 == 3 && (bt159.2.2.2.2.1 == 4)))) && (bt159.2.2.2.2.2.toList == ([97, 98, 99, 100, 101, 102, 103, 104] : List UInt8)))) = true then (if (t158.size : Int) = 36 then ((frame_Decode.f t158).bind fun bt165 => (if (bt165.1 == 1 && ((bt165.2.1 == 0 && (bt165.2.2.1 == 0 && (bt165.2.2.2.1 == 0 && (bt165.2.2.2.2.1 == 0)))) && (bt165.2.2.2.2.2.toList == ([] : List UInt8)))) = true then ((frame_Hurt.f t158 0 0).bind fun t171 => ((frame_Decode.f t171).bind fun bt172 => (some (bt172.1 == 4 && ((bt172.2.1 == 0 && (bt172.2.2.1 == 0 && (bt172.2.2.2.1 == 0 && (bt172.2.2.2.2.1 == 0)))) && (bt172.2.2.2.2.2.toList == ([] : List UInt8))))))) else (some false))) else (some false)) else (some false))) else (some false)) else (some false)) = some r := H
  have A2 := Aside0.mk A20
  clear A20
  by_cases c3 : t157 = 0
  · rw [if_pos c3] at H
    have c3b0 : (t157 == 0) = true := beq_iff_eq.mpr c3
    have c3b1 : (t157 != 0) = false := bne_eq_false_iff_eq.mpr c3
    clear c3
    by_cases c4 : (t156.size : Int) = 36
    · rw [if_pos c4] at H
      have c4b0 : ((t156.size : Int) == 36) = true := beq_iff_eq.mpr c4
      have c4b1 : ((t156.size : Int) != 36) = false := bne_eq_false_iff_eq.mpr c4
      clear c4
      replace H := Option.bind_eq_some_iff.mp H
      obtain ⟨⟨t159, t160, t161, t162, t163, t164⟩, A50, H⟩ := H
      replace H : (if (t159 == 2 && ((t160 == 1 && (t161 == 2 && (t162 == 3 && (t163 == 4)))) && (t164.toList == ([97, 98, 99, 100, 101, 102, 103, 104] : List UInt8)))) = true then (if (t158.size : Int) = 36 then ((frame_Decode.f t158).bind fun bt165 => (if (bt165.1 == 1 && ((bt165.2.1 == 0 && (bt165.2.2.1 == 0 && (bt165.2.2.2.1 == 0 && (bt165.2.2.2.2.1 == 0)))) && (bt165.2.2.2.2.2.toList == ([] : List UInt8)))) = true then ((frame_Hurt.f t158 0 0).bind fun t171 => ((frame_Decode.f t171).bind fun bt172 => (some (bt172.1 == 4 && ((bt172.2.1 == 0 && (bt172.2.2.1 == 0 && (bt172.2.2.2.1 == 0 && (bt172.2.2.2.2.1 == 0)))) && (bt172.2.2.2.2.2.toList == ([] : List UInt8))))))) else (some false))) else (some false)) else (some false)) = some r := H
      have A5 := Aside0.mk A50
      clear A50
      by_cases c6 : (t159 == 2 && ((t160 == 1 && (t161 == 2 && (t162 == 3 && (t163 == 4)))) && (t164.toList == ([97, 98, 99, 100, 101, 102, 103, 104] : List UInt8)))) = true
      · rw [if_pos c6] at H
        have c6b0 : (t159 == 2 && ((t160 == 1 && (t161 == 2 && (t162 == 3 && (t163 == 4)))) && (t164.toList == ([97, 98, 99, 100, 101, 102, 103, 104] : List UInt8)))) = true := c6
        (try (have c6b1 : decide (t159 = 2 && ((t160 == 1 && (t161 == 2 && (t162 == 3 && (t163 == 4)))) && (t164.toList == ([97, 98, 99, 100, 101, 102, 103, 104] : List UInt8)))) = true := by simpa using c6))
        (try (have c6b2 : (t159 == 2 && ((t160 == 1 && (t161 == 2 && (t162 == 3 && (t163 == 4)))) && (t164.toList == ([97, 98, 99, 100, 101, 102, 103, 104] : List UInt8)))) = true := by simpa using c6))
        clear c6
        by_cases c7 : (t158.size : Int) = 36
        · rw [if_pos c7] at H
          have c7b0 : ((t158.size : Int) == 36) = true := beq_iff_eq.mpr c7
          have c7b1 : ((t158.size : Int) != 36) = false := bne_eq_false_iff_eq.mpr c7
          clear c7
          replace H := Option.bind_eq_some_iff.mp H
          obtain ⟨⟨t165, t166, t167, t168, t169, t170⟩, A80, H⟩ := H
          replace H : (if (t165 == 1 && ((t166 == 0 && (t167 == 0 && (t168 == 0 && (t169 == 0)))) && (t170.toList == ([] : List UInt8)))) = true then ((frame_Hurt.f t158 0 0).bind fun t171 => ((frame_Decode.f t171).bind fun bt172 => (some (bt172.1 == 4 && ((bt172.2.1 == 0 && (bt172.2.2.1 == 0 && (bt172.2.2.2.1 == 0 && (bt172.2.2.2.2.1 == 0)))) && (bt172.2.2.2.2.2.toList == ([] : List UInt8))))))) else (some false)) = some r := H
          obtain ⟨rfl, rfl, rfl, rfl, rfl, rfl⟩ := works_dec1 A2.out A80
          have A8 := Aside0.mk A80
          clear A80
          by_cases c9 : ((1 : Int) == 1 && (((0 : Int) == 0 && ((0 : Int) == 0 && ((0 : Int) == 0 && ((0 : Int) == 0)))) && ((⟨#[]⟩ : ByteArray).toList == ([] : List UInt8)))) = true
          · rw [if_pos c9] at H
            have c9b0 : ((1 : Int) == 1 && (((0 : Int) == 0 && ((0 : Int) == 0 && ((0 : Int) == 0 && ((0 : Int) == 0)))) && ((⟨#[]⟩ : ByteArray).toList == ([] : List UInt8)))) = true := c9
            (try (have c9b1 : decide ((1 : Int) = 1 && (((0 : Int) == 0 && ((0 : Int) == 0 && ((0 : Int) == 0 && ((0 : Int) == 0)))) && ((⟨#[]⟩ : ByteArray).toList == ([] : List UInt8)))) = true := by simpa using c9))
            (try (have c9b2 : ((1 : Int) == 1 && (((0 : Int) == 0 && ((0 : Int) == 0 && ((0 : Int) == 0 && ((0 : Int) == 0)))) && ((⟨#[]⟩ : ByteArray).toList == ([] : List UInt8)))) = true := by simpa using c9))
            clear c9
            replace H := Option.bind_eq_some_iff.mp H
            obtain ⟨t171, A100, H⟩ := H
            replace H : ((frame_Decode.f t171).bind fun bt172 => (some (bt172.1 == 4 && ((bt172.2.1 == 0 && (bt172.2.2.1 == 0 && (bt172.2.2.2.1 == 0 && (bt172.2.2.2.2.1 == 0)))) && (bt172.2.2.2.2.2.toList == ([] : List UInt8)))))) = some r := H
            have A10 := Aside0.mk A100
            clear A100
            replace H := Option.bind_eq_some_iff.mp H
            obtain ⟨⟨t172, t173, t174, t175, t176, t177⟩, A110, H⟩ := H
            replace H : (some (t172 == 4 && ((t173 == 0 && (t174 == 0 && (t175 == 0 && (t176 == 0)))) && (t177.toList == ([] : List UInt8))))) = some r := H
            have A11 := Aside0.mk A110
            clear A110
            obtain rfl := Option.some.inj H
            go_enter Tryd.func9, Tryd.ntmps9
            try go_wp2_with (first | ((with_reducible refine gate_dst (N := 1) rfl ?_); (try (refine gate_guard (by rfl) ?_; dsimp only)); refine box_event ?hg (N := 1) ?hd (cs := #[.int .i64 0, .int .i64 0, .int .i64 0, .int .i64 0]) (t := 23) ?hr ?_; (case hd => rfl); (case hg => rfl); (case hr => first | (go_simp; done) | (go_simp; rfl)); intro gb155 hg w12 hbox hb; have n0_ := Aside0.mk (below_step (by repeat (first | (with_reducible first | exact HB.out | apply below_alloc | apply pw_below_drewN | apply below_drew1) | exact HB.out)) hb); have n1_ := Aside0.mk (hbox); have n2_ := Aside0.mk ((by rw [hg]; exact (below_size (by repeat (first | (with_reducible first | exact HB.out | apply below_alloc | apply pw_below_drewN | apply below_drew1) | exact HB.out))) : w.heap.size ≤ gb155)); have n3_ := Aside0.mk ((by rw [hg]; exact (below_size (by repeat (first | (with_reducible first | exact HB.out | apply below_alloc | apply pw_below_drewN | apply below_drew1) | exact HB.out))) : w.heap.size ≤ gb155)); clear HB; have HB := n0_; have BK155 := n1_; have GW155 := n2_; have GE155 := n3_; clear n0_ n1_ n2_ n3_; clear hb hbox hg; have hcz13_0 : w12.cell? ⟨gb155, 0, none⟩ = some (.int .i64 0) := (blk_cell BK155.out 0).trans rfl; have hcz13_1 : w12.cell? ⟨gb155, 1, none⟩ = some (.int .i64 0) := (blk_cell BK155.out 1).trans rfl; have hcz13_2 : w12.cell? ⟨gb155, 2, none⟩ = some (.int .i64 0) := (blk_cell BK155.out 2).trans rfl; have hcz13_3 : w12.cell? ⟨gb155, 3, none⟩ = some (.int .i64 0) := (blk_cell BK155.out 3).trans rfl; have hfz13_0 := blk_frozen BK155.out 0; have hfz13_1 := blk_frozen BK155.out 1; have hfz13_2 := blk_frozen BK155.out 2; have hfz13_3 := blk_frozen BK155.out 3) | ((with_reducible refine gate_callee (f := 10) rfl ?_); refine goesL_ (some 8) rfl rfl Tryd.func10 (by kernel_rfl) rfl #[.agg #[.int .i64 1, .int .i64 2, .int .i64 3, .int .i64 4], .string (⟨#[97, 98, 99, 100, 101, 102, 103, 104]⟩ : ByteArray)] rfl (by (try simp only [List.map_toArray, List.map_cons, List.map_nil]); first | done | rfl | (simp only [List.length_drop, List.length_take]; rfl)) ?_; (with_reducible refine (frame_Encode.calls 1 2 3 4 (⟨#[97, 98, 99, 100, 101, 102, 103, 104]⟩ : ByteArray) t156 t157 _ A1.out).mono ?_); rintro e w14 ⟨rfl, hb⟩; refine ⟨_, rfl, ?_⟩; have n0_ := Aside0.mk (blk_below (g := gb155) (o := .cells #[.int .i64 1, .int .i64 2, .int .i64 3, .int .i64 4] 23 (0, 0)) (by (with_reducible repeat (first | refine blk_drewN ?_ _ | refine blk_drew ?_ | refine blk_alloc ?_ _)); refine blk_put (cs := #[.int .i64 1, .int .i64 2, .int .i64 3, .int .i64 0]) ?_ 3 _ rfl; (with_reducible repeat (first | refine blk_drewN ?_ _ | refine blk_drew ?_ | refine blk_alloc ?_ _)); refine blk_put (cs := #[.int .i64 1, .int .i64 2, .int .i64 0, .int .i64 0]) ?_ 2 _ rfl; (with_reducible repeat (first | refine blk_drewN ?_ _ | refine blk_drew ?_ | refine blk_alloc ?_ _)); refine blk_put (cs := #[.int .i64 1, .int .i64 0, .int .i64 0, .int .i64 0]) ?_ 1 _ rfl; (with_reducible repeat (first | refine blk_drewN ?_ _ | refine blk_drew ?_ | refine blk_alloc ?_ _)); refine blk_put (cs := #[.int .i64 0, .int .i64 0, .int .i64 0, .int .i64 0]) ?_ 0 _ rfl; (with_reducible repeat (first | refine blk_drewN ?_ _ | refine blk_drew ?_ | refine blk_alloc ?_ _)); exact BK155.out) hb); have n1_ := Aside0.mk (below_step (by repeat (first | (with_reducible first | exact HB.out | apply below_alloc | apply pw_below_drewN | apply below_drew1 | refine below_set ?_ GE155.out) | exact HB.out)) hb); clear BK155; clear HB; have BK155 := n0_; have HB := n1_; clear n0_ n1_; (try clear hb); (try clear hb2); (try clear hk); (try clear hi)) | ((with_reducible refine gate_callee (f := 14) rfl ?_); refine goesL_ (some 11) rfl rfl Tryd.func14 (by kernel_rfl) rfl #[.int .i64 8] rfl (by (try simp only [List.map_toArray, List.map_cons, List.map_nil]); first | done | rfl | (simp only [List.length_drop, List.length_take]; rfl)) ?_; (with_reducible refine (frame_Blank.calls 8 t158 _ A2.out).mono ?_); rintro e w15 ⟨rfl, hb⟩; refine ⟨_, rfl, ?_⟩; have n0_ := Aside0.mk (blk_below (g := gb155) (o := .cells #[.int .i64 1, .int .i64 2, .int .i64 3, .int .i64 4] 23 (0, 0)) (by (with_reducible repeat (first | refine blk_drewN ?_ _ | refine blk_drew ?_ | refine blk_alloc ?_ _)); exact BK155.out) hb); have n1_ := Aside0.mk (below_step (by repeat (first | (with_reducible first | exact HB.out | apply below_alloc | apply pw_below_drewN | apply below_drew1 | refine below_set ?_ GE155.out) | exact HB.out)) hb); clear BK155; clear HB; have BK155 := n0_; have HB := n1_; clear n0_ n1_; (try clear hb); (try clear hb2); (try clear hk); (try clear hi)))
            have n0_ := Aside0.mk (blk_drew BK155.out)
            have n1_ := Aside0.mk (below_drew1 HB.out)
            clear BK155
            clear HB
            have BK155 := n0_
            have HB := n1_
            clear n0_ n1_
            refine start_ (n := 33) (S := fun w' => w'.cell? ⟨gb155, 0, none⟩ = some (.int .i64 1) ∧ w'.cell? ⟨gb155, 1, none⟩ = some (.int .i64 2) ∧ w'.cell? ⟨gb155, 2, none⟩ = some (.int .i64 3) ∧ w'.cell? ⟨gb155, 3, none⟩ = some (.int .i64 4)) (ds := []) (tfA 0 33) (by kernel_rfl) rfl rfl ⟨(blk_cell BK155.out 0).trans rfl, (blk_cell BK155.out 1).trans rfl, (blk_cell BK155.out 2).trans rfl, (blk_cell BK155.out 3).trans rfl⟩ (fun hHeld => ?_); refine with_tabW decklelaw05_works.tab4 decklelaw05_works.bits4 (fun HT_ HW_ => ?_)
            generalize w15.drew = w16 at BK155 HB hHeld ⊢
            refine pure_ (i := 0) (N := some 12) (v := ?_) (a' := ?_) (tfA 1 33) rfl rfl (any_of HT_.out (by kernel_rfl)) (fun _ _ _ h => h) (Or.inl ⟨by rfl, ?_⟩) ?_ ?_
            rotate_left
            · intro w'; go_simp; with_reducible rfl
            rotate_left
            · simp only [Act.put, sib, sc0, sc1, i64_w, i32_w]; rfl
            refine pure_ (i := 1) (N := some 13) (v := ?_) (a' := ?_) (tfA 2 33) rfl rfl (any_of HT_.out (by kernel_rfl)) (fun _ _ _ h => h) (Or.inl ⟨by rfl, ?_⟩) ?_ ?_
            rotate_left
            · intro w'; go_simp; with_reducible rfl
            rotate_left
            · simp only [Act.put, sib, sc0, sc1, i64_w, i32_w]; rfl
            refine pure_ (i := 2) (N := some 14) (v := ?_) (a' := ?_) (tfA 3 33) rfl rfl (any_of HT_.out (by kernel_rfl)) (fun _ _ _ h => h) (Or.inl ⟨by rfl, ?_⟩) ?_ ?_
            rotate_left
            · intro w'; go_simp; with_reducible rfl
            rotate_left
            · simp only [Act.put, sib, sc0, sc1, i64_w, i32_w]; rfl
            refine pure_ (i := 3) (N := some 15) (v := ?_) (a' := ?_) (tfA 4 33) rfl rfl (any_of HT_.out (by kernel_rfl)) (fun _ _ _ h => h) (Or.inl ⟨by rfl, ?_⟩) ?_ ?_
            rotate_left
            · intro w'; go_simp; with_reducible rfl
            rotate_left
            · simp only [Act.put, sib, sc0, sc1, i64_w, i32_w]; rfl
            refine pure_ (i := 4) (N := some 16) (v := ?_) (a' := ?_) (tfA 5 33) rfl rfl (any_of HT_.out (by kernel_rfl)) (fun _ _ _ h => h) (Or.inl ⟨by rfl, ?_⟩) ?_ ?_
            rotate_left
            · intro w'; go_simp; with_reducible rfl
            rotate_left
            · simp only [Act.put, sib, sc0, sc1, i64_w, i32_w]; rfl
            refine pure_ (i := 5) (N := some 17) (v := ?_) (a' := ?_) (tfA 6 33) rfl rfl (any_of HT_.out (by kernel_rfl)) (fun _ _ _ h => h) (Or.inl ⟨by rfl, ?_⟩) ?_ ?_
            rotate_left
            · intro w'; go_simp; with_reducible rfl
            rotate_left
            · simp only [Act.put, sib, sc0, sc1, i64_w, i32_w]; rfl
            refine pure_ (i := 6) (N := some 18) (v := ?_) (a' := ?_) (tfA 7 33) rfl rfl (any_of HT_.out (by kernel_rfl)) (fun _ _ _ h => h) (Or.inl ⟨by rfl, ?_⟩) ?_ ?_
            rotate_left
            · intro w'; go_simp; with_reducible rfl
            rotate_left
            · simp only [Act.put, sib, sc0, sc1, i64_w, i32_w]; rfl
            refine pure_ (i := 7) (N := some 19) (v := ?_) (a' := ?_) (tfA 8 33) rfl rfl (any_of HT_.out (by kernel_rfl)) (fun _ _ _ h => h) (Or.inl ⟨by rfl, ?_⟩) ?_ ?_
            rotate_left
            · intro w'; go_simp; with_reducible rfl
            rotate_left
            · simp only [Act.put, sib, sc0, sc1, i64_w, i32_w]; rfl
            refine pure_ (i := 8) (N := some 20) (v := ?_) (a' := ?_) (tfA 9 33) rfl rfl (any_of HT_.out (by kernel_rfl)) (fun _ _ _ h => h) (Or.inl ⟨by rfl, ?_⟩) ?_ ?_
            rotate_left
            · intro w'; go_simp; with_reducible rfl
            rotate_left
            · simp only [Act.put, sib, sc0, sc1, i64_w, i32_w]; rfl
            refine take_ (i := 10) (N := some 22) (v := ?_) (a' := ?_) #[true, true, true, true, true, true, true, true, true, false, true, false, false, false, false, false, false, false, false, false, false, false, false, false, false, false, false, false, false, false, false, false, false] rfl rfl (take_ofW HT_.out HW_.out (by kernel_rfl)) (fun _ _ _ h => h) (Or.inl ⟨by rfl, ?_⟩) hHeld ?_ ?_
            rotate_left
            · rintro w' ⟨s0, s1, s2, s3⟩
              go_simp
              with_reducible rfl
            rotate_left
            · simp only [Act.put, sib, sc0, sc1, i64_w, i32_w]
              rfl
            refine pure_ (i := 11) (N := some 23) (v := ?_) (a' := ?_) #[true, true, true, true, true, true, true, true, true, false, true, true, false, false, false, false, false, false, false, false, false, false, false, false, false, false, false, false, false, false, false, false, false] rfl rfl (any_of HT_.out (by kernel_rfl)) (fun _ _ _ h => h) (Or.inl ⟨by rfl, ?_⟩) ?_ ?_
            rotate_left
            · intro w'; go_simp; with_reducible rfl
            rotate_left
            · simp only [Act.put, sib, sc0, sc1, i64_w, i32_w]; rfl
            refine one_ (i := 9) (N := some 21) (tfA 12 33) rfl rfl (one_of HT_.out (by kernel_rfl)) (by decide) (fun K hK => ?_)
            refine goes_ Tryd.func12 (by kernel_rfl) rfl #[.string t156] (by rfl) rfl rfl (by (try simp only [List.map_toArray, List.map_cons, List.map_nil]); first | done | rfl | (simp only [List.length_drop, List.length_take]; rfl)) ?_
            with_reducible refine (frame_Decode.calls t156 t159 t160 t161 t162 t163 t164 _ A5.out).mono ?_
            rintro e w17 ⟨rfl, hb⟩
            refine ⟨_, rfl, ?_⟩
            have n0_ := Aside0.mk (blk_below (g := gb155) (o := .cells #[.int .i64 1, .int .i64 2, .int .i64 3, .int .i64 4] 23 (0, 0)) (by (with_reducible repeat (first | refine blk_drewN ?_ _ | refine blk_drew ?_ | refine blk_alloc ?_ _)); exact BK155.out) hb)
            have n1_ := Aside0.mk (below_step (by repeat (first | (with_reducible first | exact HB.out | apply below_alloc | apply pw_below_drewN | apply below_drew1 | refine below_set ?_ GE155.out) | exact HB.out)) hb)
            clear BK155
            clear HB
            have BK155 := n0_
            have HB := n1_
            clear n0_ n1_
            (try clear hb)
            (try clear hb2)
            (try clear hk)
            (try clear hi)
            refine hK.out _ _ ⟨(blk_cell BK155.out 0).trans rfl, (blk_cell BK155.out 1).trans rfl, (blk_cell BK155.out 2).trans rfl, (blk_cell BK155.out 3).trans rfl⟩ (fun hHeld => ?_)
            clear hK K
            refine norm_ (a' := ?_) ?_ ?_
            rotate_left
            · show Act.put _ (some 21) _ = _
              simp only [Act.put, sib, sc0, sc1, i64_w, i32_w]
              rfl
            refine pure_ (i := 12) (N := some 24) (v := ?_) (a' := ?_) (tfA 13 33) rfl rfl (any_of HT_.out (by kernel_rfl)) (fun _ _ _ h => h) (Or.inl ⟨by rfl, ?_⟩) ?_ ?_
            rotate_left
            · intro w'; go_simp; with_reducible rfl
            rotate_left
            · simp only [Act.put, sib, sc0, sc1, i64_w, i32_w]; rfl
            refine pure_ (i := 13) (N := some 25) (v := ?_) (a' := ?_) (tfA 14 33) rfl rfl (any_of HT_.out (by kernel_rfl)) (fun _ _ _ h => h) (Or.inl ⟨by rfl, ?_⟩) ?_ ?_
            rotate_left
            · intro w'; go_simp; with_reducible rfl
            rotate_left
            · simp only [Act.put, sib, sc0, sc1, i64_w, i32_w]; rfl
            refine pure_ (i := 14) (N := some 26) (v := ?_) (a' := ?_) (tfA 15 33) rfl rfl (any_of HT_.out (by kernel_rfl)) (fun _ _ _ h => h) (Or.inl ⟨by rfl, ?_⟩) ?_ ?_
            rotate_left
            · intro w'; go_simp; with_reducible rfl
            rotate_left
            · simp only [Act.put, sib, sc0, sc1, i64_w, i32_w]; rfl
            refine pure_ (i := 15) (N := some 27) (v := ?_) (a' := ?_) (tfA 16 33) rfl rfl (any_of HT_.out (by kernel_rfl)) (fun _ _ _ h => h) (Or.inl ⟨by rfl, ?_⟩) ?_ ?_
            rotate_left
            · intro w'; go_simp; with_reducible rfl
            rotate_left
            · simp only [Act.put, sib, sc0, sc1, i64_w, i32_w]; rfl
            refine pure_ (i := 16) (N := some 28) (v := ?_) (a' := ?_) (tfA 17 33) rfl rfl (any_of HT_.out (by kernel_rfl)) (fun _ _ _ h => h) (Or.inl ⟨by rfl, ?_⟩) ?_ ?_
            rotate_left
            · intro w'; go_simp; with_reducible rfl
            rotate_left
            · simp only [Act.put, sib, sc0, sc1, i64_w, i32_w]; rfl
            refine pure_ (i := 17) (N := some 29) (v := ?_) (a' := ?_) (tfA 18 33) rfl rfl (any_of HT_.out (by kernel_rfl)) (fun _ _ _ h => h) (Or.inl ⟨by rfl, ?_⟩) ?_ ?_
            rotate_left
            · intro w'; go_simp; with_reducible rfl
            rotate_left
            · simp only [Act.put, sib, sc0, sc1, i64_w, i32_w]; rfl
            refine pure_ (i := 18) (N := some 30) (v := ?_) (a' := ?_) (tfA 19 33) rfl rfl (any_of HT_.out (by kernel_rfl)) (fun _ _ _ h => h) (Or.inl ⟨by rfl, ?_⟩) ?_ ?_
            rotate_left
            · intro w'; go_simp; with_reducible rfl
            rotate_left
            · simp only [Act.put, sib, sc0, sc1, i64_w, i32_w]; rfl
            refine pure_ (i := 19) (N := some 31) (v := ?_) (a' := ?_) (tfA 20 33) rfl rfl (any_of HT_.out (by kernel_rfl)) (fun _ _ _ h => h) (Or.inl ⟨by rfl, ?_⟩) ?_ ?_
            rotate_left
            · intro w'; go_simp; with_reducible rfl
            rotate_left
            · simp only [Act.put, sib, sc0, sc1, i64_w, i32_w]; rfl
            refine pure_ (i := 20) (N := some 32) (v := ?_) (a' := ?_) (tfA 21 33) rfl rfl (any_of HT_.out (by kernel_rfl)) (fun _ _ _ h => h) (Or.inl ⟨by rfl, ?_⟩) ?_ ?_
            rotate_left
            · intro w'; go_simp; with_reducible rfl
            rotate_left
            · simp only [Act.put, sib, sc0, sc1, i64_w, i32_w]; rfl
            refine pure_ (i := 22) (N := some 34) (v := ?_) (a' := ?_) #[true, true, true, true, true, true, true, true, true, true, true, true, true, true, true, true, true, true, true, true, true, false, true, false, false, false, false, false, false, false, false, false, false] rfl rfl (any_of HT_.out (by kernel_rfl)) (fun _ _ _ h => h) (Or.inl ⟨by rfl, ?_⟩) ?_ ?_
            rotate_left
            · intro w'; go_simp; with_reducible rfl
            rotate_left
            · simp only [Act.put, sib, sc0, sc1, i64_w, i32_w]; rfl
            refine one_ (i := 21) (N := some 33) (tfA 23 33) rfl rfl (one_of HT_.out (by kernel_rfl)) (by decide) (fun K hK => ?_)
            refine goes_ Tryd.func12 (by kernel_rfl) rfl #[.string t158] (by rfl) rfl rfl (by (try simp only [List.map_toArray, List.map_cons, List.map_nil]); first | done | rfl | (simp only [List.length_drop, List.length_take]; rfl)) ?_
            with_reducible refine (frame_Decode.calls t158 (1 : Int) (0 : Int) (0 : Int) (0 : Int) (0 : Int) (⟨#[]⟩ : ByteArray) _ A8.out).mono ?_
            rintro e w18 ⟨rfl, hb⟩
            refine ⟨_, rfl, ?_⟩
            have n0_ := Aside0.mk (blk_below (g := gb155) (o := .cells #[.int .i64 1, .int .i64 2, .int .i64 3, .int .i64 4] 23 (0, 0)) (by (with_reducible repeat (first | refine blk_drewN ?_ _ | refine blk_drew ?_ | refine blk_alloc ?_ _)); exact BK155.out) hb)
            have n1_ := Aside0.mk (below_step (by repeat (first | (with_reducible first | exact HB.out | apply below_alloc | apply pw_below_drewN | apply below_drew1 | refine below_set ?_ GE155.out) | exact HB.out)) hb)
            clear BK155
            clear HB
            have BK155 := n0_
            have HB := n1_
            clear n0_ n1_
            (try clear hb)
            (try clear hb2)
            (try clear hk)
            (try clear hi)
            refine hK.out _ _ ⟨(blk_cell BK155.out 0).trans rfl, (blk_cell BK155.out 1).trans rfl, (blk_cell BK155.out 2).trans rfl, (blk_cell BK155.out 3).trans rfl⟩ (fun hHeld => ?_)
            clear hK K
            refine norm_ (a' := ?_) ?_ ?_
            rotate_left
            · show Act.put _ (some 33) _ = _
              simp only [Act.put, sib, sc0, sc1, i64_w, i32_w]
              rfl
            refine pure_ (i := 23) (N := some 35) (v := ?_) (a' := ?_) (tfA 24 33) rfl rfl (any_of HT_.out (by kernel_rfl)) (fun _ _ _ h => h) (Or.inl ⟨by rfl, ?_⟩) ?_ ?_
            rotate_left
            · intro w'; go_simp; with_reducible rfl
            rotate_left
            · simp only [Act.put, sib, sc0, sc1, i64_w, i32_w]; rfl
            refine pure_ (i := 24) (N := some 36) (v := ?_) (a' := ?_) (tfA 25 33) rfl rfl (any_of HT_.out (by kernel_rfl)) (fun _ _ _ h => h) (Or.inl ⟨by rfl, ?_⟩) ?_ ?_
            rotate_left
            · intro w'; go_simp; with_reducible rfl
            rotate_left
            · simp only [Act.put, sib, sc0, sc1, i64_w, i32_w]; rfl
            refine pure_ (i := 25) (N := some 37) (v := ?_) (a' := ?_) (tfA 26 33) rfl rfl (any_of HT_.out (by kernel_rfl)) (fun _ _ _ h => h) (Or.inl ⟨by rfl, ?_⟩) ?_ ?_
            rotate_left
            · intro w'; go_simp; with_reducible rfl
            rotate_left
            · simp only [Act.put, sib, sc0, sc1, i64_w, i32_w]; rfl
            refine pure_ (i := 26) (N := some 38) (v := ?_) (a' := ?_) (tfA 27 33) rfl rfl (any_of HT_.out (by kernel_rfl)) (fun _ _ _ h => h) (Or.inl ⟨by rfl, ?_⟩) ?_ ?_
            rotate_left
            · intro w'; go_simp; with_reducible rfl
            rotate_left
            · simp only [Act.put, sib, sc0, sc1, i64_w, i32_w]; rfl
            refine pure_ (i := 29) (N := some 41) (v := ?_) (a' := ?_) #[true, true, true, true, true, true, true, true, true, true, true, true, true, true, true, true, true, true, true, true, true, true, true, true, true, true, true, false, false, true, false, false, false] rfl rfl (any_of HT_.out (by kernel_rfl)) (fun _ _ _ h => h) (Or.inl ⟨by rfl, ?_⟩) ?_ ?_
            rotate_left
            · intro w'; go_simp; with_reducible rfl
            rotate_left
            · simp only [Act.put, sib, sc0, sc1, i64_w, i32_w]; rfl
            refine one_ (i := 27) (N := some 39) #[true, true, true, true, true, true, true, true, true, true, true, true, true, true, true, true, true, true, true, true, true, true, true, true, true, true, true, true, false, true, false, false, false] rfl rfl (one_of HT_.out (by kernel_rfl)) (by decide) (fun K hK => ?_)
            refine goes_ Tryd.func16 (by kernel_rfl) rfl #[.string t158, .int .i64 0, .int .i64 0] (by rfl) rfl rfl (by (try simp only [List.map_toArray, List.map_cons, List.map_nil]); first | done | rfl | (simp only [List.length_drop, List.length_take]; rfl)) ?_
            with_reducible refine (frame_Hurt.calls t158 0 0 t171 _ A10.out).mono ?_
            rintro e w19 ⟨rfl, hb⟩
            refine ⟨_, rfl, ?_⟩
            have n0_ := Aside0.mk (blk_below (g := gb155) (o := .cells #[.int .i64 1, .int .i64 2, .int .i64 3, .int .i64 4] 23 (0, 0)) (by (with_reducible repeat (first | refine blk_drewN ?_ _ | refine blk_drew ?_ | refine blk_alloc ?_ _)); exact BK155.out) hb)
            have n1_ := Aside0.mk (below_step (by repeat (first | (with_reducible first | exact HB.out | apply below_alloc | apply pw_below_drewN | apply below_drew1 | refine below_set ?_ GE155.out) | exact HB.out)) hb)
            clear BK155
            clear HB
            have BK155 := n0_
            have HB := n1_
            clear n0_ n1_
            (try clear hb)
            (try clear hb2)
            (try clear hk)
            (try clear hi)
            refine hK.out _ _ ⟨(blk_cell BK155.out 0).trans rfl, (blk_cell BK155.out 1).trans rfl, (blk_cell BK155.out 2).trans rfl, (blk_cell BK155.out 3).trans rfl⟩ (fun hHeld => ?_)
            clear hK K
            refine norm_ (a' := ?_) ?_ ?_
            rotate_left
            · show Act.put _ (some 39) _ = _
              simp only [Act.put, sib, sc0, sc1, i64_w, i32_w]
              rfl
            refine one_ (i := 28) (N := some 40) (tfA 30 33) rfl rfl (one_of HT_.out (by kernel_rfl)) (by decide) (fun K hK => ?_)
            refine goes_ Tryd.func12 (by kernel_rfl) rfl #[.string t171] (by rfl) rfl rfl (by (try simp only [List.map_toArray, List.map_cons, List.map_nil]); first | done | rfl | (simp only [List.length_drop, List.length_take]; rfl)) ?_
            with_reducible refine (frame_Decode.calls t171 t172 t173 t174 t175 t176 t177 _ A11.out).mono ?_
            rintro e w20 ⟨rfl, hb⟩
            refine ⟨_, rfl, ?_⟩
            have n0_ := Aside0.mk (blk_below (g := gb155) (o := .cells #[.int .i64 1, .int .i64 2, .int .i64 3, .int .i64 4] 23 (0, 0)) (by (with_reducible repeat (first | refine blk_drewN ?_ _ | refine blk_drew ?_ | refine blk_alloc ?_ _)); exact BK155.out) hb)
            have n1_ := Aside0.mk (below_step (by repeat (first | (with_reducible first | exact HB.out | apply below_alloc | apply pw_below_drewN | apply below_drew1 | refine below_set ?_ GE155.out) | exact HB.out)) hb)
            clear BK155
            clear HB
            have BK155 := n0_
            have HB := n1_
            clear n0_ n1_
            (try clear hb)
            (try clear hb2)
            (try clear hk)
            (try clear hi)
            refine hK.out _ _ ⟨(blk_cell BK155.out 0).trans rfl, (blk_cell BK155.out 1).trans rfl, (blk_cell BK155.out 2).trans rfl, (blk_cell BK155.out 3).trans rfl⟩ (fun hHeld => ?_)
            clear hK K
            refine norm_ (a' := ?_) ?_ ?_
            rotate_left
            · show Act.put _ (some 40) _ = _
              simp only [Act.put, sib, sc0, sc1, i64_w, i32_w]
              rfl
            refine pure_ (i := 30) (N := some 42) (v := ?_) (a' := ?_) (tfA 31 33) rfl rfl (any_of HT_.out (by kernel_rfl)) (fun _ _ _ h => h) (Or.inl ⟨by rfl, ?_⟩) ?_ ?_
            rotate_left
            · intro w'; go_simp; with_reducible rfl
            rotate_left
            · simp only [Act.put, sib, sc0, sc1, i64_w, i32_w]; rfl
            refine pure_ (i := 31) (N := some 43) (v := ?_) (a' := ?_) (tfA 32 33) rfl rfl (any_of HT_.out (by kernel_rfl)) (fun _ _ _ h => h) (Or.inl ⟨by rfl, ?_⟩) ?_ ?_
            rotate_left
            · intro w'; go_simp; with_reducible rfl
            rotate_left
            · simp only [Act.put, sib, sc0, sc1, i64_w, i32_w]; rfl
            refine pure_ (i := 32) (N := some 0) (v := ?_) (a' := ?_) (tfA 33 33) rfl rfl (any_of HT_.out (by kernel_rfl)) (fun _ _ _ h => h) (Or.inl ⟨by rfl, ?_⟩) ?_ ?_
            rotate_left
            · intro w'; go_simp; with_reducible rfl
            rotate_left
            · simp only [Act.put, sib, sc0, sc1, i64_w, i32_w]; rfl
            refine done_ (done_of HT_.out (by kernel_rfl)) ?_
            try go_wp2
            go_ret
            exact ⟨by first | rfl | (simp [errW_none, errW_some] <;> rfl) | (simp [*, errW_none, errW_some] <;> rfl), by repeat (first | (with_reducible first | exact HB.out | apply below_alloc | apply pw_below_drewN | apply below_drew1 | refine below_set ?_ GE155.out) | exact HB.out)⟩
          · rw [if_neg c9] at H
            exact absurd ((Option.some.inj H).trans HRT.out) (by decide)
        · rw [if_neg c7] at H
          exact absurd ((Option.some.inj H).trans HRT.out) (by decide)
      · rw [if_neg c6] at H
        exact absurd ((Option.some.inj H).trans HRT.out) (by decide)
    · rw [if_neg c4] at H
      exact absurd ((Option.some.inj H).trans HRT.out) (by decide)
  · rw [if_neg c3] at H
    exact absurd ((Option.some.inj H).trans HRT.out) (by decide)

end Go.Proofs.YtbcgddacmjliaaaDoor.PF
end

section
-- Written by a program (the kit's print.py, called by wip/bin/prseat.sh, mended by wip/bin/mend.py).
namespace Go.Proofs.YtbcgddacmjliaaaDoor.PF
open Go.Proofs.YtbcgddacmjliaaaDoor.Tf Go.RowKit Go.Proofs.YtbcgddacmjliaaaDoorW.PrintWords Go.Proofs.YtbcgddacmjliaaaDoorW.PrintLast Go.Proofs.YtbcgddacmjliaaaDoorW.PrintMore
attribute [local go_sem] max2_int min2_int max_two min_two max_three min_three max_four min_four   -- for this text's walks alone
set_option linter.unusedVariables false
set_option linter.unusedSimpArgs false

attribute [local go_sem high] eqA30
theorem isE_ (x : ByteArray) : x.toList.isEmpty = (x.toList == (⟨#[]⟩ : ByteArray).toList) := by
  rw [ByteArray.toList_eq, ByteArray.toList_eq]; cases x.data.toList <;> rfl
-- slots told
/-! ### decklelaw05_FrameTells: function 8 -/
def decklelaw05_FrameTells.l0 : Nat → Int → Int → Int → Int → List ByteArray → Int → Int → Int → Int → Int → Int → Int → Int → Int → Int → Int → ByteArray → Option (Bool)
  | 0, _, _, _, _, _, _, _, _, _, _, _, _, _, _, _, _, _ => none
  | k + 1, x10, x11, x12, x13, x56, x57, x58, x404000, x404001, x404002, x404003, x413000, x413001, x413002, x413003, x413004, x413005 => if x58 < x57 then (if 0 ≤ x58 then (if x58 < (x56.length : Int) then ((decklelaw05_turned.f (rdOf ByteArray.empty x56 x58) x10 x12).bind fun t418 => ((decklelaw05_turned.f t418 x10 x13).bind fun t419 => ((frame_Decode.f t419).bind fun bt420 => (if (!(bt420.1 == x413000) || ((!(bt420.2.1 == x413001) || (!(bt420.2.2.1 == x413002) || (!(bt420.2.2.2.1 == x413003) || (!(bt420.2.2.2.2.1 == x413004))))) || (!(bt420.2.2.2.2.2.toList == x413005.toList)))) = true then (some false) else (if x11 = x10 then ((frame_Hurt.f (rdOf ByteArray.empty x56 x58) x404001 x404002).bind fun t426 => ((frame_Decode.f t426).bind fun bt427 => (if (!(bt427.1 == x413000) || ((!(bt427.2.1 == x413001) || (!(bt427.2.2.1 == x413002) || (!(bt427.2.2.2.1 == x413003) || (!(bt427.2.2.2.2.1 == x413004))))) || (!(bt427.2.2.2.2.2.toList == x413005.toList)))) = true then (some false) else (decklelaw05_FrameTells.l0 k x10 x11 x12 x13 x56 x57 (wrap64 (x58 + 1)) x404000 x404001 x404002 x404003 x413000 x413001 x413002 x413003 x413004 x413005)))) else ((decklelaw05_turned.f t419 x11 x404001).bind fun t433 => ((frame_Decode.f t433).bind fun bt434 => (if (!(bt434.1 == x413000) || ((!(bt434.2.1 == x413001) || (!(bt434.2.2.1 == x413002) || (!(bt434.2.2.2.1 == x413003) || (!(bt434.2.2.2.2.1 == x413004))))) || (!(bt434.2.2.2.2.2.toList == x413005.toList)))) = true then (some false) else ((frame_Hurt.f (rdOf ByteArray.empty x56 x58) x404001 x404002).bind fun t440 => ((frame_Decode.f t440).bind fun bt441 => (if (!(bt441.1 == x413000) || ((!(bt441.2.1 == x413001) || (!(bt441.2.2.1 == x413002) || (!(bt441.2.2.2.1 == x413003) || (!(bt441.2.2.2.2.1 == x413004))))) || (!(bt441.2.2.2.2.2.toList == x413005.toList)))) = true then (some false) else (decklelaw05_FrameTells.l0 k x10 x11 x12 x13 x56 x57 (wrap64 (x58 + 1)) x404000 x404001 x404002 x404003 x413000 x413001 x413002 x413003 x413004 x413005)))))))))))) else (none)) else (none)) else (some true)
def decklelaw05_FrameTells.f (k : Nat) (a0_0 : Int) (a0_1 : Int) (a0_2 : Int) (a0_3 : Int) (a1 : ByteArray) (a2_0 : Int) (a2_1 : Int) (a2_2 : Int) (a2_3 : Int) : Option (Bool) := (decklelaw05_works.f).bind fun t404 => (if t404 = true then ((frame_Encode.f a0_0 a0_1 a0_2 a0_3 a1).bind fun bt405 => (if bt405.2 = 0 then ((decklelaw05_below.f a2_0 (wrap64 ((bt405.1.size : Int) / 9))).bind fun t407 => ((decklelaw05_below.f a2_3 (wrap64 ((bt405.1.size : Int) / 9))).bind fun t408 => ((decklelaw05_below.f a2_1 72).bind fun t409 => ((decklelaw05_below.f a2_2 71).bind fun t410 => ((decklelaw05_below.f (wrap64 ((wrap64 (t409 + 1)) + t410)) 72).bind fun t411 => ((frame_Blank.f (a1.size : Int)).bind fun t413 => ((some (([bt405.1, t413] : List ByteArray) : List ByteArray)).bind fun y414 => (decklelaw05_FrameTells.l0 k t407 t408 t409 t411 y414 (y414.length : Int) 0 a2_0 a2_1 a2_2 a2_3 4 0 0 0 0 (⟨#[]⟩ : ByteArray))))))))) else (some (bt405.1.toList == ([] : List UInt8))))) else (some false))
theorem decklelaw05_FrameTells.mono_l : ∀ k, (∀ y0 y1 y2 y3 y4 y5 y6 y7 y8 y9 y10 y11 y12 y13 y14 y15 y16, LeO (decklelaw05_FrameTells.l0 k y0 y1 y2 y3 y4 y5 y6 y7 y8 y9 y10 y11 y12 y13 y14 y15 y16) (decklelaw05_FrameTells.l0 (k + 1) y0 y1 y2 y3 y4 y5 y6 y7 y8 y9 y10 y11 y12 y13 y14 y15 y16))
  | 0 => fun _ _ _ _ _ _ _ _ _ _ _ _ _ _ _ _ _ r h => by simp [decklelaw05_FrameTells.l0] at h
  | k + 1 => by
    have ih0 := decklelaw05_FrameTells.mono_l k
    · intro y0 y1 y2 y3 y4 y5 y6 y7 y8 y9 y10 y11 y12 y13 y14 y15 y16
      unfold decklelaw05_FrameTells.l0
      repeat' first
      | (with_reducible exact ih0 _ _ _ _ _ _ _ _ _ _ _ _ _ _ _ _ _)
      | (with_reducible exact LeO.refl _)
      | (with_reducible exact LeO.none _)
      | (with_reducible refine LeO.ite ?_ ?_)
      | (with_reducible refine LeO.bind ?_ (fun _ => ?_))
      | exact ih0 _ _ _ _ _ _ _ _ _ _ _ _ _ _ _ _ _
      | exact LeO.none _
      | refine LeO.ite ?_ ?_
      | refine LeO.bind ?_ (fun _ => ?_)
theorem decklelaw05_FrameTells.mono : ∀ a0 a1 a2 a3 a4 a5 a6 a7 a8 k, LeO (decklelaw05_FrameTells.f k a0 a1 a2 a3 a4 a5 a6 a7 a8) (decklelaw05_FrameTells.f (k + 1) a0 a1 a2 a3 a4 a5 a6 a7 a8) := by
  intro a0 a1 a2 a3 a4 a5 a6 a7 a8 k
  have ih0 := decklelaw05_FrameTells.mono_l k
  unfold decklelaw05_FrameTells.f
  repeat' first
      | (with_reducible exact ih0 _ _ _ _ _ _ _ _ _ _ _ _ _ _ _ _ _)
      | (with_reducible exact LeO.refl _)
      | (with_reducible exact LeO.none _)
      | (with_reducible refine LeO.ite ?_ ?_)
      | (with_reducible refine LeO.bind ?_ (fun _ => ?_))
      | exact ih0 _ _ _ _ _ _ _ _ _ _ _ _ _ _ _ _ _
      | exact LeO.none _
      | refine LeO.ite ?_ ?_
      | refine LeO.bind ?_ (fun _ => ?_)
def decklelaw05_FrameTells.T7 : Bool × List (List Nat × List Nat) := (true, [([], []), ([0], [0]), ([], []), ([1, 2], [1, 2]), ([], []), ([4], [4]), ([], []), ([5, 6, 3], [5, 6]), ([3, 7, 0, 1, 2, 3], [3]), ([7, 8, 0, 1, 2, 3, 4, 5, 6, 7, 8], [7])])
def decklelaw05_FrameTells.B7 : List Nat := [0, 1, 0, 7, 0, 16, 0, 127, 255, 511]
theorem decklelaw05_FrameTells.tab7 : rtab .any (opsOf Tryd.f8 7) = decklelaw05_FrameTells.T7 := by kernel_rfl
theorem decklelaw05_FrameTells.bits7 : waitsOk decklelaw05_FrameTells.T7.2 decklelaw05_FrameTells.B7 = true := by kernel_rfl
def decklelaw05_FrameTells.T15 : Bool × List (List Nat × List Nat) := (true, [([], []), ([0], [0]), ([], []), ([1, 2], [1, 2]), ([3, 1], [3]), ([4], [4]), ([4], [4]), ([5, 6, 4], [4, 5, 6]), ([7, 4, 4], [4, 7]), ([8], [8]), ([8], [8]), ([8], [8]), ([11, 8], [8, 11]), ([9, 10, 12, 8, 8], [8, 9, 10, 12]), ([13, 13, 8], [8, 13]), ([8], [8]), ([14, 15, 8], [8, 14, 15]), ([8, 16, 4], [4, 8, 16]), ([4, 17], [4, 17]), ([18, 14], [18]), ([19], [19]), ([19], [19]), ([21, 19], [19, 21]), ([19], [19]), ([23, 19], [19, 23]), ([20, 22, 24, 19, 19], [19, 20, 22, 24]), ([25, 25, 19], [19, 25]), ([19], [19]), ([26, 27, 19], [19, 26, 27]), ([19, 28], [19, 28])])
def decklelaw05_FrameTells.B15 : List Nat := [0, 1, 0, 7, 15, 31, 31, 127, 255, 511, 511, 511, 2559, 8191, 16383, 511, 65535, 131071, 262143, 524287, 1048575, 1048575, 3145727, 1048575, 9437183, 33554431, 67108863, 1048575, 268435455, 536870911]
theorem decklelaw05_FrameTells.tab15 : rtab .any (opsOf Tryd.f8 15) = decklelaw05_FrameTells.T15 := by kernel_rfl
theorem decklelaw05_FrameTells.bits15 : waitsOk decklelaw05_FrameTells.T15.2 decklelaw05_FrameTells.B15 = true := by kernel_rfl
set_option maxHeartbeats 8000000 in
set_option maxRecDepth 100000 in
theorem decklelaw05_FrameTells.calls (k : Nat) (a0_0 : Int) (a0_1 : Int) (a0_2 : Int) (a0_3 : Int) (a1 : ByteArray) (a2_0 : Int) (a2_1 : Int) (a2_2 : Int) (a2_3 : Int) (w : World) (h : decklelaw05_FrameTells.f k a0_0 a0_1 a0_2 a0_3 a1 a2_0 a2_1 a2_2 a2_3 = some true) (HL : Aside0 (Hw.Laid w) := by first | exact HL | exact Hw.laid_at HL (by repeat (first | (with_reducible first | exact HB.out | apply below_alloc | apply pw_below_drewN | apply below_drew1) | exact HB.out | exact Below.refl _ _ | refine below_set ?_ (by apply Aside0.out; assumption)))) :
    Calls Tryd.prog 8 #[.agg #[.int .i64 a0_0, .int .i64 a0_1, .int .i64 a0_2, .int .i64 a0_3], .string a1, .agg #[.int .i64 a2_0, .int .i64 a2_1, .int .i64 a2_2, .int .i64 a2_3]] w fun e w' => e = .returned (.bool true) ∧ Below w.heap.size w w' := by
  have hu23 := Tryd.underlying23
  have hu38 := Tryd.underlying38
  have hu30 := Tryd.underlying30
  have HB := Aside0.mk (Below.refl w.heap.size w)
  have H : ((decklelaw05_works.f).bind fun t404 => (if t404 = true then ((frame_Encode.f a0_0 a0_1 a0_2 a0_3 a1).bind fun bt405 => (if bt405.2 = 0 then ((decklelaw05_below.f a2_0 (wrap64 ((bt405.1.size : Int) / 9))).bind fun t407 => ((decklelaw05_below.f a2_3 (wrap64 ((bt405.1.size : Int) / 9))).bind fun t408 => ((decklelaw05_below.f a2_1 72).bind fun t409 => ((decklelaw05_below.f a2_2 71).bind fun t410 => ((decklelaw05_below.f (wrap64 ((wrap64 (t409 + 1)) + t410)) 72).bind fun t411 => ((frame_Blank.f (a1.size : Int)).bind fun t413 => ((some (([bt405.1, t413] : List ByteArray) : List ByteArray)).bind fun y414 => (decklelaw05_FrameTells.l0 k t407 t408 t409 t411 y414 (y414.length : Int) 0 a2_0 a2_1 a2_2 a2_3 4 0 0 0 0 (⟨#[]⟩ : ByteArray))))))))) else (some (bt405.1.toList == ([] : List UInt8))))) else (some false))) = some true := h
  clear h
  replace H := Option.bind_eq_some_iff.mp H
  obtain ⟨t404, A40, H⟩ := H
  replace H : (if t404 = true then ((frame_Encode.f a0_0 a0_1 a0_2 a0_3 a1).bind fun bt405 => (if bt405.2 = 0 then ((decklelaw05_below.f a2_0 (wrap64 ((bt405.1.size : Int) / 9))).bind fun t407 => ((decklelaw05_below.f a2_3 (wrap64 ((bt405.1.size : Int) / 9))).bind fun t408 => ((decklelaw05_below.f a2_1 72).bind fun t409 => ((decklelaw05_below.f a2_2 71).bind fun t410 => ((decklelaw05_below.f (wrap64 ((wrap64 (t409 + 1)) + t410)) 72).bind fun t411 => ((frame_Blank.f (a1.size : Int)).bind fun t413 => ((some (([bt405.1, t413] : List ByteArray) : List ByteArray)).bind fun y414 => (decklelaw05_FrameTells.l0 k t407 t408 t409 t411 y414 (y414.length : Int) 0 a2_0 a2_1 a2_2 a2_3 4 0 0 0 0 (⟨#[]⟩ : ByteArray))))))))) else (some (bt405.1.toList == ([] : List UInt8))))) else (some false)) = some true := H
  have A4 := Aside0.mk A40
  clear A40
  by_cases c5 : t404 = true
  · subst c5
    have H1 : ((frame_Encode.f a0_0 a0_1 a0_2 a0_3 a1).bind fun bt405 => (if bt405.2 = 0 then ((decklelaw05_below.f a2_0 (wrap64 ((bt405.1.size : Int) / 9))).bind fun t407 => ((decklelaw05_below.f a2_3 (wrap64 ((bt405.1.size : Int) / 9))).bind fun t408 => ((decklelaw05_below.f a2_1 72).bind fun t409 => ((decklelaw05_below.f a2_2 71).bind fun t410 => ((decklelaw05_below.f (wrap64 ((wrap64 (t409 + 1)) + t410)) 72).bind fun t411 => ((frame_Blank.f (a1.size : Int)).bind fun t413 => ((some (([bt405.1, t413] : List ByteArray) : List ByteArray)).bind fun y414 => (decklelaw05_FrameTells.l0 k t407 t408 t409 t411 y414 (y414.length : Int) 0 a2_0 a2_1 a2_2 a2_3 4 0 0 0 0 (⟨#[]⟩ : ByteArray))))))))) else (some (bt405.1.toList == ([] : List UInt8))))) = some true := by rw [if_pos rfl] at H; exact H
    clear H
    have H := H1
    clear H1
    replace H := Option.bind_eq_some_iff.mp H
    obtain ⟨⟨t405, t406⟩, A60, H⟩ := H
    replace H : (if t406 = 0 then ((decklelaw05_below.f a2_0 (wrap64 ((t405.size : Int) / 9))).bind fun t407 => ((decklelaw05_below.f a2_3 (wrap64 ((t405.size : Int) / 9))).bind fun t408 => ((decklelaw05_below.f a2_1 72).bind fun t409 => ((decklelaw05_below.f a2_2 71).bind fun t410 => ((decklelaw05_below.f (wrap64 ((wrap64 (t409 + 1)) + t410)) 72).bind fun t411 => ((frame_Blank.f (a1.size : Int)).bind fun t413 => ((some (([t405, t413] : List ByteArray) : List ByteArray)).bind fun y414 => (decklelaw05_FrameTells.l0 k t407 t408 t409 t411 y414 (y414.length : Int) 0 a2_0 a2_1 a2_2 a2_3 4 0 0 0 0 (⟨#[]⟩ : ByteArray))))))))) else (some (t405.toList == ([] : List UInt8)))) = some true := H
    have A6 := Aside0.mk A60
    clear A60
    by_cases c7 : t406 = 0
    · rw [if_pos c7] at H
      have c7b0 : (t406 == 0) = true := beq_iff_eq.mpr c7
      have c7b1 : (t406 != 0) = false := bne_eq_false_iff_eq.mpr c7
      clear c7
      replace H := Option.bind_eq_some_iff.mp H
      obtain ⟨t407, A80, H⟩ := H
      replace H : ((decklelaw05_below.f a2_3 (wrap64 ((t405.size : Int) / 9))).bind fun t408 => ((decklelaw05_below.f a2_1 72).bind fun t409 => ((decklelaw05_below.f a2_2 71).bind fun t410 => ((decklelaw05_below.f (wrap64 ((wrap64 (t409 + 1)) + t410)) 72).bind fun t411 => ((frame_Blank.f (a1.size : Int)).bind fun t413 => ((some (([t405, t413] : List ByteArray) : List ByteArray)).bind fun y414 => (decklelaw05_FrameTells.l0 k t407 t408 t409 t411 y414 (y414.length : Int) 0 a2_0 a2_1 a2_2 a2_3 4 0 0 0 0 (⟨#[]⟩ : ByteArray)))))))) = some true := H
      have A8 := Aside0.mk A80
      clear A80
      replace H := Option.bind_eq_some_iff.mp H
      obtain ⟨t408, A90, H⟩ := H
      replace H : ((decklelaw05_below.f a2_1 72).bind fun t409 => ((decklelaw05_below.f a2_2 71).bind fun t410 => ((decklelaw05_below.f (wrap64 ((wrap64 (t409 + 1)) + t410)) 72).bind fun t411 => ((frame_Blank.f (a1.size : Int)).bind fun t413 => ((some (([t405, t413] : List ByteArray) : List ByteArray)).bind fun y414 => (decklelaw05_FrameTells.l0 k t407 t408 t409 t411 y414 (y414.length : Int) 0 a2_0 a2_1 a2_2 a2_3 4 0 0 0 0 (⟨#[]⟩ : ByteArray))))))) = some true := H
      have A9 := Aside0.mk A90
      clear A90
      replace H := Option.bind_eq_some_iff.mp H
      obtain ⟨t409, A100, H⟩ := H
      replace H : ((decklelaw05_below.f a2_2 71).bind fun t410 => ((decklelaw05_below.f (wrap64 ((wrap64 (t409 + 1)) + t410)) 72).bind fun t411 => ((frame_Blank.f (a1.size : Int)).bind fun t413 => ((some (([t405, t413] : List ByteArray) : List ByteArray)).bind fun y414 => (decklelaw05_FrameTells.l0 k t407 t408 t409 t411 y414 (y414.length : Int) 0 a2_0 a2_1 a2_2 a2_3 4 0 0 0 0 (⟨#[]⟩ : ByteArray)))))) = some true := H
      have A10 := Aside0.mk A100
      clear A100
      replace H := Option.bind_eq_some_iff.mp H
      obtain ⟨t410, A110, H⟩ := H
      replace H : ((decklelaw05_below.f (wrap64 ((wrap64 (t409 + 1)) + t410)) 72).bind fun t411 => ((frame_Blank.f (a1.size : Int)).bind fun t413 => ((some (([t405, t413] : List ByteArray) : List ByteArray)).bind fun y414 => (decklelaw05_FrameTells.l0 k t407 t408 t409 t411 y414 (y414.length : Int) 0 a2_0 a2_1 a2_2 a2_3 4 0 0 0 0 (⟨#[]⟩ : ByteArray))))) = some true := H
      have A11 := Aside0.mk A110
      clear A110
      replace H := Option.bind_eq_some_iff.mp H
      obtain ⟨t411, A120, H⟩ := H
      replace H : ((frame_Blank.f (a1.size : Int)).bind fun t413 => ((some (([t405, t413] : List ByteArray) : List ByteArray)).bind fun y414 => (decklelaw05_FrameTells.l0 k t407 t408 t409 t411 y414 (y414.length : Int) 0 a2_0 a2_1 a2_2 a2_3 4 0 0 0 0 (⟨#[]⟩ : ByteArray)))) = some true := H
      have A12 := Aside0.mk A120
      clear A120
      replace H := Option.bind_eq_some_iff.mp H
      obtain ⟨t413, A130, H⟩ := H
      replace H : ((some (([t405, t413] : List ByteArray) : List ByteArray)).bind fun y414 => (decklelaw05_FrameTells.l0 k t407 t408 t409 t411 y414 (y414.length : Int) 0 a2_0 a2_1 a2_2 a2_3 4 0 0 0 0 (⟨#[]⟩ : ByteArray))) = some true := H
      have A13 := Aside0.mk A130
      clear A130
      obtain ⟨y414, hy414⟩ : ∃ y_ : List ByteArray, y_ = (([t405, t413] : List ByteArray)) := ⟨_, rfl⟩
      replace H : (decklelaw05_FrameTells.l0 k t407 t408 t409 t411 y414 (y414.length : Int) 0 a2_0 a2_1 a2_2 a2_3 4 0 0 0 0 (⟨#[]⟩ : ByteArray)) = some true := by first | (rw [hy414]; with_reducible exact H) | (have H2_ := (Option.bind_some _ _).symm.trans H; rw [hy414]; with_reducible exact H2_) | (have H2_ := (Option.bind_some _ _).symm.trans H; with_reducible exact H2_) | with_reducible exact H | (rw [hy414]; exact H) | exact H
      have Ny414 := Aside0.mk hy414
      clear hy414
      have H' := Aside0.mk H
      clear H
      go_enter Tryd.func8, Tryd.ntmps8
      try go_wp2_with (first | ((with_reducible refine gate_dst (N := 3) rfl ?_); refine box_event ?hg (N := 3) ?hd (cs := #[.int .i64 a0_0, .int .i64 a0_1, .int .i64 a0_2, .int .i64 a0_3]) (t := 23) ?hr ?_; (case hd => rfl); (case hg => rfl); (case hr => first | (go_simp; done) | (go_simp; rfl)); intro gb402 hg w14 hbox hb; have n0_ := Aside0.mk (below_step (by repeat (first | (with_reducible first | exact HB.out | apply below_alloc | apply pw_below_drewN | apply below_drew1) | exact HB.out)) hb); have n1_ := Aside0.mk (hbox); have n2_ := Aside0.mk ((by rw [hg]; exact (below_size (by repeat (first | (with_reducible first | exact HB.out | apply below_alloc | apply pw_below_drewN | apply below_drew1) | exact HB.out))) : w.heap.size ≤ gb402)); have n3_ := Aside0.mk ((by rw [hg]; exact (below_size (by repeat (first | (with_reducible first | exact HB.out | apply below_alloc | apply pw_below_drewN | apply below_drew1) | exact HB.out))) : w.heap.size ≤ gb402)); clear HB; have HB := n0_; have BK402 := n1_; have GW402 := n2_; have GE402 := n3_; clear n0_ n1_ n2_ n3_; clear hb hbox hg) | ((with_reducible refine gate_dst (N := 5) rfl ?_); refine box_event ?hg (N := 5) ?hd (cs := #[.int .i64 a2_0, .int .i64 a2_1, .int .i64 a2_2, .int .i64 a2_3]) (t := 38) ?hr ?_; (case hd => rfl); (case hg => rfl); (case hr => first | (go_simp; done) | (go_simp; rfl)); intro gb403 hg w15 hbox hb; have n0_ := Aside0.mk (blk_below (g := gb402) (o := .cells #[.int .i64 a0_0, .int .i64 a0_1, .int .i64 a0_2, .int .i64 a0_3] 23 (0, 0)) (by (with_reducible repeat (first | refine blk_drewN ?_ _ | refine blk_drew ?_ | refine blk_alloc ?_ _)); exact BK402.out) hb); have n1_ := Aside0.mk (below_step (by repeat (first | (with_reducible first | exact HB.out | apply below_alloc | apply pw_below_drewN | apply below_drew1 | refine below_set ?_ GE402.out) | exact HB.out)) hb); have n2_ := Aside0.mk (hbox); have n3_ := Aside0.mk ((by rw [hg]; exact (below_size (by repeat (first | (with_reducible first | exact HB.out | apply below_alloc | apply pw_below_drewN | apply below_drew1 | refine below_set ?_ GE402.out) | exact HB.out))) : w.heap.size ≤ gb403)); have n4_ := Aside0.mk ((by rw [hg]; exact (below_size (by repeat (first | (with_reducible first | exact HB.out | apply below_alloc | apply pw_below_drewN | apply below_drew1 | refine below_set ?_ GE402.out) | exact HB.out))) : w.heap.size ≤ gb403)); have n5_ := Aside0.mk ((by rw [hg]; exact Nat.ne_of_lt (blk_lt (g := gb402) (o := .cells #[.int .i64 a0_0, .int .i64 a0_1, .int .i64 a0_2, .int .i64 a0_3] 23 (0, 0)) (by (with_reducible repeat (first | refine blk_drewN ?_ _ | refine blk_drew ?_ | refine blk_alloc ?_ _)); exact BK402.out)) : gb402 ≠ gb403)); have n6_ := Aside0.mk ((by rw [hg]; exact Nat.ne_of_gt (blk_lt (g := gb402) (o := .cells #[.int .i64 a0_0, .int .i64 a0_1, .int .i64 a0_2, .int .i64 a0_3] 23 (0, 0)) (by (with_reducible repeat (first | refine blk_drewN ?_ _ | refine blk_drew ?_ | refine blk_alloc ?_ _)); exact BK402.out)) : gb403 ≠ gb402)); clear BK402; clear HB; have BK402 := n0_; have HB := n1_; have BK403 := n2_; have GW403 := n3_; have GE403 := n4_; have NB402_403 := n5_; have NB403_402 := n6_; clear n0_ n1_ n2_ n3_ n4_ n5_ n6_; clear hb hbox hg) | ((with_reducible refine gate_callee (f := 9) rfl ?_); refine goesL_ (some 18) rfl rfl Tryd.func9 (by kernel_rfl) rfl #[] rfl (by (try simp only [List.map_toArray, List.map_cons, List.map_nil]); first | done | rfl | (simp only [List.length_drop, List.length_take]; rfl)) ?_; (with_reducible refine (decklelaw05_works.calls  true _ A4.out).mono ?_); rintro e w16 ⟨rfl, hb⟩; refine ⟨_, rfl, ?_⟩; have n0_ := Aside0.mk (blk_below (g := gb402) (o := .cells #[.int .i64 a0_0, .int .i64 a0_1, .int .i64 a0_2, .int .i64 a0_3] 23 (0, 0)) (by (with_reducible repeat (first | refine blk_drewN ?_ _ | refine blk_drew ?_ | refine blk_alloc ?_ _)); exact BK402.out) hb); have n1_ := Aside0.mk (blk_below (g := gb403) (o := .cells #[.int .i64 a2_0, .int .i64 a2_1, .int .i64 a2_2, .int .i64 a2_3] 38 (0, 0)) (by (with_reducible repeat (first | refine blk_drewN ?_ _ | refine blk_drew ?_ | refine blk_alloc ?_ _)); exact BK403.out) hb); have n2_ := Aside0.mk (below_step (by repeat (first | (with_reducible first | exact HB.out | apply below_alloc | apply pw_below_drewN | apply below_drew1 | refine below_set ?_ GE402.out | refine below_set ?_ GE403.out) | exact HB.out)) hb); clear BK402; clear BK403; clear HB; have BK402 := n0_; have BK403 := n1_; have HB := n2_; clear n0_ n1_ n2_; (try clear hb); (try clear hb2); (try clear hk); (try clear hi); have hnb17 := NB402_403.out; have hnc17 := NB403_402.out; have hcz18_0 : w16.cell? ⟨gb402, 0, none⟩ = some (.int .i64 a0_0) := (blk_cell BK402.out 0).trans rfl; have hcz18_1 : w16.cell? ⟨gb402, 1, none⟩ = some (.int .i64 a0_1) := (blk_cell BK402.out 1).trans rfl; have hcz18_2 : w16.cell? ⟨gb402, 2, none⟩ = some (.int .i64 a0_2) := (blk_cell BK402.out 2).trans rfl; have hcz18_3 : w16.cell? ⟨gb402, 3, none⟩ = some (.int .i64 a0_3) := (blk_cell BK402.out 3).trans rfl; have hfz18_0 := blk_frozen BK402.out 0; have hfz18_1 := blk_frozen BK402.out 1; have hfz18_2 := blk_frozen BK402.out 2; have hfz18_3 := blk_frozen BK402.out 3) | ((with_reducible refine gate_callee (f := 10) rfl ?_); refine goesL_ (some 23) rfl rfl Tryd.func10 (by kernel_rfl) rfl #[.agg #[.int .i64 a0_0, .int .i64 a0_1, .int .i64 a0_2, .int .i64 a0_3], .string a1] rfl (by (try simp only [List.map_toArray, List.map_cons, List.map_nil]); first | done | rfl | (simp only [List.length_drop, List.length_take]; rfl)) ?_; (with_reducible refine (frame_Encode.calls a0_0 a0_1 a0_2 a0_3 a1 t405 t406 _ A6.out).mono ?_); rintro e w19 ⟨rfl, hb⟩; refine ⟨_, rfl, ?_⟩; have n0_ := Aside0.mk (blk_below (g := gb402) (o := .cells #[.int .i64 a0_0, .int .i64 a0_1, .int .i64 a0_2, .int .i64 a0_3] 23 (0, 0)) (by (with_reducible repeat (first | refine blk_drewN ?_ _ | refine blk_drew ?_ | refine blk_alloc ?_ _)); exact BK402.out) hb); have n1_ := Aside0.mk (blk_below (g := gb403) (o := .cells #[.int .i64 a2_0, .int .i64 a2_1, .int .i64 a2_2, .int .i64 a2_3] 38 (0, 0)) (by (with_reducible repeat (first | refine blk_drewN ?_ _ | refine blk_drew ?_ | refine blk_alloc ?_ _)); exact BK403.out) hb); have n2_ := Aside0.mk (below_step (by repeat (first | (with_reducible first | exact HB.out | apply below_alloc | apply pw_below_drewN | apply below_drew1 | refine below_set ?_ GE402.out | refine below_set ?_ GE403.out) | exact HB.out)) hb); clear BK402; clear BK403; clear HB; have BK402 := n0_; have BK403 := n1_; have HB := n2_; clear n0_ n1_ n2_; (try clear hb); (try clear hb2); (try clear hk); (try clear hi)))
      have n0_ := Aside0.mk (blk_drew BK402.out)
      have n1_ := Aside0.mk (blk_drew BK403.out)
      have n2_ := Aside0.mk (below_drew1 HB.out)
      clear BK402
      clear BK403
      clear HB
      have BK402 := n0_
      have BK403 := n1_
      have HB := n2_
      clear n0_ n1_ n2_
      refine start_ (n := 10) (S := fun w' => w'.cell? ⟨gb403, 0, none⟩ = some (.int .i64 a2_0) ∧ w'.cell? ⟨gb403, 1, none⟩ = some (.int .i64 a2_1) ∧ w'.cell? ⟨gb403, 2, none⟩ = some (.int .i64 a2_2) ∧ w'.cell? ⟨gb403, 3, none⟩ = some (.int .i64 a2_3)) (ds := []) (tfA 0 10) (by kernel_rfl) rfl rfl ⟨(blk_cell BK403.out 0).trans rfl, (blk_cell BK403.out 1).trans rfl, (blk_cell BK403.out 2).trans rfl, (blk_cell BK403.out 3).trans rfl⟩ (fun hHeld => ?_); refine with_tabW decklelaw05_FrameTells.tab7 decklelaw05_FrameTells.bits7 (fun HT_ HW_ => ?_)
      generalize w19.drew = w20 at BK402 BK403 HB hHeld ⊢
      refine pure_ (i := 0) (N := some 33) (v := ?_) (a' := ?_) (tfA 1 10) rfl rfl (any_of HT_.out (by kernel_rfl)) (fun _ _ _ h => h) (Or.inl ⟨by rfl, ?_⟩) ?_ ?_
      rotate_left
      · intro w'; go_simp; with_reducible rfl
      rotate_left
      · simp only [Act.put, sib, sc0, sc1, i64_w, i32_w]; rfl
      refine pure_ (i := 2) (N := some 35) (v := ?_) (a' := ?_) #[true, false, true, false, false, false, false, false, false, false] rfl rfl (any_of HT_.out (by kernel_rfl)) (fun _ _ _ h => h) (Or.inl ⟨by rfl, ?_⟩) ?_ ?_
      rotate_left
      · intro w'; go_simp; with_reducible rfl
      rotate_left
      · simp only [Act.put, sib, sc0, sc1, i64_w, i32_w]; rfl
      refine pure_ (i := 4) (N := some 37) (v := ?_) (a' := ?_) #[true, false, true, false, true, false, false, false, false, false] rfl rfl (any_of HT_.out (by kernel_rfl)) (fun _ _ _ h => h) (Or.inl ⟨by rfl, ?_⟩) ?_ ?_
      rotate_left
      · intro w'; go_simp; with_reducible rfl
      rotate_left
      · simp only [Act.put, sib, sc0, sc1, i64_w, i32_w]; rfl
      refine pure_ (i := 6) (N := some 39) (v := ?_) (a' := ?_) #[true, false, true, false, true, false, true, false, false, false] rfl rfl (any_of HT_.out (by kernel_rfl)) (fun _ _ _ h => h) (Or.inl ⟨by rfl, ?_⟩) ?_ ?_
      rotate_left
      · intro w'; go_simp; with_reducible rfl
      rotate_left
      · simp only [Act.put, sib, sc0, sc1, i64_w, i32_w]; rfl
      refine take_ (i := 1) (N := some 34) (v := ?_) (a' := ?_) #[true, true, true, false, true, false, true, false, false, false] rfl rfl (take_ofW HT_.out HW_.out (by kernel_rfl)) (fun _ _ _ h => h) (Or.inl ⟨by rfl, ?_⟩) hHeld ?_ ?_
      rotate_left
      · rintro w' ⟨s0, s1, s2, s3⟩
        go_simp
        with_reducible rfl
      rotate_left
      · simp only [Act.put, sib, sc0, sc1, i64_w, i32_w]
        rfl
      refine take_ (i := 5) (N := some 38) (v := ?_) (a' := ?_) #[true, true, true, false, true, true, true, false, false, false] rfl rfl (take_ofW HT_.out HW_.out (by kernel_rfl)) (fun _ _ _ h => h) (Or.inl ⟨by rfl, ?_⟩) hHeld ?_ ?_
      rotate_left
      · rintro w' ⟨s0, s1, s2, s3⟩
        go_simp
        with_reducible rfl
      rotate_left
      · simp only [Act.put, sib, sc0, sc1, i64_w, i32_w]
        rfl
      refine one_ (i := 3) (N := some 36) (tfA 7 10) rfl rfl (one_of HT_.out (by kernel_rfl)) (by decide) (fun K hK => ?_)
      refine goes_ Tryd.func19 (by kernel_rfl) rfl #[.int .i64 a2_0, .int .i64 (wrap64 ((t405.size : Int) / 9))] (by rfl) rfl rfl (by (try simp only [List.map_toArray, List.map_cons, List.map_nil]); first | done | rfl | (simp only [List.length_drop, List.length_take]; rfl)) ?_
      with_reducible refine (decklelaw05_below.calls a2_0 (wrap64 ((t405.size : Int) / 9)) t407 _ A8.out).mono ?_
      rintro e w' ⟨rfl, ⟨nd, rfl⟩⟩
      refine ⟨_, rfl, ?_⟩
      refine hK.out _ _ ⟨(blk_cell BK403.out 0).trans rfl, (blk_cell BK403.out 1).trans rfl, (blk_cell BK403.out 2).trans rfl, (blk_cell BK403.out 3).trans rfl⟩ (fun hHeld => ?_)
      clear hK K
      refine norm_ (a' := ?_) ?_ ?_
      rotate_left
      · show Act.put _ (some 36) _ = _
        simp only [Act.put, sib, sc0, sc1, i64_w, i32_w]
        rfl
      refine one_ (i := 7) (N := some 40) (tfA 8 10) rfl rfl (one_of HT_.out (by kernel_rfl)) (by decide) (fun K hK => ?_)
      refine goes_ Tryd.func19 (by kernel_rfl) rfl #[.int .i64 a2_3, .int .i64 (wrap64 ((t405.size : Int) / 9))] (by rfl) rfl rfl (by (try simp only [List.map_toArray, List.map_cons, List.map_nil]); first | done | rfl | (simp only [List.length_drop, List.length_take]; rfl)) ?_
      with_reducible refine (decklelaw05_below.calls a2_3 (wrap64 ((t405.size : Int) / 9)) t408 _ A9.out).mono ?_
      rintro e w' ⟨rfl, ⟨nd, rfl⟩⟩
      refine ⟨_, rfl, ?_⟩
      refine hK.out _ _ ⟨(blk_cell BK403.out 0).trans rfl, (blk_cell BK403.out 1).trans rfl, (blk_cell BK403.out 2).trans rfl, (blk_cell BK403.out 3).trans rfl⟩ (fun hHeld => ?_)
      clear hK K
      refine norm_ (a' := ?_) ?_ ?_
      rotate_left
      · show Act.put _ (some 40) _ = _
        simp only [Act.put, sib, sc0, sc1, i64_w, i32_w]
        rfl
      refine pure_ (i := 8) (N := some 10) (v := ?_) (a' := ?_) (tfA 9 10) rfl rfl (any_of HT_.out (by kernel_rfl)) (fun _ _ _ h => h) (Or.inl ⟨by rfl, ?_⟩) ?_ ?_
      rotate_left
      · intro w'; go_simp; with_reducible rfl
      rotate_left
      · simp only [Act.put, sib, sc0, sc1, i64_w, i32_w]; rfl
      refine pure_ (i := 9) (N := some 11) (v := ?_) (a' := ?_) (tfA 10 10) rfl rfl (any_of HT_.out (by kernel_rfl)) (fun _ _ _ h => h) (Or.inl ⟨by rfl, ?_⟩) ?_ ?_
      rotate_left
      · intro w'; go_simp; with_reducible rfl
      rotate_left
      · simp only [Act.put, sib, sc0, sc1, i64_w, i32_w]; rfl
      refine done_ (done_of HT_.out (by kernel_rfl)) ?_
      have hcz21_0 : w20.cell? ⟨gb403, 0, none⟩ = some (.int .i64 a2_0) := (blk_cell BK403.out 0).trans rfl
      have hcz21_1 : w20.cell? ⟨gb403, 1, none⟩ = some (.int .i64 a2_1) := (blk_cell BK403.out 1).trans rfl
      have hcz21_2 : w20.cell? ⟨gb403, 2, none⟩ = some (.int .i64 a2_2) := (blk_cell BK403.out 2).trans rfl
      have hcz21_3 : w20.cell? ⟨gb403, 3, none⟩ = some (.int .i64 a2_3) := (blk_cell BK403.out 3).trans rfl
      have hfz21_0 := blk_frozen BK403.out 0
      have hfz21_1 := blk_frozen BK403.out 1
      have hfz21_2 := blk_frozen BK403.out 2
      have hfz21_3 := blk_frozen BK403.out 3
      try go_wp2_with (first | ((with_reducible refine gate_callee (f := 19) rfl ?_); refine goesL_ (some 43) rfl rfl Tryd.func19 (by kernel_rfl) rfl #[.int .i64 a2_1, .int .i64 72] rfl (by (try simp only [List.map_toArray, List.map_cons, List.map_nil]); first | done | rfl | (simp only [List.length_drop, List.length_take]; rfl)) ?_; (with_reducible refine (decklelaw05_below.calls a2_1 72 t409 _ A10.out).mono ?_); rintro e w' ⟨rfl, ⟨nd, rfl⟩⟩; refine ⟨_, rfl, ?_⟩; (try (rw [drewN_self w20]; generalize hq_ : World.drewN w20 _ = w20; have n0_ : Aside0 (w20.heap[gb402]? = some (.cells #[.int .i64 a0_0, .int .i64 a0_1, .int .i64 a0_2, .int .i64 a0_3] 23 (0, 0))) := ⟨by rw [← hq_]; exact (by (with_reducible repeat (first | refine blk_drewN ?_ _ | refine blk_drew ?_ | refine blk_alloc ?_ _)); exact BK402.out)⟩; have n1_ : Aside0 (w20.heap[gb403]? = some (.cells #[.int .i64 a2_0, .int .i64 a2_1, .int .i64 a2_2, .int .i64 a2_3] 38 (0, 0))) := ⟨by rw [← hq_]; exact (by (with_reducible repeat (first | refine blk_drewN ?_ _ | refine blk_drew ?_ | refine blk_alloc ?_ _)); exact BK403.out)⟩; have n2_ : Aside0 (Below w.heap.size w w20) := ⟨by rw [← hq_]; exact (by repeat (first | (with_reducible first | exact HB.out | apply below_alloc | apply pw_below_drewN | apply below_drew1 | refine below_set ?_ GE402.out | refine below_set ?_ GE403.out) | exact HB.out))⟩; clear BK402 BK403 HB hq_; have BK402 := n0_; have BK403 := n1_; have HB := n2_; clear n0_ n1_ n2_; have hcw2_ : w20.cell? ⟨gb403, 2, none⟩ = some (.int .i64 a2_2) := (blk_cell BK403.out 2).trans rfl; have hfw2_ := blk_frozen BK403.out 2))) | ((with_reducible refine gate_callee (f := 19) rfl ?_); refine goesL_ (some 48) rfl rfl Tryd.func19 (by kernel_rfl) rfl #[.int .i64 a2_2, .int .i64 71] rfl (by (try simp only [List.map_toArray, List.map_cons, List.map_nil]); first | done | rfl | (simp only [List.length_drop, List.length_take]; rfl)) ?_; (with_reducible refine (decklelaw05_below.calls a2_2 71 t410 _ A11.out).mono ?_); rintro e w' ⟨rfl, ⟨nd, rfl⟩⟩; refine ⟨_, rfl, ?_⟩; (try (rw [drewN_self w20]; generalize hq_ : World.drewN w20 _ = w20; have n0_ : Aside0 (w20.heap[gb402]? = some (.cells #[.int .i64 a0_0, .int .i64 a0_1, .int .i64 a0_2, .int .i64 a0_3] 23 (0, 0))) := ⟨by rw [← hq_]; exact (by (with_reducible repeat (first | refine blk_drewN ?_ _ | refine blk_drew ?_ | refine blk_alloc ?_ _)); exact BK402.out)⟩; have n1_ : Aside0 (w20.heap[gb403]? = some (.cells #[.int .i64 a2_0, .int .i64 a2_1, .int .i64 a2_2, .int .i64 a2_3] 38 (0, 0))) := ⟨by rw [← hq_]; exact (by (with_reducible repeat (first | refine blk_drewN ?_ _ | refine blk_drew ?_ | refine blk_alloc ?_ _)); exact BK403.out)⟩; have n2_ : Aside0 (Below w.heap.size w w20) := ⟨by rw [← hq_]; exact (by repeat (first | (with_reducible first | exact HB.out | apply below_alloc | apply pw_below_drewN | apply below_drew1 | refine below_set ?_ GE402.out | refine below_set ?_ GE403.out) | exact HB.out))⟩; clear BK402 BK403 HB hq_; have BK402 := n0_; have BK403 := n1_; have HB := n2_; clear n0_ n1_ n2_))) | ((with_reducible refine gate_callee (f := 19) rfl ?_); refine goesL_ (some 50) rfl rfl Tryd.func19 (by kernel_rfl) rfl #[.int .i64 (wrap64 ((wrap64 (t409 + 1)) + t410)), .int .i64 72] rfl (by (try simp only [List.map_toArray, List.map_cons, List.map_nil]); first | done | rfl | (simp only [List.length_drop, List.length_take]; rfl)) ?_; (with_reducible refine (decklelaw05_below.calls (wrap64 ((wrap64 (t409 + 1)) + t410)) 72 t411 _ A12.out).mono ?_); rintro e w' ⟨rfl, ⟨nd, rfl⟩⟩; refine ⟨_, rfl, ?_⟩; (try (rw [drewN_self w20]; generalize hq_ : World.drewN w20 _ = w20; have n0_ : Aside0 (w20.heap[gb402]? = some (.cells #[.int .i64 a0_0, .int .i64 a0_1, .int .i64 a0_2, .int .i64 a0_3] 23 (0, 0))) := ⟨by rw [← hq_]; exact (by (with_reducible repeat (first | refine blk_drewN ?_ _ | refine blk_drew ?_ | refine blk_alloc ?_ _)); exact BK402.out)⟩; have n1_ : Aside0 (w20.heap[gb403]? = some (.cells #[.int .i64 a2_0, .int .i64 a2_1, .int .i64 a2_2, .int .i64 a2_3] 38 (0, 0))) := ⟨by rw [← hq_]; exact (by (with_reducible repeat (first | refine blk_drewN ?_ _ | refine blk_drew ?_ | refine blk_alloc ?_ _)); exact BK403.out)⟩; have n2_ : Aside0 (Below w.heap.size w w20) := ⟨by rw [← hq_]; exact (by repeat (first | (with_reducible first | exact HB.out | apply below_alloc | apply pw_below_drewN | apply below_drew1 | refine below_set ?_ GE402.out | refine below_set ?_ GE403.out) | exact HB.out))⟩; clear BK402 BK403 HB hq_; have BK402 := n0_; have BK403 := n1_; have HB := n2_; clear n0_ n1_ n2_))) | ((with_reducible refine gate_dst (N := 14) rfl ?_); refine box_event ?hg (N := 14) ?hd (cs := #[.int .i64 0, .int .i64 0, .int .i64 0, .int .i64 0, .int .i64 0, .string (⟨#[]⟩ : ByteArray)]) (t := 30) ?hr ?_; (case hd => rfl); (case hg => rfl); (case hr => first | (go_simp; done) | (go_simp; rfl)); intro gb412 hg w22 hbox hb; have n0_ := Aside0.mk (blk_below (g := gb402) (o := .cells #[.int .i64 a0_0, .int .i64 a0_1, .int .i64 a0_2, .int .i64 a0_3] 23 (0, 0)) (by (with_reducible repeat (first | refine blk_drewN ?_ _ | refine blk_drew ?_ | refine blk_alloc ?_ _)); exact BK402.out) hb); have n1_ := Aside0.mk (blk_below (g := gb403) (o := .cells #[.int .i64 a2_0, .int .i64 a2_1, .int .i64 a2_2, .int .i64 a2_3] 38 (0, 0)) (by (with_reducible repeat (first | refine blk_drewN ?_ _ | refine blk_drew ?_ | refine blk_alloc ?_ _)); exact BK403.out) hb); have n2_ := Aside0.mk (below_step (by repeat (first | (with_reducible first | exact HB.out | apply below_alloc | apply pw_below_drewN | apply below_drew1 | refine below_set ?_ GE402.out | refine below_set ?_ GE403.out) | exact HB.out)) hb); have n3_ := Aside0.mk (hbox); have n4_ := Aside0.mk ((by rw [hg]; exact (below_size (by repeat (first | (with_reducible first | exact HB.out | apply below_alloc | apply pw_below_drewN | apply below_drew1 | refine below_set ?_ GE402.out | refine below_set ?_ GE403.out) | exact HB.out))) : w.heap.size ≤ gb412)); have n5_ := Aside0.mk ((by rw [hg]; exact (below_size (by repeat (first | (with_reducible first | exact HB.out | apply below_alloc | apply pw_below_drewN | apply below_drew1 | refine below_set ?_ GE402.out | refine below_set ?_ GE403.out) | exact HB.out))) : w.heap.size ≤ gb412)); have n6_ := Aside0.mk ((by rw [hg]; exact Nat.ne_of_lt (blk_lt (g := gb402) (o := .cells #[.int .i64 a0_0, .int .i64 a0_1, .int .i64 a0_2, .int .i64 a0_3] 23 (0, 0)) (by (with_reducible repeat (first | refine blk_drewN ?_ _ | refine blk_drew ?_ | refine blk_alloc ?_ _)); exact BK402.out)) : gb402 ≠ gb412)); have n7_ := Aside0.mk ((by rw [hg]; exact Nat.ne_of_gt (blk_lt (g := gb402) (o := .cells #[.int .i64 a0_0, .int .i64 a0_1, .int .i64 a0_2, .int .i64 a0_3] 23 (0, 0)) (by (with_reducible repeat (first | refine blk_drewN ?_ _ | refine blk_drew ?_ | refine blk_alloc ?_ _)); exact BK402.out)) : gb412 ≠ gb402)); have n8_ := Aside0.mk ((by rw [hg]; exact Nat.ne_of_lt (blk_lt (g := gb403) (o := .cells #[.int .i64 a2_0, .int .i64 a2_1, .int .i64 a2_2, .int .i64 a2_3] 38 (0, 0)) (by (with_reducible repeat (first | refine blk_drewN ?_ _ | refine blk_drew ?_ | refine blk_alloc ?_ _)); exact BK403.out)) : gb403 ≠ gb412)); have n9_ := Aside0.mk ((by rw [hg]; exact Nat.ne_of_gt (blk_lt (g := gb403) (o := .cells #[.int .i64 a2_0, .int .i64 a2_1, .int .i64 a2_2, .int .i64 a2_3] 38 (0, 0)) (by (with_reducible repeat (first | refine blk_drewN ?_ _ | refine blk_drew ?_ | refine blk_alloc ?_ _)); exact BK403.out)) : gb412 ≠ gb403)); clear BK402; clear BK403; clear HB; have BK402 := n0_; have BK403 := n1_; have HB := n2_; have BK412 := n3_; have GW412 := n4_; have GE412 := n5_; have NB402_412 := n6_; have NB412_402 := n7_; have NB403_412 := n8_; have NB412_403 := n9_; clear n0_ n1_ n2_ n3_ n4_ n5_ n6_ n7_ n8_ n9_; clear hb hbox hg; have hnb23 := NB412_402.out; have hnc23 := NB402_412.out; have hnb24 := NB412_403.out; have hnc24 := NB403_412.out; have hcz25_0 : w22.cell? ⟨gb412, 0, none⟩ = some (.int .i64 0) := (blk_cell BK412.out 0).trans rfl; have hcz25_1 : w22.cell? ⟨gb412, 1, none⟩ = some (.int .i64 0) := (blk_cell BK412.out 1).trans rfl; have hcz25_2 : w22.cell? ⟨gb412, 2, none⟩ = some (.int .i64 0) := (blk_cell BK412.out 2).trans rfl; have hcz25_3 : w22.cell? ⟨gb412, 3, none⟩ = some (.int .i64 0) := (blk_cell BK412.out 3).trans rfl; have hcz25_4 : w22.cell? ⟨gb412, 4, none⟩ = some (.int .i64 0) := (blk_cell BK412.out 4).trans rfl; have hcz25_5 : w22.cell? ⟨gb412, 5, none⟩ = some (.string (⟨#[]⟩ : ByteArray)) := (blk_cell BK412.out 5).trans rfl; have hfz25_0 := blk_frozen BK412.out 0; have hfz25_1 := blk_frozen BK412.out 1; have hfz25_2 := blk_frozen BK412.out 2; have hfz25_3 := blk_frozen BK412.out 3; have hfz25_4 := blk_frozen BK412.out 4; have hfz25_5 := blk_frozen BK412.out 5) | ((with_reducible refine gate_callee (f := 14) rfl ?_); refine goesL_ (some 55) rfl rfl Tryd.func14 (by kernel_rfl) rfl #[.int .i64 (a1.size : Int)] rfl (by (try simp only [List.map_toArray, List.map_cons, List.map_nil]); first | done | rfl | (simp only [List.length_drop, List.length_take]; rfl)) ?_; (with_reducible refine (frame_Blank.calls (a1.size : Int) t413 _ A13.out).mono ?_); rintro e w26 ⟨rfl, hb⟩; refine ⟨_, rfl, ?_⟩; have n0_ := Aside0.mk (blk_below (g := gb402) (o := .cells #[.int .i64 a0_0, .int .i64 a0_1, .int .i64 a0_2, .int .i64 a0_3] 23 (0, 0)) (by (with_reducible repeat (first | refine blk_drewN ?_ _ | refine blk_drew ?_ | refine blk_alloc ?_ _)); refine blk_far ?_ NB402_412.out _; (with_reducible repeat (first | refine blk_drewN ?_ _ | refine blk_drew ?_ | refine blk_alloc ?_ _)); refine blk_far ?_ NB402_412.out _; (with_reducible repeat (first | refine blk_drewN ?_ _ | refine blk_drew ?_ | refine blk_alloc ?_ _)); refine blk_far ?_ NB402_412.out _; (with_reducible repeat (first | refine blk_drewN ?_ _ | refine blk_drew ?_ | refine blk_alloc ?_ _)); refine blk_far ?_ NB402_412.out _; (with_reducible repeat (first | refine blk_drewN ?_ _ | refine blk_drew ?_ | refine blk_alloc ?_ _)); refine blk_far ?_ NB402_412.out _; (with_reducible repeat (first | refine blk_drewN ?_ _ | refine blk_drew ?_ | refine blk_alloc ?_ _)); refine blk_far ?_ NB402_412.out _; (with_reducible repeat (first | refine blk_drewN ?_ _ | refine blk_drew ?_ | refine blk_alloc ?_ _)); exact BK402.out) hb); have n1_ := Aside0.mk (blk_below (g := gb403) (o := .cells #[.int .i64 a2_0, .int .i64 a2_1, .int .i64 a2_2, .int .i64 a2_3] 38 (0, 0)) (by (with_reducible repeat (first | refine blk_drewN ?_ _ | refine blk_drew ?_ | refine blk_alloc ?_ _)); refine blk_far ?_ NB403_412.out _; (with_reducible repeat (first | refine blk_drewN ?_ _ | refine blk_drew ?_ | refine blk_alloc ?_ _)); refine blk_far ?_ NB403_412.out _; (with_reducible repeat (first | refine blk_drewN ?_ _ | refine blk_drew ?_ | refine blk_alloc ?_ _)); refine blk_far ?_ NB403_412.out _; (with_reducible repeat (first | refine blk_drewN ?_ _ | refine blk_drew ?_ | refine blk_alloc ?_ _)); refine blk_far ?_ NB403_412.out _; (with_reducible repeat (first | refine blk_drewN ?_ _ | refine blk_drew ?_ | refine blk_alloc ?_ _)); refine blk_far ?_ NB403_412.out _; (with_reducible repeat (first | refine blk_drewN ?_ _ | refine blk_drew ?_ | refine blk_alloc ?_ _)); refine blk_far ?_ NB403_412.out _; (with_reducible repeat (first | refine blk_drewN ?_ _ | refine blk_drew ?_ | refine blk_alloc ?_ _)); exact BK403.out) hb); have n2_ := Aside0.mk (blk_below (g := gb412) (o := .cells #[.int .i64 4, .int .i64 0, .int .i64 0, .int .i64 0, .int .i64 0, .string (⟨#[]⟩ : ByteArray)] 30 (0, 0)) (by (with_reducible repeat (first | refine blk_drewN ?_ _ | refine blk_drew ?_ | refine blk_alloc ?_ _)); refine blk_put (cs := #[.int .i64 4, .int .i64 0, .int .i64 0, .int .i64 0, .int .i64 0, .string (⟨#[]⟩ : ByteArray)]) ?_ 5 _ rfl; (with_reducible repeat (first | refine blk_drewN ?_ _ | refine blk_drew ?_ | refine blk_alloc ?_ _)); refine blk_put (cs := #[.int .i64 4, .int .i64 0, .int .i64 0, .int .i64 0, .int .i64 0, .string (⟨#[]⟩ : ByteArray)]) ?_ 4 _ rfl; (with_reducible repeat (first | refine blk_drewN ?_ _ | refine blk_drew ?_ | refine blk_alloc ?_ _)); refine blk_put (cs := #[.int .i64 4, .int .i64 0, .int .i64 0, .int .i64 0, .int .i64 0, .string (⟨#[]⟩ : ByteArray)]) ?_ 3 _ rfl; (with_reducible repeat (first | refine blk_drewN ?_ _ | refine blk_drew ?_ | refine blk_alloc ?_ _)); refine blk_put (cs := #[.int .i64 4, .int .i64 0, .int .i64 0, .int .i64 0, .int .i64 0, .string (⟨#[]⟩ : ByteArray)]) ?_ 2 _ rfl; (with_reducible repeat (first | refine blk_drewN ?_ _ | refine blk_drew ?_ | refine blk_alloc ?_ _)); refine blk_put (cs := #[.int .i64 4, .int .i64 0, .int .i64 0, .int .i64 0, .int .i64 0, .string (⟨#[]⟩ : ByteArray)]) ?_ 1 _ rfl; (with_reducible repeat (first | refine blk_drewN ?_ _ | refine blk_drew ?_ | refine blk_alloc ?_ _)); refine blk_put (cs := #[.int .i64 0, .int .i64 0, .int .i64 0, .int .i64 0, .int .i64 0, .string (⟨#[]⟩ : ByteArray)]) ?_ 0 _ rfl; (with_reducible repeat (first | refine blk_drewN ?_ _ | refine blk_drew ?_ | refine blk_alloc ?_ _)); exact BK412.out) hb); have n3_ := Aside0.mk (below_step (by repeat (first | (with_reducible first | exact HB.out | apply below_alloc | apply pw_below_drewN | apply below_drew1 | refine below_set ?_ GE402.out | refine below_set ?_ GE403.out | refine below_set ?_ GE412.out) | exact HB.out)) hb); clear BK402; clear BK403; clear BK412; clear HB; have BK402 := n0_; have BK403 := n1_; have BK412 := n2_; have HB := n3_; clear n0_ n1_ n2_ n3_; (try clear hb); (try clear hb2); (try clear hk); (try clear hi)) | ((with_reducible refine gate_dst (N := 56) rfl ?_); refine Kd.R_lit Kd.string _ 9 ?hg (N := 56) ?hd (xs := ([t405, t413] : List ByteArray)) (inner := [.string t405, .string t413]) (ok := fun _ => True) (okp := fun _ => True) ?hr ?hp (fun _ hk => hk) trivial (Below.refl _ _) (Nat.le_refl _) (by simp) ?_; (case hd => rfl); (case hg => rfl); (case hr => first | (go_simp; done) | (go_simp; rfl)); (case hp => exact (Reps.one (show Kd.M Kd.string _ _ _ t405 [.string t405] from rfl) (Reps.one (show Kd.M Kd.string _ _ _ t413 [.string t413] from rfl) (Reps.none _ _)))); intro v415 w27 ho28 hb hg_ hnew_; clear hg_ hnew_; (first | rw [← Ny414.out] at ho28 | (simp only [Int.reduceToNat] at ho28; rw [← Ny414.out] at ho28)); have n0_ := Aside0.mk (Kd.R_lower ho28 (below_size (by repeat (first | (with_reducible first | exact HB.out | apply below_alloc | apply pw_below_drewN | apply below_drew1 | refine below_set ?_ GE402.out | refine below_set ?_ GE403.out | refine below_set ?_ GE412.out) | exact HB.out)))); have n1_ := Aside0.mk (blk_below (g := gb402) (o := .cells #[.int .i64 a0_0, .int .i64 a0_1, .int .i64 a0_2, .int .i64 a0_3] 23 (0, 0)) (by (with_reducible repeat (first | refine blk_drewN ?_ _ | refine blk_drew ?_ | refine blk_alloc ?_ _)); exact BK402.out) hb); have n2_ := Aside0.mk (blk_below (g := gb403) (o := .cells #[.int .i64 a2_0, .int .i64 a2_1, .int .i64 a2_2, .int .i64 a2_3] 38 (0, 0)) (by (with_reducible repeat (first | refine blk_drewN ?_ _ | refine blk_drew ?_ | refine blk_alloc ?_ _)); exact BK403.out) hb); have n3_ := Aside0.mk (blk_below (g := gb412) (o := .cells #[.int .i64 4, .int .i64 0, .int .i64 0, .int .i64 0, .int .i64 0, .string (⟨#[]⟩ : ByteArray)] 30 (0, 0)) (by (with_reducible repeat (first | refine blk_drewN ?_ _ | refine blk_drew ?_ | refine blk_alloc ?_ _)); exact BK412.out) hb); have n4_ := Aside0.mk (below_step (by repeat (first | (with_reducible first | exact HB.out | apply below_alloc | apply pw_below_drewN | apply below_drew1 | refine below_set ?_ GE402.out | refine below_set ?_ GE403.out | refine below_set ?_ GE412.out) | exact HB.out)) hb); clear BK402; clear BK403; clear BK412; clear HB; have HO416 := n0_; have BK402 := n1_; have BK403 := n2_; have BK412 := n3_; have HB := n4_; clear n0_ n1_ n2_ n3_ n4_; clear hb ho28; obtain ⟨Ao29, co29, eo29⟩ := Kd.R_slice HO416.out; subst eo29))
      go_loopg [58] k (fun kq v58 w' => ∃ (x58_1 : Int), v58 = .int .i64 x58_1 ∧ Aside0 (decklelaw05_FrameTells.l0 kq t407 t408 t409 t411 y414 (y414.length : Int) x58_1 a2_0 a2_1 a2_2 a2_3 4 0 0 0 0 (⟨#[]⟩ : ByteArray) = some true) ∧ Aside0 (kq ≤ k) ∧ Aside0 (Kd.R Kd.string 9 w' w.heap.size (fun _ => True) (.slice Ao29 y414.length co29) y414) ∧ Aside0 (w'.heap[gb402]? = some (.cells #[.int .i64 a0_0, .int .i64 a0_1, .int .i64 a0_2, .int .i64 a0_3] 23 (0, 0))) ∧ Aside0 (w'.heap[gb403]? = some (.cells #[.int .i64 a2_0, .int .i64 a2_1, .int .i64 a2_2, .int .i64 a2_3] 38 (0, 0))) ∧ Aside0 (w'.heap[gb412]? = some (.cells #[.int .i64 4, .int .i64 0, .int .i64 0, .int .i64 0, .int .i64 0, .string (⟨#[]⟩ : ByteArray)] 30 (0, 0))) ∧ Aside0 (Below w.heap.size w w'))
      case atStart => exact ⟨(0), (by first | rfl | (simp; done) | (simp [*]; done)), H', ⟨Nat.le_refl _⟩, ⟨by (with_reducible repeat (first | apply Kd.R_alloc | apply Kd.R_drewN | apply Kd.R_drew)); exact HO416.out⟩, ⟨by (with_reducible repeat (first | refine blk_drewN ?_ _ | refine blk_drew ?_ | refine blk_alloc ?_ _)); exact BK402.out⟩, ⟨by (with_reducible repeat (first | refine blk_drewN ?_ _ | refine blk_drew ?_ | refine blk_alloc ?_ _)); exact BK403.out⟩, ⟨by (with_reducible repeat (first | refine blk_drewN ?_ _ | refine blk_drew ?_ | refine blk_alloc ?_ _)); exact BK412.out⟩, ⟨by repeat (first | (with_reducible first | exact HB.out | apply below_alloc | apply pw_below_drewN | apply below_drew1 | refine below_set ?_ GE402.out | refine below_set ?_ GE403.out | refine below_set ?_ GE412.out) | exact HB.out)⟩⟩
      case round =>
        clear H'
        try clear c1
        try clear c2
        try clear p2
        try clear c5
        try clear p6
        try clear c7
        try clear c7b0
        try clear c7b1
        try clear c8
        try clear c9
        try clear c10
        try clear c14
        try clear c17
        try clear c19
        try clear c23
        try clear c24
        try clear hcz18_0
        try clear hcz18_1
        try clear hcz18_2
        try clear hcz18_3
        try clear hcz21_0
        try clear hcz21_1
        try clear hcz21_2
        try clear hcz21_3
        try clear hcz25_0
        try clear hcz25_1
        try clear hcz25_2
        try clear hcz25_3
        try clear hcz25_4
        try clear hcz25_5
        try clear hfz18_0
        try clear hfz18_1
        try clear hfz18_2
        try clear hfz18_3
        try clear hfz21_0
        try clear hfz21_1
        try clear hfz21_2
        try clear hfz21_3
        try clear hfz25_0
        try clear hfz25_1
        try clear hfz25_2
        try clear hfz25_3
        try clear hfz25_4
        try clear hfz25_5
        obtain ⟨x58_1, rfl, HA, HK1, HO_56, BK402, BK403, BK412, HB⟩ := hrel
        cases gk with
        | zero => exact absurd HA.out (by simp [decklelaw05_FrameTells.l0])
        | succ k1 =>
          have H := HA.out
          clear HA
          simp only [decklelaw05_FrameTells.l0] at H
          by_cases c30 : x58_1 < (y414.length : Int)
          · rw [if_pos c30] at H
            have c30b0 : decide (x58_1 < (y414.length : Int)) = true := decide_eq_true c30
            clear c30
            by_cases c31 : 0 ≤ x58_1
            · rw [if_pos c31] at H
              have c31b0 : decide (0 ≤ x58_1) = true := decide_eq_true c31
              clear c31
              by_cases c32 : x58_1 < (y414.length : Int)
              · rw [if_pos c32] at H
                have c32b0 : decide (x58_1 < (y414.length : Int)) = true := decide_eq_true c32
                clear c32
                replace H := Option.bind_eq_some_iff.mp H
                obtain ⟨t418, A330, H⟩ := H
                replace H : ((decklelaw05_turned.f t418 t407 t411).bind fun t419 => ((frame_Decode.f t419).bind fun bt420 => (if (!(bt420.1 == 4) || ((!(bt420.2.1 == 0) || (!(bt420.2.2.1 == 0) || (!(bt420.2.2.2.1 == 0) || (!(bt420.2.2.2.2.1 == 0))))) || (!(bt420.2.2.2.2.2.toList == (⟨#[]⟩ : ByteArray).toList)))) = true then (some false) else (if t408 = t407 then ((frame_Hurt.f (rdOf ByteArray.empty y414 x58_1) a2_1 a2_2).bind fun t426 => ((frame_Decode.f t426).bind fun bt427 => (if (!(bt427.1 == 4) || ((!(bt427.2.1 == 0) || (!(bt427.2.2.1 == 0) || (!(bt427.2.2.2.1 == 0) || (!(bt427.2.2.2.2.1 == 0))))) || (!(bt427.2.2.2.2.2.toList == (⟨#[]⟩ : ByteArray).toList)))) = true then (some false) else (decklelaw05_FrameTells.l0 k1 t407 t408 t409 t411 y414 (y414.length : Int) (wrap64 (x58_1 + 1)) a2_0 a2_1 a2_2 a2_3 4 0 0 0 0 (⟨#[]⟩ : ByteArray))))) else ((decklelaw05_turned.f t419 t408 a2_1).bind fun t433 => ((frame_Decode.f t433).bind fun bt434 => (if (!(bt434.1 == 4) || ((!(bt434.2.1 == 0) || (!(bt434.2.2.1 == 0) || (!(bt434.2.2.2.1 == 0) || (!(bt434.2.2.2.2.1 == 0))))) || (!(bt434.2.2.2.2.2.toList == (⟨#[]⟩ : ByteArray).toList)))) = true then (some false) else ((frame_Hurt.f (rdOf ByteArray.empty y414 x58_1) a2_1 a2_2).bind fun t440 => ((frame_Decode.f t440).bind fun bt441 => (if (!(bt441.1 == 4) || ((!(bt441.2.1 == 0) || (!(bt441.2.2.1 == 0) || (!(bt441.2.2.2.1 == 0) || (!(bt441.2.2.2.2.1 == 0))))) || (!(bt441.2.2.2.2.2.toList == (⟨#[]⟩ : ByteArray).toList)))) = true then (some false) else (decklelaw05_FrameTells.l0 k1 t407 t408 t409 t411 y414 (y414.length : Int) (wrap64 (x58_1 + 1)) a2_0 a2_1 a2_2 a2_3 4 0 0 0 0 (⟨#[]⟩ : ByteArray)))))))))))) = some true := H
                have A33 := Aside0.mk A330
                clear A330
                replace H := Option.bind_eq_some_iff.mp H
                obtain ⟨t419, A340, H⟩ := H
                replace H : ((frame_Decode.f t419).bind fun bt420 => (if (!(bt420.1 == 4) || ((!(bt420.2.1 == 0) || (!(bt420.2.2.1 == 0) || (!(bt420.2.2.2.1 == 0) || (!(bt420.2.2.2.2.1 == 0))))) || (!(bt420.2.2.2.2.2.toList == (⟨#[]⟩ : ByteArray).toList)))) = true then (some false) else (if t408 = t407 then ((frame_Hurt.f (rdOf ByteArray.empty y414 x58_1) a2_1 a2_2).bind fun t426 => ((frame_Decode.f t426).bind fun bt427 => (if (!(bt427.1 == 4) || ((!(bt427.2.1 == 0) || (!(bt427.2.2.1 == 0) || (!(bt427.2.2.2.1 == 0) || (!(bt427.2.2.2.2.1 == 0))))) || (!(bt427.2.2.2.2.2.toList == (⟨#[]⟩ : ByteArray).toList)))) = true then (some false) else (decklelaw05_FrameTells.l0 k1 t407 t408 t409 t411 y414 (y414.length : Int) (wrap64 (x58_1 + 1)) a2_0 a2_1 a2_2 a2_3 4 0 0 0 0 (⟨#[]⟩ : ByteArray))))) else ((decklelaw05_turned.f t419 t408 a2_1).bind fun t433 => ((frame_Decode.f t433).bind fun bt434 => (if (!(bt434.1 == 4) || ((!(bt434.2.1 == 0) || (!(bt434.2.2.1 == 0) || (!(bt434.2.2.2.1 == 0) || (!(bt434.2.2.2.2.1 == 0))))) || (!(bt434.2.2.2.2.2.toList == (⟨#[]⟩ : ByteArray).toList)))) = true then (some false) else ((frame_Hurt.f (rdOf ByteArray.empty y414 x58_1) a2_1 a2_2).bind fun t440 => ((frame_Decode.f t440).bind fun bt441 => (if (!(bt441.1 == 4) || ((!(bt441.2.1 == 0) || (!(bt441.2.2.1 == 0) || (!(bt441.2.2.2.1 == 0) || (!(bt441.2.2.2.2.1 == 0))))) || (!(bt441.2.2.2.2.2.toList == (⟨#[]⟩ : ByteArray).toList)))) = true then (some false) else (decklelaw05_FrameTells.l0 k1 t407 t408 t409 t411 y414 (y414.length : Int) (wrap64 (x58_1 + 1)) a2_0 a2_1 a2_2 a2_3 4 0 0 0 0 (⟨#[]⟩ : ByteArray))))))))))) = some true := H
                have A34 := Aside0.mk A340
                clear A340
                replace H := Option.bind_eq_some_iff.mp H
                obtain ⟨⟨t420, t421, t422, t423, t424, t425⟩, A350, H⟩ := H
                replace H : (if (!(t420 == 4) || ((!(t421 == 0) || (!(t422 == 0) || (!(t423 == 0) || (!(t424 == 0))))) || (!(t425.toList == (⟨#[]⟩ : ByteArray).toList)))) = true then (some false) else (if t408 = t407 then ((frame_Hurt.f (rdOf ByteArray.empty y414 x58_1) a2_1 a2_2).bind fun t426 => ((frame_Decode.f t426).bind fun bt427 => (if (!(bt427.1 == 4) || ((!(bt427.2.1 == 0) || (!(bt427.2.2.1 == 0) || (!(bt427.2.2.2.1 == 0) || (!(bt427.2.2.2.2.1 == 0))))) || (!(bt427.2.2.2.2.2.toList == (⟨#[]⟩ : ByteArray).toList)))) = true then (some false) else (decklelaw05_FrameTells.l0 k1 t407 t408 t409 t411 y414 (y414.length : Int) (wrap64 (x58_1 + 1)) a2_0 a2_1 a2_2 a2_3 4 0 0 0 0 (⟨#[]⟩ : ByteArray))))) else ((decklelaw05_turned.f t419 t408 a2_1).bind fun t433 => ((frame_Decode.f t433).bind fun bt434 => (if (!(bt434.1 == 4) || ((!(bt434.2.1 == 0) || (!(bt434.2.2.1 == 0) || (!(bt434.2.2.2.1 == 0) || (!(bt434.2.2.2.2.1 == 0))))) || (!(bt434.2.2.2.2.2.toList == (⟨#[]⟩ : ByteArray).toList)))) = true then (some false) else ((frame_Hurt.f (rdOf ByteArray.empty y414 x58_1) a2_1 a2_2).bind fun t440 => ((frame_Decode.f t440).bind fun bt441 => (if (!(bt441.1 == 4) || ((!(bt441.2.1 == 0) || (!(bt441.2.2.1 == 0) || (!(bt441.2.2.2.1 == 0) || (!(bt441.2.2.2.2.1 == 0))))) || (!(bt441.2.2.2.2.2.toList == (⟨#[]⟩ : ByteArray).toList)))) = true then (some false) else (decklelaw05_FrameTells.l0 k1 t407 t408 t409 t411 y414 (y414.length : Int) (wrap64 (x58_1 + 1)) a2_0 a2_1 a2_2 a2_3 4 0 0 0 0 (⟨#[]⟩ : ByteArray)))))))))) = some true := H
                have A35 := Aside0.mk A350
                clear A350
                by_cases c36 : (!(t420 == 4) || ((!(t421 == 0) || (!(t422 == 0) || (!(t423 == 0) || (!(t424 == 0))))) || (!(t425.toList == (⟨#[]⟩ : ByteArray).toList)))) = true
                · rw [if_pos c36] at H
                  have c36b0 : (!(t420 == 4) || ((!(t421 == 0) || (!(t422 == 0) || (!(t423 == 0) || (!(t424 == 0))))) || (!(t425.toList == (⟨#[]⟩ : ByteArray).toList)))) = true := c36
                  clear c36
                  exact absurd (Option.some.inj H) (by decide)
                · rw [if_neg c36] at H
                  have c36b0 : (!(t420 == 4) || ((!(t421 == 0) || (!(t422 == 0) || (!(t423 == 0) || (!(t424 == 0))))) || (!(t425.toList == (⟨#[]⟩ : ByteArray).toList)))) = false := by simpa using c36
                  clear c36
                  by_cases c41 : t408 = t407
                  · rw [if_pos c41] at H
                    have c41b0 : (t408 == t407) = true := beq_iff_eq.mpr c41
                    have c41b1 : (t408 != t407) = false := bne_eq_false_iff_eq.mpr c41
                    clear c41
                    replace H := Option.bind_eq_some_iff.mp H
                    obtain ⟨t426, A420, H⟩ := H
                    replace H : ((frame_Decode.f t426).bind fun bt427 => (if (!(bt427.1 == 4) || ((!(bt427.2.1 == 0) || (!(bt427.2.2.1 == 0) || (!(bt427.2.2.2.1 == 0) || (!(bt427.2.2.2.2.1 == 0))))) || (!(bt427.2.2.2.2.2.toList == (⟨#[]⟩ : ByteArray).toList)))) = true then (some false) else (decklelaw05_FrameTells.l0 k1 t407 t408 t409 t411 y414 (y414.length : Int) (wrap64 (x58_1 + 1)) a2_0 a2_1 a2_2 a2_3 4 0 0 0 0 (⟨#[]⟩ : ByteArray)))) = some true := H
                    have A42 := Aside0.mk A420
                    clear A420
                    replace H := Option.bind_eq_some_iff.mp H
                    obtain ⟨⟨t427, t428, t429, t430, t431, t432⟩, A430, H⟩ := H
                    replace H : (if (!(t427 == 4) || ((!(t428 == 0) || (!(t429 == 0) || (!(t430 == 0) || (!(t431 == 0))))) || (!(t432.toList == (⟨#[]⟩ : ByteArray).toList)))) = true then (some false) else (decklelaw05_FrameTells.l0 k1 t407 t408 t409 t411 y414 (y414.length : Int) (wrap64 (x58_1 + 1)) a2_0 a2_1 a2_2 a2_3 4 0 0 0 0 (⟨#[]⟩ : ByteArray))) = some true := H
                    have A43 := Aside0.mk A430
                    clear A430
                    by_cases c44 : (!(t427 == 4) || ((!(t428 == 0) || (!(t429 == 0) || (!(t430 == 0) || (!(t431 == 0))))) || (!(t432.toList == (⟨#[]⟩ : ByteArray).toList)))) = true
                    · rw [if_pos c44] at H
                      have c44b0 : (!(t427 == 4) || ((!(t428 == 0) || (!(t429 == 0) || (!(t430 == 0) || (!(t431 == 0))))) || (!(t432.toList == (⟨#[]⟩ : ByteArray).toList)))) = true := c44
                      clear c44
                      exact absurd (Option.some.inj H) (by decide)
                    · rw [if_neg c44] at H
                      have c44b0 : (!(t427 == 4) || ((!(t428 == 0) || (!(t429 == 0) || (!(t430 == 0) || (!(t431 == 0))))) || (!(t432.toList == (⟨#[]⟩ : ByteArray).toList)))) = false := by simpa using c44
                      clear c44
                      have H' := Aside0.mk H
                      clear H
                      have p417 : 0 ≤ (x58_1 : Int) := of_decide_eq_true (by first | (with_reducible assumption) | assumption)
                      have q417 : x58_1 < (y414.length : Int) := of_decide_eq_true (by first | (with_reducible assumption) | assumption)
                      obtain ⟨ad417, e417, hx417_0⟩ := Kd.at_string (Kd.R_reads' HO_56.out).2.2 x58_1 p417 q417
                      cases e417
                      replace p417 := eq_true p417
                      replace q417 := eq_true q417
                      try go_wp2_with (first | ((with_reducible refine gate_callee (f := 18) rfl ?_); refine goesL_ (some 65) rfl rfl Tryd.func18 (by kernel_rfl) rfl #[.string (rdOf ByteArray.empty y414 x58_1), .int .i64 t407, .int .i64 t409] rfl (by (try simp only [List.map_toArray, List.map_cons, List.map_nil]); first | done | rfl | (simp only [List.length_drop, List.length_take]; rfl)) ?_; (with_reducible refine (decklelaw05_turned.calls (rdOf ByteArray.empty y414 x58_1) t407 t409 t418 _ A33.out).mono ?_); rintro e w51 ⟨rfl, hb⟩; refine ⟨_, rfl, ?_⟩; have n0_ := Aside0.mk (Kd.R_below (by (with_reducible repeat (first | apply Kd.R_alloc | apply Kd.R_drewN | apply Kd.R_drew)); exact HO_56.out) hb); have n1_ := Aside0.mk (blk_below (g := gb402) (o := .cells #[.int .i64 a0_0, .int .i64 a0_1, .int .i64 a0_2, .int .i64 a0_3] 23 (0, 0)) (by (with_reducible repeat (first | refine blk_drewN ?_ _ | refine blk_drew ?_ | refine blk_alloc ?_ _)); exact BK402.out) hb); have n2_ := Aside0.mk (blk_below (g := gb403) (o := .cells #[.int .i64 a2_0, .int .i64 a2_1, .int .i64 a2_2, .int .i64 a2_3] 38 (0, 0)) (by (with_reducible repeat (first | refine blk_drewN ?_ _ | refine blk_drew ?_ | refine blk_alloc ?_ _)); exact BK403.out) hb); have n3_ := Aside0.mk (blk_below (g := gb412) (o := .cells #[.int .i64 4, .int .i64 0, .int .i64 0, .int .i64 0, .int .i64 0, .string (⟨#[]⟩ : ByteArray)] 30 (0, 0)) (by (with_reducible repeat (first | refine blk_drewN ?_ _ | refine blk_drew ?_ | refine blk_alloc ?_ _)); exact BK412.out) hb); have n4_ := Aside0.mk (below_step (by repeat (first | (with_reducible first | exact HB.out | apply below_alloc | apply pw_below_drewN | apply below_drew1 | refine below_set ?_ GE402.out | refine below_set ?_ GE403.out | refine below_set ?_ GE412.out) | exact HB.out)) hb); clear HO_56; clear BK402; clear BK403; clear BK412; clear HB; have HO_56 := n0_; have BK402 := n1_; have BK403 := n2_; have BK412 := n3_; have HB := n4_; clear n0_ n1_ n2_ n3_ n4_; (try clear hb); (try clear hb2); (try clear hk); (try clear hi)) | ((with_reducible refine gate_callee (f := 18) rfl ?_); refine goesL_ (some 68) rfl rfl Tryd.func18 (by kernel_rfl) rfl #[.string t418, .int .i64 t407, .int .i64 t411] rfl (by (try simp only [List.map_toArray, List.map_cons, List.map_nil]); first | done | rfl | (simp only [List.length_drop, List.length_take]; rfl)) ?_; (with_reducible refine (decklelaw05_turned.calls t418 t407 t411 t419 _ A34.out).mono ?_); rintro e w52 ⟨rfl, hb⟩; refine ⟨_, rfl, ?_⟩; have n0_ := Aside0.mk (Kd.R_below (by (with_reducible repeat (first | apply Kd.R_alloc | apply Kd.R_drewN | apply Kd.R_drew)); exact HO_56.out) hb); have n1_ := Aside0.mk (blk_below (g := gb402) (o := .cells #[.int .i64 a0_0, .int .i64 a0_1, .int .i64 a0_2, .int .i64 a0_3] 23 (0, 0)) (by (with_reducible repeat (first | refine blk_drewN ?_ _ | refine blk_drew ?_ | refine blk_alloc ?_ _)); exact BK402.out) hb); have n2_ := Aside0.mk (blk_below (g := gb403) (o := .cells #[.int .i64 a2_0, .int .i64 a2_1, .int .i64 a2_2, .int .i64 a2_3] 38 (0, 0)) (by (with_reducible repeat (first | refine blk_drewN ?_ _ | refine blk_drew ?_ | refine blk_alloc ?_ _)); exact BK403.out) hb); have n3_ := Aside0.mk (blk_below (g := gb412) (o := .cells #[.int .i64 4, .int .i64 0, .int .i64 0, .int .i64 0, .int .i64 0, .string (⟨#[]⟩ : ByteArray)] 30 (0, 0)) (by (with_reducible repeat (first | refine blk_drewN ?_ _ | refine blk_drew ?_ | refine blk_alloc ?_ _)); exact BK412.out) hb); have n4_ := Aside0.mk (below_step (by repeat (first | (with_reducible first | exact HB.out | apply below_alloc | apply pw_below_drewN | apply below_drew1 | refine below_set ?_ GE402.out | refine below_set ?_ GE403.out | refine below_set ?_ GE412.out) | exact HB.out)) hb); clear HO_56; clear BK402; clear BK403; clear BK412; clear HB; have HO_56 := n0_; have BK402 := n1_; have BK403 := n2_; have BK412 := n3_; have HB := n4_; clear n0_ n1_ n2_ n3_ n4_; (try clear hb); (try clear hb2); (try clear hk); (try clear hi)))
                      have n0_ := Aside0.mk (Kd.R_drew HO_56.out)
                      have n1_ := Aside0.mk (blk_drew BK402.out)
                      have n2_ := Aside0.mk (blk_drew BK403.out)
                      have n3_ := Aside0.mk (blk_drew BK412.out)
                      have n4_ := Aside0.mk (below_drew1 HB.out)
                      clear HO_56
                      clear BK402
                      clear BK403
                      clear BK412
                      clear HB
                      have HO_56 := n0_
                      have BK402 := n1_
                      have BK403 := n2_
                      have BK412 := n3_
                      have HB := n4_
                      clear n0_ n1_ n2_ n3_ n4_
                      refine start_ (n := 30) (S := fun w' => w'.cell? ⟨gb412, 0, none⟩ = some (.int .i64 4) ∧ w'.cell? ⟨gb412, 1, none⟩ = some (.int .i64 0) ∧ w'.cell? ⟨gb412, 2, none⟩ = some (.int .i64 0) ∧ w'.cell? ⟨gb412, 3, none⟩ = some (.int .i64 0) ∧ w'.cell? ⟨gb412, 4, none⟩ = some (.int .i64 0) ∧ w'.cell? ⟨gb412, 5, none⟩ = some (.string (⟨#[]⟩ : ByteArray)) ∧ w'.cell? ⟨gb403, 0, none⟩ = some (.int .i64 a2_0) ∧ w'.cell? ⟨gb403, 1, none⟩ = some (.int .i64 a2_1) ∧ w'.cell? ⟨gb403, 2, none⟩ = some (.int .i64 a2_2) ∧ w'.cell? ⟨gb403, 3, none⟩ = some (.int .i64 a2_3)) (ds := []) (tfA 0 30) (by kernel_rfl) rfl rfl ⟨(blk_cell BK412.out 0).trans rfl, (blk_cell BK412.out 1).trans rfl, (blk_cell BK412.out 2).trans rfl, (blk_cell BK412.out 3).trans rfl, (blk_cell BK412.out 4).trans rfl, (blk_cell BK412.out 5).trans rfl, (blk_cell BK403.out 0).trans rfl, (blk_cell BK403.out 1).trans rfl, (blk_cell BK403.out 2).trans rfl, (blk_cell BK403.out 3).trans rfl⟩ (fun hHeld => ?_); refine with_tabW decklelaw05_FrameTells.tab15 decklelaw05_FrameTells.bits15 (fun HT_ HW_ => ?_)
                      generalize w52.drew = w53 at HO_56 BK402 BK403 BK412 HB hHeld ⊢
                      refine pure_ (i := 0) (N := some 69) (v := ?_) (a' := ?_) (tfA 1 30) rfl rfl (any_of HT_.out (by kernel_rfl)) (fun _ _ _ h => h) (Or.inl ⟨by rfl, ?_⟩) ?_ ?_
                      rotate_left
                      · intro w'; go_simp; with_reducible rfl
                      rotate_left
                      · simp only [Act.put, sib, sc0, sc1, i64_w, i32_w]; rfl
                      refine take_ (i := 2) (N := some 71) (v := ?_) (a' := ?_) #[true, false, true, false, false, false, false, false, false, false, false, false, false, false, false, false, false, false, false, false, false, false, false, false, false, false, false, false, false, false] rfl rfl (take_ofW HT_.out HW_.out (by kernel_rfl)) (fun _ _ _ h => h) (Or.inl ⟨by rfl, ?_⟩) hHeld ?_ ?_
                      rotate_left
                      · rintro w' ⟨s0, s1, s2, s3, s4, s5, s6, s7, s8, s9⟩
                        go_simp
                        with_reducible rfl
                      rotate_left
                      · simp only [Act.put, sib, sc0, sc1, i64_w, i32_w]
                        rfl
                      refine one_ (i := 1) (N := some 70) (tfA 3 30) rfl rfl (one_of HT_.out (by kernel_rfl)) (by decide) (fun K hK => ?_)
                      refine goes_ Tryd.func12 (by kernel_rfl) rfl #[.string t419] (by rfl) rfl rfl (by (try simp only [List.map_toArray, List.map_cons, List.map_nil]); first | done | rfl | (simp only [List.length_drop, List.length_take]; rfl)) ?_
                      with_reducible refine (frame_Decode.calls t419 t420 t421 t422 t423 t424 t425 _ A35.out).mono ?_
                      rintro e w54 ⟨rfl, hb⟩
                      refine ⟨_, rfl, ?_⟩
                      have n0_ := Aside0.mk (Kd.R_below (by (with_reducible repeat (first | apply Kd.R_alloc | apply Kd.R_drewN | apply Kd.R_drew)); exact HO_56.out) hb)
                      have n1_ := Aside0.mk (blk_below (g := gb402) (o := .cells #[.int .i64 a0_0, .int .i64 a0_1, .int .i64 a0_2, .int .i64 a0_3] 23 (0, 0)) (by (with_reducible repeat (first | refine blk_drewN ?_ _ | refine blk_drew ?_ | refine blk_alloc ?_ _)); exact BK402.out) hb)
                      have n2_ := Aside0.mk (blk_below (g := gb403) (o := .cells #[.int .i64 a2_0, .int .i64 a2_1, .int .i64 a2_2, .int .i64 a2_3] 38 (0, 0)) (by (with_reducible repeat (first | refine blk_drewN ?_ _ | refine blk_drew ?_ | refine blk_alloc ?_ _)); exact BK403.out) hb)
                      have n3_ := Aside0.mk (blk_below (g := gb412) (o := .cells #[.int .i64 4, .int .i64 0, .int .i64 0, .int .i64 0, .int .i64 0, .string (⟨#[]⟩ : ByteArray)] 30 (0, 0)) (by (with_reducible repeat (first | refine blk_drewN ?_ _ | refine blk_drew ?_ | refine blk_alloc ?_ _)); exact BK412.out) hb)
                      have n4_ := Aside0.mk (below_step (by repeat (first | (with_reducible first | exact HB.out | apply below_alloc | apply pw_below_drewN | apply below_drew1 | refine below_set ?_ GE402.out | refine below_set ?_ GE403.out | refine below_set ?_ GE412.out) | exact HB.out)) hb)
                      clear HO_56
                      clear BK402
                      clear BK403
                      clear BK412
                      clear HB
                      have HO_56 := n0_
                      have BK402 := n1_
                      have BK403 := n2_
                      have BK412 := n3_
                      have HB := n4_
                      clear n0_ n1_ n2_ n3_ n4_
                      (try clear hb)
                      (try clear hb2)
                      (try clear hk)
                      (try clear hi)
                      refine hK.out _ _ ⟨(blk_cell BK412.out 0).trans rfl, (blk_cell BK412.out 1).trans rfl, (blk_cell BK412.out 2).trans rfl, (blk_cell BK412.out 3).trans rfl, (blk_cell BK412.out 4).trans rfl, (blk_cell BK412.out 5).trans rfl, (blk_cell BK403.out 0).trans rfl, (blk_cell BK403.out 1).trans rfl, (blk_cell BK403.out 2).trans rfl, (blk_cell BK403.out 3).trans rfl⟩ (fun hHeld => ?_)
                      clear hK K
                      refine norm_ (a' := ?_) ?_ ?_
                      rotate_left
                      · show Act.put _ (some 70) _ = _
                        simp only [Act.put, sib, sc0, sc1, i64_w, i32_w]
                        rfl
                      refine pure_ (i := 3) (N := some 72) (v := ?_) (a' := ?_) (tfA 4 30) rfl rfl (any_of HT_.out (by kernel_rfl)) (fun _ _ _ h => h) (Or.inl ⟨by rfl, ?_⟩) ?_ ?_
                      rotate_left
                      · intro w'; go_simp; with_reducible rfl
                      rotate_left
                      · simp only [Act.put, sib, sc0, sc1, i64_w, i32_w]; rfl
                      try simp only [isE_, c36b0, c41b0, c44b0, Bool.not_true, Bool.not_false]
                      refine pure_ (i := 4) (N := some 73) (v := ?_) (a' := ?_) (tfA 5 30) rfl rfl (any_of HT_.out (by kernel_rfl)) (fun _ _ _ h => h) (Or.inl ⟨by rfl, ?_⟩) ?_ ?_
                      rotate_left
                      · intro w'; go_simp; with_reducible rfl
                      rotate_left
                      · simp only [Act.put, sib, sc0, sc1, i64_w, i32_w]; rfl
                      refine pure_ (i := 5) (N := some 74) (v := ?_) (a' := ?_) (tfA 6 30) rfl rfl (any_of HT_.out (by kernel_rfl)) (fun _ _ _ h => h) (Or.inl ⟨by rfl, ?_⟩) ?_ ?_
                      rotate_left
                      · intro w'; go_simp; with_reducible rfl
                      rotate_left
                      · simp only [Act.put, sib, sc0, sc1, i64_w, i32_w]; rfl
                      refine pure_ (i := 6) (N := some 75) (v := ?_) (a' := ?_) (tfA 7 30) rfl rfl (any_of HT_.out (by kernel_rfl)) (fun _ _ _ h => h) (Or.inl ⟨by rfl, ?_⟩) ?_ ?_
                      rotate_left
                      · intro w'; go_simp; with_reducible rfl
                      rotate_left
                      · simp only [Act.put, sib, sc0, sc1, i64_w, i32_w]; rfl
                      refine pure_ (i := 7) (N := some 76) (v := ?_) (a' := ?_) (tfA 8 30) rfl rfl (any_of HT_.out (by kernel_rfl)) (fun _ _ _ h => h) (Or.inl ⟨by rfl, ?_⟩) ?_ ?_
                      rotate_left
                      · intro w'; go_simp; with_reducible rfl
                      rotate_left
                      · simp only [Act.put, sib, sc0, sc1, i64_w, i32_w]; rfl
                      try simp only [isE_, c36b0, c41b0, c44b0, Bool.not_true, Bool.not_false]
                      refine pure_ (i := 8) (N := some 77) (v := ?_) (a' := ?_) (tfA 9 30) rfl rfl (any_of HT_.out (by kernel_rfl)) (fun _ _ _ h => h) (Or.inl ⟨by rfl, ?_⟩) ?_ ?_
                      rotate_left
                      · intro w'; go_simp; with_reducible rfl
                      rotate_left
                      · simp only [Act.put, sib, sc0, sc1, i64_w, i32_w]; rfl
                      refine pure_ (i := 9) (N := some 78) (v := undef) (a' := ?_) (tfA 10 30) rfl rfl (any_of HT_.out (by kernel_rfl)) (fun _ _ _ h => h) (Or.inr ⟨by rfl, rfl⟩) ?_ ?_
                      rotate_left
                      · simp only [Act.put, sib, sc0, sc1, i64_w, i32_w]
                        rfl
                      refine pure_ (i := 10) (N := some 79) (v := undef) (a' := ?_) (tfA 11 30) rfl rfl (any_of HT_.out (by kernel_rfl)) (fun _ _ _ h => h) (Or.inr ⟨by rfl, rfl⟩) ?_ ?_
                      rotate_left
                      · simp only [Act.put, sib, sc0, sc1, i64_w, i32_w]
                        rfl
                      refine pure_ (i := 11) (N := some 80) (v := undef) (a' := ?_) (tfA 12 30) rfl rfl (any_of HT_.out (by kernel_rfl)) (fun _ _ _ h => h) (Or.inr ⟨by rfl, rfl⟩) ?_ ?_
                      rotate_left
                      · simp only [Act.put, sib, sc0, sc1, i64_w, i32_w]
                        rfl
                      refine pure_ (i := 12) (N := some 81) (v := undef) (a' := ?_) (tfA 13 30) rfl rfl (any_of HT_.out (by kernel_rfl)) (fun _ _ _ h => h) (Or.inr ⟨by rfl, rfl⟩) ?_ ?_
                      rotate_left
                      · simp only [Act.put, sib, sc0, sc1, i64_w, i32_w]
                        rfl
                      refine pure_ (i := 13) (N := some 82) (v := undef) (a' := ?_) (tfA 14 30) rfl rfl (any_of HT_.out (by kernel_rfl)) (fun _ _ _ h => h) (Or.inr ⟨by rfl, rfl⟩) ?_ ?_
                      rotate_left
                      · simp only [Act.put, sib, sc0, sc1, i64_w, i32_w]
                        rfl
                      refine pure_ (i := 14) (N := some 83) (v := undef) (a' := ?_) (tfA 15 30) rfl rfl (any_of HT_.out (by kernel_rfl)) (fun _ _ _ h => h) (Or.inr ⟨by rfl, rfl⟩) ?_ ?_
                      rotate_left
                      · simp only [Act.put, sib, sc0, sc1, i64_w, i32_w]
                        rfl
                      refine pure_ (i := 15) (N := some 84) (v := undef) (a' := ?_) (tfA 16 30) rfl rfl (any_of HT_.out (by kernel_rfl)) (fun _ _ _ h => h) (Or.inr ⟨by rfl, rfl⟩) ?_ ?_
                      rotate_left
                      · simp only [Act.put, sib, sc0, sc1, i64_w, i32_w]
                        rfl
                      refine pure_ (i := 16) (N := some 85) (v := undef) (a' := ?_) (tfA 17 30) rfl rfl (any_of HT_.out (by kernel_rfl)) (fun _ _ _ h => h) (Or.inr ⟨by rfl, rfl⟩) ?_ ?_
                      rotate_left
                      · simp only [Act.put, sib, sc0, sc1, i64_w, i32_w]
                        rfl
                      refine pure_ (i := 17) (N := some 86) (v := ?_) (a' := ?_) (tfA 18 30) rfl rfl (any_of HT_.out (by kernel_rfl)) (fun _ _ _ h => h) (Or.inl ⟨by rfl, ?_⟩) ?_ ?_
                      rotate_left
                      · intro w'; go_simp; with_reducible rfl
                      rotate_left
                      · simp only [Act.put, sib, sc0, sc1, i64_w, i32_w]; rfl
                      refine pure_ (i := 18) (N := some 87) (v := ?_) (a' := ?_) (tfA 19 30) rfl rfl (any_of HT_.out (by kernel_rfl)) (fun _ _ _ h => h) (Or.inl ⟨by rfl, ?_⟩) ?_ ?_
                      rotate_left
                      · intro w'; go_simp; with_reducible rfl
                      rotate_left
                      · simp only [Act.put, sib, sc0, sc1, i64_w, i32_w]; rfl
                      refine pure_ (i := 19) (N := some 88) (v := ?_) (a' := ?_) (tfA 20 30) rfl rfl (any_of HT_.out (by kernel_rfl)) (fun _ _ _ h => h) (Or.inl ⟨by rfl, ?_⟩) ?_ ?_
                      rotate_left
                      · intro w'; go_simp; with_reducible rfl
                      rotate_left
                      · simp only [Act.put, sib, sc0, sc1, i64_w, i32_w]; rfl
                      refine pure_ (i := 20) (N := some 89) (v := ?_) (a' := ?_) (tfA 21 30) rfl rfl (any_of HT_.out (by kernel_rfl)) (fun _ _ _ h => h) (Or.inl ⟨by rfl, ?_⟩) ?_ ?_
                      rotate_left
                      · intro w'; go_simp; with_reducible rfl
                      rotate_left
                      · simp only [Act.put, sib, sc0, sc1, i64_w, i32_w]; rfl
                      refine pure_ (i := 21) (N := some 90) (v := ?_) (a' := ?_) (tfA 22 30) rfl rfl (any_of HT_.out (by kernel_rfl)) (fun _ _ _ h => h) (Or.inl ⟨by rfl, ?_⟩) ?_ ?_
                      rotate_left
                      · intro w'; go_simp; with_reducible rfl
                      rotate_left
                      · simp only [Act.put, sib, sc0, sc1, i64_w, i32_w]; rfl
                      refine pure_ (i := 23) (N := some 92) (v := ?_) (a' := ?_) #[true, true, true, true, true, true, true, true, true, true, true, true, true, true, true, true, true, true, true, true, true, true, false, true, false, false, false, false, false, false] rfl rfl (any_of HT_.out (by kernel_rfl)) (fun _ _ _ h => h) (Or.inl ⟨by rfl, ?_⟩) ?_ ?_
                      rotate_left
                      · intro w'; go_simp; with_reducible rfl
                      rotate_left
                      · simp only [Act.put, sib, sc0, sc1, i64_w, i32_w]; rfl
                      refine take_ (i := 22) (N := some 91) (v := ?_) (a' := ?_) (tfA 24 30) rfl rfl (take_ofW HT_.out HW_.out (by kernel_rfl)) (fun _ _ _ h => h) (Or.inl ⟨by rfl, ?_⟩) hHeld ?_ ?_
                      rotate_left
                      · rintro w' ⟨s0, s1, s2, s3, s4, s5, s6, s7, s8, s9⟩
                        go_simp
                        with_reducible rfl
                      rotate_left
                      · simp only [Act.put, sib, sc0, sc1, i64_w, i32_w]
                        rfl
                      refine take_ (i := 24) (N := some 93) (v := ?_) (a' := ?_) (tfA 25 30) rfl rfl (take_ofW HT_.out HW_.out (by kernel_rfl)) (fun _ _ _ h => h) (Or.inl ⟨by rfl, ?_⟩) hHeld ?_ ?_
                      rotate_left
                      · rintro w' ⟨s0, s1, s2, s3, s4, s5, s6, s7, s8, s9⟩
                        go_simp
                        with_reducible rfl
                      rotate_left
                      · simp only [Act.put, sib, sc0, sc1, i64_w, i32_w]
                        rfl
                      refine take_ (i := 27) (N := some 96) (v := ?_) (a' := ?_) #[true, true, true, true, true, true, true, true, true, true, true, true, true, true, true, true, true, true, true, true, true, true, true, true, true, false, false, true, false, false] rfl rfl (take_ofW HT_.out HW_.out (by kernel_rfl)) (fun _ _ _ h => h) (Or.inl ⟨by rfl, ?_⟩) hHeld ?_ ?_
                      rotate_left
                      · rintro w' ⟨s0, s1, s2, s3, s4, s5, s6, s7, s8, s9⟩
                        go_simp
                        with_reducible rfl
                      rotate_left
                      · simp only [Act.put, sib, sc0, sc1, i64_w, i32_w]
                        rfl
                      refine one_ (i := 25) (N := some 94) #[true, true, true, true, true, true, true, true, true, true, true, true, true, true, true, true, true, true, true, true, true, true, true, true, true, true, false, true, false, false] rfl rfl (one_of HT_.out (by kernel_rfl)) (by decide) (fun K hK => ?_)
                      refine goes_ Tryd.func16 (by kernel_rfl) rfl #[.string (rdOf ByteArray.empty y414 x58_1), .int .i64 a2_1, .int .i64 a2_2] (by rfl) rfl rfl (by (try simp only [List.map_toArray, List.map_cons, List.map_nil]); first | done | rfl | (simp only [List.length_drop, List.length_take]; rfl)) ?_
                      with_reducible refine (frame_Hurt.calls (rdOf ByteArray.empty y414 x58_1) a2_1 a2_2 t426 _ A42.out).mono ?_
                      rintro e w55 ⟨rfl, hb⟩
                      refine ⟨_, rfl, ?_⟩
                      have n0_ := Aside0.mk (Kd.R_below (by (with_reducible repeat (first | apply Kd.R_alloc | apply Kd.R_drewN | apply Kd.R_drew)); exact HO_56.out) hb)
                      have n1_ := Aside0.mk (blk_below (g := gb402) (o := .cells #[.int .i64 a0_0, .int .i64 a0_1, .int .i64 a0_2, .int .i64 a0_3] 23 (0, 0)) (by (with_reducible repeat (first | refine blk_drewN ?_ _ | refine blk_drew ?_ | refine blk_alloc ?_ _)); exact BK402.out) hb)
                      have n2_ := Aside0.mk (blk_below (g := gb403) (o := .cells #[.int .i64 a2_0, .int .i64 a2_1, .int .i64 a2_2, .int .i64 a2_3] 38 (0, 0)) (by (with_reducible repeat (first | refine blk_drewN ?_ _ | refine blk_drew ?_ | refine blk_alloc ?_ _)); exact BK403.out) hb)
                      have n3_ := Aside0.mk (blk_below (g := gb412) (o := .cells #[.int .i64 4, .int .i64 0, .int .i64 0, .int .i64 0, .int .i64 0, .string (⟨#[]⟩ : ByteArray)] 30 (0, 0)) (by (with_reducible repeat (first | refine blk_drewN ?_ _ | refine blk_drew ?_ | refine blk_alloc ?_ _)); exact BK412.out) hb)
                      have n4_ := Aside0.mk (below_step (by repeat (first | (with_reducible first | exact HB.out | apply below_alloc | apply pw_below_drewN | apply below_drew1 | refine below_set ?_ GE402.out | refine below_set ?_ GE403.out | refine below_set ?_ GE412.out) | exact HB.out)) hb)
                      clear HO_56
                      clear BK402
                      clear BK403
                      clear BK412
                      clear HB
                      have HO_56 := n0_
                      have BK402 := n1_
                      have BK403 := n2_
                      have BK412 := n3_
                      have HB := n4_
                      clear n0_ n1_ n2_ n3_ n4_
                      (try clear hb)
                      (try clear hb2)
                      (try clear hk)
                      (try clear hi)
                      refine hK.out _ _ ⟨(blk_cell BK412.out 0).trans rfl, (blk_cell BK412.out 1).trans rfl, (blk_cell BK412.out 2).trans rfl, (blk_cell BK412.out 3).trans rfl, (blk_cell BK412.out 4).trans rfl, (blk_cell BK412.out 5).trans rfl, (blk_cell BK403.out 0).trans rfl, (blk_cell BK403.out 1).trans rfl, (blk_cell BK403.out 2).trans rfl, (blk_cell BK403.out 3).trans rfl⟩ (fun hHeld => ?_)
                      clear hK K
                      refine norm_ (a' := ?_) ?_ ?_
                      rotate_left
                      · show Act.put _ (some 94) _ = _
                        simp only [Act.put, sib, sc0, sc1, i64_w, i32_w]
                        rfl
                      refine one_ (i := 26) (N := some 95) (tfA 28 30) rfl rfl (one_of HT_.out (by kernel_rfl)) (by decide) (fun K hK => ?_)
                      refine goes_ Tryd.func12 (by kernel_rfl) rfl #[.string t426] (by rfl) rfl rfl (by (try simp only [List.map_toArray, List.map_cons, List.map_nil]); first | done | rfl | (simp only [List.length_drop, List.length_take]; rfl)) ?_
                      with_reducible refine (frame_Decode.calls t426 t427 t428 t429 t430 t431 t432 _ A43.out).mono ?_
                      rintro e w56 ⟨rfl, hb⟩
                      refine ⟨_, rfl, ?_⟩
                      have n0_ := Aside0.mk (Kd.R_below (by (with_reducible repeat (first | apply Kd.R_alloc | apply Kd.R_drewN | apply Kd.R_drew)); exact HO_56.out) hb)
                      have n1_ := Aside0.mk (blk_below (g := gb402) (o := .cells #[.int .i64 a0_0, .int .i64 a0_1, .int .i64 a0_2, .int .i64 a0_3] 23 (0, 0)) (by (with_reducible repeat (first | refine blk_drewN ?_ _ | refine blk_drew ?_ | refine blk_alloc ?_ _)); exact BK402.out) hb)
                      have n2_ := Aside0.mk (blk_below (g := gb403) (o := .cells #[.int .i64 a2_0, .int .i64 a2_1, .int .i64 a2_2, .int .i64 a2_3] 38 (0, 0)) (by (with_reducible repeat (first | refine blk_drewN ?_ _ | refine blk_drew ?_ | refine blk_alloc ?_ _)); exact BK403.out) hb)
                      have n3_ := Aside0.mk (blk_below (g := gb412) (o := .cells #[.int .i64 4, .int .i64 0, .int .i64 0, .int .i64 0, .int .i64 0, .string (⟨#[]⟩ : ByteArray)] 30 (0, 0)) (by (with_reducible repeat (first | refine blk_drewN ?_ _ | refine blk_drew ?_ | refine blk_alloc ?_ _)); exact BK412.out) hb)
                      have n4_ := Aside0.mk (below_step (by repeat (first | (with_reducible first | exact HB.out | apply below_alloc | apply pw_below_drewN | apply below_drew1 | refine below_set ?_ GE402.out | refine below_set ?_ GE403.out | refine below_set ?_ GE412.out) | exact HB.out)) hb)
                      clear HO_56
                      clear BK402
                      clear BK403
                      clear BK412
                      clear HB
                      have HO_56 := n0_
                      have BK402 := n1_
                      have BK403 := n2_
                      have BK412 := n3_
                      have HB := n4_
                      clear n0_ n1_ n2_ n3_ n4_
                      (try clear hb)
                      (try clear hb2)
                      (try clear hk)
                      (try clear hi)
                      refine hK.out _ _ ⟨(blk_cell BK412.out 0).trans rfl, (blk_cell BK412.out 1).trans rfl, (blk_cell BK412.out 2).trans rfl, (blk_cell BK412.out 3).trans rfl, (blk_cell BK412.out 4).trans rfl, (blk_cell BK412.out 5).trans rfl, (blk_cell BK403.out 0).trans rfl, (blk_cell BK403.out 1).trans rfl, (blk_cell BK403.out 2).trans rfl, (blk_cell BK403.out 3).trans rfl⟩ (fun hHeld => ?_)
                      clear hK K
                      refine norm_ (a' := ?_) ?_ ?_
                      rotate_left
                      · show Act.put _ (some 95) _ = _
                        simp only [Act.put, sib, sc0, sc1, i64_w, i32_w]
                        rfl
                      refine pure_ (i := 28) (N := some 97) (v := ?_) (a' := ?_) (tfA 29 30) rfl rfl (any_of HT_.out (by kernel_rfl)) (fun _ _ _ h => h) (Or.inl ⟨by rfl, ?_⟩) ?_ ?_
                      rotate_left
                      · intro w'; go_simp; with_reducible rfl
                      rotate_left
                      · simp only [Act.put, sib, sc0, sc1, i64_w, i32_w]; rfl
                      try simp only [isE_, c36b0, c41b0, c44b0, Bool.not_true, Bool.not_false]
                      refine pure_ (i := 29) (N := some 98) (v := ?_) (a' := ?_) (tfA 30 30) rfl rfl (any_of HT_.out (by kernel_rfl)) (fun _ _ _ h => h) (Or.inl ⟨by rfl, ?_⟩) ?_ ?_
                      rotate_left
                      · intro w'; go_simp; with_reducible rfl
                      rotate_left
                      · simp only [Act.put, sib, sc0, sc1, i64_w, i32_w]; rfl
                      refine done_ (done_of HT_.out (by kernel_rfl)) ?_
                      try go_wp2
                      go_roundg k1
                      case measure => have := HK1.out; omega
                      case rel => exact ⟨(wrap64 (x58_1 + 1)), (by first | rfl | (simp; done) | (simp [*]; done)), H', ⟨by have := HK1.out; omega⟩, ⟨by (with_reducible repeat (first | apply Kd.R_alloc | apply Kd.R_drewN | apply Kd.R_drew)); exact HO_56.out⟩, ⟨by (with_reducible repeat (first | refine blk_drewN ?_ _ | refine blk_drew ?_ | refine blk_alloc ?_ _)); exact BK402.out⟩, ⟨by (with_reducible repeat (first | refine blk_drewN ?_ _ | refine blk_drew ?_ | refine blk_alloc ?_ _)); exact BK403.out⟩, ⟨by (with_reducible repeat (first | refine blk_drewN ?_ _ | refine blk_drew ?_ | refine blk_alloc ?_ _)); exact BK412.out⟩, ⟨by repeat (first | (with_reducible first | exact HB.out | apply below_alloc | apply pw_below_drewN | apply below_drew1 | refine below_set ?_ GE402.out | refine below_set ?_ GE403.out | refine below_set ?_ GE412.out) | exact HB.out)⟩⟩
                  · rw [if_neg c41] at H
                    have c41b0 : (t408 == t407) = false := beq_eq_false_iff_ne.mpr c41
                    have c41b1 : (t408 != t407) = true := bne_iff_ne.mpr c41
                    replace H := Option.bind_eq_some_iff.mp H
                    obtain ⟨t433, A570, H⟩ := H
                    replace H : ((frame_Decode.f t433).bind fun bt434 => (if (!(bt434.1 == 4) || ((!(bt434.2.1 == 0) || (!(bt434.2.2.1 == 0) || (!(bt434.2.2.2.1 == 0) || (!(bt434.2.2.2.2.1 == 0))))) || (!(bt434.2.2.2.2.2.toList == (⟨#[]⟩ : ByteArray).toList)))) = true then (some false) else ((frame_Hurt.f (rdOf ByteArray.empty y414 x58_1) a2_1 a2_2).bind fun t440 => ((frame_Decode.f t440).bind fun bt441 => (if (!(bt441.1 == 4) || ((!(bt441.2.1 == 0) || (!(bt441.2.2.1 == 0) || (!(bt441.2.2.2.1 == 0) || (!(bt441.2.2.2.2.1 == 0))))) || (!(bt441.2.2.2.2.2.toList == (⟨#[]⟩ : ByteArray).toList)))) = true then (some false) else (decklelaw05_FrameTells.l0 k1 t407 t408 t409 t411 y414 (y414.length : Int) (wrap64 (x58_1 + 1)) a2_0 a2_1 a2_2 a2_3 4 0 0 0 0 (⟨#[]⟩ : ByteArray))))))) = some true := H
                    have A57 := Aside0.mk A570
                    clear A570
                    replace H := Option.bind_eq_some_iff.mp H
                    obtain ⟨⟨t434, t435, t436, t437, t438, t439⟩, A580, H⟩ := H
                    replace H : (if (!(t434 == 4) || ((!(t435 == 0) || (!(t436 == 0) || (!(t437 == 0) || (!(t438 == 0))))) || (!(t439.toList == (⟨#[]⟩ : ByteArray).toList)))) = true then (some false) else ((frame_Hurt.f (rdOf ByteArray.empty y414 x58_1) a2_1 a2_2).bind fun t440 => ((frame_Decode.f t440).bind fun bt441 => (if (!(bt441.1 == 4) || ((!(bt441.2.1 == 0) || (!(bt441.2.2.1 == 0) || (!(bt441.2.2.2.1 == 0) || (!(bt441.2.2.2.2.1 == 0))))) || (!(bt441.2.2.2.2.2.toList == (⟨#[]⟩ : ByteArray).toList)))) = true then (some false) else (decklelaw05_FrameTells.l0 k1 t407 t408 t409 t411 y414 (y414.length : Int) (wrap64 (x58_1 + 1)) a2_0 a2_1 a2_2 a2_3 4 0 0 0 0 (⟨#[]⟩ : ByteArray)))))) = some true := H
                    have A58 := Aside0.mk A580
                    clear A580
                    by_cases c59 : (!(t434 == 4) || ((!(t435 == 0) || (!(t436 == 0) || (!(t437 == 0) || (!(t438 == 0))))) || (!(t439.toList == (⟨#[]⟩ : ByteArray).toList)))) = true
                    · rw [if_pos c59] at H
                      have c59b0 : (!(t434 == 4) || ((!(t435 == 0) || (!(t436 == 0) || (!(t437 == 0) || (!(t438 == 0))))) || (!(t439.toList == (⟨#[]⟩ : ByteArray).toList)))) = true := c59
                      clear c59
                      exact absurd (Option.some.inj H) (by decide)
                    · rw [if_neg c59] at H
                      have c59b0 : (!(t434 == 4) || ((!(t435 == 0) || (!(t436 == 0) || (!(t437 == 0) || (!(t438 == 0))))) || (!(t439.toList == (⟨#[]⟩ : ByteArray).toList)))) = false := by simpa using c59
                      clear c59
                      replace H := Option.bind_eq_some_iff.mp H
                      obtain ⟨t440, A660, H⟩ := H
                      replace H : ((frame_Decode.f t440).bind fun bt441 => (if (!(bt441.1 == 4) || ((!(bt441.2.1 == 0) || (!(bt441.2.2.1 == 0) || (!(bt441.2.2.2.1 == 0) || (!(bt441.2.2.2.2.1 == 0))))) || (!(bt441.2.2.2.2.2.toList == (⟨#[]⟩ : ByteArray).toList)))) = true then (some false) else (decklelaw05_FrameTells.l0 k1 t407 t408 t409 t411 y414 (y414.length : Int) (wrap64 (x58_1 + 1)) a2_0 a2_1 a2_2 a2_3 4 0 0 0 0 (⟨#[]⟩ : ByteArray)))) = some true := H
                      have A66 := Aside0.mk A660
                      clear A660
                      replace H := Option.bind_eq_some_iff.mp H
                      obtain ⟨⟨t441, t442, t443, t444, t445, t446⟩, A670, H⟩ := H
                      replace H : (if (!(t441 == 4) || ((!(t442 == 0) || (!(t443 == 0) || (!(t444 == 0) || (!(t445 == 0))))) || (!(t446.toList == (⟨#[]⟩ : ByteArray).toList)))) = true then (some false) else (decklelaw05_FrameTells.l0 k1 t407 t408 t409 t411 y414 (y414.length : Int) (wrap64 (x58_1 + 1)) a2_0 a2_1 a2_2 a2_3 4 0 0 0 0 (⟨#[]⟩ : ByteArray))) = some true := H
                      have A67 := Aside0.mk A670
                      clear A670
                      by_cases c68 : (!(t441 == 4) || ((!(t442 == 0) || (!(t443 == 0) || (!(t444 == 0) || (!(t445 == 0))))) || (!(t446.toList == (⟨#[]⟩ : ByteArray).toList)))) = true
                      · rw [if_pos c68] at H
                        have c68b0 : (!(t441 == 4) || ((!(t442 == 0) || (!(t443 == 0) || (!(t444 == 0) || (!(t445 == 0))))) || (!(t446.toList == (⟨#[]⟩ : ByteArray).toList)))) = true := c68
                        clear c68
                        exact absurd (Option.some.inj H) (by decide)
                      · rw [if_neg c68] at H
                        have c68b0 : (!(t441 == 4) || ((!(t442 == 0) || (!(t443 == 0) || (!(t444 == 0) || (!(t445 == 0))))) || (!(t446.toList == (⟨#[]⟩ : ByteArray).toList)))) = false := by simpa using c68
                        clear c68
                        have H' := Aside0.mk H
                        clear H
                        have p417 : 0 ≤ (x58_1 : Int) := of_decide_eq_true (by first | (with_reducible assumption) | assumption)
                        have q417 : x58_1 < (y414.length : Int) := of_decide_eq_true (by first | (with_reducible assumption) | assumption)
                        obtain ⟨ad417, e417, hx417_0⟩ := Kd.at_string (Kd.R_reads' HO_56.out).2.2 x58_1 p417 q417
                        cases e417
                        replace p417 := eq_true p417
                        replace q417 := eq_true q417
                        try go_wp2_with (first | ((with_reducible refine gate_callee (f := 18) rfl ?_); refine goesL_ (some 65) rfl rfl Tryd.func18 (by kernel_rfl) rfl #[.string (rdOf ByteArray.empty y414 x58_1), .int .i64 t407, .int .i64 t409] rfl (by (try simp only [List.map_toArray, List.map_cons, List.map_nil]); first | done | rfl | (simp only [List.length_drop, List.length_take]; rfl)) ?_; (with_reducible refine (decklelaw05_turned.calls (rdOf ByteArray.empty y414 x58_1) t407 t409 t418 _ A33.out).mono ?_); rintro e w77 ⟨rfl, hb⟩; refine ⟨_, rfl, ?_⟩; have n0_ := Aside0.mk (Kd.R_below (by (with_reducible repeat (first | apply Kd.R_alloc | apply Kd.R_drewN | apply Kd.R_drew)); exact HO_56.out) hb); have n1_ := Aside0.mk (blk_below (g := gb402) (o := .cells #[.int .i64 a0_0, .int .i64 a0_1, .int .i64 a0_2, .int .i64 a0_3] 23 (0, 0)) (by (with_reducible repeat (first | refine blk_drewN ?_ _ | refine blk_drew ?_ | refine blk_alloc ?_ _)); exact BK402.out) hb); have n2_ := Aside0.mk (blk_below (g := gb403) (o := .cells #[.int .i64 a2_0, .int .i64 a2_1, .int .i64 a2_2, .int .i64 a2_3] 38 (0, 0)) (by (with_reducible repeat (first | refine blk_drewN ?_ _ | refine blk_drew ?_ | refine blk_alloc ?_ _)); exact BK403.out) hb); have n3_ := Aside0.mk (blk_below (g := gb412) (o := .cells #[.int .i64 4, .int .i64 0, .int .i64 0, .int .i64 0, .int .i64 0, .string (⟨#[]⟩ : ByteArray)] 30 (0, 0)) (by (with_reducible repeat (first | refine blk_drewN ?_ _ | refine blk_drew ?_ | refine blk_alloc ?_ _)); exact BK412.out) hb); have n4_ := Aside0.mk (below_step (by repeat (first | (with_reducible first | exact HB.out | apply below_alloc | apply pw_below_drewN | apply below_drew1 | refine below_set ?_ GE402.out | refine below_set ?_ GE403.out | refine below_set ?_ GE412.out) | exact HB.out)) hb); clear HO_56; clear BK402; clear BK403; clear BK412; clear HB; have HO_56 := n0_; have BK402 := n1_; have BK403 := n2_; have BK412 := n3_; have HB := n4_; clear n0_ n1_ n2_ n3_ n4_; (try clear hb); (try clear hb2); (try clear hk); (try clear hi)) | ((with_reducible refine gate_callee (f := 18) rfl ?_); refine goesL_ (some 68) rfl rfl Tryd.func18 (by kernel_rfl) rfl #[.string t418, .int .i64 t407, .int .i64 t411] rfl (by (try simp only [List.map_toArray, List.map_cons, List.map_nil]); first | done | rfl | (simp only [List.length_drop, List.length_take]; rfl)) ?_; (with_reducible refine (decklelaw05_turned.calls t418 t407 t411 t419 _ A34.out).mono ?_); rintro e w78 ⟨rfl, hb⟩; refine ⟨_, rfl, ?_⟩; have n0_ := Aside0.mk (Kd.R_below (by (with_reducible repeat (first | apply Kd.R_alloc | apply Kd.R_drewN | apply Kd.R_drew)); exact HO_56.out) hb); have n1_ := Aside0.mk (blk_below (g := gb402) (o := .cells #[.int .i64 a0_0, .int .i64 a0_1, .int .i64 a0_2, .int .i64 a0_3] 23 (0, 0)) (by (with_reducible repeat (first | refine blk_drewN ?_ _ | refine blk_drew ?_ | refine blk_alloc ?_ _)); exact BK402.out) hb); have n2_ := Aside0.mk (blk_below (g := gb403) (o := .cells #[.int .i64 a2_0, .int .i64 a2_1, .int .i64 a2_2, .int .i64 a2_3] 38 (0, 0)) (by (with_reducible repeat (first | refine blk_drewN ?_ _ | refine blk_drew ?_ | refine blk_alloc ?_ _)); exact BK403.out) hb); have n3_ := Aside0.mk (blk_below (g := gb412) (o := .cells #[.int .i64 4, .int .i64 0, .int .i64 0, .int .i64 0, .int .i64 0, .string (⟨#[]⟩ : ByteArray)] 30 (0, 0)) (by (with_reducible repeat (first | refine blk_drewN ?_ _ | refine blk_drew ?_ | refine blk_alloc ?_ _)); exact BK412.out) hb); have n4_ := Aside0.mk (below_step (by repeat (first | (with_reducible first | exact HB.out | apply below_alloc | apply pw_below_drewN | apply below_drew1 | refine below_set ?_ GE402.out | refine below_set ?_ GE403.out | refine below_set ?_ GE412.out) | exact HB.out)) hb); clear HO_56; clear BK402; clear BK403; clear BK412; clear HB; have HO_56 := n0_; have BK402 := n1_; have BK403 := n2_; have BK412 := n3_; have HB := n4_; clear n0_ n1_ n2_ n3_ n4_; (try clear hb); (try clear hb2); (try clear hk); (try clear hi)))
                        have n0_ := Aside0.mk (Kd.R_drew HO_56.out)
                        have n1_ := Aside0.mk (blk_drew BK402.out)
                        have n2_ := Aside0.mk (blk_drew BK403.out)
                        have n3_ := Aside0.mk (blk_drew BK412.out)
                        have n4_ := Aside0.mk (below_drew1 HB.out)
                        clear HO_56
                        clear BK402
                        clear BK403
                        clear BK412
                        clear HB
                        have HO_56 := n0_
                        have BK402 := n1_
                        have BK403 := n2_
                        have BK412 := n3_
                        have HB := n4_
                        clear n0_ n1_ n2_ n3_ n4_
                        refine start_ (n := 30) (S := fun w' => w'.cell? ⟨gb412, 0, none⟩ = some (.int .i64 4) ∧ w'.cell? ⟨gb412, 1, none⟩ = some (.int .i64 0) ∧ w'.cell? ⟨gb412, 2, none⟩ = some (.int .i64 0) ∧ w'.cell? ⟨gb412, 3, none⟩ = some (.int .i64 0) ∧ w'.cell? ⟨gb412, 4, none⟩ = some (.int .i64 0) ∧ w'.cell? ⟨gb412, 5, none⟩ = some (.string (⟨#[]⟩ : ByteArray)) ∧ w'.cell? ⟨gb403, 0, none⟩ = some (.int .i64 a2_0) ∧ w'.cell? ⟨gb403, 1, none⟩ = some (.int .i64 a2_1) ∧ w'.cell? ⟨gb403, 2, none⟩ = some (.int .i64 a2_2) ∧ w'.cell? ⟨gb403, 3, none⟩ = some (.int .i64 a2_3)) (ds := []) (tfA 0 30) (by kernel_rfl) rfl rfl ⟨(blk_cell BK412.out 0).trans rfl, (blk_cell BK412.out 1).trans rfl, (blk_cell BK412.out 2).trans rfl, (blk_cell BK412.out 3).trans rfl, (blk_cell BK412.out 4).trans rfl, (blk_cell BK412.out 5).trans rfl, (blk_cell BK403.out 0).trans rfl, (blk_cell BK403.out 1).trans rfl, (blk_cell BK403.out 2).trans rfl, (blk_cell BK403.out 3).trans rfl⟩ (fun hHeld => ?_); refine with_tabW decklelaw05_FrameTells.tab15 decklelaw05_FrameTells.bits15 (fun HT_ HW_ => ?_)
                        generalize w78.drew = w79 at HO_56 BK402 BK403 BK412 HB hHeld ⊢
                        refine pure_ (i := 0) (N := some 69) (v := ?_) (a' := ?_) (tfA 1 30) rfl rfl (any_of HT_.out (by kernel_rfl)) (fun _ _ _ h => h) (Or.inl ⟨by rfl, ?_⟩) ?_ ?_
                        rotate_left
                        · intro w'; go_simp; with_reducible rfl
                        rotate_left
                        · simp only [Act.put, sib, sc0, sc1, i64_w, i32_w]; rfl
                        refine take_ (i := 2) (N := some 71) (v := ?_) (a' := ?_) #[true, false, true, false, false, false, false, false, false, false, false, false, false, false, false, false, false, false, false, false, false, false, false, false, false, false, false, false, false, false] rfl rfl (take_ofW HT_.out HW_.out (by kernel_rfl)) (fun _ _ _ h => h) (Or.inl ⟨by rfl, ?_⟩) hHeld ?_ ?_
                        rotate_left
                        · rintro w' ⟨s0, s1, s2, s3, s4, s5, s6, s7, s8, s9⟩
                          go_simp
                          with_reducible rfl
                        rotate_left
                        · simp only [Act.put, sib, sc0, sc1, i64_w, i32_w]
                          rfl
                        refine one_ (i := 1) (N := some 70) (tfA 3 30) rfl rfl (one_of HT_.out (by kernel_rfl)) (by decide) (fun K hK => ?_)
                        refine goes_ Tryd.func12 (by kernel_rfl) rfl #[.string t419] (by rfl) rfl rfl (by (try simp only [List.map_toArray, List.map_cons, List.map_nil]); first | done | rfl | (simp only [List.length_drop, List.length_take]; rfl)) ?_
                        with_reducible refine (frame_Decode.calls t419 t420 t421 t422 t423 t424 t425 _ A35.out).mono ?_
                        rintro e w80 ⟨rfl, hb⟩
                        refine ⟨_, rfl, ?_⟩
                        have n0_ := Aside0.mk (Kd.R_below (by (with_reducible repeat (first | apply Kd.R_alloc | apply Kd.R_drewN | apply Kd.R_drew)); exact HO_56.out) hb)
                        have n1_ := Aside0.mk (blk_below (g := gb402) (o := .cells #[.int .i64 a0_0, .int .i64 a0_1, .int .i64 a0_2, .int .i64 a0_3] 23 (0, 0)) (by (with_reducible repeat (first | refine blk_drewN ?_ _ | refine blk_drew ?_ | refine blk_alloc ?_ _)); exact BK402.out) hb)
                        have n2_ := Aside0.mk (blk_below (g := gb403) (o := .cells #[.int .i64 a2_0, .int .i64 a2_1, .int .i64 a2_2, .int .i64 a2_3] 38 (0, 0)) (by (with_reducible repeat (first | refine blk_drewN ?_ _ | refine blk_drew ?_ | refine blk_alloc ?_ _)); exact BK403.out) hb)
                        have n3_ := Aside0.mk (blk_below (g := gb412) (o := .cells #[.int .i64 4, .int .i64 0, .int .i64 0, .int .i64 0, .int .i64 0, .string (⟨#[]⟩ : ByteArray)] 30 (0, 0)) (by (with_reducible repeat (first | refine blk_drewN ?_ _ | refine blk_drew ?_ | refine blk_alloc ?_ _)); exact BK412.out) hb)
                        have n4_ := Aside0.mk (below_step (by repeat (first | (with_reducible first | exact HB.out | apply below_alloc | apply pw_below_drewN | apply below_drew1 | refine below_set ?_ GE402.out | refine below_set ?_ GE403.out | refine below_set ?_ GE412.out) | exact HB.out)) hb)
                        clear HO_56
                        clear BK402
                        clear BK403
                        clear BK412
                        clear HB
                        have HO_56 := n0_
                        have BK402 := n1_
                        have BK403 := n2_
                        have BK412 := n3_
                        have HB := n4_
                        clear n0_ n1_ n2_ n3_ n4_
                        (try clear hb)
                        (try clear hb2)
                        (try clear hk)
                        (try clear hi)
                        refine hK.out _ _ ⟨(blk_cell BK412.out 0).trans rfl, (blk_cell BK412.out 1).trans rfl, (blk_cell BK412.out 2).trans rfl, (blk_cell BK412.out 3).trans rfl, (blk_cell BK412.out 4).trans rfl, (blk_cell BK412.out 5).trans rfl, (blk_cell BK403.out 0).trans rfl, (blk_cell BK403.out 1).trans rfl, (blk_cell BK403.out 2).trans rfl, (blk_cell BK403.out 3).trans rfl⟩ (fun hHeld => ?_)
                        clear hK K
                        refine norm_ (a' := ?_) ?_ ?_
                        rotate_left
                        · show Act.put _ (some 70) _ = _
                          simp only [Act.put, sib, sc0, sc1, i64_w, i32_w]
                          rfl
                        refine pure_ (i := 3) (N := some 72) (v := ?_) (a' := ?_) (tfA 4 30) rfl rfl (any_of HT_.out (by kernel_rfl)) (fun _ _ _ h => h) (Or.inl ⟨by rfl, ?_⟩) ?_ ?_
                        rotate_left
                        · intro w'; go_simp; with_reducible rfl
                        rotate_left
                        · simp only [Act.put, sib, sc0, sc1, i64_w, i32_w]; rfl
                        try simp only [isE_, c36b0, c41b0, c59b0, c68b0, Bool.not_true, Bool.not_false]
                        refine pure_ (i := 4) (N := some 73) (v := ?_) (a' := ?_) (tfA 5 30) rfl rfl (any_of HT_.out (by kernel_rfl)) (fun _ _ _ h => h) (Or.inl ⟨by rfl, ?_⟩) ?_ ?_
                        rotate_left
                        · intro w'; go_simp; with_reducible rfl
                        rotate_left
                        · simp only [Act.put, sib, sc0, sc1, i64_w, i32_w]; rfl
                        refine pure_ (i := 5) (N := some 74) (v := ?_) (a' := ?_) (tfA 6 30) rfl rfl (any_of HT_.out (by kernel_rfl)) (fun _ _ _ h => h) (Or.inl ⟨by rfl, ?_⟩) ?_ ?_
                        rotate_left
                        · intro w'; go_simp; with_reducible rfl
                        rotate_left
                        · simp only [Act.put, sib, sc0, sc1, i64_w, i32_w]; rfl
                        refine pure_ (i := 6) (N := some 75) (v := ?_) (a' := ?_) (tfA 7 30) rfl rfl (any_of HT_.out (by kernel_rfl)) (fun _ _ _ h => h) (Or.inl ⟨by rfl, ?_⟩) ?_ ?_
                        rotate_left
                        · intro w'; go_simp; with_reducible rfl
                        rotate_left
                        · simp only [Act.put, sib, sc0, sc1, i64_w, i32_w]; rfl
                        refine pure_ (i := 7) (N := some 76) (v := ?_) (a' := ?_) (tfA 8 30) rfl rfl (any_of HT_.out (by kernel_rfl)) (fun _ _ _ h => h) (Or.inl ⟨by rfl, ?_⟩) ?_ ?_
                        rotate_left
                        · intro w'; go_simp; with_reducible rfl
                        rotate_left
                        · simp only [Act.put, sib, sc0, sc1, i64_w, i32_w]; rfl
                        try simp only [isE_, c36b0, c41b0, c59b0, c68b0, Bool.not_true, Bool.not_false]
                        refine pure_ (i := 8) (N := some 77) (v := ?_) (a' := ?_) (tfA 9 30) rfl rfl (any_of HT_.out (by kernel_rfl)) (fun _ _ _ h => h) (Or.inl ⟨by rfl, ?_⟩) ?_ ?_
                        rotate_left
                        · intro w'; go_simp; with_reducible rfl
                        rotate_left
                        · simp only [Act.put, sib, sc0, sc1, i64_w, i32_w]; rfl
                        refine pure_ (i := 9) (N := some 78) (v := ?_) (a' := ?_) (tfA 10 30) rfl rfl (any_of HT_.out (by kernel_rfl)) (fun _ _ _ h => h) (Or.inl ⟨by rfl, ?_⟩) ?_ ?_
                        rotate_left
                        · intro w'; go_simp; with_reducible rfl
                        rotate_left
                        · simp only [Act.put, sib, sc0, sc1, i64_w, i32_w]; rfl
                        refine pure_ (i := 10) (N := some 79) (v := ?_) (a' := ?_) (tfA 11 30) rfl rfl (any_of HT_.out (by kernel_rfl)) (fun _ _ _ h => h) (Or.inl ⟨by rfl, ?_⟩) ?_ ?_
                        rotate_left
                        · intro w'; go_simp; with_reducible rfl
                        rotate_left
                        · simp only [Act.put, sib, sc0, sc1, i64_w, i32_w]; rfl
                        refine pure_ (i := 11) (N := some 80) (v := ?_) (a' := ?_) (tfA 12 30) rfl rfl (any_of HT_.out (by kernel_rfl)) (fun _ _ _ h => h) (Or.inl ⟨by rfl, ?_⟩) ?_ ?_
                        rotate_left
                        · intro w'; go_simp; with_reducible rfl
                        rotate_left
                        · simp only [Act.put, sib, sc0, sc1, i64_w, i32_w]; rfl
                        refine take_ (i := 12) (N := some 81) (v := ?_) (a' := ?_) (tfA 13 30) rfl rfl (take_ofW HT_.out HW_.out (by kernel_rfl)) (fun _ _ _ h => h) (Or.inl ⟨by rfl, ?_⟩) hHeld ?_ ?_
                        rotate_left
                        · rintro w' ⟨s0, s1, s2, s3, s4, s5, s6, s7, s8, s9⟩
                          go_simp
                          with_reducible rfl
                        rotate_left
                        · simp only [Act.put, sib, sc0, sc1, i64_w, i32_w]
                          rfl
                        refine take_ (i := 15) (N := some 84) (v := ?_) (a' := ?_) #[true, true, true, true, true, true, true, true, true, true, true, true, true, false, false, true, false, false, false, false, false, false, false, false, false, false, false, false, false, false] rfl rfl (take_ofW HT_.out HW_.out (by kernel_rfl)) (fun _ _ _ h => h) (Or.inl ⟨by rfl, ?_⟩) hHeld ?_ ?_
                        rotate_left
                        · rintro w' ⟨s0, s1, s2, s3, s4, s5, s6, s7, s8, s9⟩
                          go_simp
                          with_reducible rfl
                        rotate_left
                        · simp only [Act.put, sib, sc0, sc1, i64_w, i32_w]
                          rfl
                        refine one_ (i := 13) (N := some 82) #[true, true, true, true, true, true, true, true, true, true, true, true, true, true, false, true, false, false, false, false, false, false, false, false, false, false, false, false, false, false] rfl rfl (one_of HT_.out (by kernel_rfl)) (by decide) (fun K hK => ?_)
                        refine goes_ Tryd.func18 (by kernel_rfl) rfl #[.string t419, .int .i64 t408, .int .i64 a2_1] (by rfl) rfl rfl (by (try simp only [List.map_toArray, List.map_cons, List.map_nil]); first | done | rfl | (simp only [List.length_drop, List.length_take]; rfl)) ?_
                        with_reducible refine (decklelaw05_turned.calls t419 t408 a2_1 t433 _ A57.out).mono ?_
                        rintro e w81 ⟨rfl, hb⟩
                        refine ⟨_, rfl, ?_⟩
                        have n0_ := Aside0.mk (Kd.R_below (by (with_reducible repeat (first | apply Kd.R_alloc | apply Kd.R_drewN | apply Kd.R_drew)); exact HO_56.out) hb)
                        have n1_ := Aside0.mk (blk_below (g := gb402) (o := .cells #[.int .i64 a0_0, .int .i64 a0_1, .int .i64 a0_2, .int .i64 a0_3] 23 (0, 0)) (by (with_reducible repeat (first | refine blk_drewN ?_ _ | refine blk_drew ?_ | refine blk_alloc ?_ _)); exact BK402.out) hb)
                        have n2_ := Aside0.mk (blk_below (g := gb403) (o := .cells #[.int .i64 a2_0, .int .i64 a2_1, .int .i64 a2_2, .int .i64 a2_3] 38 (0, 0)) (by (with_reducible repeat (first | refine blk_drewN ?_ _ | refine blk_drew ?_ | refine blk_alloc ?_ _)); exact BK403.out) hb)
                        have n3_ := Aside0.mk (blk_below (g := gb412) (o := .cells #[.int .i64 4, .int .i64 0, .int .i64 0, .int .i64 0, .int .i64 0, .string (⟨#[]⟩ : ByteArray)] 30 (0, 0)) (by (with_reducible repeat (first | refine blk_drewN ?_ _ | refine blk_drew ?_ | refine blk_alloc ?_ _)); exact BK412.out) hb)
                        have n4_ := Aside0.mk (below_step (by repeat (first | (with_reducible first | exact HB.out | apply below_alloc | apply pw_below_drewN | apply below_drew1 | refine below_set ?_ GE402.out | refine below_set ?_ GE403.out | refine below_set ?_ GE412.out) | exact HB.out)) hb)
                        clear HO_56
                        clear BK402
                        clear BK403
                        clear BK412
                        clear HB
                        have HO_56 := n0_
                        have BK402 := n1_
                        have BK403 := n2_
                        have BK412 := n3_
                        have HB := n4_
                        clear n0_ n1_ n2_ n3_ n4_
                        (try clear hb)
                        (try clear hb2)
                        (try clear hk)
                        (try clear hi)
                        refine hK.out _ _ ⟨(blk_cell BK412.out 0).trans rfl, (blk_cell BK412.out 1).trans rfl, (blk_cell BK412.out 2).trans rfl, (blk_cell BK412.out 3).trans rfl, (blk_cell BK412.out 4).trans rfl, (blk_cell BK412.out 5).trans rfl, (blk_cell BK403.out 0).trans rfl, (blk_cell BK403.out 1).trans rfl, (blk_cell BK403.out 2).trans rfl, (blk_cell BK403.out 3).trans rfl⟩ (fun hHeld => ?_)
                        clear hK K
                        refine norm_ (a' := ?_) ?_ ?_
                        rotate_left
                        · show Act.put _ (some 82) _ = _
                          simp only [Act.put, sib, sc0, sc1, i64_w, i32_w]
                          rfl
                        refine one_ (i := 14) (N := some 83) (tfA 16 30) rfl rfl (one_of HT_.out (by kernel_rfl)) (by decide) (fun K hK => ?_)
                        refine goes_ Tryd.func12 (by kernel_rfl) rfl #[.string t433] (by rfl) rfl rfl (by (try simp only [List.map_toArray, List.map_cons, List.map_nil]); first | done | rfl | (simp only [List.length_drop, List.length_take]; rfl)) ?_
                        with_reducible refine (frame_Decode.calls t433 t434 t435 t436 t437 t438 t439 _ A58.out).mono ?_
                        rintro e w82 ⟨rfl, hb⟩
                        refine ⟨_, rfl, ?_⟩
                        have n0_ := Aside0.mk (Kd.R_below (by (with_reducible repeat (first | apply Kd.R_alloc | apply Kd.R_drewN | apply Kd.R_drew)); exact HO_56.out) hb)
                        have n1_ := Aside0.mk (blk_below (g := gb402) (o := .cells #[.int .i64 a0_0, .int .i64 a0_1, .int .i64 a0_2, .int .i64 a0_3] 23 (0, 0)) (by (with_reducible repeat (first | refine blk_drewN ?_ _ | refine blk_drew ?_ | refine blk_alloc ?_ _)); exact BK402.out) hb)
                        have n2_ := Aside0.mk (blk_below (g := gb403) (o := .cells #[.int .i64 a2_0, .int .i64 a2_1, .int .i64 a2_2, .int .i64 a2_3] 38 (0, 0)) (by (with_reducible repeat (first | refine blk_drewN ?_ _ | refine blk_drew ?_ | refine blk_alloc ?_ _)); exact BK403.out) hb)
                        have n3_ := Aside0.mk (blk_below (g := gb412) (o := .cells #[.int .i64 4, .int .i64 0, .int .i64 0, .int .i64 0, .int .i64 0, .string (⟨#[]⟩ : ByteArray)] 30 (0, 0)) (by (with_reducible repeat (first | refine blk_drewN ?_ _ | refine blk_drew ?_ | refine blk_alloc ?_ _)); exact BK412.out) hb)
                        have n4_ := Aside0.mk (below_step (by repeat (first | (with_reducible first | exact HB.out | apply below_alloc | apply pw_below_drewN | apply below_drew1 | refine below_set ?_ GE402.out | refine below_set ?_ GE403.out | refine below_set ?_ GE412.out) | exact HB.out)) hb)
                        clear HO_56
                        clear BK402
                        clear BK403
                        clear BK412
                        clear HB
                        have HO_56 := n0_
                        have BK402 := n1_
                        have BK403 := n2_
                        have BK412 := n3_
                        have HB := n4_
                        clear n0_ n1_ n2_ n3_ n4_
                        (try clear hb)
                        (try clear hb2)
                        (try clear hk)
                        (try clear hi)
                        refine hK.out _ _ ⟨(blk_cell BK412.out 0).trans rfl, (blk_cell BK412.out 1).trans rfl, (blk_cell BK412.out 2).trans rfl, (blk_cell BK412.out 3).trans rfl, (blk_cell BK412.out 4).trans rfl, (blk_cell BK412.out 5).trans rfl, (blk_cell BK403.out 0).trans rfl, (blk_cell BK403.out 1).trans rfl, (blk_cell BK403.out 2).trans rfl, (blk_cell BK403.out 3).trans rfl⟩ (fun hHeld => ?_)
                        clear hK K
                        refine norm_ (a' := ?_) ?_ ?_
                        rotate_left
                        · show Act.put _ (some 83) _ = _
                          simp only [Act.put, sib, sc0, sc1, i64_w, i32_w]
                          rfl
                        refine pure_ (i := 16) (N := some 85) (v := ?_) (a' := ?_) (tfA 17 30) rfl rfl (any_of HT_.out (by kernel_rfl)) (fun _ _ _ h => h) (Or.inl ⟨by rfl, ?_⟩) ?_ ?_
                        rotate_left
                        · intro w'; go_simp; with_reducible rfl
                        rotate_left
                        · simp only [Act.put, sib, sc0, sc1, i64_w, i32_w]; rfl
                        try simp only [isE_, c36b0, c41b0, c59b0, c68b0, Bool.not_true, Bool.not_false]
                        refine pure_ (i := 17) (N := some 86) (v := ?_) (a' := ?_) (tfA 18 30) rfl rfl (any_of HT_.out (by kernel_rfl)) (fun _ _ _ h => h) (Or.inl ⟨by rfl, ?_⟩) ?_ ?_
                        rotate_left
                        · intro w'; go_simp; with_reducible rfl
                        rotate_left
                        · simp only [Act.put, sib, sc0, sc1, i64_w, i32_w]; rfl
                        refine pure_ (i := 18) (N := some 87) (v := ?_) (a' := ?_) (tfA 19 30) rfl rfl (any_of HT_.out (by kernel_rfl)) (fun _ _ _ h => h) (Or.inl ⟨by rfl, ?_⟩) ?_ ?_
                        rotate_left
                        · intro w'; go_simp; with_reducible rfl
                        rotate_left
                        · simp only [Act.put, sib, sc0, sc1, i64_w, i32_w]; rfl
                        refine pure_ (i := 19) (N := some 88) (v := ?_) (a' := ?_) (tfA 20 30) rfl rfl (any_of HT_.out (by kernel_rfl)) (fun _ _ _ h => h) (Or.inl ⟨by rfl, ?_⟩) ?_ ?_
                        rotate_left
                        · intro w'; go_simp; with_reducible rfl
                        rotate_left
                        · simp only [Act.put, sib, sc0, sc1, i64_w, i32_w]; rfl
                        refine pure_ (i := 20) (N := some 89) (v := ?_) (a' := ?_) (tfA 21 30) rfl rfl (any_of HT_.out (by kernel_rfl)) (fun _ _ _ h => h) (Or.inl ⟨by rfl, ?_⟩) ?_ ?_
                        rotate_left
                        · intro w'; go_simp; with_reducible rfl
                        rotate_left
                        · simp only [Act.put, sib, sc0, sc1, i64_w, i32_w]; rfl
                        refine pure_ (i := 21) (N := some 90) (v := ?_) (a' := ?_) (tfA 22 30) rfl rfl (any_of HT_.out (by kernel_rfl)) (fun _ _ _ h => h) (Or.inl ⟨by rfl, ?_⟩) ?_ ?_
                        rotate_left
                        · intro w'; go_simp; with_reducible rfl
                        rotate_left
                        · simp only [Act.put, sib, sc0, sc1, i64_w, i32_w]; rfl
                        refine pure_ (i := 23) (N := some 92) (v := ?_) (a' := ?_) #[true, true, true, true, true, true, true, true, true, true, true, true, true, true, true, true, true, true, true, true, true, true, false, true, false, false, false, false, false, false] rfl rfl (any_of HT_.out (by kernel_rfl)) (fun _ _ _ h => h) (Or.inl ⟨by rfl, ?_⟩) ?_ ?_
                        rotate_left
                        · intro w'; go_simp; with_reducible rfl
                        rotate_left
                        · simp only [Act.put, sib, sc0, sc1, i64_w, i32_w]; rfl
                        refine take_ (i := 22) (N := some 91) (v := ?_) (a' := ?_) (tfA 24 30) rfl rfl (take_ofW HT_.out HW_.out (by kernel_rfl)) (fun _ _ _ h => h) (Or.inl ⟨by rfl, ?_⟩) hHeld ?_ ?_
                        rotate_left
                        · rintro w' ⟨s0, s1, s2, s3, s4, s5, s6, s7, s8, s9⟩
                          go_simp
                          with_reducible rfl
                        rotate_left
                        · simp only [Act.put, sib, sc0, sc1, i64_w, i32_w]
                          rfl
                        refine take_ (i := 24) (N := some 93) (v := ?_) (a' := ?_) (tfA 25 30) rfl rfl (take_ofW HT_.out HW_.out (by kernel_rfl)) (fun _ _ _ h => h) (Or.inl ⟨by rfl, ?_⟩) hHeld ?_ ?_
                        rotate_left
                        · rintro w' ⟨s0, s1, s2, s3, s4, s5, s6, s7, s8, s9⟩
                          go_simp
                          with_reducible rfl
                        rotate_left
                        · simp only [Act.put, sib, sc0, sc1, i64_w, i32_w]
                          rfl
                        refine take_ (i := 27) (N := some 96) (v := ?_) (a' := ?_) #[true, true, true, true, true, true, true, true, true, true, true, true, true, true, true, true, true, true, true, true, true, true, true, true, true, false, false, true, false, false] rfl rfl (take_ofW HT_.out HW_.out (by kernel_rfl)) (fun _ _ _ h => h) (Or.inl ⟨by rfl, ?_⟩) hHeld ?_ ?_
                        rotate_left
                        · rintro w' ⟨s0, s1, s2, s3, s4, s5, s6, s7, s8, s9⟩
                          go_simp
                          with_reducible rfl
                        rotate_left
                        · simp only [Act.put, sib, sc0, sc1, i64_w, i32_w]
                          rfl
                        refine one_ (i := 25) (N := some 94) #[true, true, true, true, true, true, true, true, true, true, true, true, true, true, true, true, true, true, true, true, true, true, true, true, true, true, false, true, false, false] rfl rfl (one_of HT_.out (by kernel_rfl)) (by decide) (fun K hK => ?_)
                        refine goes_ Tryd.func16 (by kernel_rfl) rfl #[.string (rdOf ByteArray.empty y414 x58_1), .int .i64 a2_1, .int .i64 a2_2] (by rfl) rfl rfl (by (try simp only [List.map_toArray, List.map_cons, List.map_nil]); first | done | rfl | (simp only [List.length_drop, List.length_take]; rfl)) ?_
                        with_reducible refine (frame_Hurt.calls (rdOf ByteArray.empty y414 x58_1) a2_1 a2_2 t440 _ A66.out).mono ?_
                        rintro e w83 ⟨rfl, hb⟩
                        refine ⟨_, rfl, ?_⟩
                        have n0_ := Aside0.mk (Kd.R_below (by (with_reducible repeat (first | apply Kd.R_alloc | apply Kd.R_drewN | apply Kd.R_drew)); exact HO_56.out) hb)
                        have n1_ := Aside0.mk (blk_below (g := gb402) (o := .cells #[.int .i64 a0_0, .int .i64 a0_1, .int .i64 a0_2, .int .i64 a0_3] 23 (0, 0)) (by (with_reducible repeat (first | refine blk_drewN ?_ _ | refine blk_drew ?_ | refine blk_alloc ?_ _)); exact BK402.out) hb)
                        have n2_ := Aside0.mk (blk_below (g := gb403) (o := .cells #[.int .i64 a2_0, .int .i64 a2_1, .int .i64 a2_2, .int .i64 a2_3] 38 (0, 0)) (by (with_reducible repeat (first | refine blk_drewN ?_ _ | refine blk_drew ?_ | refine blk_alloc ?_ _)); exact BK403.out) hb)
                        have n3_ := Aside0.mk (blk_below (g := gb412) (o := .cells #[.int .i64 4, .int .i64 0, .int .i64 0, .int .i64 0, .int .i64 0, .string (⟨#[]⟩ : ByteArray)] 30 (0, 0)) (by (with_reducible repeat (first | refine blk_drewN ?_ _ | refine blk_drew ?_ | refine blk_alloc ?_ _)); exact BK412.out) hb)
                        have n4_ := Aside0.mk (below_step (by repeat (first | (with_reducible first | exact HB.out | apply below_alloc | apply pw_below_drewN | apply below_drew1 | refine below_set ?_ GE402.out | refine below_set ?_ GE403.out | refine below_set ?_ GE412.out) | exact HB.out)) hb)
                        clear HO_56
                        clear BK402
                        clear BK403
                        clear BK412
                        clear HB
                        have HO_56 := n0_
                        have BK402 := n1_
                        have BK403 := n2_
                        have BK412 := n3_
                        have HB := n4_
                        clear n0_ n1_ n2_ n3_ n4_
                        (try clear hb)
                        (try clear hb2)
                        (try clear hk)
                        (try clear hi)
                        refine hK.out _ _ ⟨(blk_cell BK412.out 0).trans rfl, (blk_cell BK412.out 1).trans rfl, (blk_cell BK412.out 2).trans rfl, (blk_cell BK412.out 3).trans rfl, (blk_cell BK412.out 4).trans rfl, (blk_cell BK412.out 5).trans rfl, (blk_cell BK403.out 0).trans rfl, (blk_cell BK403.out 1).trans rfl, (blk_cell BK403.out 2).trans rfl, (blk_cell BK403.out 3).trans rfl⟩ (fun hHeld => ?_)
                        clear hK K
                        refine norm_ (a' := ?_) ?_ ?_
                        rotate_left
                        · show Act.put _ (some 94) _ = _
                          simp only [Act.put, sib, sc0, sc1, i64_w, i32_w]
                          rfl
                        refine one_ (i := 26) (N := some 95) (tfA 28 30) rfl rfl (one_of HT_.out (by kernel_rfl)) (by decide) (fun K hK => ?_)
                        refine goes_ Tryd.func12 (by kernel_rfl) rfl #[.string t440] (by rfl) rfl rfl (by (try simp only [List.map_toArray, List.map_cons, List.map_nil]); first | done | rfl | (simp only [List.length_drop, List.length_take]; rfl)) ?_
                        with_reducible refine (frame_Decode.calls t440 t441 t442 t443 t444 t445 t446 _ A67.out).mono ?_
                        rintro e w84 ⟨rfl, hb⟩
                        refine ⟨_, rfl, ?_⟩
                        have n0_ := Aside0.mk (Kd.R_below (by (with_reducible repeat (first | apply Kd.R_alloc | apply Kd.R_drewN | apply Kd.R_drew)); exact HO_56.out) hb)
                        have n1_ := Aside0.mk (blk_below (g := gb402) (o := .cells #[.int .i64 a0_0, .int .i64 a0_1, .int .i64 a0_2, .int .i64 a0_3] 23 (0, 0)) (by (with_reducible repeat (first | refine blk_drewN ?_ _ | refine blk_drew ?_ | refine blk_alloc ?_ _)); exact BK402.out) hb)
                        have n2_ := Aside0.mk (blk_below (g := gb403) (o := .cells #[.int .i64 a2_0, .int .i64 a2_1, .int .i64 a2_2, .int .i64 a2_3] 38 (0, 0)) (by (with_reducible repeat (first | refine blk_drewN ?_ _ | refine blk_drew ?_ | refine blk_alloc ?_ _)); exact BK403.out) hb)
                        have n3_ := Aside0.mk (blk_below (g := gb412) (o := .cells #[.int .i64 4, .int .i64 0, .int .i64 0, .int .i64 0, .int .i64 0, .string (⟨#[]⟩ : ByteArray)] 30 (0, 0)) (by (with_reducible repeat (first | refine blk_drewN ?_ _ | refine blk_drew ?_ | refine blk_alloc ?_ _)); exact BK412.out) hb)
                        have n4_ := Aside0.mk (below_step (by repeat (first | (with_reducible first | exact HB.out | apply below_alloc | apply pw_below_drewN | apply below_drew1 | refine below_set ?_ GE402.out | refine below_set ?_ GE403.out | refine below_set ?_ GE412.out) | exact HB.out)) hb)
                        clear HO_56
                        clear BK402
                        clear BK403
                        clear BK412
                        clear HB
                        have HO_56 := n0_
                        have BK402 := n1_
                        have BK403 := n2_
                        have BK412 := n3_
                        have HB := n4_
                        clear n0_ n1_ n2_ n3_ n4_
                        (try clear hb)
                        (try clear hb2)
                        (try clear hk)
                        (try clear hi)
                        refine hK.out _ _ ⟨(blk_cell BK412.out 0).trans rfl, (blk_cell BK412.out 1).trans rfl, (blk_cell BK412.out 2).trans rfl, (blk_cell BK412.out 3).trans rfl, (blk_cell BK412.out 4).trans rfl, (blk_cell BK412.out 5).trans rfl, (blk_cell BK403.out 0).trans rfl, (blk_cell BK403.out 1).trans rfl, (blk_cell BK403.out 2).trans rfl, (blk_cell BK403.out 3).trans rfl⟩ (fun hHeld => ?_)
                        clear hK K
                        refine norm_ (a' := ?_) ?_ ?_
                        rotate_left
                        · show Act.put _ (some 95) _ = _
                          simp only [Act.put, sib, sc0, sc1, i64_w, i32_w]
                          rfl
                        refine pure_ (i := 28) (N := some 97) (v := ?_) (a' := ?_) (tfA 29 30) rfl rfl (any_of HT_.out (by kernel_rfl)) (fun _ _ _ h => h) (Or.inl ⟨by rfl, ?_⟩) ?_ ?_
                        rotate_left
                        · intro w'; go_simp; with_reducible rfl
                        rotate_left
                        · simp only [Act.put, sib, sc0, sc1, i64_w, i32_w]; rfl
                        try simp only [isE_, c36b0, c41b0, c59b0, c68b0, Bool.not_true, Bool.not_false]
                        refine pure_ (i := 29) (N := some 98) (v := ?_) (a' := ?_) (tfA 30 30) rfl rfl (any_of HT_.out (by kernel_rfl)) (fun _ _ _ h => h) (Or.inl ⟨by rfl, ?_⟩) ?_ ?_
                        rotate_left
                        · intro w'; go_simp; with_reducible rfl
                        rotate_left
                        · simp only [Act.put, sib, sc0, sc1, i64_w, i32_w]; rfl
                        refine done_ (done_of HT_.out (by kernel_rfl)) ?_
                        try go_wp2
                        go_roundg k1
                        case measure => have := HK1.out; omega
                        case rel => exact ⟨(wrap64 (x58_1 + 1)), (by first | rfl | (simp; done) | (simp [*]; done)), H', ⟨by have := HK1.out; omega⟩, ⟨by (with_reducible repeat (first | apply Kd.R_alloc | apply Kd.R_drewN | apply Kd.R_drew)); exact HO_56.out⟩, ⟨by (with_reducible repeat (first | refine blk_drewN ?_ _ | refine blk_drew ?_ | refine blk_alloc ?_ _)); exact BK402.out⟩, ⟨by (with_reducible repeat (first | refine blk_drewN ?_ _ | refine blk_drew ?_ | refine blk_alloc ?_ _)); exact BK403.out⟩, ⟨by (with_reducible repeat (first | refine blk_drewN ?_ _ | refine blk_drew ?_ | refine blk_alloc ?_ _)); exact BK412.out⟩, ⟨by repeat (first | (with_reducible first | exact HB.out | apply below_alloc | apply pw_below_drewN | apply below_drew1 | refine below_set ?_ GE402.out | refine below_set ?_ GE403.out | refine below_set ?_ GE412.out) | exact HB.out)⟩⟩
              · rw [if_neg c32] at H
                exact absurd H (by simp)
            · rw [if_neg c31] at H
              exact absurd H (by simp)
          · rw [if_neg c30] at H
            have c30b0 : decide (x58_1 < (y414.length : Int)) = false := decide_eq_false c30
            clear c30
            clear H
            go_wp2
            go_ret
            exact ⟨by first | rfl | (simp [errW_none, errW_some] <;> rfl) | (simp [*, errW_none, errW_some] <;> rfl), by repeat (first | (with_reducible first | exact HB.out | apply below_alloc | apply pw_below_drewN | apply below_drew1 | refine below_set ?_ GE402.out | refine below_set ?_ GE403.out | refine below_set ?_ GE412.out) | exact HB.out)⟩
    · rw [if_neg c7] at H
      have c7b0 : (t406 == 0) = false := beq_eq_false_iff_ne.mpr c7
      have c7b1 : (t406 != 0) = true := bne_iff_ne.mpr c7
      have HQ := Option.some.inj H
      go_enter Tryd.func8, Tryd.ntmps8
      go_wp2_with (first | ((with_reducible refine gate_dst (N := 3) rfl ?_); refine box_event ?hg (N := 3) ?hd (cs := #[.int .i64 a0_0, .int .i64 a0_1, .int .i64 a0_2, .int .i64 a0_3]) (t := 23) ?hr ?_; (case hd => rfl); (case hg => rfl); (case hr => first | (go_simp; done) | (go_simp; rfl)); intro gb402 hg w85 hbox hb; have n0_ := Aside0.mk (below_step (by repeat (first | (with_reducible first | exact HB.out | apply below_alloc | apply pw_below_drewN | apply below_drew1) | exact HB.out)) hb); have n1_ := Aside0.mk (hbox); have n2_ := Aside0.mk ((by rw [hg]; exact (below_size (by repeat (first | (with_reducible first | exact HB.out | apply below_alloc | apply pw_below_drewN | apply below_drew1) | exact HB.out))) : w.heap.size ≤ gb402)); have n3_ := Aside0.mk ((by rw [hg]; exact (below_size (by repeat (first | (with_reducible first | exact HB.out | apply below_alloc | apply pw_below_drewN | apply below_drew1) | exact HB.out))) : w.heap.size ≤ gb402)); clear HB; have HB := n0_; have BK402 := n1_; have GW402 := n2_; have GE402 := n3_; clear n0_ n1_ n2_ n3_; clear hb hbox hg) | ((with_reducible refine gate_dst (N := 5) rfl ?_); refine box_event ?hg (N := 5) ?hd (cs := #[.int .i64 a2_0, .int .i64 a2_1, .int .i64 a2_2, .int .i64 a2_3]) (t := 38) ?hr ?_; (case hd => rfl); (case hg => rfl); (case hr => first | (go_simp; done) | (go_simp; rfl)); intro gb403 hg w86 hbox hb; have n0_ := Aside0.mk (blk_below (g := gb402) (o := .cells #[.int .i64 a0_0, .int .i64 a0_1, .int .i64 a0_2, .int .i64 a0_3] 23 (0, 0)) (by (with_reducible repeat (first | refine blk_drewN ?_ _ | refine blk_drew ?_ | refine blk_alloc ?_ _)); exact BK402.out) hb); have n1_ := Aside0.mk (below_step (by repeat (first | (with_reducible first | exact HB.out | apply below_alloc | apply pw_below_drewN | apply below_drew1 | refine below_set ?_ GE402.out) | exact HB.out)) hb); have n2_ := Aside0.mk (hbox); have n3_ := Aside0.mk ((by rw [hg]; exact (below_size (by repeat (first | (with_reducible first | exact HB.out | apply below_alloc | apply pw_below_drewN | apply below_drew1 | refine below_set ?_ GE402.out) | exact HB.out))) : w.heap.size ≤ gb403)); have n4_ := Aside0.mk ((by rw [hg]; exact (below_size (by repeat (first | (with_reducible first | exact HB.out | apply below_alloc | apply pw_below_drewN | apply below_drew1 | refine below_set ?_ GE402.out) | exact HB.out))) : w.heap.size ≤ gb403)); have n5_ := Aside0.mk ((by rw [hg]; exact Nat.ne_of_lt (blk_lt (g := gb402) (o := .cells #[.int .i64 a0_0, .int .i64 a0_1, .int .i64 a0_2, .int .i64 a0_3] 23 (0, 0)) (by (with_reducible repeat (first | refine blk_drewN ?_ _ | refine blk_drew ?_ | refine blk_alloc ?_ _)); exact BK402.out)) : gb402 ≠ gb403)); have n6_ := Aside0.mk ((by rw [hg]; exact Nat.ne_of_gt (blk_lt (g := gb402) (o := .cells #[.int .i64 a0_0, .int .i64 a0_1, .int .i64 a0_2, .int .i64 a0_3] 23 (0, 0)) (by (with_reducible repeat (first | refine blk_drewN ?_ _ | refine blk_drew ?_ | refine blk_alloc ?_ _)); exact BK402.out)) : gb403 ≠ gb402)); clear BK402; clear HB; have BK402 := n0_; have HB := n1_; have BK403 := n2_; have GW403 := n3_; have GE403 := n4_; have NB402_403 := n5_; have NB403_402 := n6_; clear n0_ n1_ n2_ n3_ n4_ n5_ n6_; clear hb hbox hg) | ((with_reducible refine gate_callee (f := 9) rfl ?_); refine goesL_ (some 18) rfl rfl Tryd.func9 (by kernel_rfl) rfl #[] rfl (by (try simp only [List.map_toArray, List.map_cons, List.map_nil]); first | done | rfl | (simp only [List.length_drop, List.length_take]; rfl)) ?_; (with_reducible refine (decklelaw05_works.calls  true _ A4.out).mono ?_); rintro e w87 ⟨rfl, hb⟩; refine ⟨_, rfl, ?_⟩; have n0_ := Aside0.mk (blk_below (g := gb402) (o := .cells #[.int .i64 a0_0, .int .i64 a0_1, .int .i64 a0_2, .int .i64 a0_3] 23 (0, 0)) (by (with_reducible repeat (first | refine blk_drewN ?_ _ | refine blk_drew ?_ | refine blk_alloc ?_ _)); exact BK402.out) hb); have n1_ := Aside0.mk (blk_below (g := gb403) (o := .cells #[.int .i64 a2_0, .int .i64 a2_1, .int .i64 a2_2, .int .i64 a2_3] 38 (0, 0)) (by (with_reducible repeat (first | refine blk_drewN ?_ _ | refine blk_drew ?_ | refine blk_alloc ?_ _)); exact BK403.out) hb); have n2_ := Aside0.mk (below_step (by repeat (first | (with_reducible first | exact HB.out | apply below_alloc | apply pw_below_drewN | apply below_drew1 | refine below_set ?_ GE402.out | refine below_set ?_ GE403.out) | exact HB.out)) hb); clear BK402; clear BK403; clear HB; have BK402 := n0_; have BK403 := n1_; have HB := n2_; clear n0_ n1_ n2_; (try clear hb); (try clear hb2); (try clear hk); (try clear hi); have hnb88 := NB402_403.out; have hnc88 := NB403_402.out; have hcz89_0 : w87.cell? ⟨gb402, 0, none⟩ = some (.int .i64 a0_0) := (blk_cell BK402.out 0).trans rfl; have hcz89_1 : w87.cell? ⟨gb402, 1, none⟩ = some (.int .i64 a0_1) := (blk_cell BK402.out 1).trans rfl; have hcz89_2 : w87.cell? ⟨gb402, 2, none⟩ = some (.int .i64 a0_2) := (blk_cell BK402.out 2).trans rfl; have hcz89_3 : w87.cell? ⟨gb402, 3, none⟩ = some (.int .i64 a0_3) := (blk_cell BK402.out 3).trans rfl; have hfz89_0 := blk_frozen BK402.out 0; have hfz89_1 := blk_frozen BK402.out 1; have hfz89_2 := blk_frozen BK402.out 2; have hfz89_3 := blk_frozen BK402.out 3) | ((with_reducible refine gate_callee (f := 10) rfl ?_); refine goesL_ (some 23) rfl rfl Tryd.func10 (by kernel_rfl) rfl #[.agg #[.int .i64 a0_0, .int .i64 a0_1, .int .i64 a0_2, .int .i64 a0_3], .string a1] rfl (by (try simp only [List.map_toArray, List.map_cons, List.map_nil]); first | done | rfl | (simp only [List.length_drop, List.length_take]; rfl)) ?_; (with_reducible refine (frame_Encode.calls a0_0 a0_1 a0_2 a0_3 a1 t405 t406 _ A6.out).mono ?_); rintro e w90 ⟨rfl, hb⟩; refine ⟨_, rfl, ?_⟩; have n0_ := Aside0.mk (blk_below (g := gb402) (o := .cells #[.int .i64 a0_0, .int .i64 a0_1, .int .i64 a0_2, .int .i64 a0_3] 23 (0, 0)) (by (with_reducible repeat (first | refine blk_drewN ?_ _ | refine blk_drew ?_ | refine blk_alloc ?_ _)); exact BK402.out) hb); have n1_ := Aside0.mk (blk_below (g := gb403) (o := .cells #[.int .i64 a2_0, .int .i64 a2_1, .int .i64 a2_2, .int .i64 a2_3] 38 (0, 0)) (by (with_reducible repeat (first | refine blk_drewN ?_ _ | refine blk_drew ?_ | refine blk_alloc ?_ _)); exact BK403.out) hb); have n2_ := Aside0.mk (below_step (by repeat (first | (with_reducible first | exact HB.out | apply below_alloc | apply pw_below_drewN | apply below_drew1 | refine below_set ?_ GE402.out | refine below_set ?_ GE403.out) | exact HB.out)) hb); clear BK402; clear BK403; clear HB; have BK402 := n0_; have BK403 := n1_; have HB := n2_; clear n0_ n1_ n2_; (try clear hb); (try clear hb2); (try clear hk); (try clear hi)))
      go_ret
      exact ⟨by first | (rw [HQ]; done) | rfl | (simp [errW_none, errW_some] <;> rfl) | (simp [*, errW_none, errW_some] <;> rfl), by repeat (first | (with_reducible first | exact HB.out | apply below_alloc | apply pw_below_drewN | apply below_drew1 | refine below_set ?_ GE402.out | refine below_set ?_ GE403.out) | exact HB.out)⟩
  · replace c5 := Bool.eq_false_iff.mpr c5
    subst c5
    have H1 : (some false) = some true := by rw [if_neg (show ¬ (false = true) by decide)] at H; exact H
    clear H
    have H := H1
    clear H1
    exact absurd (Option.some.inj H) (by decide)
end Go.Proofs.YtbcgddacmjliaaaDoor.PF
end

section
-- Written by a program (the kit's print.py, called by wip/bin/prseat.sh, mended by wip/bin/mend.py).
namespace Go.Proofs.YtbcgddacmjliaaaDoor.PF
open Go.Proofs.YtbcgddacmjliaaaDoor.Tf Go.RowKit Go.Proofs.YtbcgddacmjliaaaDoorW.PrintWords Go.Proofs.YtbcgddacmjliaaaDoorW.PrintLast Go.Proofs.YtbcgddacmjliaaaDoorW.PrintMore
attribute [local go_sem] max2_int min2_int max_two min_two max_three min_three max_four min_four   -- for this text's walks alone
set_option linter.unusedVariables false
set_option linter.unusedSimpArgs false

attribute [local go_sem high] eqA30
/-! ### decklelaw05_FrameFixes: function 7 -/
mutual
def decklelaw05_FrameFixes.l0 : Nat → ByteArray → List Int → ByteArray → ByteArray → Int → Int → Int → Int → Int → Int → Option (Bool)
  | 0, _, _, _, _, _, _, _, _, _, _ => none
  | k + 1, x1, x2, x7, x9, x10, x11, x381000, x381001, x381002, x381003 => if x11 < (x2.length : Int) then (decklelaw05_FrameFixes.j1 k x1 x2 x7 x9 x10 x11 (decide (x11 < (wrap64 ((x7.size : Int) / 9)))) x381000 x381001 x381002 x381003) else (decklelaw05_FrameFixes.j1 k x1 x2 x7 x9 x10 x11 false x381000 x381001 x381002 x381003)
def decklelaw05_FrameFixes.j1 : Nat → ByteArray → List Int → ByteArray → ByteArray → Int → Int → Bool → Int → Int → Int → Int → Option (Bool)
  | 0, _, _, _, _, _, _, _, _, _, _, _ => none
  | k + 1, x1, x2, x7, x9, x10, x11, x37, x381000, x381001, x381002, x381003 => if x37 = true then (if 0 ≤ x11 then (if x11 < (x2.length : Int) then (if (rd x2 x11) ≥ 0 then ((decklelaw05_turned.f x7 x11 (rd x2 x11)).bind fun t399 => ((decklelaw05_turned.f x9 x11 (rd x2 x11)).bind fun t401 => (decklelaw05_FrameFixes.l0 k x1 x2 t399 t401 3 (wrap64 (x11 + 1)) x381000 x381001 x381002 x381003))) else (decklelaw05_FrameFixes.l0 k x1 x2 x7 x9 x10 (wrap64 (x11 + 1)) x381000 x381001 x381002 x381003)) else (none)) else (none)) else ((frame_Decode.f x7).bind fun bt385 => (if (bt385.1 == x10 && ((bt385.2.1 == x381000 && (bt385.2.2.1 == x381001 && (bt385.2.2.2.1 == x381002 && (bt385.2.2.2.2.1 == x381003)))) && (bt385.2.2.2.2.2.toList == x1.toList))) = true then ((frame_Decode.f x9).bind fun bt391 => (some (bt391.1 == 1 && ((bt391.2.1 == 0 && (bt391.2.2.1 == 0 && (bt391.2.2.2.1 == 0 && (bt391.2.2.2.2.1 == 0)))) && (bt391.2.2.2.2.2.toList == ([] : List UInt8)))))) else (some false)))
end
def decklelaw05_FrameFixes.f (k : Nat) (a0_0 : Int) (a0_1 : Int) (a0_2 : Int) (a0_3 : Int) (a1 : ByteArray) (l2 : List Int) : Option (Bool) := (decklelaw05_works.f).bind fun t381 => (if t381 = true then ((frame_Encode.f a0_0 a0_1 a0_2 a0_3 a1).bind fun bt382 => (if bt382.2 = 0 then ((frame_Blank.f (a1.size : Int)).bind fun t384 => (decklelaw05_FrameFixes.l0 k a1 l2 bt382.1 t384 2 0 a0_0 a0_1 a0_2 a0_3)) else (some (bt382.1.toList == ([] : List UInt8))))) else (some false))
theorem decklelaw05_FrameFixes.mono_l : ∀ k, (∀ y0 y1 y2 y3 y4 y5 y6 y7 y8 y9, LeO (decklelaw05_FrameFixes.l0 k y0 y1 y2 y3 y4 y5 y6 y7 y8 y9) (decklelaw05_FrameFixes.l0 (k + 1) y0 y1 y2 y3 y4 y5 y6 y7 y8 y9)) ∧ (∀ y0 y1 y2 y3 y4 y5 y6 y7 y8 y9 y10, LeO (decklelaw05_FrameFixes.j1 k y0 y1 y2 y3 y4 y5 y6 y7 y8 y9 y10) (decklelaw05_FrameFixes.j1 (k + 1) y0 y1 y2 y3 y4 y5 y6 y7 y8 y9 y10))
  | 0 => ⟨fun _ _ _ _ _ _ _ _ _ _ r h => by simp [decklelaw05_FrameFixes.l0] at h, fun _ _ _ _ _ _ _ _ _ _ _ r h => by simp [decklelaw05_FrameFixes.j1] at h⟩
  | k + 1 => by
    obtain ⟨ih0, ih1⟩ := decklelaw05_FrameFixes.mono_l k
    refine ⟨?_, ?_⟩
    · intro y0 y1 y2 y3 y4 y5 y6 y7 y8 y9
      unfold decklelaw05_FrameFixes.l0
      repeat' first
      | (with_reducible exact ih0 _ _ _ _ _ _ _ _ _ _)
      | (with_reducible exact ih1 _ _ _ _ _ _ _ _ _ _ _)
      | (with_reducible exact LeO.refl _)
      | (with_reducible exact LeO.none _)
      | (with_reducible refine LeO.ite ?_ ?_)
      | (with_reducible refine LeO.bind ?_ (fun _ => ?_))
      | exact ih0 _ _ _ _ _ _ _ _ _ _
      | exact ih1 _ _ _ _ _ _ _ _ _ _ _
      | exact LeO.none _
      | refine LeO.ite ?_ ?_
      | refine LeO.bind ?_ (fun _ => ?_)
    · intro y0 y1 y2 y3 y4 y5 y6 y7 y8 y9 y10
      unfold decklelaw05_FrameFixes.j1
      repeat' first
      | (with_reducible exact ih0 _ _ _ _ _ _ _ _ _ _)
      | (with_reducible exact ih1 _ _ _ _ _ _ _ _ _ _ _)
      | (with_reducible exact LeO.refl _)
      | (with_reducible exact LeO.none _)
      | (with_reducible refine LeO.ite ?_ ?_)
      | (with_reducible refine LeO.bind ?_ (fun _ => ?_))
      | exact ih0 _ _ _ _ _ _ _ _ _ _
      | exact ih1 _ _ _ _ _ _ _ _ _ _ _
      | exact LeO.none _
      | refine LeO.ite ?_ ?_
      | refine LeO.bind ?_ (fun _ => ?_)
theorem decklelaw05_FrameFixes.mono : ∀ a0 a1 a2 a3 a4 a5 k, LeO (decklelaw05_FrameFixes.f k a0 a1 a2 a3 a4 a5) (decklelaw05_FrameFixes.f (k + 1) a0 a1 a2 a3 a4 a5) := by
  intro a0 a1 a2 a3 a4 a5 k
  obtain ⟨ih0, ih1⟩ := decklelaw05_FrameFixes.mono_l k
  unfold decklelaw05_FrameFixes.f
  repeat' first
      | (with_reducible exact ih0 _ _ _ _ _ _ _ _ _ _)
      | (with_reducible exact ih1 _ _ _ _ _ _ _ _ _ _ _)
      | (with_reducible exact LeO.refl _)
      | (with_reducible exact LeO.none _)
      | (with_reducible refine LeO.ite ?_ ?_)
      | (with_reducible refine LeO.bind ?_ (fun _ => ?_))
      | exact ih0 _ _ _ _ _ _ _ _ _ _
      | exact ih1 _ _ _ _ _ _ _ _ _ _ _
      | exact LeO.none _
      | refine LeO.ite ?_ ?_
      | refine LeO.bind ?_ (fun _ => ?_)
def decklelaw05_FrameFixes.T15 : Bool × List (List Nat × List Nat) := (true, [([], []), ([0], [0]), ([], []), ([], []), ([], []), ([2, 3, 4], [2, 3, 4]), ([1, 5], [1, 5]), ([6, 1], [6]), ([7], [7]), ([8, 7, 7], [7, 8]), ([7], [7]), ([9, 10, 7], [7, 9, 10]), ([7, 11], [7, 11]), ([12, 9, 0, 1, 2, 3, 4, 5, 6, 7, 8, 9, 10, 11, 12], [12])])
def decklelaw05_FrameFixes.B15 : List Nat := [0, 1, 0, 0, 0, 28, 63, 127, 255, 511, 255, 2047, 4095, 8191]
theorem decklelaw05_FrameFixes.tab15 : rtab .any (opsOf Tryd.f7 15) = decklelaw05_FrameFixes.T15 := by kernel_rfl
theorem decklelaw05_FrameFixes.bits15 : waitsOk decklelaw05_FrameFixes.T15.2 decklelaw05_FrameFixes.B15 = true := by kernel_rfl
set_option maxHeartbeats 8000000 in
set_option maxRecDepth 100000 in
theorem decklelaw05_FrameFixes.calls (k : Nat) (a0_0 : Int) (a0_1 : Int) (a0_2 : Int) (a0_3 : Int) (a1 : ByteArray) (A2 : Option Addr) (c2 : Nat) (l2 : List Int) (r : Bool) (w : World) (hr2 : Kd.C (Kd.int .i64) w A2 l2.length l2) (hc2 : l2.length ≤ c2) (h : decklelaw05_FrameFixes.f k a0_0 a0_1 a0_2 a0_3 a1 l2 = some r) (HL : Aside0 (Hw.Laid w) := by first | exact HL | exact Hw.laid_at HL (by repeat (first | (with_reducible first | exact HB.out | apply below_alloc | apply pw_below_drewN | apply below_drew1) | exact HB.out | exact Below.refl _ _ | refine below_set ?_ (by apply Aside0.out; assumption)))) :
    Calls Tryd.prog 7 #[.agg #[.int .i64 a0_0, .int .i64 a0_1, .int .i64 a0_2, .int .i64 a0_3], .string a1, .slice A2 l2.length c2] w fun e w' => e = .returned (.bool r) ∧ Below w.heap.size w w' := by
  have hu23 := Tryd.underlying23
  have hu30 := Tryd.underlying30
  have HR2 := Aside0.mk hr2
  have HC2 := Aside0.mk hc2
  clear hr2 hc2
  have HB := Aside0.mk (Below.refl w.heap.size w)
  have H : ((decklelaw05_works.f).bind fun t381 => (if t381 = true then ((frame_Encode.f a0_0 a0_1 a0_2 a0_3 a1).bind fun bt382 => (if bt382.2 = 0 then ((frame_Blank.f (a1.size : Int)).bind fun t384 => (decklelaw05_FrameFixes.l0 k a1 l2 bt382.1 t384 2 0 a0_0 a0_1 a0_2 a0_3)) else (some (bt382.1.toList == ([] : List UInt8))))) else (some false))) = some r := h
  clear h
  replace H := Option.bind_eq_some_iff.mp H
  obtain ⟨t381, A40, H⟩ := H
  replace H : (if t381 = true then ((frame_Encode.f a0_0 a0_1 a0_2 a0_3 a1).bind fun bt382 => (if bt382.2 = 0 then ((frame_Blank.f (a1.size : Int)).bind fun t384 => (decklelaw05_FrameFixes.l0 k a1 l2 bt382.1 t384 2 0 a0_0 a0_1 a0_2 a0_3)) else (some (bt382.1.toList == ([] : List UInt8))))) else (some false)) = some r := H
  have A4 := Aside0.mk A40
  clear A40
  by_cases c5 : t381 = true
  · subst c5
    have H1 : ((frame_Encode.f a0_0 a0_1 a0_2 a0_3 a1).bind fun bt382 => (if bt382.2 = 0 then ((frame_Blank.f (a1.size : Int)).bind fun t384 => (decklelaw05_FrameFixes.l0 k a1 l2 bt382.1 t384 2 0 a0_0 a0_1 a0_2 a0_3)) else (some (bt382.1.toList == ([] : List UInt8))))) = some r := by rw [if_pos rfl] at H; exact H
    clear H
    have H := H1
    clear H1
    replace H := Option.bind_eq_some_iff.mp H
    obtain ⟨⟨t382, t383⟩, A60, H⟩ := H
    replace H : (if t383 = 0 then ((frame_Blank.f (a1.size : Int)).bind fun t384 => (decklelaw05_FrameFixes.l0 k a1 l2 t382 t384 2 0 a0_0 a0_1 a0_2 a0_3)) else (some (t382.toList == ([] : List UInt8)))) = some r := H
    have A6 := Aside0.mk A60
    clear A60
    by_cases c7 : t383 = 0
    · rw [if_pos c7] at H
      have c7b0 : (t383 == 0) = true := beq_iff_eq.mpr c7
      have c7b1 : (t383 != 0) = false := bne_eq_false_iff_eq.mpr c7
      clear c7
      replace H := Option.bind_eq_some_iff.mp H
      obtain ⟨t384, A80, H⟩ := H
      replace H : (decklelaw05_FrameFixes.l0 k a1 l2 t382 t384 2 0 a0_0 a0_1 a0_2 a0_3) = some r := H
      have A8 := Aside0.mk A80
      clear A80
      have H' := Aside0.mk H
      clear H
      go_enter Tryd.func7, Tryd.ntmps7
      go_wp2_with (first | ((with_reducible refine gate_dst (N := 3) rfl ?_); (try (refine gate_guard (by rfl) ?_; dsimp only)); refine box_event ?hg (N := 3) ?hd (cs := #[.int .i64 a0_0, .int .i64 a0_1, .int .i64 a0_2, .int .i64 a0_3]) (t := 23) ?hr ?_; (case hd => rfl); (case hg => rfl); (case hr => first | (go_simp; done) | (go_simp; rfl)); intro gb380 hg w9 hbox hb; have n0_ := Aside0.mk (below_step (by repeat (first | (with_reducible first | exact HB.out | apply below_alloc | apply pw_below_drewN | apply below_drew1) | exact HB.out)) hb); have n1_ := Aside0.mk (hbox); have n2_ := Aside0.mk ((by rw [hg]; exact (below_size (by repeat (first | (with_reducible first | exact HB.out | apply below_alloc | apply pw_below_drewN | apply below_drew1) | exact HB.out))) : w.heap.size ≤ gb380)); have n3_ := Aside0.mk ((by rw [hg]; exact (below_size (by repeat (first | (with_reducible first | exact HB.out | apply below_alloc | apply pw_below_drewN | apply below_drew1) | exact HB.out))) : w.heap.size ≤ gb380)); clear HB; have HB := n0_; have BK380 := n1_; have GW380 := n2_; have GE380 := n3_; clear n0_ n1_ n2_ n3_; clear hb hbox hg) | ((with_reducible refine gate_callee (f := 9) rfl ?_); refine goesL_ (some 12) rfl rfl Tryd.func9 (by kernel_rfl) rfl #[] rfl (by (try simp only [List.map_toArray, List.map_cons, List.map_nil]); first | done | rfl | (simp only [List.length_drop, List.length_take]; rfl)) ?_; (with_reducible refine (decklelaw05_works.calls  true _ A4.out).mono ?_); rintro e w10 ⟨rfl, hb⟩; refine ⟨_, rfl, ?_⟩; have n0_ := Aside0.mk (blk_below (g := gb380) (o := .cells #[.int .i64 a0_0, .int .i64 a0_1, .int .i64 a0_2, .int .i64 a0_3] 23 (0, 0)) (by (with_reducible repeat (first | refine blk_drewN ?_ _ | refine blk_drew ?_ | refine blk_alloc ?_ _)); exact BK380.out) hb); have n1_ := Aside0.mk (below_step (by repeat (first | (with_reducible first | exact HB.out | apply below_alloc | apply pw_below_drewN | apply below_drew1 | refine below_set ?_ GE380.out) | exact HB.out)) hb); clear BK380; clear HB; have BK380 := n0_; have HB := n1_; clear n0_ n1_; (try clear hb); (try clear hb2); (try clear hk); (try clear hi); have hcz11_0 : w10.cell? ⟨gb380, 0, none⟩ = some (.int .i64 a0_0) := (blk_cell BK380.out 0).trans rfl; have hcz11_1 : w10.cell? ⟨gb380, 1, none⟩ = some (.int .i64 a0_1) := (blk_cell BK380.out 1).trans rfl; have hcz11_2 : w10.cell? ⟨gb380, 2, none⟩ = some (.int .i64 a0_2) := (blk_cell BK380.out 2).trans rfl; have hcz11_3 : w10.cell? ⟨gb380, 3, none⟩ = some (.int .i64 a0_3) := (blk_cell BK380.out 3).trans rfl; have hfz11_0 := blk_frozen BK380.out 0; have hfz11_1 := blk_frozen BK380.out 1; have hfz11_2 := blk_frozen BK380.out 2; have hfz11_3 := blk_frozen BK380.out 3) | ((with_reducible refine gate_callee (f := 10) rfl ?_); refine goesL_ (some 17) rfl rfl Tryd.func10 (by kernel_rfl) rfl #[.agg #[.int .i64 a0_0, .int .i64 a0_1, .int .i64 a0_2, .int .i64 a0_3], .string a1] rfl (by (try simp only [List.map_toArray, List.map_cons, List.map_nil]); first | done | rfl | (simp only [List.length_drop, List.length_take]; rfl)) ?_; (with_reducible refine (frame_Encode.calls a0_0 a0_1 a0_2 a0_3 a1 t382 t383 _ A6.out).mono ?_); rintro e w12 ⟨rfl, hb⟩; refine ⟨_, rfl, ?_⟩; have n0_ := Aside0.mk (blk_below (g := gb380) (o := .cells #[.int .i64 a0_0, .int .i64 a0_1, .int .i64 a0_2, .int .i64 a0_3] 23 (0, 0)) (by (with_reducible repeat (first | refine blk_drewN ?_ _ | refine blk_drew ?_ | refine blk_alloc ?_ _)); exact BK380.out) hb); have n1_ := Aside0.mk (below_step (by repeat (first | (with_reducible first | exact HB.out | apply below_alloc | apply pw_below_drewN | apply below_drew1 | refine below_set ?_ GE380.out) | exact HB.out)) hb); clear BK380; clear HB; have BK380 := n0_; have HB := n1_; clear n0_ n1_; (try clear hb); (try clear hb2); (try clear hk); (try clear hi)) | ((with_reducible refine gate_callee (f := 14) rfl ?_); refine goesL_ (some 26) rfl rfl Tryd.func14 (by kernel_rfl) rfl #[.int .i64 (a1.size : Int)] rfl (by (try simp only [List.map_toArray, List.map_cons, List.map_nil]); first | done | rfl | (simp only [List.length_drop, List.length_take]; rfl)) ?_; (with_reducible refine (frame_Blank.calls (a1.size : Int) t384 _ A8.out).mono ?_); rintro e w13 ⟨rfl, hb⟩; refine ⟨_, rfl, ?_⟩; have n0_ := Aside0.mk (blk_below (g := gb380) (o := .cells #[.int .i64 a0_0, .int .i64 a0_1, .int .i64 a0_2, .int .i64 a0_3] 23 (0, 0)) (by (with_reducible repeat (first | refine blk_drewN ?_ _ | refine blk_drew ?_ | refine blk_alloc ?_ _)); exact BK380.out) hb); have n1_ := Aside0.mk (below_step (by repeat (first | (with_reducible first | exact HB.out | apply below_alloc | apply pw_below_drewN | apply below_drew1 | refine below_set ?_ GE380.out) | exact HB.out)) hb); clear BK380; clear HB; have BK380 := n0_; have HB := n1_; clear n0_ n1_; (try clear hb); (try clear hb2); (try clear hk); (try clear hi)))
      go_loopg [7, 9, 10, 11] k (fun kq v7 v9 v10 v11 w' => ∃ (x7_1 : ByteArray) (x9_1 : ByteArray) (x10_1 : Int) (x11_1 : Int), v7 = .string x7_1 ∧ v9 = .string x9_1 ∧ v10 = .int .i64 x10_1 ∧ v11 = .int .i64 x11_1 ∧ Aside0 (decklelaw05_FrameFixes.l0 kq a1 l2 x7_1 x9_1 x10_1 x11_1 a0_0 a0_1 a0_2 a0_3 = some r) ∧ Aside0 (kq ≤ k) ∧ Aside0 (w'.heap[gb380]? = some (.cells #[.int .i64 a0_0, .int .i64 a0_1, .int .i64 a0_2, .int .i64 a0_3] 23 (0, 0))) ∧ Aside0 (Below w.heap.size w w'))
      case atStart => exact ⟨(t382), (t384), (2), (0), (by first | rfl | (simp; done) | (simp [*]; done)), (by first | rfl | (simp; done) | (simp [*]; done)), (by first | rfl | (simp; done) | (simp [*]; done)), (by first | rfl | (simp; done) | (simp [*]; done)), H', ⟨Nat.le_refl _⟩, ⟨by (with_reducible repeat (first | refine blk_drewN ?_ _ | refine blk_drew ?_ | refine blk_alloc ?_ _)); exact BK380.out⟩, ⟨by repeat (first | (with_reducible first | exact HB.out | apply below_alloc | apply pw_below_drewN | apply below_drew1 | refine below_set ?_ GE380.out) | exact HB.out)⟩⟩
      case round =>
        clear H'
        try clear c1
        try clear c2
        try clear p2
        try clear c5
        try clear c7
        try clear c7b0
        try clear c7b1
        try clear c9
        try clear c10
        try clear hcz11_0
        try clear hcz11_1
        try clear hcz11_2
        try clear hcz11_3
        try clear hfz11_0
        try clear hfz11_1
        try clear hfz11_2
        try clear hfz11_3
        obtain ⟨x7_1, x9_1, x10_1, x11_1, rfl, rfl, rfl, rfl, HA, HK1, BK380, HB⟩ := hrel
        cases gk with
        | zero => exact absurd HA.out (by simp [decklelaw05_FrameFixes.l0])
        | succ k1 =>
          have H := HA.out
          clear HA
          simp only [decklelaw05_FrameFixes.l0] at H
          have HC14 := Aside0.mk H
          clear H
          go_upto_region 9 with (fail)
          go_cut [37] (fun v37 wc => ∃ (kq : Nat) (x37_13 : Bool), v37 = .bool x37_13 ∧ Aside0 (decklelaw05_FrameFixes.j1 kq a1 l2 x7_1 x9_1 x10_1 x11_1 x37_13 a0_0 a0_1 a0_2 a0_3 = some r) ∧ Aside0 (kq ≤ k1) ∧ Aside0 (wc.heap[gb380]? = some (.cells #[.int .i64 a0_0, .int .i64 a0_1, .int .i64 a0_2, .int .i64 a0_3] 23 (0, 0))) ∧ Aside0 (Below w.heap.size w wc))
          case first =>
            have H := HC14.out
            clear HC14
            by_cases c15 : x11_1 < (l2.length : Int)
            · rw [if_pos c15] at H
              have c15b0 : decide (x11_1 < (l2.length : Int)) = true := decide_eq_true c15
              clear c15
              (first | rw [c15b0] | (simp only [i64_w, i32_w]; rw [c15b0]) | skip)
              have H' := Aside0.mk H
              clear H
              go_wp2
              go_meet
              case rel => exact ⟨_, (decide (x11_1 < (wrap64 ((x7_1.size : Int) / 9)))), (by first | rfl | (simp; done) | (simp [*]; done)), H', ⟨by have := HK1.out; first | omega | exact Nat.le_refl _⟩, ⟨by (with_reducible repeat (first | refine blk_drewN ?_ _ | refine blk_drew ?_ | refine blk_alloc ?_ _)); exact BK380.out⟩, ⟨by repeat (first | (with_reducible first | exact HB.out | apply below_alloc | apply pw_below_drewN | apply below_drew1 | refine below_set ?_ GE380.out) | exact HB.out)⟩⟩
            · rw [if_neg c15] at H
              have c15b0 : decide (x11_1 < (l2.length : Int)) = false := decide_eq_false c15
              clear c15
              (first | rw [c15b0] | (simp only [i64_w, i32_w]; rw [c15b0]) | skip)
              have H' := Aside0.mk H
              clear H
              go_wp2
              go_meet
              case rel => exact ⟨_, (false), (by first | rfl | (simp; done) | (simp [*]; done)), H', ⟨by have := HK1.out; first | omega | exact Nat.le_refl _⟩, ⟨by (with_reducible repeat (first | refine blk_drewN ?_ _ | refine blk_drew ?_ | refine blk_alloc ?_ _)); exact BK380.out⟩, ⟨by repeat (first | (with_reducible first | exact HB.out | apply below_alloc | apply pw_below_drewN | apply below_drew1 | refine below_set ?_ GE380.out) | exact HB.out)⟩⟩
          case rest =>
            clear HC14
            try clear c1
            try clear c2
            try clear p2
            try clear c5
            try clear p6
            try clear c7
            try clear c7b0
            try clear c7b1
            try clear c9
            try clear c10
            try clear c14
            try clear c15
            try clear c15b0
            try clear hcz11_0
            try clear hcz11_1
            try clear hcz11_2
            try clear hcz11_3
            try clear hfz11_0
            try clear hfz11_1
            try clear hfz11_2
            try clear hfz11_3
            try clear p2
            obtain ⟨kq, x37_13, rfl, HA, HJ13, BK380, HB⟩ := hcut
            cases kq with
            | zero => exact absurd HA.out (by simp [decklelaw05_FrameFixes.j1])
            | succ kj13 =>
              have H := HA.out
              clear HA
              simp only [decklelaw05_FrameFixes.j1] at H
              by_cases c16 : x37_13 = true
              · subst c16
                have H1 : (if 0 ≤ x11_1 then (if x11_1 < (l2.length : Int) then (if (rd l2 x11_1) ≥ 0 then ((decklelaw05_turned.f x7_1 x11_1 (rd l2 x11_1)).bind fun t399 => ((decklelaw05_turned.f x9_1 x11_1 (rd l2 x11_1)).bind fun t401 => (decklelaw05_FrameFixes.l0 kj13 a1 l2 t399 t401 3 (wrap64 (x11_1 + 1)) a0_0 a0_1 a0_2 a0_3))) else (decklelaw05_FrameFixes.l0 kj13 a1 l2 x7_1 x9_1 x10_1 (wrap64 (x11_1 + 1)) a0_0 a0_1 a0_2 a0_3)) else (none)) else (none)) = some r := by rw [if_pos rfl] at H; exact H
                clear H
                have H := H1
                clear H1
                by_cases c17 : 0 ≤ x11_1
                · rw [if_pos c17] at H
                  have c17b0 : decide (0 ≤ x11_1) = true := decide_eq_true c17
                  clear c17
                  by_cases c18 : x11_1 < (l2.length : Int)
                  · rw [if_pos c18] at H
                    have c18b0 : decide (x11_1 < (l2.length : Int)) = true := decide_eq_true c18
                    clear c18
                    by_cases c19 : (rd l2 x11_1) ≥ 0
                    · rw [if_pos c19] at H
                      have c19b0 : decide (0 ≤ (rd l2 x11_1)) = true := decide_eq_true c19
                      clear c19
                      replace H := Option.bind_eq_some_iff.mp H
                      obtain ⟨t399, A200, H⟩ := H
                      replace H : ((decklelaw05_turned.f x9_1 x11_1 (rd l2 x11_1)).bind fun t401 => (decklelaw05_FrameFixes.l0 kj13 a1 l2 t399 t401 3 (wrap64 (x11_1 + 1)) a0_0 a0_1 a0_2 a0_3)) = some r := H
                      have A20 := Aside0.mk A200
                      clear A200
                      replace H := Option.bind_eq_some_iff.mp H
                      obtain ⟨t401, A210, H⟩ := H
                      replace H : (decklelaw05_FrameFixes.l0 kj13 a1 l2 t399 t401 3 (wrap64 (x11_1 + 1)) a0_0 a0_1 a0_2 a0_3) = some r := H
                      have A21 := Aside0.mk A210
                      clear A210
                      have H' := Aside0.mk H
                      clear H
                      have p397 : 0 ≤ (x11_1 : Int) := of_decide_eq_true (by first | (with_reducible assumption) | assumption)
                      have q397 : x11_1 < (l2.length : Int) := of_decide_eq_true (by first | (with_reducible assumption) | assumption)
                      obtain ⟨ad397, e397, hx397_0⟩ := Kd.at_int HR2.out x11_1 p397 q397
                      cases e397
                      try replace hx397_0 := (HB.out.cell (World.block_lt_of_cell? w _ hx397_0)).trans hx397_0
                      replace p397 := eq_true p397
                      replace q397 := eq_true q397
                      have p398 : 0 ≤ (x11_1 : Int) := of_decide_eq_true (by first | (with_reducible assumption) | assumption)
                      have q398 : x11_1 < (l2.length : Int) := of_decide_eq_true (by first | (with_reducible assumption) | assumption)
                      obtain ⟨ad398, e398, hx398_0⟩ := Kd.at_int HR2.out x11_1 p398 q398
                      obtain rfl : ad397 = ad398 := (by injection e398)
                      try replace hx398_0 := (HB.out.cell (World.block_lt_of_cell? w _ hx398_0)).trans hx398_0
                      replace p398 := eq_true p398
                      replace q398 := eq_true q398
                      go_wp2_with (first | ((with_reducible refine gate_callee (f := 18) rfl ?_); refine goesL_ (some 51) rfl rfl Tryd.func18 (by kernel_rfl) rfl #[.string x7_1, .int .i64 x11_1, .int .i64 (rd l2 x11_1)] rfl (by (try simp only [List.map_toArray, List.map_cons, List.map_nil]); first | done | rfl | (simp only [List.length_drop, List.length_take]; rfl)) ?_; (with_reducible refine (decklelaw05_turned.calls x7_1 x11_1 (rd l2 x11_1) t399 _ A20.out).mono ?_); rintro e w22 ⟨rfl, hb⟩; refine ⟨_, rfl, ?_⟩; have n0_ := Aside0.mk (blk_below (g := gb380) (o := .cells #[.int .i64 a0_0, .int .i64 a0_1, .int .i64 a0_2, .int .i64 a0_3] 23 (0, 0)) (by (with_reducible repeat (first | refine blk_drewN ?_ _ | refine blk_drew ?_ | refine blk_alloc ?_ _)); exact BK380.out) hb); have n1_ := Aside0.mk (below_step (by repeat (first | (with_reducible first | exact HB.out | apply below_alloc | apply pw_below_drewN | apply below_drew1 | refine below_set ?_ GE380.out) | exact HB.out)) hb); clear BK380; clear HB; have BK380 := n0_; have HB := n1_; clear n0_ n1_; (try clear hb); (try clear hb2); (try clear hk); (try clear hi); have p400 : 0 ≤ (x11_1 : Int) := of_decide_eq_true (by first | (with_reducible assumption) | assumption); have q400 : x11_1 < (l2.length : Int) := of_decide_eq_true (by first | (with_reducible assumption) | assumption); obtain ⟨ad400, e400, hx400_0⟩ := Kd.at_int HR2.out x11_1 p400 q400; obtain rfl : ad397 = ad400 := (by injection e400); replace hx400_0 := (HB.out.cell (World.block_lt_of_cell? w _ hx400_0)).trans hx400_0; replace p400 := eq_true p400; replace q400 := eq_true q400) | ((with_reducible refine gate_callee (f := 18) rfl ?_); refine goesL_ (some 58) rfl rfl Tryd.func18 (by kernel_rfl) rfl #[.string x9_1, .int .i64 x11_1, .int .i64 (rd l2 x11_1)] rfl (by (try simp only [List.map_toArray, List.map_cons, List.map_nil]); first | done | rfl | (simp only [List.length_drop, List.length_take]; rfl)) ?_; (with_reducible refine (decklelaw05_turned.calls x9_1 x11_1 (rd l2 x11_1) t401 _ A21.out).mono ?_); rintro e w23 ⟨rfl, hb⟩; refine ⟨_, rfl, ?_⟩; have n0_ := Aside0.mk (blk_below (g := gb380) (o := .cells #[.int .i64 a0_0, .int .i64 a0_1, .int .i64 a0_2, .int .i64 a0_3] 23 (0, 0)) (by (with_reducible repeat (first | refine blk_drewN ?_ _ | refine blk_drew ?_ | refine blk_alloc ?_ _)); exact BK380.out) hb); have n1_ := Aside0.mk (below_step (by repeat (first | (with_reducible first | exact HB.out | apply below_alloc | apply pw_below_drewN | apply below_drew1 | refine below_set ?_ GE380.out) | exact HB.out)) hb); clear BK380; clear HB; have BK380 := n0_; have HB := n1_; clear n0_ n1_; (try clear hb); (try clear hb2); (try clear hk); (try clear hi)))
                      go_roundg kj13
                      case measure => have := HK1.out; have := HJ13.out; omega
                      case rel => exact ⟨(t399), (t401), (3), (wrap64 (x11_1 + 1)), (by first | rfl | (simp; done) | (simp [*]; done)), (by first | rfl | (simp; done) | (simp [*]; done)), (by first | rfl | (simp; done) | (simp [*]; done)), (by first | rfl | (simp; done) | (simp [*]; done)), H', ⟨by have := HK1.out; have := HJ13.out; omega⟩, ⟨by (with_reducible repeat (first | refine blk_drewN ?_ _ | refine blk_drew ?_ | refine blk_alloc ?_ _)); exact BK380.out⟩, ⟨by repeat (first | (with_reducible first | exact HB.out | apply below_alloc | apply pw_below_drewN | apply below_drew1 | refine below_set ?_ GE380.out) | exact HB.out)⟩⟩
                    · rw [if_neg c19] at H
                      have c19b0 : decide (0 ≤ (rd l2 x11_1)) = false := decide_eq_false c19
                      clear c19
                      have H' := Aside0.mk H
                      clear H
                      have p397 : 0 ≤ (x11_1 : Int) := of_decide_eq_true (by first | (with_reducible assumption) | assumption)
                      have q397 : x11_1 < (l2.length : Int) := of_decide_eq_true (by first | (with_reducible assumption) | assumption)
                      obtain ⟨ad397, e397, hx397_0⟩ := Kd.at_int HR2.out x11_1 p397 q397
                      cases e397
                      try replace hx397_0 := (HB.out.cell (World.block_lt_of_cell? w _ hx397_0)).trans hx397_0
                      replace p397 := eq_true p397
                      replace q397 := eq_true q397
                      go_wp2
                      go_roundg kj13
                      case measure => have := HK1.out; have := HJ13.out; omega
                      case rel => exact ⟨(x7_1), (x9_1), (x10_1), (wrap64 (x11_1 + 1)), (by first | rfl | (simp; done) | (simp [*]; done)), (by first | rfl | (simp; done) | (simp [*]; done)), (by first | rfl | (simp; done) | (simp [*]; done)), (by first | rfl | (simp; done) | (simp [*]; done)), H', ⟨by have := HK1.out; have := HJ13.out; omega⟩, ⟨by (with_reducible repeat (first | refine blk_drewN ?_ _ | refine blk_drew ?_ | refine blk_alloc ?_ _)); exact BK380.out⟩, ⟨by repeat (first | (with_reducible first | exact HB.out | apply below_alloc | apply pw_below_drewN | apply below_drew1 | refine below_set ?_ GE380.out) | exact HB.out)⟩⟩
                  · rw [if_neg c18] at H
                    exact absurd H (by simp)
                · rw [if_neg c17] at H
                  exact absurd H (by simp)
              · replace c16 := Bool.eq_false_iff.mpr c16
                subst c16
                have H1 : ((frame_Decode.f x7_1).bind fun bt385 => (if (bt385.1 == x10_1 && ((bt385.2.1 == a0_0 && (bt385.2.2.1 == a0_1 && (bt385.2.2.2.1 == a0_2 && (bt385.2.2.2.2.1 == a0_3)))) && (bt385.2.2.2.2.2.toList == a1.toList))) = true then ((frame_Decode.f x9_1).bind fun bt391 => (some (bt391.1 == 1 && ((bt391.2.1 == 0 && (bt391.2.2.1 == 0 && (bt391.2.2.2.1 == 0 && (bt391.2.2.2.2.1 == 0)))) && (bt391.2.2.2.2.2.toList == ([] : List UInt8)))))) else (some false))) = some r := by rw [if_neg (show ¬ (false = true) by decide)] at H; exact H
                clear H
                have H := H1
                clear H1
                replace H := Option.bind_eq_some_iff.mp H
                obtain ⟨⟨t385, t386, t387, t388, t389, t390⟩, A240, H⟩ := H
                replace H : (if (t385 == x10_1 && ((t386 == a0_0 && (t387 == a0_1 && (t388 == a0_2 && (t389 == a0_3)))) && (t390.toList == a1.toList))) = true then ((frame_Decode.f x9_1).bind fun bt391 => (some (bt391.1 == 1 && ((bt391.2.1 == 0 && (bt391.2.2.1 == 0 && (bt391.2.2.2.1 == 0 && (bt391.2.2.2.2.1 == 0)))) && (bt391.2.2.2.2.2.toList == ([] : List UInt8)))))) else (some false)) = some r := H
                have A24 := Aside0.mk A240
                clear A240
                by_cases c25 : (t385 == x10_1 && ((t386 == a0_0 && (t387 == a0_1 && (t388 == a0_2 && (t389 == a0_3)))) && (t390.toList == a1.toList))) = true
                · rw [if_pos c25] at H
                  have c25b0 : (t385 == x10_1 && ((t386 == a0_0 && (t387 == a0_1 && (t388 == a0_2 && (t389 == a0_3)))) && (t390.toList == a1.toList))) = true := c25
                  (try (have c25b1 : decide (t385 = x10_1 && ((t386 == a0_0 && (t387 == a0_1 && (t388 == a0_2 && (t389 == a0_3)))) && (t390.toList == a1.toList))) = true := by simpa using c25))
                  (try (have c25b2 : (t385 == x10_1 && ((t386 == a0_0 && (t387 == a0_1 && (t388 == a0_2 && (t389 == a0_3)))) && (t390.toList == a1.toList))) = true := by simpa using c25))
                  clear c25
                  replace H := Option.bind_eq_some_iff.mp H
                  obtain ⟨⟨t391, t392, t393, t394, t395, t396⟩, A260, H⟩ := H
                  replace H : (some (t391 == 1 && ((t392 == 0 && (t393 == 0 && (t394 == 0 && (t395 == 0)))) && (t396.toList == ([] : List UInt8))))) = some r := H
                  have A26 := Aside0.mk A260
                  clear A260
                  obtain rfl := Option.some.inj H
                  try go_wp2
                  have n0_ := Aside0.mk (blk_drew BK380.out)
                  have n1_ := Aside0.mk (below_drew1 HB.out)
                  clear BK380
                  clear HB
                  have BK380 := n0_
                  have HB := n1_
                  clear n0_ n1_
                  refine start_ (n := 14) (S := fun w' => w'.cell? ⟨gb380, 0, none⟩ = some (.int .i64 a0_0) ∧ w'.cell? ⟨gb380, 1, none⟩ = some (.int .i64 a0_1) ∧ w'.cell? ⟨gb380, 2, none⟩ = some (.int .i64 a0_2) ∧ w'.cell? ⟨gb380, 3, none⟩ = some (.int .i64 a0_3)) (ds := []) (tfA 0 14) (by kernel_rfl) rfl rfl ⟨(blk_cell BK380.out 0).trans rfl, (blk_cell BK380.out 1).trans rfl, (blk_cell BK380.out 2).trans rfl, (blk_cell BK380.out 3).trans rfl⟩ (fun hHeld => ?_); refine with_tabW decklelaw05_FrameFixes.tab15 decklelaw05_FrameFixes.bits15 (fun HT_ HW_ => ?_)
                  generalize wc.drew = w27 at BK380 HB hHeld ⊢
                  refine pure_ (i := 0) (N := some 59) (v := ?_) (a' := ?_) (tfA 1 14) rfl rfl (any_of HT_.out (by kernel_rfl)) (fun _ _ _ h => h) (Or.inl ⟨by rfl, ?_⟩) ?_ ?_
                  rotate_left
                  · intro w'; go_simp; with_reducible rfl
                  rotate_left
                  · simp only [Act.put, sib, sc0, sc1, i64_w, i32_w]; rfl
                  refine pure_ (i := 2) (N := some 61) (v := ?_) (a' := ?_) #[true, false, true, false, false, false, false, false, false, false, false, false, false, false] rfl rfl (any_of HT_.out (by kernel_rfl)) (fun _ _ _ h => h) (Or.inl ⟨by rfl, ?_⟩) ?_ ?_
                  rotate_left
                  · intro w'; go_simp; with_reducible rfl
                  rotate_left
                  · simp only [Act.put, sib, sc0, sc1, i64_w, i32_w]; rfl
                  refine pure_ (i := 4) (N := some 63) (v := ?_) (a' := ?_) #[true, false, true, false, true, false, false, false, false, false, false, false, false, false] rfl rfl (any_of HT_.out (by kernel_rfl)) (fun _ _ _ h => h) (Or.inl ⟨by rfl, ?_⟩) ?_ ?_
                  rotate_left
                  · intro w'; go_simp; with_reducible rfl
                  rotate_left
                  · simp only [Act.put, sib, sc0, sc1, i64_w, i32_w]; rfl
                  refine take_ (i := 3) (N := some 62) (v := ?_) (a' := ?_) #[true, false, true, true, true, false, false, false, false, false, false, false, false, false] rfl rfl (take_ofW HT_.out HW_.out (by kernel_rfl)) (fun _ _ _ h => h) (Or.inl ⟨by rfl, ?_⟩) hHeld ?_ ?_
                  rotate_left
                  · rintro w' ⟨s0, s1, s2, s3⟩
                    go_simp
                    with_reducible rfl
                  rotate_left
                  · simp only [Act.put, sib, sc0, sc1, i64_w, i32_w]
                    rfl
                  refine pure_ (i := 5) (N := some 64) (v := ?_) (a' := ?_) #[true, false, true, true, true, true, false, false, false, false, false, false, false, false] rfl rfl (any_of HT_.out (by kernel_rfl)) (fun _ _ _ h => h) (Or.inl ⟨by rfl, ?_⟩) ?_ ?_
                  rotate_left
                  · intro w'; go_simp; with_reducible rfl
                  rotate_left
                  · simp only [Act.put, sib, sc0, sc1, i64_w, i32_w]; rfl
                  refine one_ (i := 1) (N := some 60) (tfA 6 14) rfl rfl (one_of HT_.out (by kernel_rfl)) (by decide) (fun K hK => ?_)
                  refine goes_ Tryd.func12 (by kernel_rfl) rfl #[.string x7_1] (by rfl) rfl rfl (by (try simp only [List.map_toArray, List.map_cons, List.map_nil]); first | done | rfl | (simp only [List.length_drop, List.length_take]; rfl)) ?_
                  with_reducible refine (frame_Decode.calls x7_1 t385 t386 t387 t388 t389 t390 _ A24.out).mono ?_
                  rintro e w28 ⟨rfl, hb⟩
                  refine ⟨_, rfl, ?_⟩
                  have n0_ := Aside0.mk (blk_below (g := gb380) (o := .cells #[.int .i64 a0_0, .int .i64 a0_1, .int .i64 a0_2, .int .i64 a0_3] 23 (0, 0)) (by (with_reducible repeat (first | refine blk_drewN ?_ _ | refine blk_drew ?_ | refine blk_alloc ?_ _)); exact BK380.out) hb)
                  have n1_ := Aside0.mk (below_step (by repeat (first | (with_reducible first | exact HB.out | apply below_alloc | apply pw_below_drewN | apply below_drew1 | refine below_set ?_ GE380.out) | exact HB.out)) hb)
                  clear BK380
                  clear HB
                  have BK380 := n0_
                  have HB := n1_
                  clear n0_ n1_
                  (try clear hb)
                  (try clear hb2)
                  (try clear hk)
                  (try clear hi)
                  refine hK.out _ _ ⟨(blk_cell BK380.out 0).trans rfl, (blk_cell BK380.out 1).trans rfl, (blk_cell BK380.out 2).trans rfl, (blk_cell BK380.out 3).trans rfl⟩ (fun hHeld => ?_)
                  clear hK K
                  refine norm_ (a' := ?_) ?_ ?_
                  rotate_left
                  · show Act.put _ (some 60) _ = _
                    simp only [Act.put, sib, sc0, sc1, i64_w, i32_w]
                    rfl
                  refine pure_ (i := 6) (N := some 65) (v := ?_) (a' := ?_) (tfA 7 14) rfl rfl (any_of HT_.out (by kernel_rfl)) (fun _ _ _ h => h) (Or.inl ⟨by rfl, ?_⟩) ?_ ?_
                  rotate_left
                  · intro w'; go_simp; with_reducible rfl
                  rotate_left
                  · simp only [Act.put, sib, sc0, sc1, i64_w, i32_w]; rfl
                  refine pure_ (i := 7) (N := some 66) (v := ?_) (a' := ?_) (tfA 8 14) rfl rfl (any_of HT_.out (by kernel_rfl)) (fun _ _ _ h => h) (Or.inl ⟨by rfl, ?_⟩) ?_ ?_
                  rotate_left
                  · intro w'; go_simp; with_reducible rfl
                  rotate_left
                  · simp only [Act.put, sib, sc0, sc1, i64_w, i32_w]; rfl
                  refine pure_ (i := 8) (N := some 67) (v := ?_) (a' := ?_) (tfA 9 14) rfl rfl (any_of HT_.out (by kernel_rfl)) (fun _ _ _ h => h) (Or.inl ⟨by rfl, ?_⟩) ?_ ?_
                  rotate_left
                  · intro w'; go_simp; with_reducible rfl
                  rotate_left
                  · simp only [Act.put, sib, sc0, sc1, i64_w, i32_w]; rfl
                  refine pure_ (i := 10) (N := some 69) (v := ?_) (a' := ?_) #[true, true, true, true, true, true, true, true, true, false, true, false, false, false] rfl rfl (any_of HT_.out (by kernel_rfl)) (fun _ _ _ h => h) (Or.inl ⟨by rfl, ?_⟩) ?_ ?_
                  rotate_left
                  · intro w'; go_simp; with_reducible rfl
                  rotate_left
                  · simp only [Act.put, sib, sc0, sc1, i64_w, i32_w]; rfl
                  refine one_ (i := 9) (N := some 68) (tfA 11 14) rfl rfl (one_of HT_.out (by kernel_rfl)) (by decide) (fun K hK => ?_)
                  refine goes_ Tryd.func12 (by kernel_rfl) rfl #[.string x9_1] (by rfl) rfl rfl (by (try simp only [List.map_toArray, List.map_cons, List.map_nil]); first | done | rfl | (simp only [List.length_drop, List.length_take]; rfl)) ?_
                  with_reducible refine (frame_Decode.calls x9_1 t391 t392 t393 t394 t395 t396 _ A26.out).mono ?_
                  rintro e w29 ⟨rfl, hb⟩
                  refine ⟨_, rfl, ?_⟩
                  have n0_ := Aside0.mk (blk_below (g := gb380) (o := .cells #[.int .i64 a0_0, .int .i64 a0_1, .int .i64 a0_2, .int .i64 a0_3] 23 (0, 0)) (by (with_reducible repeat (first | refine blk_drewN ?_ _ | refine blk_drew ?_ | refine blk_alloc ?_ _)); exact BK380.out) hb)
                  have n1_ := Aside0.mk (below_step (by repeat (first | (with_reducible first | exact HB.out | apply below_alloc | apply pw_below_drewN | apply below_drew1 | refine below_set ?_ GE380.out) | exact HB.out)) hb)
                  clear BK380
                  clear HB
                  have BK380 := n0_
                  have HB := n1_
                  clear n0_ n1_
                  (try clear hb)
                  (try clear hb2)
                  (try clear hk)
                  (try clear hi)
                  refine hK.out _ _ ⟨(blk_cell BK380.out 0).trans rfl, (blk_cell BK380.out 1).trans rfl, (blk_cell BK380.out 2).trans rfl, (blk_cell BK380.out 3).trans rfl⟩ (fun hHeld => ?_)
                  clear hK K
                  refine norm_ (a' := ?_) ?_ ?_
                  rotate_left
                  · show Act.put _ (some 68) _ = _
                    simp only [Act.put, sib, sc0, sc1, i64_w, i32_w]
                    rfl
                  refine pure_ (i := 11) (N := some 70) (v := ?_) (a' := ?_) (tfA 12 14) rfl rfl (any_of HT_.out (by kernel_rfl)) (fun _ _ _ h => h) (Or.inl ⟨by rfl, ?_⟩) ?_ ?_
                  rotate_left
                  · intro w'; go_simp; with_reducible rfl
                  rotate_left
                  · simp only [Act.put, sib, sc0, sc1, i64_w, i32_w]; rfl
                  refine pure_ (i := 12) (N := some 71) (v := ?_) (a' := ?_) (tfA 13 14) rfl rfl (any_of HT_.out (by kernel_rfl)) (fun _ _ _ h => h) (Or.inl ⟨by rfl, ?_⟩) ?_ ?_
                  rotate_left
                  · intro w'; go_simp; with_reducible rfl
                  rotate_left
                  · simp only [Act.put, sib, sc0, sc1, i64_w, i32_w]; rfl
                  refine pure_ (i := 13) (N := some 6) (v := ?_) (a' := ?_) (tfA 14 14) rfl rfl (any_of HT_.out (by kernel_rfl)) (fun _ _ _ h => h) (Or.inl ⟨by rfl, ?_⟩) ?_ ?_
                  rotate_left
                  · intro w'; go_simp; with_reducible rfl
                  rotate_left
                  · simp only [Act.put, sib, sc0, sc1, i64_w, i32_w]; rfl
                  refine done_ (done_of HT_.out (by kernel_rfl)) ?_
                  try go_wp2
                  go_ret
                  exact ⟨by first | rfl | (simp [errW_none, errW_some] <;> rfl) | (simp [*, errW_none, errW_some] <;> rfl), by repeat (first | (with_reducible first | exact HB.out | apply below_alloc | apply pw_below_drewN | apply below_drew1 | refine below_set ?_ GE380.out) | exact HB.out)⟩
                · rw [if_neg c25] at H
                  have c25b0 : (t385 == x10_1 && ((t386 == a0_0 && (t387 == a0_1 && (t388 == a0_2 && (t389 == a0_3)))) && (t390.toList == a1.toList))) = false := by simpa using c25
                  (try (have c25b1 : decide (t385 = x10_1 && ((t386 == a0_0 && (t387 == a0_1 && (t388 == a0_2 && (t389 == a0_3)))) && (t390.toList == a1.toList))) = false := by simpa using c25))
                  (try (have c25b2 : (t385 == x10_1 && ((t386 == a0_0 && (t387 == a0_1 && (t388 == a0_2 && (t389 == a0_3)))) && (t390.toList == a1.toList))) = false := by simpa using c25))
                  (try (have c25b3 : ¬ (t385 = x10_1 && ((t386 == a0_0 && (t387 == a0_1 && (t388 == a0_2 && (t389 == a0_3)))) && (t390.toList == a1.toList))) := by simpa using c25))
                  clear c25
                  obtain rfl := Option.some.inj H
                  try go_wp2
                  have n0_ := Aside0.mk (blk_drew BK380.out)
                  have n1_ := Aside0.mk (below_drew1 HB.out)
                  clear BK380
                  clear HB
                  have BK380 := n0_
                  have HB := n1_
                  clear n0_ n1_
                  refine start_ (n := 14) (S := fun w' => w'.cell? ⟨gb380, 0, none⟩ = some (.int .i64 a0_0) ∧ w'.cell? ⟨gb380, 1, none⟩ = some (.int .i64 a0_1) ∧ w'.cell? ⟨gb380, 2, none⟩ = some (.int .i64 a0_2) ∧ w'.cell? ⟨gb380, 3, none⟩ = some (.int .i64 a0_3)) (ds := []) (tfA 0 14) (by kernel_rfl) rfl rfl ⟨(blk_cell BK380.out 0).trans rfl, (blk_cell BK380.out 1).trans rfl, (blk_cell BK380.out 2).trans rfl, (blk_cell BK380.out 3).trans rfl⟩ (fun hHeld => ?_); refine with_tabW decklelaw05_FrameFixes.tab15 decklelaw05_FrameFixes.bits15 (fun HT_ HW_ => ?_)
                  generalize wc.drew = w30 at BK380 HB hHeld ⊢
                  refine pure_ (i := 0) (N := some 59) (v := ?_) (a' := ?_) (tfA 1 14) rfl rfl (any_of HT_.out (by kernel_rfl)) (fun _ _ _ h => h) (Or.inl ⟨by rfl, ?_⟩) ?_ ?_
                  rotate_left
                  · intro w'; go_simp; with_reducible rfl
                  rotate_left
                  · simp only [Act.put, sib, sc0, sc1, i64_w, i32_w]; rfl
                  refine pure_ (i := 2) (N := some 61) (v := ?_) (a' := ?_) #[true, false, true, false, false, false, false, false, false, false, false, false, false, false] rfl rfl (any_of HT_.out (by kernel_rfl)) (fun _ _ _ h => h) (Or.inl ⟨by rfl, ?_⟩) ?_ ?_
                  rotate_left
                  · intro w'; go_simp; with_reducible rfl
                  rotate_left
                  · simp only [Act.put, sib, sc0, sc1, i64_w, i32_w]; rfl
                  refine pure_ (i := 4) (N := some 63) (v := ?_) (a' := ?_) #[true, false, true, false, true, false, false, false, false, false, false, false, false, false] rfl rfl (any_of HT_.out (by kernel_rfl)) (fun _ _ _ h => h) (Or.inl ⟨by rfl, ?_⟩) ?_ ?_
                  rotate_left
                  · intro w'; go_simp; with_reducible rfl
                  rotate_left
                  · simp only [Act.put, sib, sc0, sc1, i64_w, i32_w]; rfl
                  refine take_ (i := 3) (N := some 62) (v := ?_) (a' := ?_) #[true, false, true, true, true, false, false, false, false, false, false, false, false, false] rfl rfl (take_ofW HT_.out HW_.out (by kernel_rfl)) (fun _ _ _ h => h) (Or.inl ⟨by rfl, ?_⟩) hHeld ?_ ?_
                  rotate_left
                  · rintro w' ⟨s0, s1, s2, s3⟩
                    go_simp
                    with_reducible rfl
                  rotate_left
                  · simp only [Act.put, sib, sc0, sc1, i64_w, i32_w]
                    rfl
                  refine pure_ (i := 5) (N := some 64) (v := ?_) (a' := ?_) #[true, false, true, true, true, true, false, false, false, false, false, false, false, false] rfl rfl (any_of HT_.out (by kernel_rfl)) (fun _ _ _ h => h) (Or.inl ⟨by rfl, ?_⟩) ?_ ?_
                  rotate_left
                  · intro w'; go_simp; with_reducible rfl
                  rotate_left
                  · simp only [Act.put, sib, sc0, sc1, i64_w, i32_w]; rfl
                  refine one_ (i := 1) (N := some 60) (tfA 6 14) rfl rfl (one_of HT_.out (by kernel_rfl)) (by decide) (fun K hK => ?_)
                  refine goes_ Tryd.func12 (by kernel_rfl) rfl #[.string x7_1] (by rfl) rfl rfl (by (try simp only [List.map_toArray, List.map_cons, List.map_nil]); first | done | rfl | (simp only [List.length_drop, List.length_take]; rfl)) ?_
                  with_reducible refine (frame_Decode.calls x7_1 t385 t386 t387 t388 t389 t390 _ A24.out).mono ?_
                  rintro e w31 ⟨rfl, hb⟩
                  refine ⟨_, rfl, ?_⟩
                  have n0_ := Aside0.mk (blk_below (g := gb380) (o := .cells #[.int .i64 a0_0, .int .i64 a0_1, .int .i64 a0_2, .int .i64 a0_3] 23 (0, 0)) (by (with_reducible repeat (first | refine blk_drewN ?_ _ | refine blk_drew ?_ | refine blk_alloc ?_ _)); exact BK380.out) hb)
                  have n1_ := Aside0.mk (below_step (by repeat (first | (with_reducible first | exact HB.out | apply below_alloc | apply pw_below_drewN | apply below_drew1 | refine below_set ?_ GE380.out) | exact HB.out)) hb)
                  clear BK380
                  clear HB
                  have BK380 := n0_
                  have HB := n1_
                  clear n0_ n1_
                  (try clear hb)
                  (try clear hb2)
                  (try clear hk)
                  (try clear hi)
                  refine hK.out _ _ ⟨(blk_cell BK380.out 0).trans rfl, (blk_cell BK380.out 1).trans rfl, (blk_cell BK380.out 2).trans rfl, (blk_cell BK380.out 3).trans rfl⟩ (fun hHeld => ?_)
                  clear hK K
                  refine norm_ (a' := ?_) ?_ ?_
                  rotate_left
                  · show Act.put _ (some 60) _ = _
                    simp only [Act.put, sib, sc0, sc1, i64_w, i32_w]
                    rfl
                  refine pure_ (i := 6) (N := some 65) (v := ?_) (a' := ?_) (tfA 7 14) rfl rfl (any_of HT_.out (by kernel_rfl)) (fun _ _ _ h => h) (Or.inl ⟨by rfl, ?_⟩) ?_ ?_
                  rotate_left
                  · intro w'; go_simp; with_reducible rfl
                  rotate_left
                  · simp only [Act.put, sib, sc0, sc1, i64_w, i32_w]; rfl
                  refine pure_ (i := 7) (N := some 66) (v := ?_) (a' := ?_) (tfA 8 14) rfl rfl (any_of HT_.out (by kernel_rfl)) (fun _ _ _ h => h) (Or.inl ⟨by rfl, ?_⟩) ?_ ?_
                  rotate_left
                  · intro w'; go_simp; with_reducible rfl
                  rotate_left
                  · simp only [Act.put, sib, sc0, sc1, i64_w, i32_w]; rfl
                  refine pure_ (i := 8) (N := some 67) (v := undef) (a' := ?_) (tfA 9 14) rfl rfl (any_of HT_.out (by kernel_rfl)) (fun _ _ _ h => h) (Or.inr ⟨by rfl, rfl⟩) ?_ ?_
                  rotate_left
                  · simp only [Act.put, sib, sc0, sc1, i64_w, i32_w]
                    rfl
                  refine pure_ (i := 9) (N := some 68) (v := undef) (a' := ?_) (tfA 10 14) rfl rfl (any_of HT_.out (by kernel_rfl)) (fun _ _ _ h => h) (Or.inr ⟨by rfl, rfl⟩) ?_ ?_
                  rotate_left
                  · simp only [Act.put, sib, sc0, sc1, i64_w, i32_w]
                    rfl
                  refine pure_ (i := 10) (N := some 69) (v := undef) (a' := ?_) (tfA 11 14) rfl rfl (any_of HT_.out (by kernel_rfl)) (fun _ _ _ h => h) (Or.inr ⟨by rfl, rfl⟩) ?_ ?_
                  rotate_left
                  · simp only [Act.put, sib, sc0, sc1, i64_w, i32_w]
                    rfl
                  refine pure_ (i := 11) (N := some 70) (v := undef) (a' := ?_) (tfA 12 14) rfl rfl (any_of HT_.out (by kernel_rfl)) (fun _ _ _ h => h) (Or.inr ⟨by rfl, rfl⟩) ?_ ?_
                  rotate_left
                  · simp only [Act.put, sib, sc0, sc1, i64_w, i32_w]
                    rfl
                  refine pure_ (i := 12) (N := some 71) (v := ?_) (a' := ?_) (tfA 13 14) rfl rfl (any_of HT_.out (by kernel_rfl)) (fun _ _ _ h => h) (Or.inl ⟨by rfl, ?_⟩) ?_ ?_
                  rotate_left
                  · intro w'; go_simp; with_reducible rfl
                  rotate_left
                  · simp only [Act.put, sib, sc0, sc1, i64_w, i32_w]; rfl
                  refine pure_ (i := 13) (N := some 6) (v := ?_) (a' := ?_) (tfA 14 14) rfl rfl (any_of HT_.out (by kernel_rfl)) (fun _ _ _ h => h) (Or.inl ⟨by rfl, ?_⟩) ?_ ?_
                  rotate_left
                  · intro w'; go_simp; with_reducible rfl
                  rotate_left
                  · simp only [Act.put, sib, sc0, sc1, i64_w, i32_w]; rfl
                  refine done_ (done_of HT_.out (by kernel_rfl)) ?_
                  try go_wp2
                  go_ret
                  exact ⟨by first | rfl | (simp [errW_none, errW_some] <;> rfl) | (simp [*, errW_none, errW_some] <;> rfl), by repeat (first | (with_reducible first | exact HB.out | apply below_alloc | apply pw_below_drewN | apply below_drew1 | refine below_set ?_ GE380.out) | exact HB.out)⟩
    · rw [if_neg c7] at H
      have c7b0 : (t383 == 0) = false := beq_eq_false_iff_ne.mpr c7
      have c7b1 : (t383 != 0) = true := bne_iff_ne.mpr c7
      obtain rfl := Option.some.inj H
      go_enter Tryd.func7, Tryd.ntmps7
      go_wp2_with (first | ((with_reducible refine gate_dst (N := 3) rfl ?_); (try (refine gate_guard (by rfl) ?_; dsimp only)); refine box_event ?hg (N := 3) ?hd (cs := #[.int .i64 a0_0, .int .i64 a0_1, .int .i64 a0_2, .int .i64 a0_3]) (t := 23) ?hr ?_; (case hd => rfl); (case hg => rfl); (case hr => first | (go_simp; done) | (go_simp; rfl)); intro gb380 hg w32 hbox hb; have n0_ := Aside0.mk (below_step (by repeat (first | (with_reducible first | exact HB.out | apply below_alloc | apply pw_below_drewN | apply below_drew1) | exact HB.out)) hb); have n1_ := Aside0.mk (hbox); have n2_ := Aside0.mk ((by rw [hg]; exact (below_size (by repeat (first | (with_reducible first | exact HB.out | apply below_alloc | apply pw_below_drewN | apply below_drew1) | exact HB.out))) : w.heap.size ≤ gb380)); have n3_ := Aside0.mk ((by rw [hg]; exact (below_size (by repeat (first | (with_reducible first | exact HB.out | apply below_alloc | apply pw_below_drewN | apply below_drew1) | exact HB.out))) : w.heap.size ≤ gb380)); clear HB; have HB := n0_; have BK380 := n1_; have GW380 := n2_; have GE380 := n3_; clear n0_ n1_ n2_ n3_; clear hb hbox hg) | ((with_reducible refine gate_callee (f := 9) rfl ?_); refine goesL_ (some 12) rfl rfl Tryd.func9 (by kernel_rfl) rfl #[] rfl (by (try simp only [List.map_toArray, List.map_cons, List.map_nil]); first | done | rfl | (simp only [List.length_drop, List.length_take]; rfl)) ?_; (with_reducible refine (decklelaw05_works.calls  true _ A4.out).mono ?_); rintro e w33 ⟨rfl, hb⟩; refine ⟨_, rfl, ?_⟩; have n0_ := Aside0.mk (blk_below (g := gb380) (o := .cells #[.int .i64 a0_0, .int .i64 a0_1, .int .i64 a0_2, .int .i64 a0_3] 23 (0, 0)) (by (with_reducible repeat (first | refine blk_drewN ?_ _ | refine blk_drew ?_ | refine blk_alloc ?_ _)); exact BK380.out) hb); have n1_ := Aside0.mk (below_step (by repeat (first | (with_reducible first | exact HB.out | apply below_alloc | apply pw_below_drewN | apply below_drew1 | refine below_set ?_ GE380.out) | exact HB.out)) hb); clear BK380; clear HB; have BK380 := n0_; have HB := n1_; clear n0_ n1_; (try clear hb); (try clear hb2); (try clear hk); (try clear hi); have hcz34_0 : w33.cell? ⟨gb380, 0, none⟩ = some (.int .i64 a0_0) := (blk_cell BK380.out 0).trans rfl; have hcz34_1 : w33.cell? ⟨gb380, 1, none⟩ = some (.int .i64 a0_1) := (blk_cell BK380.out 1).trans rfl; have hcz34_2 : w33.cell? ⟨gb380, 2, none⟩ = some (.int .i64 a0_2) := (blk_cell BK380.out 2).trans rfl; have hcz34_3 : w33.cell? ⟨gb380, 3, none⟩ = some (.int .i64 a0_3) := (blk_cell BK380.out 3).trans rfl; have hfz34_0 := blk_frozen BK380.out 0; have hfz34_1 := blk_frozen BK380.out 1; have hfz34_2 := blk_frozen BK380.out 2; have hfz34_3 := blk_frozen BK380.out 3) | ((with_reducible refine gate_callee (f := 10) rfl ?_); refine goesL_ (some 17) rfl rfl Tryd.func10 (by kernel_rfl) rfl #[.agg #[.int .i64 a0_0, .int .i64 a0_1, .int .i64 a0_2, .int .i64 a0_3], .string a1] rfl (by (try simp only [List.map_toArray, List.map_cons, List.map_nil]); first | done | rfl | (simp only [List.length_drop, List.length_take]; rfl)) ?_; (with_reducible refine (frame_Encode.calls a0_0 a0_1 a0_2 a0_3 a1 t382 t383 _ A6.out).mono ?_); rintro e w35 ⟨rfl, hb⟩; refine ⟨_, rfl, ?_⟩; have n0_ := Aside0.mk (blk_below (g := gb380) (o := .cells #[.int .i64 a0_0, .int .i64 a0_1, .int .i64 a0_2, .int .i64 a0_3] 23 (0, 0)) (by (with_reducible repeat (first | refine blk_drewN ?_ _ | refine blk_drew ?_ | refine blk_alloc ?_ _)); exact BK380.out) hb); have n1_ := Aside0.mk (below_step (by repeat (first | (with_reducible first | exact HB.out | apply below_alloc | apply pw_below_drewN | apply below_drew1 | refine below_set ?_ GE380.out) | exact HB.out)) hb); clear BK380; clear HB; have BK380 := n0_; have HB := n1_; clear n0_ n1_; (try clear hb); (try clear hb2); (try clear hk); (try clear hi)))
      go_ret
      exact ⟨by first | rfl | (simp [errW_none, errW_some] <;> rfl) | (simp [*, errW_none, errW_some] <;> rfl), by repeat (first | (with_reducible first | exact HB.out | apply below_alloc | apply pw_below_drewN | apply below_drew1 | refine below_set ?_ GE380.out) | exact HB.out)⟩
  · replace c5 := Bool.eq_false_iff.mpr c5
    subst c5
    have H1 : (some false) = some r := by rw [if_neg (show ¬ (false = true) by decide)] at H; exact H
    clear H
    have H := H1
    clear H1
    obtain rfl := Option.some.inj H
    go_enter Tryd.func7, Tryd.ntmps7
    go_wp2_with (first | ((with_reducible refine gate_dst (N := 3) rfl ?_); (try (refine gate_guard (by rfl) ?_; dsimp only)); refine box_event ?hg (N := 3) ?hd (cs := #[.int .i64 a0_0, .int .i64 a0_1, .int .i64 a0_2, .int .i64 a0_3]) (t := 23) ?hr ?_; (case hd => rfl); (case hg => rfl); (case hr => first | (go_simp; done) | (go_simp; rfl)); intro gb380 hg w36 hbox hb; have n0_ := Aside0.mk (below_step (by repeat (first | (with_reducible first | exact HB.out | apply below_alloc | apply pw_below_drewN | apply below_drew1) | exact HB.out)) hb); have n1_ := Aside0.mk (hbox); have n2_ := Aside0.mk ((by rw [hg]; exact (below_size (by repeat (first | (with_reducible first | exact HB.out | apply below_alloc | apply pw_below_drewN | apply below_drew1) | exact HB.out))) : w.heap.size ≤ gb380)); have n3_ := Aside0.mk ((by rw [hg]; exact (below_size (by repeat (first | (with_reducible first | exact HB.out | apply below_alloc | apply pw_below_drewN | apply below_drew1) | exact HB.out))) : w.heap.size ≤ gb380)); clear HB; have HB := n0_; have BK380 := n1_; have GW380 := n2_; have GE380 := n3_; clear n0_ n1_ n2_ n3_; clear hb hbox hg) | ((with_reducible refine gate_callee (f := 9) rfl ?_); refine goesL_ (some 12) rfl rfl Tryd.func9 (by kernel_rfl) rfl #[] rfl (by (try simp only [List.map_toArray, List.map_cons, List.map_nil]); first | done | rfl | (simp only [List.length_drop, List.length_take]; rfl)) ?_; (with_reducible refine (decklelaw05_works.calls  false _ A4.out).mono ?_); rintro e w37 ⟨rfl, hb⟩; refine ⟨_, rfl, ?_⟩; have n0_ := Aside0.mk (blk_below (g := gb380) (o := .cells #[.int .i64 a0_0, .int .i64 a0_1, .int .i64 a0_2, .int .i64 a0_3] 23 (0, 0)) (by (with_reducible repeat (first | refine blk_drewN ?_ _ | refine blk_drew ?_ | refine blk_alloc ?_ _)); exact BK380.out) hb); have n1_ := Aside0.mk (below_step (by repeat (first | (with_reducible first | exact HB.out | apply below_alloc | apply pw_below_drewN | apply below_drew1 | refine below_set ?_ GE380.out) | exact HB.out)) hb); clear BK380; clear HB; have BK380 := n0_; have HB := n1_; clear n0_ n1_; (try clear hb); (try clear hb2); (try clear hk); (try clear hi)))
    go_ret
    exact ⟨by first | rfl | (simp [errW_none, errW_some] <;> rfl) | (simp [*, errW_none, errW_some] <;> rfl), by repeat (first | (with_reducible first | exact HB.out | apply below_alloc | apply pw_below_drewN | apply below_drew1 | refine below_set ?_ GE380.out) | exact HB.out)⟩

end Go.Proofs.YtbcgddacmjliaaaDoor.PF
end
