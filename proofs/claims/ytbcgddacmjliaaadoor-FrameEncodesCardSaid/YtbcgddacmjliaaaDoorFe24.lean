/- The law's proof: words, contracts of the functions that it reaches, plain lemmas. -/
import Derived.ArgAppend
import Derived.Below
import Derived.BigQuiet
import Derived.Carry
import Derived.Deep.AppendLies
import Derived.Deep.CutBlock
import Derived.Deep.DeepCutAuto
import Derived.Deep.Draws
import Derived.Deep.LoopGhost
import Derived.Deep.OwnRows
import Derived.Deep.QuietTactic
import Derived.Deep.RegionHeld3
import Derived.Deep.RegionWith
import Derived.KernelRfl
import Derived.Laws.BitsLemmas
import Derived.Laws.BytesArg
import Derived.Laws.IdiomCopy
import Derived.Laws.MakeOwn
import Derived.Laws.OwnMore
import Derived.Laws.Rows
import Derived.Laws.Slices
import Derived.Lib.AppendStr
import Derived.Lib.BufferMore
import Derived.Lib.ConvBytes
import Derived.Lib.Hide
import Derived.Lib.LazyBuf
import Derived.Maps.AppendAt
import Derived.OpenShut
import Derived.OrdersHeld
import Derived.Outline
import Derived.OwnWalk
import Derived.OwnWalkIn
import Derived.RegionTactic
import Derived.RowKit3
import Derived.StillTailTactics
import Derived.Tactics
import Derived.WalkKit
import Derived.WideLaws
import Derived.RegionIn
import Derived.ControlIn
import Derived.Sort.CutIn
import Derived.WalkMore
import Derived.Test.YtbcgddacmjliaaaDoorFe3
import Derived.Test.YtbcgddacmjliaaaDoorFe1
import Derived.Test.YtbcgddacmjliaaaDoorFe11
import Derived.Test.YtbcgddacmjliaaaDoorFe18
import Derived.Test.YtbcgddacmjliaaaDoorFe23
import Derived.Test.YtbcgddacmjliaaaDoorFe19
import Derived.Test.YtbcgddacmjliaaaDoorFe20
import Derived.Test.YtbcgddacmjliaaaDoorFe0
import Derived.Test.YtbcgddacmjliaaaDoorFe7
import Derived.Test.YtbcgddacmjliaaaDoorFe17
import Derived.Test.YtbcgddacmjliaaaDoorFe9
import Derived.Test.YtbcgddacmjliaaaDoorFe21
import Derived.Test.YtbcgddacmjliaaaDoorFe8
section
/- frame.Decode: what bytes are. -/
set_option linter.unusedVariables false
set_option linter.unusedSimpArgs false
namespace Go.Proofs.YtbcgddacmjliaaaDoor.PF
open Go.RowKit Go.Shelf Go.Proofs.YtbcgddacmjliaaaDoorW.PrintWords Go.Proofs.YtbcgddacmjliaaaDoor.Mem Go.Proofs.YtbcgddacmjliaaaDoor.Own Go.Proofs.YtbcgddacmjliaaaDoor.Rng Go.Proofs.YtbcgddacmjliaaaDoor.Hw

attribute [local go_sem] Oper.semAt_some
/-- The first j chunks: what they hold, what they are, and whether one is bad. -/
def decAt (s : ByteArray) : Nat → Option (ByteArray × Int × Bool)
  | 0 => some (⟨#[]⟩, 2, false)
  | j + 1 => (decAt s j).bind fun x => if x.2.2 = true then some x else (ham_Decode.f 40 (chk s j)).bind fun d => if d.2.1 = 4 then some (x.1, 4, true) else if x.1.size + d.1.size ≤ 140737488355328 then some (x.1 ++ d.1, if d.2.1 = 3 then 3 else x.2.1, false) else none
theorem decAt_le {s : ByteArray} (i : Nat) : ∀ (n : Nat) (r : ByteArray × Int × Bool), decAt s n = some r → i ≤ n → ∃ q, decAt s i = some q ∧ (q.2.2 = true → r = q)
  | 0, r, h, hi => ⟨r, by rw [Nat.le_zero.1 hi]; exact h, fun _ => rfl⟩
  | n + 1, r, h, hi => by
    rcases Nat.lt_or_ge n i with h1 | h1
    · have : i = n + 1 := by omega
      exact ⟨r, by rw [this]; exact h, fun _ => rfl⟩
    · obtain ⟨b, hb, h⟩ := Option.bind_eq_some_iff.mp h
      obtain ⟨q, hq, hr⟩ := decAt_le i n b hb h1
      refine ⟨q, hq, fun e => ?_⟩
      have := hr e
      subst this
      rw [if_pos e] at h
      exact (Option.some.inj h).symm
theorem decAt_step {s : ByteArray} {k n : Nat} {r : ByteArray × Int × Bool} {x : ByteArray} {wh : Int} (h : decAt s n = some r) (hk : k < n) (hI : decAt s k = some (x, wh, false)) :
    ∃ d is e, ham_Decode.f 40 (chk s k) = some (d, is, e) ∧ (is = 4 → r = (x, 4, true)) ∧ (is ≠ 4 → x.size + d.size ≤ 140737488355328 ∧ decAt s (k + 1) = some (x ++ d, if is = 3 then 3 else wh, false)) := by
  obtain ⟨q, hq, hr⟩ := decAt_le (k + 1) n r h hk
  have hq0 := hq
  obtain ⟨b, hb, hq⟩ := Option.bind_eq_some_iff.mp hq
  obtain rfl : (x, wh, false) = b := Option.some.inj (hI.symm.trans hb)
  rw [if_neg (by simp)] at hq
  obtain ⟨⟨d, is, e⟩, hd, hq⟩ := Option.bind_eq_some_iff.mp hq
  refine ⟨d, is, e, hd, fun h4 => ?_, fun h4 => ?_⟩
  · rw [if_pos h4] at hq
    have hq := (Option.some.inj hq).symm
    rw [hr (by rw [hq]), hq]
  · rw [if_neg h4] at hq
    by_cases hl : x.size + d.size ≤ 140737488355328
    · rw [if_pos hl] at hq
      exact ⟨hl, by rw [hq0, ← hq]⟩
    · rw [if_neg hl] at hq
      cases hq
abbrev Page6 := Int × Int × Int × Int × Int × ByteArray
def frame_Decode.f (s : ByteArray) : Option Page6 := if s.size ≤ 1000000 then (if s.size % 9 ≠ 0 ∨ s.size / 9 < 4 ∨ 35 < s.size / 9 then some (4, 0, 0, 0, 0, ⟨#[]⟩) else
  (frame_erased.f s).bind fun er => if er = true then some (1, 0, 0, 0, 0, ⟨#[]⟩) else (decAt s (s.size / 9)).bind fun x => if x.2.2 = true then some (4, 0, 0, 0, 0, ⟨#[]⟩) else if x.1.size = 0 then none else frame_whole.f 40 x.1 x.2.1) else none
abbrev Pg6 (g : Nat) (a b c d e : Int) (x : ByteArray) : Asn := Pt g (.cells #[.int .i64 a, .int .i64 b, .int .i64 c, .int .i64 d, .int .i64 e, .string x] 30)
abbrev BoxI (g : Nat) (a : Int) : Asn := Pt g (.cells #[.int .i64 a] 3)
theorem set6 {w0 w : World} {L : List Asn} {g : Nat} {T : TypeId} {a b c d e f : Value} (h : Own.Own w0 w (Pt g (.cells #[a, b, c, d, e, f] T (0, 0)) :: L)) (u1 u2 u3 u4 u5 u6 : Value) :
    Own.Own w0 ((((((w.setCell ⟨g, 0, none⟩ u1).setCell ⟨g, 1, none⟩ u2).setCell ⟨g, 2, none⟩ u3).setCell ⟨g, 3, none⟩ u4).setCell ⟨g, 4, none⟩ u5).setCell ⟨g, 5, none⟩ u6) (Pt g (.cells #[u1, u2, u3, u4, u5, u6] T (0, 0)) :: L) :=
  ((((((h.set (i := 0) u1).set (i := 1) u2).set (i := 2) u3).set (i := 3) u4).set (i := 4) u5).set (i := 5) u6)
def accD (s : ByteArray) (k : Nat) : ByteArray := ((decAt s k).getD (⟨#[]⟩, 2, false)).1
def whD (s : ByteArray) (k : Nat) : Int := ((decAt s k).getD (⟨#[]⟩, 2, false)).2.1
abbrev restD (BB B6 B3 B2 : Nat) (s : ByteArray) (k : Nat) : List Asn := [BldA BB (accD s k), BoxI B6 (whD s k), Pg6 B3 4 0 0 0 0 ⟨#[]⟩, Pg6 B2 0 0 0 0 0 ⟨#[]⟩]
def InvD (s : ByteArray) (k : Nat) : Prop := ∃ x wh, decAt s k = some (x, wh, false) ∧ (wh = 2 ∨ wh = 3)
theorem inv_acc {s : ByteArray} {k : Nat} {x : ByteArray} {wh : Int} {b : Bool} (h : decAt s k = some (x, wh, b)) : accD s k = x ∧ whD s k = wh := by unfold accD whD; rw [h]; exact ⟨rfl, rfl⟩
theorem own_ne {w0 w : World} {g h : Nat} {o o2 : Obj} {L : List Asn} (H : Own.Own w0 w (Pt g o :: Pt h o2 :: L)) : g ≠ h := by
  obtain ⟨_, S, ⟨S1, S2, ⟨_, h1⟩, ⟨S3, S4, ⟨_, h3⟩, _, _, i3, _⟩, d, _, _⟩, _⟩ := H
  rintro rfl
  exact d _ h1 (i3 _ h3)
/-- What the function's result cell holds. -/
theorem page_res {w0 W : World} {L : List Asn} {B2 : Nat} {a b c d e : Int} {x : ByteArray} {tmps : Array Value} (hp : Own.Own w0 W (Pg6 B2 a b c d e x :: L)) (ht : tmps[2]? = some (.pointer (some ⟨B2, 0, none⟩))) :
    (results Tryd.f12 tmps).run Tryd.prog W = .ok (.agg #[.int .i64 a, .int .i64 b, .int .i64 c, .int .i64 d, .int .i64 e, .string x]) W := by
  obtain ⟨y0, y1, y2, y3, y4, y5⟩ := cells6 hp.pt
  have hu30 := Tryd.underlying30
  have hu23 := Tryd.underlying23
  simp [results, Tryd.results12, go_sem, ht, y0, y1, y2, y3, y4, y5]
set_option maxHeartbeats 4000000 in
set_option maxRecDepth 100000 in
theorem frame_Decode.calls (s : ByteArray) (r1 r2 r3 r4 r5 : Int) (r6 : ByteArray) (w : World) (h : frame_Decode.f s = some (r1, r2, r3, r4, r5, r6)) (HL : Aside0 (Laid w) := by first | exact HL | exact Hw.laid_at HL (by repeat (first | (with_reducible first | exact HB.out | apply below_alloc | apply pw_below_drewN | apply below_drew1) | exact HB.out | exact Below.refl _ _ | refine below_set ?_ (by apply Aside0.out; assumption)))) :
    Calls Tryd.prog 12 #[.string s] w fun e w' => e = .returned (.agg #[.int .i64 r1, .int .i64 r2, .int .i64 r3, .int .i64 r4, .int .i64 r5, .string r6]) ∧ Below w.heap.size w w' := by
  unfold frame_Decode.f at h
  by_cases hs : s.size ≤ 1000000
  · rw [if_pos hs] at h
    have ha := ((Own.Own.new w).alloc (.cells #[.int .i64 0, .int .i64 0, .int .i64 0, .int .i64 0, .int .i64 0, .string ⟨#[]⟩] 30)).alloc (.cells #[.int .i64 4, .int .i64 0, .int .i64 0, .int .i64 0, .int .i64 0, .string ⟨#[]⟩] 30)
    rw [World.size_alloc] at ha
    obtain ⟨B2, hB2⟩ : ∃ B2, B2 = w.heap.size := ⟨_, rfl⟩
    obtain ⟨B3, hB3⟩ : ∃ B3, B3 = w.heap.size + 1 := ⟨_, rfl⟩
    rw [← hB3, ← hB2] at ha
    have HO := Aside0.mk ha
    have HB2 := Lib.hid hB2
    have HB3 := Lib.hid hB3
    have HS := Lib.hid hs
    obtain ⟨n, hn⟩ : ∃ n : Nat, n = s.size / 9 := ⟨_, rfl⟩
    obtain ⟨m, hm⟩ : ∃ m : Nat, m = s.size % 9 := ⟨_, rfl⟩
    rw [← hn, ← hm] at h
    have q1 : Int.tdiv (s.size : Int) 9 = (n : Int) := by rw [Int.tdiv_eq_ediv_of_nonneg (by omega)]; omega
    have q2 : Int.tmod (s.size : Int) 9 = (m : Int) := by rw [Int.tmod_eq_emod_of_nonneg (by omega)]; omega
    clear ha hs hB2 hB3
    refine (callsIn_wide (n := 3)).1 ?_
    refine callsIn_of_wp_marks Tryd.func12 rfl trivial ?_ rfl
    simp only [Tryd.ntmps12, List.size_toArray, List.length_cons, List.length_nil, Nat.reduceAdd, Nat.reduceSub, Array.replicate_succ, Array.replicate_zero, List.push_toArray, List.append_toArray, List.nil_append, List.cons_append]
    refine wpIn_wide.2 ?_
    have hu30 := Tryd.underlying30
    have hu23 := Tryd.underlying23
    go_wp2_with fail
    apply wp_scope_straight
    go_upto_region 2 with (fail)
    rw [← HB3.out, ← HB2.out]
    have hOO := HO.out
    clear HO
    generalize hW : World.alloc _ _ = w2 at hOO ⊢
    clear hW
    have HO := Aside0.mk hOO
    clear hOO
    by_cases hbad : m ≠ 0 ∨ n < 4 ∨ 35 < n
    · rw [if_pos hbad] at h
      simp only [Option.some.injEq, Prod.mk.injEq] at h
      obtain ⟨rfl, rfl, rfl, rfl, rfl, rfl⟩ := h
      obtain ⟨x0, x1, x2, x3, x4, x5⟩ := cells6 HO.out.pt
      have wn : wrap64 (n : Int) = (n : Int) := by unfold wrap64; have := HS.out; omega
      have wn2 : IntKind.i64.wrap (n : Int) = (n : Int) := (Go.Proofs.YtbcgddacmjliaaaDoorW.PrintLast.i64_w _).trans wn
      have hlt := blk_lt HO.out.drop.pt
      have g0 := blk_frozen HO.out.drop.pt 0
      have g1 := blk_frozen HO.out.drop.pt 1
      have g2 := blk_frozen HO.out.drop.pt 2
      have g3 := blk_frozen HO.out.drop.pt 3
      have g4 := blk_frozen HO.out.drop.pt 4
      have g5 := blk_frozen HO.out.drop.pt 5
      have z0 := blk_cell HO.out.drop.pt 0
      have z1 := blk_cell HO.out.drop.pt 1
      have z2 := blk_cell HO.out.drop.pt 2
      have z3 := blk_cell HO.out.drop.pt 3
      have z4 := blk_cell HO.out.drop.pt 4
      have z5 := blk_cell HO.out.drop.pt 5
      simp only [List.getElem?_toArray, List.getElem?_cons_zero, List.getElem?_cons_succ] at z0 z1 z2 z3 z4 z5
      by_cases e1 : m = 0
      · have c2 : ((m : Int) != 0) = false := by subst e1; rfl
        by_cases e2 : n < 4
        · have d1 : decide ((n : Int) < 4) = true := decide_eq_true (by omega)
          clear hbad hn hm
          go_wp2_with fail
          rw [Exit.noGoto_ret]
          have hp := set6 HO.out.pull2 (.int .i64 4) (.int .i64 0) (.int .i64 0) (.int .i64 0) (.int .i64 0) (.string ⟨#[]⟩)
          exact ⟨_, page_res hp rfl, rfl, hp.below⟩
        · have d1 : decide ((n : Int) < 4) = false := decide_eq_false (by omega)
          have d2 : decide (35 < (n : Int)) = true := decide_eq_true (by omega)
          clear hbad hn hm
          go_wp2_with fail
          rw [Exit.noGoto_ret]
          have hp := set6 HO.out.pull2 (.int .i64 4) (.int .i64 0) (.int .i64 0) (.int .i64 0) (.int .i64 0) (.string ⟨#[]⟩)
          exact ⟨_, page_res hp rfl, rfl, hp.below⟩
      · have c2 : ((m : Int) != 0) = true := by simp; omega
        clear hbad hn hm
        go_wp2_with fail
        rw [Exit.noGoto_ret]
        have hp := set6 HO.out.pull2 (.int .i64 4) (.int .i64 0) (.int .i64 0) (.int .i64 0) (.int .i64 0) (.string ⟨#[]⟩)
        exact ⟨_, page_res hp rfl, rfl, hp.below⟩
    · rw [if_neg hbad] at h
      obtain ⟨er, her, h⟩ := Option.bind_eq_some_iff.mp h
      have m0 : m = 0 := by omega
      have n4 : 4 ≤ n := by omega
      have n35 : n ≤ 35 := by omega
      clear hbad
      subst m0
      have wn : wrap64 (n : Int) = (n : Int) := by unfold wrap64; have := HS.out; omega
      have wn2 : IntKind.i64.wrap (n : Int) = (n : Int) := (Go.Proofs.YtbcgddacmjliaaaDoorW.PrintLast.i64_w _).trans wn
      have c2 : (((0 : Nat) : Int) != 0) = false := rfl
      have d1 : decide ((n : Int) < 4) = false := decide_eq_false (by omega)
      have d2 : decide (35 < (n : Int)) = false := decide_eq_false (by omega)
      have HE := Aside0.mk her
      have HN := Lib.hid hn
      clear her hm hn
      go_wp2_with fail
      refine (frame_erased.calls s er _ HE.out (Hw.laid_at HL HO.out.below)).mono ?_
      rintro e w3 ⟨rfl, hb⟩
      have HP := Aside0.mk (HO.out.move hb)
      clear hb HO
      cases er with
      | true =>
        rw [if_pos rfl] at h
        simp only [Option.some.injEq, Prod.mk.injEq] at h
        obtain ⟨rfl, rfl, rfl, rfl, rfl, rfl⟩ := h
        have hlt := blk_lt HP.out.drop.pt
        have g0 := blk_frozen HP.out.drop.pt 0
        have g1 := blk_frozen HP.out.drop.pt 1
        have g2 := blk_frozen HP.out.drop.pt 2
        have g3 := blk_frozen HP.out.drop.pt 3
        have g4 := blk_frozen HP.out.drop.pt 4
        have g5 := blk_frozen HP.out.drop.pt 5
        have z0 := blk_cell HP.out.drop.pt 0
        have z1 := blk_cell HP.out.drop.pt 1
        have z2 := blk_cell HP.out.drop.pt 2
        have z3 := blk_cell HP.out.drop.pt 3
        have z4 := blk_cell HP.out.drop.pt 4
        have z5 := blk_cell HP.out.drop.pt 5
        simp only [List.getElem?_toArray, List.getElem?_cons_zero, List.getElem?_cons_succ] at z0 z1 z2 z3 z4 z5
        go_wp2_with fail
        rw [Exit.noGoto_ret]
        have hp := set6 HP.out.pull2 (.int .i64 1) (.int .i64 0) (.int .i64 0) (.int .i64 0) (.int .i64 0) (.string ⟨#[]⟩)
        exact ⟨_, page_res hp rfl, rfl, hp.below⟩
      | false =>
        rw [if_neg (by decide)] at h
        obtain ⟨⟨x, wh, bad⟩, hx, h⟩ := Option.bind_eq_some_iff.mp h
        have HX := Aside0.mk hx
        have HH := Aside0.mk h
        clear hx h
        go_upto_region 9 with (fail)
        have ho := (own_bld HP.out).alloc (.cells #[.int .i64 2] 3)
        rw [World.size_alloc] at ho
        obtain ⟨BB, hBB⟩ : ∃ B, B = w3.heap.size := ⟨_, rfl⟩
        obtain ⟨B6, hB6⟩ : ∃ B, B = w3.heap.size + 1 := ⟨_, rfl⟩
        rw [← hB6, ← hBB] at ho
        rw [← hB6, ← hBB]
        clear HP hB6 hBB
        generalize hW : World.alloc _ _ = w4 at ho ⊢
        clear hW
        have HQ := Aside0.mk (own_swap [_] [_] ho)
        clear ho
        go_wp2_with fail
        apply wp_label
        go_wp2_with fail
        refine (chunks_own s HQ.out).mono ?_
        rintro e w5 ⟨b, rfl, ho⟩
        have HF := Aside0.mk (show Own.Own w w5 (ChL b s (restD BB B6 B3 B2 s) 0) from ho)
        clear ho HQ
        go_wp2_with fail
        have hx2 : decAt s (s.size / 9) = some (x, wh, bad) := by rw [← HN.out]; exact HX.out
        clear HX
        have HX := Aside0.mk hx2
        clear hx2
        refine (wpIn_wide (n := 3)).1 ?_
        refine wp_range_loop (n := 3) (by omega) (gf := 58) (lb := #[.pointer (some ⟨b, 0, none⟩)]) rfl (enters_of Tryd.func58 (by kernel_rfl) rfl) (fun _ => rfl)
          (chunks_iter w b s HS.out (restD BB B6 B3 B2 s) (InvD s) ⟨_, _, rfl, .inl rfl⟩) HF.out
          (fun c L => c = .exit 0 ∧ bad = true ∧ ∃ x0, L = [BoxS b s, BldA BB x0, BoxI B6 4, Pg6 B3 4 0 0 0 0 ⟨#[]⟩, Pg6 B2 0 0 0 0 0 ⟨#[]⟩]) ?round ?done ?stop
        case round =>
          rintro l D o k c Lk W ⟨q0, rfl⟩ ⟨hk, hc, rfl, x0, w0, hI, hw⟩ hO
          subst hc
          obtain ⟨dd, is, ee, hd, h4, h5⟩ := decAt_step HX.out hk hI
          obtain ⟨ia, iw⟩ := inv_acc hI
          have hO2 : Own.Own w W (Dfr D :: Pt l (.loop q0) :: BoxS b s :: [BldA BB (accD s k), BoxI B6 (whD s k), Pg6 B3 4 0 0 0 0 ⟨#[]⟩, Pg6 B2 0 0 0 0 0 ⟨#[]⟩]) := hO
          rw [ia, iw] at hO2
          have HD := Aside0.mk hd
          have H4 := Aside0.mk h4
          have H5 := Aside0.mk h5
          have HW' := Lib.hid hw
          clear hd h4 h5 hI ia iw hO hw
          gi_wp2_with (fail)
          refine ⟨_, hO2, ?_⟩
          rintro o2 W2 ⟨q2, rfl⟩ h2
          gi_wp2_with (fail)
          refine ⟨trivial, ?_⟩
          gi_at_call 32
          refine (CallsIn.inRound l (callsIn_wide.2 (ham_Decode.calls 40 _ _ _ _ _ HD.out (Hw.laid_at HL h2.below)))).mono ?_
          rintro e w6 ⟨rfl, hb⟩
          have HC := Aside0.mk (h2.move hb)
          clear h2 hb hO2
          have z0 := blk_cell HC.out.drop.drop.drop.drop.pt 0
          have g0 := blk_frozen HC.out.drop.drop.drop.drop.pt 0
          simp only [List.getElem?_toArray, List.getElem?_cons_zero] at z0
          by_cases e4 : is = 4
          · have c4 : (is == 4) = true := by simpa using e4
            have hb1 : bad = true := by have := H4.out e4; simp only [Prod.mk.injEq] at this; exact this.2.2
            subst e4
            gi_wp2_with (fail)
            have hq := own_swap [_] [_, _, _, _] ((own_swap [_, _, _, _] [_] HC.out).set (i := 0) (.int .i64 4))
            exact ⟨_, ⟨rfl, hb1, _, rfl⟩, hq⟩
          · have c4 : (is == 4) = false := by simpa using e4
            obtain ⟨h6, h7⟩ := H5.out e4
            have H6 := Lib.hid h6
            have H7 := Aside0.mk h7
            obtain ⟨ia, iw⟩ := inv_acc h7
            have IA := Lib.hid ia
            have IW := Lib.hid iw
            have aw : ∀ v : Int, Away [Dfr D, Pt l (.loop q2), BoxS b s, BoxI B6 v, Pg6 B3 4 0 0 0 0 ⟨#[]⟩, Pg6 B2 0 0 0 0 0 ⟨#[]⟩] := fun v => Away.cons (away_pt (by intro c fz e; cases e)) (Away.cons (away_pt (by intro c fz e; cases e)) (Away.cons (away_pt (by intro c fz e; cases e)) (Away.cons (away_pt (by intro c fz e; cases e)) (Away.cons (away_pt (by intro c fz e; cases e)) (Away.cons (away_pt (by intro c fz e; cases e)) Away.nil)))))
            clear h6 h7 ia iw
            by_cases e3 : is = 3
            · subst e3
              have hq := own_swap [_] [_, _, _, _] ((own_swap [_, _, _, _] [_] HC.out).set (i := 0) (.int .i64 3))
              have HQ := Aside0.mk (own_swap [_, _, _] [_] hq)
              clear hq HC
              gi_wp2_with (fail)
              refine ⟨trivial, ?_⟩
              gi_at_call 24
              refine (CallsIn.inRound l (callsIn_wide.2 (own_write HQ.out (aw 3) H6.out))).mono ?_
              rintro e w7 ⟨rfl, ho⟩
              have HZ := Aside0.mk (own_swap [_] [_, _, _] ho)
              clear ho HQ
              gi_wp2_with (fail)
              refine ⟨_, ⟨?_, _, _, H7.out, .inr (by simp)⟩, HZ.out⟩
              show _ = [BoxS b s, BldA BB (accD s (k + 1)), BoxI B6 (whD s (k + 1)), Pg6 B3 4 0 0 0 0 ⟨#[]⟩, Pg6 B2 0 0 0 0 0 ⟨#[]⟩]
              rw [IA.out, IW.out]
              simp
              done
            · have c3 : (is == 3) = false := by simpa using e3
              have HQ := Aside0.mk (own_swap [_, _, _] [_] HC.out)
              clear HC
              gi_wp2_with (fail)
              refine ⟨trivial, ?_⟩
              gi_at_call 24
              refine (CallsIn.inRound l (callsIn_wide.2 (own_write HQ.out (aw w0) H6.out))).mono ?_
              rintro e w7 ⟨rfl, ho⟩
              have HZ := Aside0.mk (own_swap [_] [_, _, _] ho)
              clear ho HQ
              gi_wp2_with (fail)
              refine ⟨_, ⟨?_, _, _, H7.out, by rw [if_neg e3]; exact HW'.out⟩, HZ.out⟩
              show _ = [BoxS b s, BldA BB (accD s (k + 1)), BoxI B6 (whD s (k + 1)), Pg6 B3 4 0 0 0 0 ⟨#[]⟩, Pg6 B2 0 0 0 0 0 ⟨#[]⟩]
              rw [IA.out, IW.out, if_neg e3]
              rfl
        case done =>
          rintro D L W ⟨rfl, x0, w0, hI, hw⟩ hO
          have e0 := Option.some.inj (HX.out.symm.trans hI)
          simp only [Prod.mk.injEq] at e0
          obtain ⟨rfl, rfl, rfl⟩ := e0
          obtain ⟨ia, iw⟩ := inv_acc hI
          have hO2 : Own.Own w W (Dfr D :: BoxS b s :: [BldA BB (accD s (s.size / 9)), BoxI B6 (whD s (s.size / 9)), Pg6 B3 4 0 0 0 0 ⟨#[]⟩, Pg6 B2 0 0 0 0 0 ⟨#[]⟩]) := hO
          rw [ia, iw] at hO2
          have hh := HH.out
          rw [if_neg (by decide)] at hh
          by_cases hz : x.size = 0
          · rw [if_pos hz] at hh
            cases hh
          · rw [if_neg hz] at hh
            have HZ := Lib.hid hz
            have HH2 := Aside0.mk hh
            have c4 : (wh == 4) = false := by simp; omega
            have HC := Aside0.mk hO2
            have z0 := blk_cell HC.out.drop.drop.drop.pt 0
            simp only [List.getElem?_toArray, List.getElem?_cons_zero] at z0
            have HC0 := Aside0.mk (own_swap [_, _] [_] HC.out.drew)
            have aw : Away [Dfr D, BoxS b s, BoxI B6 wh, Pg6 B3 4 0 0 0 0 ⟨#[]⟩, Pg6 B2 0 0 0 0 0 ⟨#[]⟩] := Away.cons (away_pt (by intro c fz e; cases e)) (Away.cons (away_pt (by intro c fz e; cases e)) (Away.cons (away_pt (by intro c fz e; cases e)) (Away.cons (away_pt (by intro c fz e; cases e)) (Away.cons (away_pt (by intro c fz e; cases e)) Away.nil))))
            clear hh HH hO hO2 hI ia iw hz hw HF
            go_upto_region 20 with (fail)
            go_region_held3 (fun w' => w'.cell? ⟨B6, 0, none⟩ = some (.int .i64 wh)) (go_keep) (first
              | (go_at_call 25; refine (own_string HC0.out aw HZ.out).mono ?_; rintro e w7 ⟨rfl, ho⟩; have HV := Aside0.mk ho; have c5 : w7.cell? ⟨B6, 0, none⟩ = some (.int .i64 wh) := (blk_cell HV.out.drop.drop.drop.pt 0); clear ho)
              | (go_at_call 33; refine (frame_whole.calls 40 _ _ _ _ _ _ _ _ _ HH2.out (Hw.laid_at HL HV.out.below)).mono ?_; rintro e w8 ⟨rfl, hb⟩; have HU := Aside0.mk (own_swap [_, _, _, _, _] [_] (HV.out.move hb)); have hp8 := HU.out.pt; have hlt := blk_lt hp8; have g0 := blk_frozen hp8 0; have g1 := blk_frozen hp8 1; have g2 := blk_frozen hp8 2; have g3 := blk_frozen hp8 3; have g4 := blk_frozen hp8 4; have g5 := blk_frozen hp8 5; have y0 := blk_cell hp8 0; have y1 := blk_cell hp8 1; have y2 := blk_cell hp8 2; have y3 := blk_cell hp8 3; have y4 := blk_cell hp8 4; have y5 := blk_cell hp8 5; simp only [List.getElem?_toArray, List.getElem?_cons_zero, List.getElem?_cons_succ] at y0 y1 y2 y3 y4 y5; have c6 : w8.cell? ⟨B6, 0, none⟩ = some (.int .i64 wh) := (blk_cell HU.out.drop.drop.drop.drop.pt 0); have hne : B6 ≠ B2 := own_ne (own_swap [_, _, _, _] [_] HU.out); have hne2 := hne.symm; clear hp8 hb))
            all_goals go_wp2_with fail
            all_goals rw [Exit.noGoto_ret]
            all_goals
              have hp := set6 HU.out (.int .i64 r1) (.int .i64 r2) (.int .i64 r3) (.int .i64 r4) (.int .i64 r5) (.string r6)
              have H5 := own_putObj (own_swap [_, _] [_] hp) (.deferred none)
              have hK := (own_swap [_, _] [_] hp).pt
              refine ⟨by simp, .inl ⟨_, _, rfl, run_takeDeferred hK, ?_⟩⟩
              exact ⟨_, page_res H5.drop rfl, rfl, H5.below⟩
        case stop =>
          rintro D c L W ⟨rfl, rfl, x0, rfl⟩ hO
          have hh := HH.out
          rw [if_pos rfl] at hh
          simp only [Option.some.injEq, Prod.mk.injEq] at hh
          obtain ⟨rfl, rfl, rfl, rfl, rfl, rfl⟩ := hh
          have HC := Aside0.mk hO
          have z6 := blk_cell HC.out.drop.drop.drop.pt 0
          simp only [List.getElem?_toArray, List.getElem?_cons_zero] at z6
          have HP := Aside0.mk (own_swap [_, _, _, _] [_, _] HC.out)
          obtain ⟨x0, x1, x2, x3, x4, x5⟩ := cells6 HP.out.pt
          have hlt := blk_lt HP.out.drop.pt
          have g0 := blk_frozen HP.out.drop.pt 0
          have g1 := blk_frozen HP.out.drop.pt 1
          have g2 := blk_frozen HP.out.drop.pt 2
          have g3 := blk_frozen HP.out.drop.pt 3
          have g4 := blk_frozen HP.out.drop.pt 4
          have g5 := blk_frozen HP.out.drop.pt 5
          have z0 := blk_cell HP.out.drop.pt 0
          have z1 := blk_cell HP.out.drop.pt 1
          have z2 := blk_cell HP.out.drop.pt 2
          have z3 := blk_cell HP.out.drop.pt 3
          have z4 := blk_cell HP.out.drop.pt 4
          have z5 := blk_cell HP.out.drop.pt 5
          simp only [List.getElem?_toArray, List.getElem?_cons_zero, List.getElem?_cons_succ] at z0 z1 z2 z3 z4 z5
          have c4 : ((4 : Int) == 4) = true := rfl
          clear hO HF
          refine wpIn_wide.2 ?_
          go_wp2_with fail
          have hp := set6 HP.out.pull2 (.int .i64 4) (.int .i64 0) (.int .i64 0) (.int .i64 0) (.int .i64 0) (.string ⟨#[]⟩)
          have H5 := own_putObj (own_swap [_, _] [_] hp) (.deferred none)
          have hK := (own_swap [_, _] [_] hp).pt
          refine ⟨by simp, .inl ⟨_, _, rfl, run_takeDeferred hK, ?_⟩⟩
          exact ⟨_, page_res H5.drop rfl, rfl, H5.below⟩
  · rw [if_neg hs] at h
    cases h
end Go.Proofs.YtbcgddacmjliaaaDoor.PF
end

section
-- Written by a program (the kit's print.py, called by wip/bin/prseat.sh, mended by wip/bin/mend.py).
namespace Go.Proofs.YtbcgddacmjliaaaDoor.PF
open Go.Proofs.YtbcgddacmjliaaaDoor.Tf Go.RowKit Go.Proofs.YtbcgddacmjliaaaDoorW.PrintWords Go.Proofs.YtbcgddacmjliaaaDoorW.PrintLast Go.Proofs.YtbcgddacmjliaaaDoorW.PrintMore
attribute [local go_sem] max2_int min2_int max_two min_two max_three min_three max_four min_four   -- for this text's walks alone
set_option linter.unusedVariables false
set_option linter.unnecessarySimpa false
set_option linter.unusedSimpArgs false

attribute [local go_sem high] eqA30
/-! ### decklelaw05_works: function 9 -/
def decklelaw05_works.f  : Option (Bool) := (frame_Encode.f 1 2 3 4 (⟨#[97, 98, 99, 100, 101, 102, 103, 104]⟩ : ByteArray)).bind fun bt156 => ((frame_Blank.f 8).bind fun t158 => (if bt156.2 = 0 then (if (bt156.1.size : Int) = 36 then ((frame_Decode.f bt156.1).bind fun bt159 => (if (bt159.1 == 2 && ((bt159.2.1 == 1 && (bt159.2.2.1 == 2 && (bt159.2.2.2.1 == 3 && (bt159.2.2.2.2.1 == 4)))) && (bt159.2.2.2.2.2.toList == ([97, 98, 99, 100, 101, 102, 103, 104] : List UInt8)))) = true then (if (t158.size : Int) = 36 then ((frame_Decode.f t158).bind fun bt165 => (if (bt165.1 == 1 && ((bt165.2.1 == 0 && (bt165.2.2.1 == 0 && (bt165.2.2.2.1 == 0 && (bt165.2.2.2.2.1 == 0)))) && (bt165.2.2.2.2.2.toList == ([] : List UInt8)))) = true then ((frame_Hurt.f t158 0 0).bind fun t171 => ((frame_Decode.f t171).bind fun bt172 => (some (bt172.1 == 4 && ((bt172.2.1 == 0 && (bt172.2.2.1 == 0 && (bt172.2.2.2.1 == 0 && (bt172.2.2.2.2.1 == 0)))) && (bt172.2.2.2.2.2.toList == ([] : List UInt8))))))) else (some false))) else (some false)) else (some false))) else (some false)) else (some false)))
def decklelaw05_works.T4 : Bool × List (List Nat × List Nat) := (true, [([], []), ([0], [0]), ([1], [1]), ([2], [2]), ([3, 2], [2, 3]), ([4, 2], [2, 4]), ([2, 5], [2, 5]), ([6, 2], [6]), ([7], [7]), ([8, 7, 7], [7, 8]), ([7], [7]), ([10, 7], [7, 10]), ([9, 11, 7], [7, 9, 11]), ([7, 12], [7, 12]), ([13, 9], [13]), ([14], [14]), ([15, 14], [14, 15]), ([16, 14], [14, 16]), ([14, 17], [14, 17]), ([18, 14], [18]), ([19], [19]), ([20, 19, 19], [19, 20]), ([19], [19]), ([21, 22, 19], [19, 21, 22]), ([19, 23], [19, 23]), ([24, 21], [24]), ([25], [25]), ([26, 25, 25], [25, 26]), ([27, 27, 25], [25, 27]), ([25], [25]), ([28, 29, 25], [25, 28, 29]), ([25, 30], [25, 30]), ([31, 28, 0, 1, 2, 3, 4, 5, 6, 7, 8, 9, 10, 11, 12, 13, 14, 15, 16, 17, 18, 19, 20, 21, 22, 23, 24, 25, 26, 27, 28, 29, 30, 31], [31])])
def decklelaw05_works.B4 : List Nat := [0, 1, 3, 7, 15, 31, 63, 127, 255, 511, 255, 1279, 4095, 8191, 16383, 32767, 65535, 131071, 262143, 524287, 1048575, 2097151, 1048575, 8388607, 16777215, 33554431, 67108863, 134217727, 268435455, 67108863, 1073741823, 2147483647, 4294967295]
theorem decklelaw05_works.tab4 : rtab .any (opsOf Tryd.f9 4) = decklelaw05_works.T4 := by kernel_rfl
theorem decklelaw05_works.bits4 : waitsOk decklelaw05_works.T4.2 decklelaw05_works.B4 = true := by kernel_rfl
theorem works_dec1 {B : ByteArray} {a b c d e : Int} {x : ByteArray} (h : frame_Blank.f 8 = some B) (h2 : frame_Decode.f B = some (a, b, c, d, e, x)) : a = 1 ∧ b = 0 ∧ c = 0 ∧ d = 0 ∧ e = 0 ∧ x = ⟨#[]⟩ := by
  have h3 : (frame_Blank.f 8).bind (fun B => frame_Decode.f B) = some (1, 0, 0, 0, 0, ⟨#[]⟩) := by kernel_rfl
  rw [h] at h3
  have h4 := Option.some.inj (h2.symm.trans h3)
  simp only [Prod.mk.injEq] at h4
  exact h4
theorem works_true : decklelaw05_works.f = some true := by kernel_rfl
set_option maxHeartbeats 8000000 in
set_option maxRecDepth 100000 in
theorem decklelaw05_works.calls  (r : Bool) (w : World) (h : decklelaw05_works.f  = some r) (HL : Aside0 (Hw.Laid w) := by first | exact HL | exact Hw.laid_at HL (by repeat (first | (with_reducible first | exact HB.out | apply below_alloc | apply pw_below_drewN | apply below_drew1) | exact HB.out | exact Below.refl _ _ | refine below_set ?_ (by apply Aside0.out; assumption)))) :
    Calls Tryd.prog 9 #[] w fun e w' => e = .returned (.bool r) ∧ Below w.heap.size w w' := by
  have hu23 := Tryd.underlying23
  have hu30 := Tryd.underlying30
  have HB := Aside0.mk (Below.refl w.heap.size w)
  have H : ((frame_Encode.f 1 2 3 4 (⟨#[97, 98, 99, 100, 101, 102, 103, 104]⟩ : ByteArray)).bind fun bt156 => ((frame_Blank.f 8).bind fun t158 => (if bt156.2 = 0 then (if (bt156.1.size : Int) = 36 then ((frame_Decode.f bt156.1).bind fun bt159 => (if (bt159.1 == 2 && ((bt159.2.1 == 1 && (bt159.2.2.1 == 2 && (bt159.2.2.2.1 == 3 && (bt159.2.2.2.2.1 == 4)))) && (bt159.2.2.2.2.2.toList == ([97, 98, 99, 100, 101, 102, 103, 104] : List UInt8)))) = true then (if (t158.size : Int) = 36 then ((frame_Decode.f t158).bind fun bt165 => (if (bt165.1 == 1 && ((bt165.2.1 == 0 && (bt165.2.2.1 == 0 && (bt165.2.2.2.1 == 0 && (bt165.2.2.2.2.1 == 0)))) && (bt165.2.2.2.2.2.toList == ([] : List UInt8)))) = true then ((frame_Hurt.f t158 0 0).bind fun t171 => ((frame_Decode.f t171).bind fun bt172 => (some (bt172.1 == 4 && ((bt172.2.1 == 0 && (bt172.2.2.1 == 0 && (bt172.2.2.2.1 == 0 && (bt172.2.2.2.2.1 == 0)))) && (bt172.2.2.2.2.2.toList == ([] : List UInt8))))))) else (some false))) else (some false)) else (some false))) else (some false)) else (some false)))) = some r := h
  have HRT := Aside0.mk (Option.some.inj (h.symm.trans works_true))
  clear h
  replace H := Option.bind_eq_some_iff.mp H
  obtain ⟨⟨t156, t157⟩, A10, H⟩ := H
  replace H : ((frame_Blank.f 8).bind fun t158 => (if t157 = 0 then (if (t156.size : Int) = 36 then ((frame_Decode.f t156).bind fun bt159 => (if (bt159.1 == 2 && ((bt159.2.1 == 1 && (bt159.2.2.1 == 2 && (bt159.2.2.2.1 == 3 && (bt159.2.2.2.2.1 == 4)))) && (bt159.2.2.2.2.2.toList == ([97, 98, 99, 100, 101, 102, 103, 104] : List UInt8)))) = true then (if (t158.size : Int) = 36 then ((frame_Decode.f t158).bind fun bt165 => (if (bt165.1 == 1 && ((bt165.2.1 == 0 && (bt165.2.2.1 == 0 && (bt165.2.2.2.1 == 0 && (bt165.2.2.2.2.1 == 0)))) && (bt165.2.2.2.2.2.toList == ([] : List UInt8)))) = true then ((frame_Hurt.f t158 0 0).bind fun t171 => ((frame_Decode.f t171).bind fun bt172 => (some (bt172.1 == 4 && ((bt172.2.1 == 0 && (bt172.2.2.1 == 0 && (bt172.2.2.2.1 == 0 && (bt172.2.2.2.2.1 == 0)))) && (bt172.2.2.2.2.2.toList == ([] : List UInt8))))))) else (some false))) else (some false)) else (some false))) else (some false)) else (some false))) = some r := H
  have A1 := Aside0.mk A10
  clear A10
  replace H := Option.bind_eq_some_iff.mp H
  obtain ⟨t158, A20, H⟩ := H
  replace H : (if t157 = 0 then (if (t156.size : Int) = 36 then ((frame_Decode.f t156).bind fun bt159 => (if (bt159.1 == 2 && ((bt159.2.1 == 1 && (bt159.2.2.1 == 2 && (bt159.2.2.2.1 == 3 && (bt159.2.2.2.2.1 == 4)))) && (bt159.2.2.2.2.2.toList == ([97, 98, 99, 100, 101, 102, 103, 104] : List UInt8)))) = true then (if (t158.size : Int) = 36 then ((frame_Decode.f t158).bind fun bt165 => (if (bt165.1 == 1 && ((bt165.2.1 == 0 && (bt165.2.2.1 == 0 && (bt165.2.2.2.1 == 0 && (bt165.2.2.2.2.1 == 0)))) && (bt165.2.2.2.2.2.toList == ([] : List UInt8)))) = true then ((frame_Hurt.f t158 0 0).bind fun t171 => ((frame_Decode.f t171).bind fun bt172 => (some (bt172.1 == 4 && ((bt172.2.1 == 0 && (bt172.2.2.1 == 0 && (bt172.2.2.2.1 == 0 && (bt172.2.2.2.2.1 == 0)))) && (bt172.2.2.2.2.2.toList == ([] : List UInt8))))))) else (some false))) else (some false)) else (some false))) else (some false)) else (some false)) = some r := H
  have A2 := Aside0.mk A20
  clear A20
  by_cases c3 : t157 = 0
  · rw [if_pos c3] at H
    have c3b0 : (t157 == 0) = true := beq_iff_eq.mpr c3
    have c3b1 : (t157 != 0) = false := bne_eq_false_iff_eq.mpr c3
    clear c3
    by_cases c4 : (t156.size : Int) = 36
    · rw [if_pos c4] at H
      have c4b0 : ((t156.size : Int) == 36) = true := beq_iff_eq.mpr c4
      have c4b1 : ((t156.size : Int) != 36) = false := bne_eq_false_iff_eq.mpr c4
      clear c4
      replace H := Option.bind_eq_some_iff.mp H
      obtain ⟨⟨t159, t160, t161, t162, t163, t164⟩, A50, H⟩ := H
      replace H : (if (t159 == 2 && ((t160 == 1 && (t161 == 2 && (t162 == 3 && (t163 == 4)))) && (t164.toList == ([97, 98, 99, 100, 101, 102, 103, 104] : List UInt8)))) = true then (if (t158.size : Int) = 36 then ((frame_Decode.f t158).bind fun bt165 => (if (bt165.1 == 1 && ((bt165.2.1 == 0 && (bt165.2.2.1 == 0 && (bt165.2.2.2.1 == 0 && (bt165.2.2.2.2.1 == 0)))) && (bt165.2.2.2.2.2.toList == ([] : List UInt8)))) = true then ((frame_Hurt.f t158 0 0).bind fun t171 => ((frame_Decode.f t171).bind fun bt172 => (some (bt172.1 == 4 && ((bt172.2.1 == 0 && (bt172.2.2.1 == 0 && (bt172.2.2.2.1 == 0 && (bt172.2.2.2.2.1 == 0)))) && (bt172.2.2.2.2.2.toList == ([] : List UInt8))))))) else (some false))) else (some false)) else (some false)) = some r := H
      have A5 := Aside0.mk A50
      clear A50
      by_cases c6 : (t159 == 2 && ((t160 == 1 && (t161 == 2 && (t162 == 3 && (t163 == 4)))) && (t164.toList == ([97, 98, 99, 100, 101, 102, 103, 104] : List UInt8)))) = true
      · rw [if_pos c6] at H
        have c6b0 : (t159 == 2 && ((t160 == 1 && (t161 == 2 && (t162 == 3 && (t163 == 4)))) && (t164.toList == ([97, 98, 99, 100, 101, 102, 103, 104] : List UInt8)))) = true := c6
        (try (have c6b1 : decide (t159 = 2 && ((t160 == 1 && (t161 == 2 && (t162 == 3 && (t163 == 4)))) && (t164.toList == ([97, 98, 99, 100, 101, 102, 103, 104] : List UInt8)))) = true := by simpa using c6))
        (try (have c6b2 : (t159 == 2 && ((t160 == 1 && (t161 == 2 && (t162 == 3 && (t163 == 4)))) && (t164.toList == ([97, 98, 99, 100, 101, 102, 103, 104] : List UInt8)))) = true := by simpa using c6))
        clear c6
        by_cases c7 : (t158.size : Int) = 36
        · rw [if_pos c7] at H
          have c7b0 : ((t158.size : Int) == 36) = true := beq_iff_eq.mpr c7
          have c7b1 : ((t158.size : Int) != 36) = false := bne_eq_false_iff_eq.mpr c7
          clear c7
          replace H := Option.bind_eq_some_iff.mp H
          obtain ⟨⟨t165, t166, t167, t168, t169, t170⟩, A80, H⟩ := H
          replace H : (if (t165 == 1 && ((t166 == 0 && (t167 == 0 && (t168 == 0 && (t169 == 0)))) && (t170.toList == ([] : List UInt8)))) = true then ((frame_Hurt.f t158 0 0).bind fun t171 => ((frame_Decode.f t171).bind fun bt172 => (some (bt172.1 == 4 && ((bt172.2.1 == 0 && (bt172.2.2.1 == 0 && (bt172.2.2.2.1 == 0 && (bt172.2.2.2.2.1 == 0)))) && (bt172.2.2.2.2.2.toList == ([] : List UInt8))))))) else (some false)) = some r := H
          obtain ⟨rfl, rfl, rfl, rfl, rfl, rfl⟩ := works_dec1 A2.out A80
          have A8 := Aside0.mk A80
          clear A80
          by_cases c9 : ((1 : Int) == 1 && (((0 : Int) == 0 && ((0 : Int) == 0 && ((0 : Int) == 0 && ((0 : Int) == 0)))) && ((⟨#[]⟩ : ByteArray).toList == ([] : List UInt8)))) = true
          · rw [if_pos c9] at H
            have c9b0 : ((1 : Int) == 1 && (((0 : Int) == 0 && ((0 : Int) == 0 && ((0 : Int) == 0 && ((0 : Int) == 0)))) && ((⟨#[]⟩ : ByteArray).toList == ([] : List UInt8)))) = true := c9
            (try (have c9b1 : decide ((1 : Int) = 1 && (((0 : Int) == 0 && ((0 : Int) == 0 && ((0 : Int) == 0 && ((0 : Int) == 0)))) && ((⟨#[]⟩ : ByteArray).toList == ([] : List UInt8)))) = true := by simpa using c9))
            (try (have c9b2 : ((1 : Int) == 1 && (((0 : Int) == 0 && ((0 : Int) == 0 && ((0 : Int) == 0 && ((0 : Int) == 0)))) && ((⟨#[]⟩ : ByteArray).toList == ([] : List UInt8)))) = true := by simpa using c9))
            clear c9
            replace H := Option.bind_eq_some_iff.mp H
            obtain ⟨t171, A100, H⟩ := H
            replace H : ((frame_Decode.f t171).bind fun bt172 => (some (bt172.1 == 4 && ((bt172.2.1 == 0 && (bt172.2.2.1 == 0 && (bt172.2.2.2.1 == 0 && (bt172.2.2.2.2.1 == 0)))) && (bt172.2.2.2.2.2.toList == ([] : List UInt8)))))) = some r := H
            have A10 := Aside0.mk A100
            clear A100
            replace H := Option.bind_eq_some_iff.mp H
            obtain ⟨⟨t172, t173, t174, t175, t176, t177⟩, A110, H⟩ := H
            replace H : (some (t172 == 4 && ((t173 == 0 && (t174 == 0 && (t175 == 0 && (t176 == 0)))) && (t177.toList == ([] : List UInt8))))) = some r := H
            have A11 := Aside0.mk A110
            clear A110
            obtain rfl := Option.some.inj H
            go_enter Tryd.func9, Tryd.ntmps9
            try go_wp2_with (first | ((with_reducible refine gate_dst (N := 1) rfl ?_); (try (refine gate_guard (by rfl) ?_; dsimp only)); refine box_event ?hg (N := 1) ?hd (cs := #[.int .i64 0, .int .i64 0, .int .i64 0, .int .i64 0]) (t := 23) ?hr ?_; (case hd => rfl); (case hg => rfl); (case hr => first | (go_simp; done) | (go_simp; rfl)); intro gb155 hg w12 hbox hb; have n0_ := Aside0.mk (below_step (by repeat (first | (with_reducible first | exact HB.out | apply below_alloc | apply pw_below_drewN | apply below_drew1) | exact HB.out)) hb); have n1_ := Aside0.mk (hbox); have n2_ := Aside0.mk ((by rw [hg]; exact (below_size (by repeat (first | (with_reducible first | exact HB.out | apply below_alloc | apply pw_below_drewN | apply below_drew1) | exact HB.out))) : w.heap.size ≤ gb155)); have n3_ := Aside0.mk ((by rw [hg]; exact (below_size (by repeat (first | (with_reducible first | exact HB.out | apply below_alloc | apply pw_below_drewN | apply below_drew1) | exact HB.out))) : w.heap.size ≤ gb155)); clear HB; have HB := n0_; have BK155 := n1_; have GW155 := n2_; have GE155 := n3_; clear n0_ n1_ n2_ n3_; clear hb hbox hg; have hcz13_0 : w12.cell? ⟨gb155, 0, none⟩ = some (.int .i64 0) := (blk_cell BK155.out 0).trans rfl; have hcz13_1 : w12.cell? ⟨gb155, 1, none⟩ = some (.int .i64 0) := (blk_cell BK155.out 1).trans rfl; have hcz13_2 : w12.cell? ⟨gb155, 2, none⟩ = some (.int .i64 0) := (blk_cell BK155.out 2).trans rfl; have hcz13_3 : w12.cell? ⟨gb155, 3, none⟩ = some (.int .i64 0) := (blk_cell BK155.out 3).trans rfl; have hfz13_0 := blk_frozen BK155.out 0; have hfz13_1 := blk_frozen BK155.out 1; have hfz13_2 := blk_frozen BK155.out 2; have hfz13_3 := blk_frozen BK155.out 3) | ((with_reducible refine gate_callee (f := 10) rfl ?_); refine goesL_ (some 8) rfl rfl Tryd.func10 (by kernel_rfl) rfl #[.agg #[.int .i64 1, .int .i64 2, .int .i64 3, .int .i64 4], .string (⟨#[97, 98, 99, 100, 101, 102, 103, 104]⟩ : ByteArray)] rfl (by (try simp only [List.map_toArray, List.map_cons, List.map_nil]); first | done | rfl | (simp only [List.length_drop, List.length_take]; rfl)) ?_; (with_reducible refine (frame_Encode.calls 1 2 3 4 (⟨#[97, 98, 99, 100, 101, 102, 103, 104]⟩ : ByteArray) t156 t157 _ A1.out).mono ?_); rintro e w14 ⟨rfl, hb⟩; refine ⟨_, rfl, ?_⟩; have n0_ := Aside0.mk (blk_below (g := gb155) (o := .cells #[.int .i64 1, .int .i64 2, .int .i64 3, .int .i64 4] 23 (0, 0)) (by (with_reducible repeat (first | refine blk_drewN ?_ _ | refine blk_drew ?_ | refine blk_alloc ?_ _)); refine blk_put (cs := #[.int .i64 1, .int .i64 2, .int .i64 3, .int .i64 0]) ?_ 3 _ rfl; (with_reducible repeat (first | refine blk_drewN ?_ _ | refine blk_drew ?_ | refine blk_alloc ?_ _)); refine blk_put (cs := #[.int .i64 1, .int .i64 2, .int .i64 0, .int .i64 0]) ?_ 2 _ rfl; (with_reducible repeat (first | refine blk_drewN ?_ _ | refine blk_drew ?_ | refine blk_alloc ?_ _)); refine blk_put (cs := #[.int .i64 1, .int .i64 0, .int .i64 0, .int .i64 0]) ?_ 1 _ rfl; (with_reducible repeat (first | refine blk_drewN ?_ _ | refine blk_drew ?_ | refine blk_alloc ?_ _)); refine blk_put (cs := #[.int .i64 0, .int .i64 0, .int .i64 0, .int .i64 0]) ?_ 0 _ rfl; (with_reducible repeat (first | refine blk_drewN ?_ _ | refine blk_drew ?_ | refine blk_alloc ?_ _)); exact BK155.out) hb); have n1_ := Aside0.mk (below_step (by repeat (first | (with_reducible first | exact HB.out | apply below_alloc | apply pw_below_drewN | apply below_drew1 | refine below_set ?_ GE155.out) | exact HB.out)) hb); clear BK155; clear HB; have BK155 := n0_; have HB := n1_; clear n0_ n1_; (try clear hb); (try clear hb2); (try clear hk); (try clear hi)) | ((with_reducible refine gate_callee (f := 14) rfl ?_); refine goesL_ (some 11) rfl rfl Tryd.func14 (by kernel_rfl) rfl #[.int .i64 8] rfl (by (try simp only [List.map_toArray, List.map_cons, List.map_nil]); first | done | rfl | (simp only [List.length_drop, List.length_take]; rfl)) ?_; (with_reducible refine (frame_Blank.calls 8 t158 _ A2.out).mono ?_); rintro e w15 ⟨rfl, hb⟩; refine ⟨_, rfl, ?_⟩; have n0_ := Aside0.mk (blk_below (g := gb155) (o := .cells #[.int .i64 1, .int .i64 2, .int .i64 3, .int .i64 4] 23 (0, 0)) (by (with_reducible repeat (first | refine blk_drewN ?_ _ | refine blk_drew ?_ | refine blk_alloc ?_ _)); exact BK155.out) hb); have n1_ := Aside0.mk (below_step (by repeat (first | (with_reducible first | exact HB.out | apply below_alloc | apply pw_below_drewN | apply below_drew1 | refine below_set ?_ GE155.out) | exact HB.out)) hb); clear BK155; clear HB; have BK155 := n0_; have HB := n1_; clear n0_ n1_; (try clear hb); (try clear hb2); (try clear hk); (try clear hi)))
            have n0_ := Aside0.mk (blk_drew BK155.out)
            have n1_ := Aside0.mk (below_drew1 HB.out)
            clear BK155
            clear HB
            have BK155 := n0_
            have HB := n1_
            clear n0_ n1_
            refine start_ (n := 33) (S := fun w' => w'.cell? ⟨gb155, 0, none⟩ = some (.int .i64 1) ∧ w'.cell? ⟨gb155, 1, none⟩ = some (.int .i64 2) ∧ w'.cell? ⟨gb155, 2, none⟩ = some (.int .i64 3) ∧ w'.cell? ⟨gb155, 3, none⟩ = some (.int .i64 4)) (ds := []) (tfA 0 33) (by kernel_rfl) rfl rfl ⟨(blk_cell BK155.out 0).trans rfl, (blk_cell BK155.out 1).trans rfl, (blk_cell BK155.out 2).trans rfl, (blk_cell BK155.out 3).trans rfl⟩ (fun hHeld => ?_); refine with_tabW decklelaw05_works.tab4 decklelaw05_works.bits4 (fun HT_ HW_ => ?_)
            generalize w15.drew = w16 at BK155 HB hHeld ⊢
            refine pure_ (i := 0) (N := some 12) (v := ?_) (a' := ?_) (tfA 1 33) rfl rfl (any_of HT_.out (by kernel_rfl)) (fun _ _ _ h => h) (Or.inl ⟨by rfl, ?_⟩) ?_ ?_
            rotate_left
            · intro w'; go_simp; with_reducible rfl
            rotate_left
            · simp only [Act.put, sib, sc0, sc1, i64_w, i32_w]; rfl
            refine pure_ (i := 1) (N := some 13) (v := ?_) (a' := ?_) (tfA 2 33) rfl rfl (any_of HT_.out (by kernel_rfl)) (fun _ _ _ h => h) (Or.inl ⟨by rfl, ?_⟩) ?_ ?_
            rotate_left
            · intro w'; go_simp; with_reducible rfl
            rotate_left
            · simp only [Act.put, sib, sc0, sc1, i64_w, i32_w]; rfl
            refine pure_ (i := 2) (N := some 14) (v := ?_) (a' := ?_) (tfA 3 33) rfl rfl (any_of HT_.out (by kernel_rfl)) (fun _ _ _ h => h) (Or.inl ⟨by rfl, ?_⟩) ?_ ?_
            rotate_left
            · intro w'; go_simp; with_reducible rfl
            rotate_left
            · simp only [Act.put, sib, sc0, sc1, i64_w, i32_w]; rfl
            refine pure_ (i := 3) (N := some 15) (v := ?_) (a' := ?_) (tfA 4 33) rfl rfl (any_of HT_.out (by kernel_rfl)) (fun _ _ _ h => h) (Or.inl ⟨by rfl, ?_⟩) ?_ ?_
            rotate_left
            · intro w'; go_simp; with_reducible rfl
            rotate_left
            · simp only [Act.put, sib, sc0, sc1, i64_w, i32_w]; rfl
            refine pure_ (i := 4) (N := some 16) (v := ?_) (a' := ?_) (tfA 5 33) rfl rfl (any_of HT_.out (by kernel_rfl)) (fun _ _ _ h => h) (Or.inl ⟨by rfl, ?_⟩) ?_ ?_
            rotate_left
            · intro w'; go_simp; with_reducible rfl
            rotate_left
            · simp only [Act.put, sib, sc0, sc1, i64_w, i32_w]; rfl
            refine pure_ (i := 5) (N := some 17) (v := ?_) (a' := ?_) (tfA 6 33) rfl rfl (any_of HT_.out (by kernel_rfl)) (fun _ _ _ h => h) (Or.inl ⟨by rfl, ?_⟩) ?_ ?_
            rotate_left
            · intro w'; go_simp; with_reducible rfl
            rotate_left
            · simp only [Act.put, sib, sc0, sc1, i64_w, i32_w]; rfl
            refine pure_ (i := 6) (N := some 18) (v := ?_) (a' := ?_) (tfA 7 33) rfl rfl (any_of HT_.out (by kernel_rfl)) (fun _ _ _ h => h) (Or.inl ⟨by rfl, ?_⟩) ?_ ?_
            rotate_left
            · intro w'; go_simp; with_reducible rfl
            rotate_left
            · simp only [Act.put, sib, sc0, sc1, i64_w, i32_w]; rfl
            refine pure_ (i := 7) (N := some 19) (v := ?_) (a' := ?_) (tfA 8 33) rfl rfl (any_of HT_.out (by kernel_rfl)) (fun _ _ _ h => h) (Or.inl ⟨by rfl, ?_⟩) ?_ ?_
            rotate_left
            · intro w'; go_simp; with_reducible rfl
            rotate_left
            · simp only [Act.put, sib, sc0, sc1, i64_w, i32_w]; rfl
            refine pure_ (i := 8) (N := some 20) (v := ?_) (a' := ?_) (tfA 9 33) rfl rfl (any_of HT_.out (by kernel_rfl)) (fun _ _ _ h => h) (Or.inl ⟨by rfl, ?_⟩) ?_ ?_
            rotate_left
            · intro w'; go_simp; with_reducible rfl
            rotate_left
            · simp only [Act.put, sib, sc0, sc1, i64_w, i32_w]; rfl
            refine take_ (i := 10) (N := some 22) (v := ?_) (a' := ?_) #[true, true, true, true, true, true, true, true, true, false, true, false, false, false, false, false, false, false, false, false, false, false, false, false, false, false, false, false, false, false, false, false, false] rfl rfl (take_ofW HT_.out HW_.out (by kernel_rfl)) (fun _ _ _ h => h) (Or.inl ⟨by rfl, ?_⟩) hHeld ?_ ?_
            rotate_left
            · rintro w' ⟨s0, s1, s2, s3⟩
              go_simp
              with_reducible rfl
            rotate_left
            · simp only [Act.put, sib, sc0, sc1, i64_w, i32_w]
              rfl
            refine pure_ (i := 11) (N := some 23) (v := ?_) (a' := ?_) #[true, true, true, true, true, true, true, true, true, false, true, true, false, false, false, false, false, false, false, false, false, false, false, false, false, false, false, false, false, false, false, false, false] rfl rfl (any_of HT_.out (by kernel_rfl)) (fun _ _ _ h => h) (Or.inl ⟨by rfl, ?_⟩) ?_ ?_
            rotate_left
            · intro w'; go_simp; with_reducible rfl
            rotate_left
            · simp only [Act.put, sib, sc0, sc1, i64_w, i32_w]; rfl
            refine one_ (i := 9) (N := some 21) (tfA 12 33) rfl rfl (one_of HT_.out (by kernel_rfl)) (by decide) (fun K hK => ?_)
            refine goes_ Tryd.func12 (by kernel_rfl) rfl #[.string t156] (by rfl) rfl rfl (by (try simp only [List.map_toArray, List.map_cons, List.map_nil]); first | done | rfl | (simp only [List.length_drop, List.length_take]; rfl)) ?_
            with_reducible refine (frame_Decode.calls t156 t159 t160 t161 t162 t163 t164 _ A5.out).mono ?_
            rintro e w17 ⟨rfl, hb⟩
            refine ⟨_, rfl, ?_⟩
            have n0_ := Aside0.mk (blk_below (g := gb155) (o := .cells #[.int .i64 1, .int .i64 2, .int .i64 3, .int .i64 4] 23 (0, 0)) (by (with_reducible repeat (first | refine blk_drewN ?_ _ | refine blk_drew ?_ | refine blk_alloc ?_ _)); exact BK155.out) hb)
            have n1_ := Aside0.mk (below_step (by repeat (first | (with_reducible first | exact HB.out | apply below_alloc | apply pw_below_drewN | apply below_drew1 | refine below_set ?_ GE155.out) | exact HB.out)) hb)
            clear BK155
            clear HB
            have BK155 := n0_
            have HB := n1_
            clear n0_ n1_
            (try clear hb)
            (try clear hb2)
            (try clear hk)
            (try clear hi)
            refine hK.out _ _ ⟨(blk_cell BK155.out 0).trans rfl, (blk_cell BK155.out 1).trans rfl, (blk_cell BK155.out 2).trans rfl, (blk_cell BK155.out 3).trans rfl⟩ (fun hHeld => ?_)
            clear hK K
            refine norm_ (a' := ?_) ?_ ?_
            rotate_left
            · show Act.put _ (some 21) _ = _
              simp only [Act.put, sib, sc0, sc1, i64_w, i32_w]
              rfl
            refine pure_ (i := 12) (N := some 24) (v := ?_) (a' := ?_) (tfA 13 33) rfl rfl (any_of HT_.out (by kernel_rfl)) (fun _ _ _ h => h) (Or.inl ⟨by rfl, ?_⟩) ?_ ?_
            rotate_left
            · intro w'; go_simp; with_reducible rfl
            rotate_left
            · simp only [Act.put, sib, sc0, sc1, i64_w, i32_w]; rfl
            refine pure_ (i := 13) (N := some 25) (v := ?_) (a' := ?_) (tfA 14 33) rfl rfl (any_of HT_.out (by kernel_rfl)) (fun _ _ _ h => h) (Or.inl ⟨by rfl, ?_⟩) ?_ ?_
            rotate_left
            · intro w'; go_simp; with_reducible rfl
            rotate_left
            · simp only [Act.put, sib, sc0, sc1, i64_w, i32_w]; rfl
            refine pure_ (i := 14) (N := some 26) (v := ?_) (a' := ?_) (tfA 15 33) rfl rfl (any_of HT_.out (by kernel_rfl)) (fun _ _ _ h => h) (Or.inl ⟨by rfl, ?_⟩) ?_ ?_
            rotate_left
            · intro w'; go_simp; with_reducible rfl
            rotate_left
            · simp only [Act.put, sib, sc0, sc1, i64_w, i32_w]; rfl
            refine pure_ (i := 15) (N := some 27) (v := ?_) (a' := ?_) (tfA 16 33) rfl rfl (any_of HT_.out (by kernel_rfl)) (fun _ _ _ h => h) (Or.inl ⟨by rfl, ?_⟩) ?_ ?_
            rotate_left
            · intro w'; go_simp; with_reducible rfl
            rotate_left
            · simp only [Act.put, sib, sc0, sc1, i64_w, i32_w]; rfl
            refine pure_ (i := 16) (N := some 28) (v := ?_) (a' := ?_) (tfA 17 33) rfl rfl (any_of HT_.out (by kernel_rfl)) (fun _ _ _ h => h) (Or.inl ⟨by rfl, ?_⟩) ?_ ?_
            rotate_left
            · intro w'; go_simp; with_reducible rfl
            rotate_left
            · simp only [Act.put, sib, sc0, sc1, i64_w, i32_w]; rfl
            refine pure_ (i := 17) (N := some 29) (v := ?_) (a' := ?_) (tfA 18 33) rfl rfl (any_of HT_.out (by kernel_rfl)) (fun _ _ _ h => h) (Or.inl ⟨by rfl, ?_⟩) ?_ ?_
            rotate_left
            · intro w'; go_simp; with_reducible rfl
            rotate_left
            · simp only [Act.put, sib, sc0, sc1, i64_w, i32_w]; rfl
            refine pure_ (i := 18) (N := some 30) (v := ?_) (a' := ?_) (tfA 19 33) rfl rfl (any_of HT_.out (by kernel_rfl)) (fun _ _ _ h => h) (Or.inl ⟨by rfl, ?_⟩) ?_ ?_
            rotate_left
            · intro w'; go_simp; with_reducible rfl
            rotate_left
            · simp only [Act.put, sib, sc0, sc1, i64_w, i32_w]; rfl
            refine pure_ (i := 19) (N := some 31) (v := ?_) (a' := ?_) (tfA 20 33) rfl rfl (any_of HT_.out (by kernel_rfl)) (fun _ _ _ h => h) (Or.inl ⟨by rfl, ?_⟩) ?_ ?_
            rotate_left
            · intro w'; go_simp; with_reducible rfl
            rotate_left
            · simp only [Act.put, sib, sc0, sc1, i64_w, i32_w]; rfl
            refine pure_ (i := 20) (N := some 32) (v := ?_) (a' := ?_) (tfA 21 33) rfl rfl (any_of HT_.out (by kernel_rfl)) (fun _ _ _ h => h) (Or.inl ⟨by rfl, ?_⟩) ?_ ?_
            rotate_left
            · intro w'; go_simp; with_reducible rfl
            rotate_left
            · simp only [Act.put, sib, sc0, sc1, i64_w, i32_w]; rfl
            refine pure_ (i := 22) (N := some 34) (v := ?_) (a' := ?_) #[true, true, true, true, true, true, true, true, true, true, true, true, true, true, true, true, true, true, true, true, true, false, true, false, false, false, false, false, false, false, false, false, false] rfl rfl (any_of HT_.out (by kernel_rfl)) (fun _ _ _ h => h) (Or.inl ⟨by rfl, ?_⟩) ?_ ?_
            rotate_left
            · intro w'; go_simp; with_reducible rfl
            rotate_left
            · simp only [Act.put, sib, sc0, sc1, i64_w, i32_w]; rfl
            refine one_ (i := 21) (N := some 33) (tfA 23 33) rfl rfl (one_of HT_.out (by kernel_rfl)) (by decide) (fun K hK => ?_)
            refine goes_ Tryd.func12 (by kernel_rfl) rfl #[.string t158] (by rfl) rfl rfl (by (try simp only [List.map_toArray, List.map_cons, List.map_nil]); first | done | rfl | (simp only [List.length_drop, List.length_take]; rfl)) ?_
            with_reducible refine (frame_Decode.calls t158 (1 : Int) (0 : Int) (0 : Int) (0 : Int) (0 : Int) (⟨#[]⟩ : ByteArray) _ A8.out).mono ?_
            rintro e w18 ⟨rfl, hb⟩
            refine ⟨_, rfl, ?_⟩
            have n0_ := Aside0.mk (blk_below (g := gb155) (o := .cells #[.int .i64 1, .int .i64 2, .int .i64 3, .int .i64 4] 23 (0, 0)) (by (with_reducible repeat (first | refine blk_drewN ?_ _ | refine blk_drew ?_ | refine blk_alloc ?_ _)); exact BK155.out) hb)
            have n1_ := Aside0.mk (below_step (by repeat (first | (with_reducible first | exact HB.out | apply below_alloc | apply pw_below_drewN | apply below_drew1 | refine below_set ?_ GE155.out) | exact HB.out)) hb)
            clear BK155
            clear HB
            have BK155 := n0_
            have HB := n1_
            clear n0_ n1_
            (try clear hb)
            (try clear hb2)
            (try clear hk)
            (try clear hi)
            refine hK.out _ _ ⟨(blk_cell BK155.out 0).trans rfl, (blk_cell BK155.out 1).trans rfl, (blk_cell BK155.out 2).trans rfl, (blk_cell BK155.out 3).trans rfl⟩ (fun hHeld => ?_)
            clear hK K
            refine norm_ (a' := ?_) ?_ ?_
            rotate_left
            · show Act.put _ (some 33) _ = _
              simp only [Act.put, sib, sc0, sc1, i64_w, i32_w]
              rfl
            refine pure_ (i := 23) (N := some 35) (v := ?_) (a' := ?_) (tfA 24 33) rfl rfl (any_of HT_.out (by kernel_rfl)) (fun _ _ _ h => h) (Or.inl ⟨by rfl, ?_⟩) ?_ ?_
            rotate_left
            · intro w'; go_simp; with_reducible rfl
            rotate_left
            · simp only [Act.put, sib, sc0, sc1, i64_w, i32_w]; rfl
            refine pure_ (i := 24) (N := some 36) (v := ?_) (a' := ?_) (tfA 25 33) rfl rfl (any_of HT_.out (by kernel_rfl)) (fun _ _ _ h => h) (Or.inl ⟨by rfl, ?_⟩) ?_ ?_
            rotate_left
            · intro w'; go_simp; with_reducible rfl
            rotate_left
            · simp only [Act.put, sib, sc0, sc1, i64_w, i32_w]; rfl
            refine pure_ (i := 25) (N := some 37) (v := ?_) (a' := ?_) (tfA 26 33) rfl rfl (any_of HT_.out (by kernel_rfl)) (fun _ _ _ h => h) (Or.inl ⟨by rfl, ?_⟩) ?_ ?_
            rotate_left
            · intro w'; go_simp; with_reducible rfl
            rotate_left
            · simp only [Act.put, sib, sc0, sc1, i64_w, i32_w]; rfl
            refine pure_ (i := 26) (N := some 38) (v := ?_) (a' := ?_) (tfA 27 33) rfl rfl (any_of HT_.out (by kernel_rfl)) (fun _ _ _ h => h) (Or.inl ⟨by rfl, ?_⟩) ?_ ?_
            rotate_left
            · intro w'; go_simp; with_reducible rfl
            rotate_left
            · simp only [Act.put, sib, sc0, sc1, i64_w, i32_w]; rfl
            refine pure_ (i := 29) (N := some 41) (v := ?_) (a' := ?_) #[true, true, true, true, true, true, true, true, true, true, true, true, true, true, true, true, true, true, true, true, true, true, true, true, true, true, true, false, false, true, false, false, false] rfl rfl (any_of HT_.out (by kernel_rfl)) (fun _ _ _ h => h) (Or.inl ⟨by rfl, ?_⟩) ?_ ?_
            rotate_left
            · intro w'; go_simp; with_reducible rfl
            rotate_left
            · simp only [Act.put, sib, sc0, sc1, i64_w, i32_w]; rfl
            refine one_ (i := 27) (N := some 39) #[true, true, true, true, true, true, true, true, true, true, true, true, true, true, true, true, true, true, true, true, true, true, true, true, true, true, true, true, false, true, false, false, false] rfl rfl (one_of HT_.out (by kernel_rfl)) (by decide) (fun K hK => ?_)
            refine goes_ Tryd.func16 (by kernel_rfl) rfl #[.string t158, .int .i64 0, .int .i64 0] (by rfl) rfl rfl (by (try simp only [List.map_toArray, List.map_cons, List.map_nil]); first | done | rfl | (simp only [List.length_drop, List.length_take]; rfl)) ?_
            with_reducible refine (frame_Hurt.calls t158 0 0 t171 _ A10.out).mono ?_
            rintro e w19 ⟨rfl, hb⟩
            refine ⟨_, rfl, ?_⟩
            have n0_ := Aside0.mk (blk_below (g := gb155) (o := .cells #[.int .i64 1, .int .i64 2, .int .i64 3, .int .i64 4] 23 (0, 0)) (by (with_reducible repeat (first | refine blk_drewN ?_ _ | refine blk_drew ?_ | refine blk_alloc ?_ _)); exact BK155.out) hb)
            have n1_ := Aside0.mk (below_step (by repeat (first | (with_reducible first | exact HB.out | apply below_alloc | apply pw_below_drewN | apply below_drew1 | refine below_set ?_ GE155.out) | exact HB.out)) hb)
            clear BK155
            clear HB
            have BK155 := n0_
            have HB := n1_
            clear n0_ n1_
            (try clear hb)
            (try clear hb2)
            (try clear hk)
            (try clear hi)
            refine hK.out _ _ ⟨(blk_cell BK155.out 0).trans rfl, (blk_cell BK155.out 1).trans rfl, (blk_cell BK155.out 2).trans rfl, (blk_cell BK155.out 3).trans rfl⟩ (fun hHeld => ?_)
            clear hK K
            refine norm_ (a' := ?_) ?_ ?_
            rotate_left
            · show Act.put _ (some 39) _ = _
              simp only [Act.put, sib, sc0, sc1, i64_w, i32_w]
              rfl
            refine one_ (i := 28) (N := some 40) (tfA 30 33) rfl rfl (one_of HT_.out (by kernel_rfl)) (by decide) (fun K hK => ?_)
            refine goes_ Tryd.func12 (by kernel_rfl) rfl #[.string t171] (by rfl) rfl rfl (by (try simp only [List.map_toArray, List.map_cons, List.map_nil]); first | done | rfl | (simp only [List.length_drop, List.length_take]; rfl)) ?_
            with_reducible refine (frame_Decode.calls t171 t172 t173 t174 t175 t176 t177 _ A11.out).mono ?_
            rintro e w20 ⟨rfl, hb⟩
            refine ⟨_, rfl, ?_⟩
            have n0_ := Aside0.mk (blk_below (g := gb155) (o := .cells #[.int .i64 1, .int .i64 2, .int .i64 3, .int .i64 4] 23 (0, 0)) (by (with_reducible repeat (first | refine blk_drewN ?_ _ | refine blk_drew ?_ | refine blk_alloc ?_ _)); exact BK155.out) hb)
            have n1_ := Aside0.mk (below_step (by repeat (first | (with_reducible first | exact HB.out | apply below_alloc | apply pw_below_drewN | apply below_drew1 | refine below_set ?_ GE155.out) | exact HB.out)) hb)
            clear BK155
            clear HB
            have BK155 := n0_
            have HB := n1_
            clear n0_ n1_
            (try clear hb)
            (try clear hb2)
            (try clear hk)
            (try clear hi)
            refine hK.out _ _ ⟨(blk_cell BK155.out 0).trans rfl, (blk_cell BK155.out 1).trans rfl, (blk_cell BK155.out 2).trans rfl, (blk_cell BK155.out 3).trans rfl⟩ (fun hHeld => ?_)
            clear hK K
            refine norm_ (a' := ?_) ?_ ?_
            rotate_left
            · show Act.put _ (some 40) _ = _
              simp only [Act.put, sib, sc0, sc1, i64_w, i32_w]
              rfl
            refine pure_ (i := 30) (N := some 42) (v := ?_) (a' := ?_) (tfA 31 33) rfl rfl (any_of HT_.out (by kernel_rfl)) (fun _ _ _ h => h) (Or.inl ⟨by rfl, ?_⟩) ?_ ?_
            rotate_left
            · intro w'; go_simp; with_reducible rfl
            rotate_left
            · simp only [Act.put, sib, sc0, sc1, i64_w, i32_w]; rfl
            refine pure_ (i := 31) (N := some 43) (v := ?_) (a' := ?_) (tfA 32 33) rfl rfl (any_of HT_.out (by kernel_rfl)) (fun _ _ _ h => h) (Or.inl ⟨by rfl, ?_⟩) ?_ ?_
            rotate_left
            · intro w'; go_simp; with_reducible rfl
            rotate_left
            · simp only [Act.put, sib, sc0, sc1, i64_w, i32_w]; rfl
            refine pure_ (i := 32) (N := some 0) (v := ?_) (a' := ?_) (tfA 33 33) rfl rfl (any_of HT_.out (by kernel_rfl)) (fun _ _ _ h => h) (Or.inl ⟨by rfl, ?_⟩) ?_ ?_
            rotate_left
            · intro w'; go_simp; with_reducible rfl
            rotate_left
            · simp only [Act.put, sib, sc0, sc1, i64_w, i32_w]; rfl
            refine done_ (done_of HT_.out (by kernel_rfl)) ?_
            try go_wp2
            go_ret
            exact ⟨by first | rfl | (simp [errW_none, errW_some] <;> rfl) | (simp [*, errW_none, errW_some] <;> rfl), by repeat (first | (with_reducible first | exact HB.out | apply below_alloc | apply pw_below_drewN | apply below_drew1 | refine below_set ?_ GE155.out) | exact HB.out)⟩
          · rw [if_neg c9] at H
            exact absurd ((Option.some.inj H).trans HRT.out) (by decide)
        · rw [if_neg c7] at H
          exact absurd ((Option.some.inj H).trans HRT.out) (by decide)
      · rw [if_neg c6] at H
        exact absurd ((Option.some.inj H).trans HRT.out) (by decide)
    · rw [if_neg c4] at H
      exact absurd ((Option.some.inj H).trans HRT.out) (by decide)
  · rw [if_neg c3] at H
    exact absurd ((Option.some.inj H).trans HRT.out) (by decide)

end Go.Proofs.YtbcgddacmjliaaaDoor.PF
end

section
-- Written by a program (the kit's print.py, called by wip/bin/prseat.sh, mended by wip/bin/mend.py).
namespace Go.Proofs.YtbcgddacmjliaaaDoor.PF
open Go.RowKit Go.Proofs.YtbcgddacmjliaaaDoorW.PrintWords Go.Proofs.YtbcgddacmjliaaaDoorW.PrintLast Go.Proofs.YtbcgddacmjliaaaDoorW.PrintMore
attribute [local go_sem] max2_int min2_int max_two min_two max_three min_three max_four min_four   -- for this text's walks alone
set_option linter.unusedVariables false
set_option linter.unusedSimpArgs false

/-! ### decklelaw05_FrameEncodes: function 3 -/
def decklelaw05_FrameEncodes.f (k : Nat) (a0_0 : Int) (a0_1 : Int) (a0_2 : Int) (a0_3 : Int) (a1 : ByteArray) : Option (Bool) := if (a1.size : Int) > 1000 then ((decklelaw05_works.f).bind fun t296 => (some t296)) else ((frame_Encode.f a0_0 a0_1 a0_2 a0_3 a1).bind fun bt297 => ((deckleref05_Encode.f k a0_0 a0_1 a0_2 a0_3 a1).bind fun bt299 => (if bt297.1.toList = bt299.1.toList then (if bt297.2 = bt299.2 then ((decklelaw05_works.f).bind fun t301 => (some t301)) else (some false)) else (some false))))
theorem decklelaw05_FrameEncodes.mono : ∀ a0 a1 a2 a3 a4 k, LeO (decklelaw05_FrameEncodes.f k a0 a1 a2 a3 a4) (decklelaw05_FrameEncodes.f (k + 1) a0 a1 a2 a3 a4) := by
  intro a0 a1 a2 a3 a4 k
  unfold decklelaw05_FrameEncodes.f
  repeat' first
      | (with_reducible exact deckleref05_Encode.mono _ _ _ _ _ _)
      | (with_reducible exact LeO.refl _)
      | (with_reducible exact LeO.none _)
      | (with_reducible refine LeO.ite ?_ ?_)
      | (with_reducible refine LeO.bind ?_ (fun _ => ?_))
      | exact deckleref05_Encode.mono _ _ _ _ _ _
      | exact LeO.none _
      | refine LeO.ite ?_ ?_
      | refine LeO.bind ?_ (fun _ => ?_)
set_option maxHeartbeats 8000000 in
set_option maxRecDepth 100000 in
theorem decklelaw05_FrameEncodes.calls (k : Nat) (a0_0 : Int) (a0_1 : Int) (a0_2 : Int) (a0_3 : Int) (a1 : ByteArray) (r : Bool) (w : World) (h : decklelaw05_FrameEncodes.f k a0_0 a0_1 a0_2 a0_3 a1 = some r) (HL : Aside0 (Hw.Laid w) := by first | exact HL | exact Hw.laid_at HL (by repeat (first | (with_reducible first | exact HB.out | apply below_alloc | apply pw_below_drewN | apply below_drew1) | exact HB.out | exact Below.refl _ _ | refine below_set ?_ (by apply Aside0.out; assumption)))) :
    Calls Tryd.prog 3 #[.agg #[.int .i64 a0_0, .int .i64 a0_1, .int .i64 a0_2, .int .i64 a0_3], .string a1] w fun e w' => e = .returned (.bool r) ∧ Below w.heap.size w w' := by
  have hu23 := Tryd.underlying23
  have HB := Aside0.mk (Below.refl w.heap.size w)
  have H : (if (a1.size : Int) > 1000 then ((decklelaw05_works.f).bind fun t296 => (some t296)) else ((frame_Encode.f a0_0 a0_1 a0_2 a0_3 a1).bind fun bt297 => ((deckleref05_Encode.f k a0_0 a0_1 a0_2 a0_3 a1).bind fun bt299 => (if bt297.1.toList = bt299.1.toList then (if bt297.2 = bt299.2 then ((decklelaw05_works.f).bind fun t301 => (some t301)) else (some false)) else (some false))))) = some r := h
  clear h
  by_cases c3 : (a1.size : Int) > 1000
  · rw [if_pos c3] at H
    have c3b0 : decide (1000 < (a1.size : Int)) = true := decide_eq_true c3
    have c3b1 : decide (1000 < a1.size) = true := decide_eq_true (by omega)
    clear c3
    replace H := Option.bind_eq_some_iff.mp H
    obtain ⟨t296, A40, H⟩ := H
    replace H : (some t296) = some r := H
    have A4 := Aside0.mk A40
    clear A40
    obtain rfl := Option.some.inj H
    go_enter Tryd.func3, Tryd.ntmps3
    go_wp2_with (first | ((with_reducible refine gate_dst (N := 2) rfl ?_); refine box_event ?hg (N := 2) ?hd (cs := #[.int .i64 a0_0, .int .i64 a0_1, .int .i64 a0_2, .int .i64 a0_3]) (t := 23) ?hr ?_; (case hd => rfl); (case hg => rfl); (case hr => first | (go_simp; done) | (go_simp; rfl)); intro gb295 hg w5 hbox hb; have n0_ := Aside0.mk (below_step (by repeat (first | (with_reducible first | exact HB.out | apply below_alloc | apply pw_below_drewN | apply below_drew1) | exact HB.out)) hb); have n1_ := Aside0.mk (hbox); have n2_ := Aside0.mk ((by rw [hg]; exact (below_size (by repeat (first | (with_reducible first | exact HB.out | apply below_alloc | apply pw_below_drewN | apply below_drew1) | exact HB.out))) : w.heap.size ≤ gb295)); have n3_ := Aside0.mk ((by rw [hg]; exact (below_size (by repeat (first | (with_reducible first | exact HB.out | apply below_alloc | apply pw_below_drewN | apply below_drew1) | exact HB.out))) : w.heap.size ≤ gb295)); clear HB; have HB := n0_; have BK295 := n1_; have GW295 := n2_; have GE295 := n3_; clear n0_ n1_ n2_ n3_; clear hb hbox hg) | ((with_reducible refine gate_callee (f := 9) rfl ?_); refine goesL_ (some 12) rfl rfl Tryd.func9 (by kernel_rfl) rfl #[] rfl (by (try simp only [List.map_toArray, List.map_cons, List.map_nil]); first | done | rfl | (simp only [List.length_drop, List.length_take]; rfl)) ?_; (with_reducible refine (decklelaw05_works.calls  t296 _ A4.out).mono ?_); rintro e w6 ⟨rfl, hb⟩; refine ⟨_, rfl, ?_⟩; have n0_ := Aside0.mk (blk_below (g := gb295) (o := .cells #[.int .i64 a0_0, .int .i64 a0_1, .int .i64 a0_2, .int .i64 a0_3] 23 (0, 0)) (by (with_reducible repeat (first | refine blk_drewN ?_ _ | refine blk_drew ?_ | refine blk_alloc ?_ _)); exact BK295.out) hb); have n1_ := Aside0.mk (below_step (by repeat (first | (with_reducible first | exact HB.out | apply below_alloc | apply pw_below_drewN | apply below_drew1 | refine below_set ?_ GE295.out) | exact HB.out)) hb); clear BK295; clear HB; have BK295 := n0_; have HB := n1_; clear n0_ n1_; (try clear hb); (try clear hb2); (try clear hk); (try clear hi)))
    go_ret
    exact ⟨by first | rfl | (simp [errW_none, errW_some] <;> rfl) | (simp [*, errW_none, errW_some] <;> rfl), by repeat (first | (with_reducible first | exact HB.out | apply below_alloc | apply pw_below_drewN | apply below_drew1 | refine below_set ?_ GE295.out) | exact HB.out)⟩
  · rw [if_neg c3] at H
    have c3b0 : decide (1000 < (a1.size : Int)) = false := decide_eq_false c3
    have c3b1 : decide (1000 < a1.size) = false := decide_eq_false (by omega)
    clear c3
    replace H := Option.bind_eq_some_iff.mp H
    obtain ⟨⟨t297, t298⟩, A70, H⟩ := H
    replace H : ((deckleref05_Encode.f k a0_0 a0_1 a0_2 a0_3 a1).bind fun bt299 => (if t297.toList = bt299.1.toList then (if t298 = bt299.2 then ((decklelaw05_works.f).bind fun t301 => (some t301)) else (some false)) else (some false))) = some r := H
    have A7 := Aside0.mk A70
    clear A70
    replace H := Option.bind_eq_some_iff.mp H
    obtain ⟨⟨t299, t300⟩, A80, H⟩ := H
    replace H : (if t297.toList = t299.toList then (if t298 = t300 then ((decklelaw05_works.f).bind fun t301 => (some t301)) else (some false)) else (some false)) = some r := H
    have A8 := Aside0.mk A80
    clear A80
    by_cases c9 : t297.toList = t299.toList
    · rw [if_pos c9] at H
      have c9b0 : (t297.toList == t299.toList) = true := beq_iff_eq.mpr c9
      have c9b1 : (t297.toList != t299.toList) = false := bne_eq_false_iff_eq.mpr c9
      clear c9
      by_cases c10 : t298 = t300
      · rw [if_pos c10] at H
        have c10b0 : (t298 == t300) = true := beq_iff_eq.mpr c10
        have c10b1 : (t298 != t300) = false := bne_eq_false_iff_eq.mpr c10
        clear c10
        replace H := Option.bind_eq_some_iff.mp H
        obtain ⟨t301, A110, H⟩ := H
        replace H : (some t301) = some r := H
        have A11 := Aside0.mk A110
        clear A110
        obtain rfl := Option.some.inj H
        go_enter Tryd.func3, Tryd.ntmps3
        go_wp2_with (first | ((with_reducible refine gate_dst (N := 2) rfl ?_); refine box_event ?hg (N := 2) ?hd (cs := #[.int .i64 a0_0, .int .i64 a0_1, .int .i64 a0_2, .int .i64 a0_3]) (t := 23) ?hr ?_; (case hd => rfl); (case hg => rfl); (case hr => first | (go_simp; done) | (go_simp; rfl)); intro gb295 hg w12 hbox hb; have n0_ := Aside0.mk (below_step (by repeat (first | (with_reducible first | exact HB.out | apply below_alloc | apply pw_below_drewN | apply below_drew1) | exact HB.out)) hb); have n1_ := Aside0.mk (hbox); have n2_ := Aside0.mk ((by rw [hg]; exact (below_size (by repeat (first | (with_reducible first | exact HB.out | apply below_alloc | apply pw_below_drewN | apply below_drew1) | exact HB.out))) : w.heap.size ≤ gb295)); have n3_ := Aside0.mk ((by rw [hg]; exact (below_size (by repeat (first | (with_reducible first | exact HB.out | apply below_alloc | apply pw_below_drewN | apply below_drew1) | exact HB.out))) : w.heap.size ≤ gb295)); clear HB; have HB := n0_; have BK295 := n1_; have GW295 := n2_; have GE295 := n3_; clear n0_ n1_ n2_ n3_; clear hb hbox hg; have hcz13_0 : w12.cell? ⟨gb295, 0, none⟩ = some (.int .i64 a0_0) := (blk_cell BK295.out 0).trans rfl; have hcz13_1 : w12.cell? ⟨gb295, 1, none⟩ = some (.int .i64 a0_1) := (blk_cell BK295.out 1).trans rfl; have hcz13_2 : w12.cell? ⟨gb295, 2, none⟩ = some (.int .i64 a0_2) := (blk_cell BK295.out 2).trans rfl; have hcz13_3 : w12.cell? ⟨gb295, 3, none⟩ = some (.int .i64 a0_3) := (blk_cell BK295.out 3).trans rfl; have hfz13_0 := blk_frozen BK295.out 0; have hfz13_1 := blk_frozen BK295.out 1; have hfz13_2 := blk_frozen BK295.out 2; have hfz13_3 := blk_frozen BK295.out 3) | ((with_reducible refine gate_callee (f := 10) rfl ?_); refine goesL_ (some 16) rfl rfl Tryd.func10 (by kernel_rfl) rfl #[.agg #[.int .i64 a0_0, .int .i64 a0_1, .int .i64 a0_2, .int .i64 a0_3], .string a1] rfl (by (try simp only [List.map_toArray, List.map_cons, List.map_nil]); first | done | rfl | (simp only [List.length_drop, List.length_take]; rfl)) ?_; (with_reducible refine (frame_Encode.calls a0_0 a0_1 a0_2 a0_3 a1 t297 t298 _ A7.out).mono ?_); rintro e w14 ⟨rfl, hb⟩; refine ⟨_, rfl, ?_⟩; have n0_ := Aside0.mk (blk_below (g := gb295) (o := .cells #[.int .i64 a0_0, .int .i64 a0_1, .int .i64 a0_2, .int .i64 a0_3] 23 (0, 0)) (by (with_reducible repeat (first | refine blk_drewN ?_ _ | refine blk_drew ?_ | refine blk_alloc ?_ _)); exact BK295.out) hb); have n1_ := Aside0.mk (below_step (by repeat (first | (with_reducible first | exact HB.out | apply below_alloc | apply pw_below_drewN | apply below_drew1 | refine below_set ?_ GE295.out) | exact HB.out)) hb); clear BK295; clear HB; have BK295 := n0_; have HB := n1_; clear n0_ n1_; (try clear hb); (try clear hb2); (try clear hk); (try clear hi); have hcz15_0 : w14.cell? ⟨gb295, 0, none⟩ = some (.int .i64 a0_0) := (blk_cell BK295.out 0).trans rfl; have hcz15_1 : w14.cell? ⟨gb295, 1, none⟩ = some (.int .i64 a0_1) := (blk_cell BK295.out 1).trans rfl; have hcz15_2 : w14.cell? ⟨gb295, 2, none⟩ = some (.int .i64 a0_2) := (blk_cell BK295.out 2).trans rfl; have hcz15_3 : w14.cell? ⟨gb295, 3, none⟩ = some (.int .i64 a0_3) := (blk_cell BK295.out 3).trans rfl; have hfz15_0 := blk_frozen BK295.out 0; have hfz15_1 := blk_frozen BK295.out 1; have hfz15_2 := blk_frozen BK295.out 2; have hfz15_3 := blk_frozen BK295.out 3) | ((with_reducible refine gate_callee (f := 11) rfl ?_); refine goesL_ (some 22) rfl rfl Tryd.func11 (by kernel_rfl) rfl #[.agg #[.int .i64 a0_0, .int .i64 a0_1, .int .i64 a0_2, .int .i64 a0_3], .string a1] rfl (by (try simp only [List.map_toArray, List.map_cons, List.map_nil]); first | done | rfl | (simp only [List.length_drop, List.length_take]; rfl)) ?_; (with_reducible refine (deckleref05_Encode.calls k a0_0 a0_1 a0_2 a0_3 a1 t299 t300 _ A8.out).mono ?_); rintro e w16 ⟨rfl, hb⟩; refine ⟨_, rfl, ?_⟩; have n0_ := Aside0.mk (blk_below (g := gb295) (o := .cells #[.int .i64 a0_0, .int .i64 a0_1, .int .i64 a0_2, .int .i64 a0_3] 23 (0, 0)) (by (with_reducible repeat (first | refine blk_drewN ?_ _ | refine blk_drew ?_ | refine blk_alloc ?_ _)); exact BK295.out) hb); have n1_ := Aside0.mk (below_step (by repeat (first | (with_reducible first | exact HB.out | apply below_alloc | apply pw_below_drewN | apply below_drew1 | refine below_set ?_ GE295.out) | exact HB.out)) hb); clear BK295; clear HB; have BK295 := n0_; have HB := n1_; clear n0_ n1_; (try clear hb); (try clear hb2); (try clear hk); (try clear hi)) | (go_at_call 9; (with_reducible refine (decklelaw05_works.calls  t301 _ A11.out).mono ?_); rintro e w17 ⟨rfl, hb⟩; have n0_ := Aside0.mk (blk_below (g := gb295) (o := .cells #[.int .i64 a0_0, .int .i64 a0_1, .int .i64 a0_2, .int .i64 a0_3] 23 (0, 0)) (by (with_reducible repeat (first | refine blk_drewN ?_ _ | refine blk_drew ?_ | refine blk_alloc ?_ _)); exact BK295.out) hb); have n1_ := Aside0.mk (below_step (by repeat (first | (with_reducible first | exact HB.out | apply below_alloc | apply pw_below_drewN | apply below_drew1 | refine below_set ?_ GE295.out) | exact HB.out)) hb); clear BK295; clear HB; have BK295 := n0_; have HB := n1_; clear n0_ n1_; (try clear hb); (try clear hb2); (try clear hk); (try clear hi)))
        go_ret
        exact ⟨by first | rfl | (simp [errW_none, errW_some] <;> rfl) | (simp [*, errW_none, errW_some] <;> rfl), by repeat (first | (with_reducible first | exact HB.out | apply below_alloc | apply pw_below_drewN | apply below_drew1 | refine below_set ?_ GE295.out) | exact HB.out)⟩
      · rw [if_neg c10] at H
        have c10b0 : (t298 == t300) = false := beq_eq_false_iff_ne.mpr c10
        have c10b1 : (t298 != t300) = true := bne_iff_ne.mpr c10
        obtain rfl := Option.some.inj H
        go_enter Tryd.func3, Tryd.ntmps3
        go_wp2_with (first | ((with_reducible refine gate_dst (N := 2) rfl ?_); refine box_event ?hg (N := 2) ?hd (cs := #[.int .i64 a0_0, .int .i64 a0_1, .int .i64 a0_2, .int .i64 a0_3]) (t := 23) ?hr ?_; (case hd => rfl); (case hg => rfl); (case hr => first | (go_simp; done) | (go_simp; rfl)); intro gb295 hg w18 hbox hb; have n0_ := Aside0.mk (below_step (by repeat (first | (with_reducible first | exact HB.out | apply below_alloc | apply pw_below_drewN | apply below_drew1) | exact HB.out)) hb); have n1_ := Aside0.mk (hbox); have n2_ := Aside0.mk ((by rw [hg]; exact (below_size (by repeat (first | (with_reducible first | exact HB.out | apply below_alloc | apply pw_below_drewN | apply below_drew1) | exact HB.out))) : w.heap.size ≤ gb295)); have n3_ := Aside0.mk ((by rw [hg]; exact (below_size (by repeat (first | (with_reducible first | exact HB.out | apply below_alloc | apply pw_below_drewN | apply below_drew1) | exact HB.out))) : w.heap.size ≤ gb295)); clear HB; have HB := n0_; have BK295 := n1_; have GW295 := n2_; have GE295 := n3_; clear n0_ n1_ n2_ n3_; clear hb hbox hg; have hcz19_0 : w18.cell? ⟨gb295, 0, none⟩ = some (.int .i64 a0_0) := (blk_cell BK295.out 0).trans rfl; have hcz19_1 : w18.cell? ⟨gb295, 1, none⟩ = some (.int .i64 a0_1) := (blk_cell BK295.out 1).trans rfl; have hcz19_2 : w18.cell? ⟨gb295, 2, none⟩ = some (.int .i64 a0_2) := (blk_cell BK295.out 2).trans rfl; have hcz19_3 : w18.cell? ⟨gb295, 3, none⟩ = some (.int .i64 a0_3) := (blk_cell BK295.out 3).trans rfl; have hfz19_0 := blk_frozen BK295.out 0; have hfz19_1 := blk_frozen BK295.out 1; have hfz19_2 := blk_frozen BK295.out 2; have hfz19_3 := blk_frozen BK295.out 3) | ((with_reducible refine gate_callee (f := 10) rfl ?_); refine goesL_ (some 16) rfl rfl Tryd.func10 (by kernel_rfl) rfl #[.agg #[.int .i64 a0_0, .int .i64 a0_1, .int .i64 a0_2, .int .i64 a0_3], .string a1] rfl (by (try simp only [List.map_toArray, List.map_cons, List.map_nil]); first | done | rfl | (simp only [List.length_drop, List.length_take]; rfl)) ?_; (with_reducible refine (frame_Encode.calls a0_0 a0_1 a0_2 a0_3 a1 t297 t298 _ A7.out).mono ?_); rintro e w20 ⟨rfl, hb⟩; refine ⟨_, rfl, ?_⟩; have n0_ := Aside0.mk (blk_below (g := gb295) (o := .cells #[.int .i64 a0_0, .int .i64 a0_1, .int .i64 a0_2, .int .i64 a0_3] 23 (0, 0)) (by (with_reducible repeat (first | refine blk_drewN ?_ _ | refine blk_drew ?_ | refine blk_alloc ?_ _)); exact BK295.out) hb); have n1_ := Aside0.mk (below_step (by repeat (first | (with_reducible first | exact HB.out | apply below_alloc | apply pw_below_drewN | apply below_drew1 | refine below_set ?_ GE295.out) | exact HB.out)) hb); clear BK295; clear HB; have BK295 := n0_; have HB := n1_; clear n0_ n1_; (try clear hb); (try clear hb2); (try clear hk); (try clear hi); have hcz21_0 : w20.cell? ⟨gb295, 0, none⟩ = some (.int .i64 a0_0) := (blk_cell BK295.out 0).trans rfl; have hcz21_1 : w20.cell? ⟨gb295, 1, none⟩ = some (.int .i64 a0_1) := (blk_cell BK295.out 1).trans rfl; have hcz21_2 : w20.cell? ⟨gb295, 2, none⟩ = some (.int .i64 a0_2) := (blk_cell BK295.out 2).trans rfl; have hcz21_3 : w20.cell? ⟨gb295, 3, none⟩ = some (.int .i64 a0_3) := (blk_cell BK295.out 3).trans rfl; have hfz21_0 := blk_frozen BK295.out 0; have hfz21_1 := blk_frozen BK295.out 1; have hfz21_2 := blk_frozen BK295.out 2; have hfz21_3 := blk_frozen BK295.out 3) | ((with_reducible refine gate_callee (f := 11) rfl ?_); refine goesL_ (some 22) rfl rfl Tryd.func11 (by kernel_rfl) rfl #[.agg #[.int .i64 a0_0, .int .i64 a0_1, .int .i64 a0_2, .int .i64 a0_3], .string a1] rfl (by (try simp only [List.map_toArray, List.map_cons, List.map_nil]); first | done | rfl | (simp only [List.length_drop, List.length_take]; rfl)) ?_; (with_reducible refine (deckleref05_Encode.calls k a0_0 a0_1 a0_2 a0_3 a1 t299 t300 _ A8.out).mono ?_); rintro e w22 ⟨rfl, hb⟩; refine ⟨_, rfl, ?_⟩; have n0_ := Aside0.mk (blk_below (g := gb295) (o := .cells #[.int .i64 a0_0, .int .i64 a0_1, .int .i64 a0_2, .int .i64 a0_3] 23 (0, 0)) (by (with_reducible repeat (first | refine blk_drewN ?_ _ | refine blk_drew ?_ | refine blk_alloc ?_ _)); exact BK295.out) hb); have n1_ := Aside0.mk (below_step (by repeat (first | (with_reducible first | exact HB.out | apply below_alloc | apply pw_below_drewN | apply below_drew1 | refine below_set ?_ GE295.out) | exact HB.out)) hb); clear BK295; clear HB; have BK295 := n0_; have HB := n1_; clear n0_ n1_; (try clear hb); (try clear hb2); (try clear hk); (try clear hi)))
        go_ret
        exact ⟨by first | rfl | (simp [errW_none, errW_some] <;> rfl) | (simp [*, errW_none, errW_some] <;> rfl), by repeat (first | (with_reducible first | exact HB.out | apply below_alloc | apply pw_below_drewN | apply below_drew1 | refine below_set ?_ GE295.out) | exact HB.out)⟩
    · rw [if_neg c9] at H
      have c9b0 : (t297.toList == t299.toList) = false := beq_eq_false_iff_ne.mpr c9
      have c9b1 : (t297.toList != t299.toList) = true := bne_iff_ne.mpr c9
      obtain rfl := Option.some.inj H
      go_enter Tryd.func3, Tryd.ntmps3
      go_wp2_with (first | ((with_reducible refine gate_dst (N := 2) rfl ?_); refine box_event ?hg (N := 2) ?hd (cs := #[.int .i64 a0_0, .int .i64 a0_1, .int .i64 a0_2, .int .i64 a0_3]) (t := 23) ?hr ?_; (case hd => rfl); (case hg => rfl); (case hr => first | (go_simp; done) | (go_simp; rfl)); intro gb295 hg w23 hbox hb; have n0_ := Aside0.mk (below_step (by repeat (first | (with_reducible first | exact HB.out | apply below_alloc | apply pw_below_drewN | apply below_drew1) | exact HB.out)) hb); have n1_ := Aside0.mk (hbox); have n2_ := Aside0.mk ((by rw [hg]; exact (below_size (by repeat (first | (with_reducible first | exact HB.out | apply below_alloc | apply pw_below_drewN | apply below_drew1) | exact HB.out))) : w.heap.size ≤ gb295)); have n3_ := Aside0.mk ((by rw [hg]; exact (below_size (by repeat (first | (with_reducible first | exact HB.out | apply below_alloc | apply pw_below_drewN | apply below_drew1) | exact HB.out))) : w.heap.size ≤ gb295)); clear HB; have HB := n0_; have BK295 := n1_; have GW295 := n2_; have GE295 := n3_; clear n0_ n1_ n2_ n3_; clear hb hbox hg; have hcz24_0 : w23.cell? ⟨gb295, 0, none⟩ = some (.int .i64 a0_0) := (blk_cell BK295.out 0).trans rfl; have hcz24_1 : w23.cell? ⟨gb295, 1, none⟩ = some (.int .i64 a0_1) := (blk_cell BK295.out 1).trans rfl; have hcz24_2 : w23.cell? ⟨gb295, 2, none⟩ = some (.int .i64 a0_2) := (blk_cell BK295.out 2).trans rfl; have hcz24_3 : w23.cell? ⟨gb295, 3, none⟩ = some (.int .i64 a0_3) := (blk_cell BK295.out 3).trans rfl; have hfz24_0 := blk_frozen BK295.out 0; have hfz24_1 := blk_frozen BK295.out 1; have hfz24_2 := blk_frozen BK295.out 2; have hfz24_3 := blk_frozen BK295.out 3) | ((with_reducible refine gate_callee (f := 10) rfl ?_); refine goesL_ (some 16) rfl rfl Tryd.func10 (by kernel_rfl) rfl #[.agg #[.int .i64 a0_0, .int .i64 a0_1, .int .i64 a0_2, .int .i64 a0_3], .string a1] rfl (by (try simp only [List.map_toArray, List.map_cons, List.map_nil]); first | done | rfl | (simp only [List.length_drop, List.length_take]; rfl)) ?_; (with_reducible refine (frame_Encode.calls a0_0 a0_1 a0_2 a0_3 a1 t297 t298 _ A7.out).mono ?_); rintro e w25 ⟨rfl, hb⟩; refine ⟨_, rfl, ?_⟩; have n0_ := Aside0.mk (blk_below (g := gb295) (o := .cells #[.int .i64 a0_0, .int .i64 a0_1, .int .i64 a0_2, .int .i64 a0_3] 23 (0, 0)) (by (with_reducible repeat (first | refine blk_drewN ?_ _ | refine blk_drew ?_ | refine blk_alloc ?_ _)); exact BK295.out) hb); have n1_ := Aside0.mk (below_step (by repeat (first | (with_reducible first | exact HB.out | apply below_alloc | apply pw_below_drewN | apply below_drew1 | refine below_set ?_ GE295.out) | exact HB.out)) hb); clear BK295; clear HB; have BK295 := n0_; have HB := n1_; clear n0_ n1_; (try clear hb); (try clear hb2); (try clear hk); (try clear hi); have hcz26_0 : w25.cell? ⟨gb295, 0, none⟩ = some (.int .i64 a0_0) := (blk_cell BK295.out 0).trans rfl; have hcz26_1 : w25.cell? ⟨gb295, 1, none⟩ = some (.int .i64 a0_1) := (blk_cell BK295.out 1).trans rfl; have hcz26_2 : w25.cell? ⟨gb295, 2, none⟩ = some (.int .i64 a0_2) := (blk_cell BK295.out 2).trans rfl; have hcz26_3 : w25.cell? ⟨gb295, 3, none⟩ = some (.int .i64 a0_3) := (blk_cell BK295.out 3).trans rfl; have hfz26_0 := blk_frozen BK295.out 0; have hfz26_1 := blk_frozen BK295.out 1; have hfz26_2 := blk_frozen BK295.out 2; have hfz26_3 := blk_frozen BK295.out 3) | ((with_reducible refine gate_callee (f := 11) rfl ?_); refine goesL_ (some 22) rfl rfl Tryd.func11 (by kernel_rfl) rfl #[.agg #[.int .i64 a0_0, .int .i64 a0_1, .int .i64 a0_2, .int .i64 a0_3], .string a1] rfl (by (try simp only [List.map_toArray, List.map_cons, List.map_nil]); first | done | rfl | (simp only [List.length_drop, List.length_take]; rfl)) ?_; (with_reducible refine (deckleref05_Encode.calls k a0_0 a0_1 a0_2 a0_3 a1 t299 t300 _ A8.out).mono ?_); rintro e w27 ⟨rfl, hb⟩; refine ⟨_, rfl, ?_⟩; have n0_ := Aside0.mk (blk_below (g := gb295) (o := .cells #[.int .i64 a0_0, .int .i64 a0_1, .int .i64 a0_2, .int .i64 a0_3] 23 (0, 0)) (by (with_reducible repeat (first | refine blk_drewN ?_ _ | refine blk_drew ?_ | refine blk_alloc ?_ _)); exact BK295.out) hb); have n1_ := Aside0.mk (below_step (by repeat (first | (with_reducible first | exact HB.out | apply below_alloc | apply pw_below_drewN | apply below_drew1 | refine below_set ?_ GE295.out) | exact HB.out)) hb); clear BK295; clear HB; have BK295 := n0_; have HB := n1_; clear n0_ n1_; (try clear hb); (try clear hb2); (try clear hk); (try clear hi)))
      go_ret
      exact ⟨by first | rfl | (simp [errW_none, errW_some] <;> rfl) | (simp [*, errW_none, errW_some] <;> rfl), by repeat (first | (with_reducible first | exact HB.out | apply below_alloc | apply pw_below_drewN | apply below_drew1 | refine below_set ?_ GE295.out) | exact HB.out)⟩

end Go.Proofs.YtbcgddacmjliaaaDoor.PF
end

section
/- A page's bytes in plain words: what is encoded, chunk by chunk; what chunks come to; what a whole page is; which is erased. -/
set_option linter.unusedVariables false
set_option linter.unusedSimpArgs false
namespace Go.Proofs.YtbcgddacmjliaaaDoor.PF
open Go.RowKit Go.Proofs.YtbcgddacmjliaaaDoor.Hw Go.Proofs.YtbcgddacmjliaaaDoorW.PrintWords Go.Proofs.YtbcgddacmjliaaaDoorW.PrintLast

/-- Eight bytes with their check; the bytes of a whole page, chunk by chunk. -/
def enc9 (s : ByteArray) : ByteArray := s ++ strOfNums [((chkB s : Nat) : Int)]
def encs (all : ByteArray) : Nat → ByteArray
  | 0 => ⟨#[]⟩
  | j + 1 => encs all j ++ enc9 (all.extract (8 * j) (8 * j + 8))
theorem enc9_size (s : ByteArray) (h : s.size = 8) : (enc9 s).size = 9 := by unfold enc9; rw [ByteArray.size_append, son_size, h]; rfl
theorem encs_size (all : ByteArray) : ∀ n, 8 * n ≤ all.size → (encs all n).size = 9 * n
  | 0, _ => rfl
  | n + 1, h => by
    unfold encs
    rw [ByteArray.size_append, encs_size all n (by omega), enc9_size _ (by rw [size_extract' _ _ _ (by omega)]; omega)]
    omega
theorem encAt_is (all : ByteArray) : ∀ n, 8 * n ≤ all.size → n ≤ 1000 → encAt all n = some (encs all n)
  | 0, _, _ => rfl
  | n + 1, h, h2 => by
    have h8 : (all.extract (8 * n) (8 * n + 8)).size = 8 := by rw [size_extract' _ _ _ (by omega)]; omega
    have hz : (encs all n).size + (enc9 (all.extract (8 * n) (8 * n + 8))).size ≤ 140737488355328 := by rw [encs_size all n (by omega), enc9_size _ h8]; omega
    unfold encAt
    rw [encAt_is all n (by omega) (by omega), Option.bind_some, ham_enc _ h8, Option.bind_some]
    exact if_pos hz
/-- What chunks come to. -/
def whAt (st : Nat → Int) : Nat → Int
  | 0 => 2
  | n + 1 => if st n = 3 then 3 else whAt st n
/-- What a whole page's bytes are. -/
def wholeP (a : ByteArray) (wh : Int) : Page6 :=
  if a.extract (a.size - 4) a.size = zero4 ∧ Sealed (a.extract 0 (a.size - 4)) ∧ TagOk (a.extract 0 16) then
    (wh, ((bn (a.extract 0 16) 1 : Nat) : Int), ((parts (a.extract 0 16) 2 4 : Nat) : Int), ((parts (a.extract 0 16) 4 10 : Nat) : Int), ((parts (a.extract 0 16) 10 14 : Nat) : Int), a.extract 16 (a.size - 8)) else (4, 0, 0, 0, 0, ⟨#[]⟩)
/-- A page's bytes ahead of their checks. -/
def allOf (k l s e : Int) (d : ByteArray) : ByteArray := (strOfNums (tagInts k l s e) ++ d ++ sum4 (strOfNums (tagInts k l s e) ++ d)) ++ zero4
theorem allOf_size (k l s e : Int) (d : ByteArray) : (allOf k l s e d).size = d.size + 24 := by
  unfold allOf
  rw [ByteArray.size_append, ByteArray.size_append, ByteArray.size_append, tag_size, sum4_size]
  show 16 + d.size + 4 + 4 = _
  omega
def pageOf (k l s e : Int) (d : ByteArray) : ByteArray := encs (allOf k l s e d) ((d.size + 24) / 8)
theorem frame_enc (k l s e : Int) (d : ByteArray) : frame_Encode.f k l s e d = some (if mayB d.size = true then (if mayT k l s e = true then (pageOf k l s e d, 0) else (⟨#[]⟩, 1)) else (⟨#[]⟩, 2)) := by
  unfold frame_Encode.f
  rw [may_is, Option.bind_some]
  by_cases hm : mayB d.size = true
  · have hb := of_decide_eq_true hm
    rw [if_pos hm, if_pos hm]
    unfold tag_Encode.f
    rw [Option.bind_some]
    by_cases ht : mayT k l s e = true
    · have hz : (strOfNums (tagInts k l s e)).size = 16 := tag_size k l s e
      have hzd : (strOfNums (tagInts k l s e) ++ d).size = d.size + 16 := by rw [ByteArray.size_append, hz]; omega
      have hs2 : (strOfNums (tagInts k l s e) ++ d ++ sum4 (strOfNums (tagInts k l s e) ++ d)).size = d.size + 20 := by rw [ByteArray.size_append, sum4_size, hzd]
      rw [if_pos ht, if_pos ht, if_pos (by rfl), if_pos (by rw [hz]; omega), seal_is _ (by rw [hzd]; omega), Option.bind_some, hs2, if_pos ⟨by omega, by omega⟩]
      have := encAt_is (allOf k l s e d) ((d.size + 24) / 8) (by rw [allOf_size]; omega) (by omega)
      unfold allOf at this
      rw [show d.size + 20 + 4 = d.size + 24 by omega, this, Option.bind_some]
      rfl
    · rw [if_neg ht, if_neg ht, if_neg (by decide)]
  · rw [if_neg hm, if_neg hm]
end Go.Proofs.YtbcgddacmjliaaaDoor.PF
end

section
/- The document's ham (deckleref03) in plain words: the same as the program's. -/
set_option linter.unusedVariables false
set_option linter.unusedSimpArgs false
namespace Go.Proofs.YtbcgddacmjliaaaDoor.PF
open Go.RowKit Go.Proofs.YtbcgddacmjliaaaDoor.Hw Go.Proofs.YtbcgddacmjliaaaDoorW.PrintWords Go.Proofs.YtbcgddacmjliaaaDoorW.PrintLast

theorem up {α : Type} {g : Nat → Option α} (hm : ∀ k, LeO (g k) (g (k + 1))) {k0 : Nat} {r : α} (h : g k0 = some r) {k : Nat} (hk : k0 ≤ k) : g k = some r := by
  have := more_rounds hm k0 (k - k0) r h
  rw [show k0 + (k - k0) = k by omega] at this
  exact this
theorem bit_is (b m : Nat) (hb : b < 256) (hm : m < 8) (k : Nat) (hk : 16 ≤ k) : deckleref01_Bit.f k (b : Int) (m : Int) = some ((b / 2 ^ m % 2 : Nat) : Int) :=
  up (g := fun k => deckleref01_Bit.f k (b : Int) (m : Int)) (fun k => deckleref01_Bit.mono _ _ k) (bit8 ⟨m, hm⟩ ⟨b, hb⟩) hk
theorem wrap_u64_nat (b : Nat) (hb : b < 18446744073709551616) : IntKind.u64.wrap (b : Int) = (b : Int) := by
  have q : (2 : Int) ^ 64 = 18446744073709551616 := by decide
  exact wraps_u64 _ (by omega) (by omega)
/-- The bits of nine bytes, one by one. -/
def bit9 (c : ByteArray) (i : Nat) : Bool := decide (bn c (i / 8) / 2 ^ (i % 8) % 2 = 1)
def L9 (c : ByteArray) : Nat → List Int
  | 0 => []
  | m + 1 => if bit9 c m then L9 c m ++ [(m : Int)] else L9 c m
def P9 (c : ByteArray) : Nat → Nat
  | 0 => 0
  | m + 1 => if bit9 c m then P9 c m ^^^ pl9 m else P9 c m
theorem L9_len (c : ByteArray) : ∀ m, (L9 c m).length ≤ m
  | 0 => Nat.le_refl _
  | m + 1 => by
    have := L9_len c m
    unfold L9
    split
    · rw [List.length_append]; simp only [List.length_cons, List.length_nil]; omega
    · omega
theorem bits_loop (c : ByteArray) (n : Nat) (hc : c.size = n) (hn : n ≤ 1000) : ∀ d i k, i + d = 8 * n → 16 ≤ k → deckleref03_Bits.l0 (d + 1 + k) c (L9 c i) (i : Int) = some (L9 c (8 * n))
  | 0, i, k, h, hk => by
    obtain rfl : i = 8 * n := by omega
    rw [show 0 + 1 + k = k + 1 by omega, deckleref03_Bits.l0, w64' _ (by omega), if_neg (by omega)]
  | d + 1, i, k, h, hk => by
    have hb : bt c ((i / 8 : Nat) : Int) = ((bn c (i / 8) : Nat) : Int) := bn_bt c (i / 8)
    have hbl := bn_lt c (i / 8)
    have e1 : Int.tdiv (i : Int) 8 = ((i / 8 : Nat) : Int) := by rw [Int.tdiv_eq_ediv_of_nonneg (by omega)]; omega
    have e2 : Int.tmod (i : Int) 8 = ((i % 8 : Nat) : Int) := by rw [Int.tmod_eq_emod_of_nonneg (by omega)]; omega
    have hl := L9_len c i
    rw [show d + 1 + 1 + k = (d + 1 + k) + 1 by omega, deckleref03_Bits.l0, w64' (8 * (c.size : Int)) (by omega), if_pos (by omega), e1, e2, w64' ((i / 8 : Nat) : Int) (by omega), if_pos (by omega), if_pos (by omega), hb, wrap_u64_nat _ (by omega), bit_is _ _ hbl (by omega) _ (by omega), Option.bind_some, w64' ((i : Int) + 1) (by omega)]
    have ih := bits_loop c n hc hn d (i + 1) k (by omega) hk
    rw [show ((i + 1 : Nat) : Int) = (i : Int) + 1 by omega] at ih
    by_cases e : bn c (i / 8) / 2 ^ (i % 8) % 2 = 1
    · rw [if_pos (by omega), if_pos (by omega)]
      have : L9 c (i + 1) = L9 c i ++ [(i : Int)] := by show (if bit9 c i then _ else _) = _; rw [if_pos (by unfold bit9; exact decide_eq_true e)]
      rw [this] at ih
      exact ih
    · rw [if_neg (by omega)]
      have : L9 c (i + 1) = L9 c i := by show (if bit9 c i then _ else _) = _; rw [if_neg (by unfold bit9; simpa using e)]
      rw [this] at ih
      exact ih
theorem bits_is (c : ByteArray) (hn : c.size ≤ 1000) (k : Nat) (hk : 8 * c.size + 17 ≤ k) : deckleref03_Bits.f k c = some (L9 c (8 * c.size)) := by
  have := bits_loop c c.size rfl hn (8 * c.size) 0 (k - (8 * c.size + 1)) (by omega) (by omega)
  rw [show 8 * c.size + 1 + (k - (8 * c.size + 1)) = k by omega] at this
  exact this
/-- Xor, bit by bit. -/
theorem nat_xor_step (a b : Nat) : a ^^^ b = 2 * ((a / 2) ^^^ (b / 2)) + (if a % 2 = b % 2 then 0 else 1) := by
  have h1 : (a ^^^ b) / 2 = (a / 2) ^^^ (b / 2) := Nat.xor_div_two
  have h2 := Nat.testBit_xor a b 0
  simp only [Nat.testBit_zero] at h2
  generalize a ^^^ b = X at *
  generalize a / 2 ^^^ b / 2 = Y at *
  rcases Nat.mod_two_eq_zero_or_one a with ha | ha <;> rcases Nat.mod_two_eq_zero_or_one b with hb | hb <;> rw [ha, hb] at h2 ⊢ <;> simp at h2 ⊢ <;> omega
theorem xor_loop : ∀ (n a b acc p k : Nat), a < 2 ^ n → b < 2 ^ n → acc < p ∧ p * 2 ^ n ≤ 100000000 → n ≤ 20 → deckleref03_Xor.l0 (2 * n + 2 + k) (a : Int) (b : Int) (acc : Int) (p : Int) = some ((acc + p * (a ^^^ b) : Nat) : Int)
  | 0, a, b, acc, p, k, ha, hb, h, _ => by
    obtain rfl : a = 0 := by rw [Nat.pow_zero] at ha; omega
    obtain rfl : b = 0 := by rw [Nat.pow_zero] at hb; omega
    rw [show 2 * 0 + 2 + k = k + 1 + 1 by omega, deckleref03_Xor.l0, if_neg (by decide), show decide (((0 : Nat) : Int) > 0) = false from rfl, deckleref03_Xor.j1, if_neg (by decide)]
    simp
  | n + 1, a, b, acc, p, k, ha, hb, h, h20 => by
    have e0 : deckleref03_Xor.l0 (2 * (n + 1) + 2 + k) (a : Int) (b : Int) (acc : Int) (p : Int) = if a = 0 ∧ b = 0 then some (acc : Int) else deckleref03_Xor.j1 (2 * n + 2 + k + 1) (a : Int) (b : Int) (acc : Int) (p : Int) true := by
      rw [show 2 * (n + 1) + 2 + k = (2 * n + 2 + k + 1) + 1 by omega, deckleref03_Xor.l0]
      by_cases q : (a : Int) > 0
      · rw [if_pos q, if_neg (by omega)]
      · rw [if_neg q]
        by_cases q2 : (b : Int) > 0
        · rw [decide_eq_true q2, if_neg (by omega)]
        · rw [decide_eq_false q2, if_pos (by omega), deckleref03_Xor.j1, if_neg (by decide)]
    rw [e0]
    by_cases q : a = 0 ∧ b = 0
    · rw [if_pos q, q.1, q.2]; simp
    · have e1 : Int.tdiv (a : Int) 2 = ((a / 2 : Nat) : Int) := by rw [Int.tdiv_eq_ediv_of_nonneg (by omega)]; omega
      have e2 : Int.tdiv (b : Int) 2 = ((b / 2 : Nat) : Int) := by rw [Int.tdiv_eq_ediv_of_nonneg (by omega)]; omega
      have e3 : Int.tmod (a : Int) 2 = ((a % 2 : Nat) : Int) := by rw [Int.tmod_eq_emod_of_nonneg (by omega)]; omega
      have e4 : Int.tmod (b : Int) 2 = ((b % 2 : Nat) : Int) := by rw [Int.tmod_eq_emod_of_nonneg (by omega)]; omega
      have hp : (2 : Nat) ^ (n + 1) = 2 * 2 ^ n := by rw [Nat.pow_succ]; omega
      have hpp : p * 2 ^ (n + 1) = 2 * p * 2 ^ n := by rw [hp]; rw [← Nat.mul_assoc, Nat.mul_comm p 2]
      have hpos : 1 ≤ 2 ^ n := Nat.pos_of_ne_zero (by simp)
      have hp1 : 2 * p ≤ 2 * p * 2 ^ n := Nat.le_mul_of_pos_right _ hpos
      have hap : a ≤ 2 ^ 20 := by
        have : (2 : Nat) ^ (n + 1) ≤ 2 ^ 20 := Nat.pow_le_pow_right (by decide) h20
        omega
      have hbp : b ≤ 2 ^ 20 := by
        have : (2 : Nat) ^ (n + 1) ≤ 2 ^ 20 := Nat.pow_le_pow_right (by decide) h20
        omega
      have q20 : (2 : Nat) ^ 20 = 1048576 := by decide
      have hs := nat_xor_step a b
      have hx : (a / 2) ^^^ (b / 2) < 2 ^ n := Nat.xor_lt_two_pow (by omega) (by omega)
      have hpx : p * (a ^^^ b) = 2 * p * ((a / 2) ^^^ (b / 2)) + (if a % 2 = b % 2 then 0 else p) := by
        rw [hs, Nat.mul_add, ← Nat.mul_assoc, Nat.mul_comm p 2]
        split <;> simp
      rw [if_neg q, deckleref03_Xor.j1, if_pos rfl, e1, e2, e3, e4, w64' ((a / 2 : Nat) : Int) (by omega), w64' ((b / 2 : Nat) : Int) (by omega), w64' ((p : Int) * 2) (by omega), w64' ((acc : Int) + p) (by omega)]
      by_cases g : a % 2 = b % 2
      · rw [if_pos (by omega)]
        have ih := xor_loop n (a / 2) (b / 2) acc (2 * p) k (by omega) (by omega) ⟨by omega, by omega⟩ (by omega)
        rw [show (p : Int) * 2 = ((2 * p : Nat) : Int) by omega, ih, hpx, if_pos g, Nat.add_zero]
      · rw [if_neg (by omega)]
        have ih := xor_loop n (a / 2) (b / 2) (acc + p) (2 * p) k (by omega) (by omega) ⟨by omega, by omega⟩ (by omega)
        rw [show (p : Int) * 2 = ((2 * p : Nat) : Int) by omega, show (acc : Int) + p = ((acc + p : Nat) : Int) by omega, ih, hpx, if_neg g]
        congr 2
        omega
theorem xor_is (a b : Nat) (ha : a < 128) (hb : b < 128) (k : Nat) (hk : 16 ≤ k) : deckleref03_Xor.f k (a : Int) (b : Int) = some ((a ^^^ b : Nat) : Int) := by
  have := xor_loop 7 a b 0 1 (k - 16) (by omega) (by omega) ⟨by omega, by omega⟩ (by omega)
  rw [show 2 * 7 + 2 + (k - 16) = k by omega] at this
  unfold deckleref03_Xor.f
  rw [show (0 : Int) = ((0 : Nat) : Int) from rfl, show (1 : Int) = ((1 : Nat) : Int) from rfl, this]
  congr 2
  omega
/-- The places. -/
def plcL : List Int := (List.range 72).map fun i => ((pl9 i : Nat) : Int)
theorem places_is (k : Nat) (hk : 100 ≤ k) : deckleref03_Places.f k = some plcL :=
  up (g := fun k => deckleref03_Places.f k) (fun k => deckleref03_Places.mono k) (show deckleref03_Places.f 100 = some plcL by kernel_rfl) hk
theorem plcL_len : plcL.length = 72 := by simp [plcL]
theorem plcL_rd (i : Nat) (h : i < 72) : rd plcL (i : Int) = ((pl9 i : Nat) : Int) := by
  unfold rd plcL
  rw [Int.toNat_natCast, List.getD_eq_getElem?_getD, List.getElem?_map, List.getElem?_range h]
  rfl
/-- What is left of the places of a list that grows by its last one. -/
def fold9 (l : List Int) : Nat := l.foldl (fun p x => p ^^^ pl9 x.toNat) 0
theorem fold_L9 (c : ByteArray) : ∀ m, fold9 (L9 c m) = P9 c m
  | 0 => rfl
  | m + 1 => by
    have ih := fold_L9 c m
    unfold L9 P9
    split
    · unfold fold9 at ih ⊢
      rw [List.foldl_append, ih]
      rfl
    · exact ih
theorem left_loop (xs : List Int) (hx : ∀ x ∈ xs, 0 ≤ x ∧ x < 72) (hlen : xs.length ≤ 1000) : ∀ (d i k acc : Nat), i + d = xs.length → 16 ≤ k → acc < 128 → deckleref03_Left.l0 (d + 1 + k) xs plcL (acc : Int) (i : Int) = some (((xs.drop i).foldl (fun p x => p ^^^ pl9 x.toNat) acc : Nat) : Int)
  | 0, i, k, acc, h, hk, ha => by
    rw [show 0 + 1 + k = k + 1 by omega, deckleref03_Left.l0, if_neg (by omega), List.drop_of_length_le (by omega)]
    rfl
  | d + 1, i, k, acc, h, hk, ha => by
    have hi : i < xs.length := by omega
    obtain ⟨x, ex⟩ : ∃ x, x = xs[i]'hi := ⟨_, rfl⟩
    have hr : rd xs (i : Int) = x := by unfold rd; rw [Int.toNat_natCast, List.getD_eq_getElem?_getD, List.getElem?_eq_getElem hi, ex]; rfl
    have hb := hx x (ex ▸ List.getElem_mem hi)
    have hxn : ((x.toNat : Nat) : Int) = x := by omega
    have h2 := (pl9_facts ⟨x.toNat, by omega⟩).1
    simp only at h2
    have hp : rd plcL x = ((pl9 x.toNat : Nat) : Int) := by rw [← plcL_rd x.toNat (by omega), hxn]
    rw [show d + 1 + 1 + k = (d + 1 + k) + 1 by omega, deckleref03_Left.l0, if_pos (by omega), if_pos (by omega), hr, if_pos (by omega), if_pos (by rw [plcL_len]; omega), hp, xor_is _ _ ha (by omega) _ (by omega), Option.bind_some, w64' _ (by omega)]
    have ih := left_loop xs hx hlen d (i + 1) k (acc ^^^ pl9 x.toNat) (by omega) hk (Nat.xor_lt_two_pow (n := 7) ha (by omega))
    rw [show ((i + 1 : Nat) : Int) = (i : Int) + 1 by omega] at ih
    rw [ih, List.drop_eq_getElem_cons hi, List.foldl_cons, ← ex]
theorem L9_mem (c : ByteArray) : ∀ m, m ≤ 72 → ∀ x ∈ L9 c m, 0 ≤ x ∧ x < 72
  | 0, _, x, h => by cases h
  | m + 1, hm, x, h => by
    unfold L9 at h
    split at h
    · rcases List.mem_append.1 h with g | g
      · exact L9_mem c m (by omega) x g
      · obtain rfl := List.mem_singleton.1 g; omega
    · exact L9_mem c m (by omega) x h
theorem left9_is (c : ByteArray) (m : Nat) (hm : m ≤ 72) (k : Nat) (hk : 200 ≤ k) : deckleref03_Left.f k (L9 c m) = some ((P9 c m : Nat) : Int) := by
  have hl := L9_len c m
  have := left_loop (L9 c m) (L9_mem c m hm) (by omega) (L9 c m).length 0 (k - ((L9 c m).length + 1)) 0 (by omega) (by omega) (by omega)
  rw [show (L9 c m).length + 1 + (k - ((L9 c m).length + 1)) = k by omega] at this
  unfold deckleref03_Left.f
  rw [places_is k (by omega), Option.bind_some]
  refine Eq.trans this ?_
  rw [← fold_L9]
  rfl
/-- The same as byte by byte. -/
def xorBj (q c j : Nat) : Nat := (List.range j).foldl (fun p k => if c.testBit k then p ^^^ plc (8 * q + k) else p) 0
def popBj (c j : Nat) : Nat := (List.range j).foldl (fun p k => if c.testBit k then p + 1 else p) 0
theorem xorBj_step (q c j : Nat) : xorBj q c (j + 1) = if c.testBit j then xorBj q c j ^^^ plc (8 * q + j) else xorBj q c j := by
  unfold xorBj
  rw [List.range_succ, List.foldl_append]
  rfl
theorem popBj_step (c j : Nat) : popBj c (j + 1) = if c.testBit j then popBj c j + 1 else popBj c j := by
  unfold popBj
  rw [List.range_succ, List.foldl_append]
  rfl
theorem bit9_test (c : ByteArray) (q j : Nat) (hj : j < 8) : bit9 c (8 * q + j) = (bn c q).testBit j := by
  unfold bit9
  rw [show (8 * q + j) / 8 = q by omega, show (8 * q + j) % 8 = j by omega, Nat.testBit_eq_decide_div_mod_eq]
theorem P9_part (c : ByteArray) (q : Nat) (hq : q < 8) : ∀ j, j ≤ 8 → P9 c (8 * q + j) = P9 c (8 * q) ^^^ xorBj q (bn c q) j
  | 0, _ => by show _ = _ ^^^ 0; rw [Nat.xor_zero]; rfl
  | j + 1, h => by
    show (if bit9 c (8 * q + j) then P9 c (8 * q + j) ^^^ pl9 (8 * q + j) else P9 c (8 * q + j)) = _
    rw [bit9_test c q j (by omega), P9_part c q hq j (by omega), xorBj_step]
    have : pl9 (8 * q + j) = plc (8 * q + j) := by unfold pl9; rw [if_pos (by omega)]
    split
    · rw [this, Nat.xor_assoc]
    · rfl
theorem P9_ham (c : ByteArray) : ∀ q, q ≤ 8 → P9 c (8 * q) = hamP c q
  | 0, _ => rfl
  | q + 1, h => by
    have := P9_part c q (by omega) 8 (Nat.le_refl _)
    rw [show 8 * (q + 1) = 8 * q + 8 by omega, this, P9_ham c q (by omega)]
    rfl
theorem L9_part (c : ByteArray) (q : Nat) : ∀ j, j ≤ 8 → (L9 c (8 * q + j)).length = (L9 c (8 * q)).length + popBj (bn c q) j
  | 0, _ => rfl
  | j + 1, h => by
    show (if bit9 c (8 * q + j) then L9 c (8 * q + j) ++ [((8 * q + j : Nat) : Int)] else L9 c (8 * q + j)).length = _
    rw [bit9_test c q j (by omega), popBj_step]
    have := L9_part c q j (by omega)
    split
    · rw [List.length_append, this]; simp only [List.length_cons, List.length_nil]; omega
    · exact this
theorem L9_ham (c : ByteArray) : ∀ q, (L9 c (8 * q)).length = hamN c q
  | 0 => rfl
  | q + 1 => by
    have := L9_part c q 8 (Nat.le_refl _)
    rw [show 8 * (q + 1) = 8 * q + 8 by omega, this, L9_ham c q]
    rfl
theorem low_step : ∀ (j : Fin 7) (b : Fin 256), (if b.val.testBit j.val then (b.val % 2 ^ j.val) ^^^ 2 ^ j.val else b.val % 2 ^ j.val) = b.val % 2 ^ (j.val + 1) := by decide +kernel
theorem P9_last (c : ByteArray) : ∀ j, j ≤ 7 → P9 c (64 + j) = P9 c 64 ^^^ (bn c 8 % 2 ^ j)
  | 0, _ => by rw [Nat.pow_zero, Nat.mod_one, Nat.xor_zero]
  | j + 1, h => by
    show (if bit9 c (8 * 8 + j) then P9 c (64 + j) ^^^ pl9 (64 + j) else P9 c (64 + j)) = _
    have hs := low_step ⟨j, by omega⟩ ⟨bn c 8, bn_lt c 8⟩
    simp only at hs
    have hp : pl9 (64 + j) = 2 ^ j := by unfold pl9; rw [if_neg (by omega), if_pos (by omega), show 64 + j - 64 = j by omega]
    rw [bit9_test c 8 j (by omega), P9_last c j (by omega), hp, ← hs]
    split
    · rw [Nat.xor_assoc]
    · rfl
theorem P9_syn (c : ByteArray) : P9 c 72 = syn c := by
  have h := P9_last c 7 (Nat.le_refl _)
  have h8 := P9_ham c 8 (Nat.le_refl _)
  show (if bit9 c 71 then P9 c (64 + 7) ^^^ pl9 71 else P9 c (64 + 7)) = _
  rw [show pl9 71 = 0 by decide, Nat.xor_zero, h, show (64 : Nat) = 8 * 8 from rfl, h8]
  unfold syn
  split <;> rfl
theorem encref_loop (s : ByteArray) (hs : s.size = 8) (p : Nat) (hp : p < 128) (n0 : Nat) (hn : n0 ≤ 100) : ∀ (d i k : Nat) (xs : List Int), i + d = 7 → 16 ≤ k → xs.length = n0 + popBj p i → n0 + popBj p i ≤ 100 + i →
    deckleref03_Encode.l0 (d + 1 + k) s (p : Int) xs (i : Int) = some (s ++ strOfNums [((if (n0 + popBj p 7) % 2 = 1 then p + 128 else p : Nat) : Int)], 0)
  | 0, i, k, xs, h, hk, hx, hl => by
    obtain rfl : i = 7 := by omega
    rw [show 0 + 1 + k = k + 1 by omega, deckleref03_Encode.l0, if_neg (by decide), hx]
    by_cases e : (n0 + popBj p 7) % 2 = 1
    · rw [if_pos e, if_pos (by omega), Option.bind_some, one_size, if_pos (by omega), w64' _ (by omega), Int.emod_eq_of_lt (by omega) (by omega)]
      rfl
    · rw [if_neg e, if_neg (by omega), Option.bind_some, one_size, if_pos (by omega), Int.emod_eq_of_lt (by omega) (by omega)]
  | d + 1, i, k, xs, h, hk, hx, hl => by
    have hb := bit_is p i (by omega) (by omega) (d + 1 + k) (by omega)
    have ht : p.testBit i = decide (p / 2 ^ i % 2 = 1) := Nat.testBit_eq_decide_div_mod_eq
    have hs2 := popBj_step p i
    rw [ht] at hs2
    rw [show d + 1 + 1 + k = (d + 1 + k) + 1 by omega, deckleref03_Encode.l0, if_pos (by omega), wrap_u64_nat p (by omega), hb, Option.bind_some, w64' ((i : Int) + 1) (by omega)]
    by_cases e : p / 2 ^ i % 2 = 1
    · rw [if_pos (decide_eq_true e)] at hs2
      have ih := encref_loop s hs p hp n0 hn d (i + 1) k (xs ++ [wrap64 (64 + (i : Int))]) (by omega) hk (by rw [List.length_append, hx, hs2]; rfl) (by omega)
      rw [show ((i + 1 : Nat) : Int) = (i : Int) + 1 by omega] at ih
      rw [if_pos (by omega), if_pos (by omega), ih]
    · rw [if_neg (by simpa using e)] at hs2
      have ih := encref_loop s hs p hp n0 hn d (i + 1) k xs (by omega) hk (by rw [hx, hs2]) (by omega)
      rw [show ((i + 1 : Nat) : Int) = (i : Int) + 1 by omega] at ih
      rw [if_neg (by omega), ih]
theorem pop7 : ∀ p : Fin 128, popBj p.val 7 = Lib.onesCount p.val := by decide +kernel
theorem refenc_is (s : ByteArray) (hs : s.size = 8) (k : Nat) (hk : 300 ≤ k) : deckleref03_Encode.f k s = some (enc9 s, 0) := by
  obtain ⟨c0, ec⟩ : ∃ c0, c0 = s ++ strOfNums [0] := ⟨_, rfl⟩
  have hz : c0.size = 9 := by rw [ec, ByteArray.size_append, one_size, hs]
  have h8 : bn c0 8 = 0 := by rw [ec, bn_append, if_neg (by omega), bn_son, hs]; rfl
  have hlow : ∀ i, i < 8 → bn c0 i = bn s i := fun i hi => by rw [ec, bn_append, if_pos (by omega)]
  have hb := bits_is c0 (by omega) k (by omega)
  rw [hz, show 8 * 9 = 72 from rfl] at hb
  have hL := left9_is c0 72 (Nat.le_refl _) k (by omega)
  have hP : P9 c0 72 = hamP s 8 := by
    rw [P9_syn]
    unfold syn
    rw [h8, hamP_congr 8 hlow, Nat.zero_mod, Nat.xor_zero]
  have hN : (L9 c0 72).length = hamN s 8 := by
    have := L9_ham c0 9
    rw [show 72 = 8 * 9 from rfl, this]
    show hamN c0 8 + popB (bn c0 8) = _
    rw [h8, hamN_congr 8 hlow]
    rfl
  have hl := hamP_lt s 8 (Nat.le_refl _)
  have hn := hamN_le s 8
  have h7 := pop7 ⟨hamP s 8, hl⟩
  simp only at h7
  rw [hP] at hL
  unfold deckleref03_Encode.f
  rw [if_pos (by omega), Option.bind_some, one_size, if_pos (by omega), ← ec, hb, Option.bind_some, hL, Option.bind_some, if_pos (by rw [hN]; show 0 + _ < _; omega), List.nil_append]
  have := encref_loop s hs (hamP s 8) hl (hamN s 8) (by omega) 7 0 (k - 8) (L9 c0 72) (by omega) (by omega) (by rw [hN]; rfl) (by show _ + 0 ≤ _; omega)
  rw [show 7 + 1 + (k - 8) = k by omega] at this
  refine Eq.trans this ?_
  rw [h7]
  rfl
end Go.Proofs.YtbcgddacmjliaaaDoor.PF
end

section
/- The document's sum (deckleref02: dividing polynomials) in plain words: the same as the program's (half bytes by a table). -/
set_option linter.unusedVariables false
set_option linter.unusedSimpArgs false
namespace Go.Proofs.YtbcgddacmjliaaaDoor.PF
open Go.RowKit Go.Proofs.YtbcgddacmjliaaaDoor.Hw Go.Proofs.YtbcgddacmjliaaaDoorW.PrintWords Go.Proofs.YtbcgddacmjliaaaDoorW.PrintLast

/-- One bit, and so many, of the register. -/
def poly : Nat := 3988292384
def stB (x : Nat) (b : Bool) : Nat := (x / 2) ^^^ (if (x.testBit 0 != b) then poly else 0)
def st (x : Nat) : Nat := stB x false
def stN : Nat → Nat → Nat
  | 0, x => x
  | k + 1, x => st (stN k x)
theorem st_bit (x : Nat) (b : Bool) (q : Nat) : (stB x b).testBit q = (x.testBit (q + 1) ^^ ((x.testBit 0 ^^ b) && poly.testBit q)) := by
  unfold stB
  rw [Nat.testBit_xor, Nat.testBit_div_two]
  cases h : (x.testBit 0 ^^ b)
  · have : (x.testBit 0 != b) = false := by cases hx : x.testBit 0 <;> cases b <;> simp [hx] at h ⊢
    rw [this]; simp
  · have : (x.testBit 0 != b) = true := by cases hx : x.testBit 0 <;> cases b <;> simp [hx] at h ⊢
    rw [this]; simp
theorem st_xor (x y : Nat) : st (x ^^^ y) = st x ^^^ st y := by
  apply Nat.eq_of_testBit_eq
  intro q
  unfold st
  rw [Nat.testBit_xor, st_bit, st_bit, st_bit, Nat.testBit_xor, Nat.testBit_xor]
  cases x.testBit (q + 1) <;> cases y.testBit (q + 1) <;> cases x.testBit 0 <;> cases y.testBit 0 <;> cases poly.testBit q <;> rfl
theorem st_double (y : Nat) : st (2 * y) = y := by
  apply Nat.eq_of_testBit_eq
  intro q
  unfold st
  rw [st_bit]
  have h0 : (2 * y).testBit 0 = false := by simp [Nat.testBit_zero]
  have h1 : (2 * y).testBit (q + 1) = y.testBit q := by
    rw [Nat.testBit_add_one]
    congr 1
    omega
  rw [h0, h1]
  simp
theorem stN_xor (x y : Nat) : ∀ k, stN k (x ^^^ y) = stN k x ^^^ stN k y
  | 0 => rfl
  | k + 1 => by
    show st (stN k (x ^^^ y)) = _
    rw [stN_xor x y k, st_xor]
    rfl
theorem stN_in (k : Nat) (x : Nat) : stN (k + 1) x = stN k (st x) := by
  induction k with
  | zero => rfl
  | succ k ih =>
    show st (stN (k + 1) x) = _
    rw [ih]
    rfl
theorem stN_pow (y : Nat) : ∀ k, stN k (2 ^ k * y) = y
  | 0 => by rw [Nat.pow_zero, Nat.one_mul]; rfl
  | k + 1 => by
    rw [stN_in, Nat.pow_succ, Nat.mul_comm (2 ^ k) 2, Nat.mul_assoc, st_double]
    exact stN_pow y k
theorem stN_add (a : Nat) (x : Nat) : ∀ b, stN (a + b) x = stN b (stN a x)
  | 0 => rfl
  | b + 1 => by
    show st (stN (a + b) x) = _
    rw [stN_add a x b]
    rfl
theorem stB_is (x : Nat) (b : Bool) : stB x b = st (x ^^^ (if b then 1 else 0)) := by
  apply Nat.eq_of_testBit_eq
  intro q
  unfold st
  rw [st_bit, st_bit, Nat.testBit_xor, Nat.testBit_xor]
  cases b
  · simp
  · have h1 : (1 : Nat).testBit (q + 1) = false := by rw [Nat.testBit_add_one]; simp
    simp [h1]
/-- A byte, bit by bit. -/
def stC (x c : Nat) : Nat → Nat
  | 0 => x
  | k + 1 => stB (stC x c k) (c.testBit k)
theorem low_bits : ∀ (k : Fin 8) (c : Fin 256), c.val % 2 ^ (k.val + 1) = (c.val % 2 ^ k.val) ^^^ (2 ^ k.val * (if c.val.testBit k.val then 1 else 0)) := by decide +kernel
theorem stC_is (x c : Nat) (hc : c < 256) : ∀ k, k ≤ 8 → stC x c k = stN k (x ^^^ (c % 2 ^ k))
  | 0, _ => by rw [Nat.pow_zero, Nat.mod_one, Nat.xor_zero]; rfl
  | k + 1, h => by
    have hl := low_bits ⟨k, by omega⟩ ⟨c, hc⟩
    simp only at hl
    show stB (stC x c k) (c.testBit k) = _
    rw [stB_is, stC_is x c hc k (by omega), hl, ← Nat.xor_assoc]
    show _ = st (stN k _)
    rw [stN_xor _ (2 ^ k * _), stN_pow]
/-- Four bits by the table. -/
def tbl (i : Nat) : Nat := (crcT.getD i 0).toNat
theorem tbl_is : ∀ i : Fin 16, crcT.getD i.val 0 = ((tbl i.val : Nat) : Int) ∧ tbl i.val < 4294967296 ∧ stN 4 i.val = tbl i.val := by decide +kernel
theorem split16 (x : Nat) : x = (x % 16) ^^^ (2 ^ 4 * (x / 16)) := by
  apply Nat.eq_of_testBit_eq
  intro q
  rw [Nat.testBit_xor, show x % 16 = x % 2 ^ 4 from rfl, Nat.testBit_mod_two_pow, Nat.testBit_two_pow_mul]
  by_cases h : q < 4
  · have : ¬ q ≥ 4 := by omega
    simp [h, this]
  · have h2 : 4 ≤ q := by omega
    rw [show x / 16 = x / 2 ^ 4 from rfl, Nat.testBit_div_two_pow]
    simp [h, h2]
theorem half_is (x : Nat) (hx : x < 4294967296) : crcHalf (x : Int) = ((stN 4 x : Nat) : Int) ∧ stN 4 x < 4294967296 := by
  obtain ⟨t1, t2, t3⟩ := tbl_is ⟨x % 16, by omega⟩
  simp only at t1 t2 t3
  have e : stN 4 x = tbl (x % 16) ^^^ (x / 16) := by
    conv => lhs; rw [split16 x, stN_xor, stN_pow, t3]
  have hl : tbl (x % 16) ^^^ (x / 16) < 2 ^ 32 := Nat.xor_lt_two_pow (by omega) (by omega)
  refine ⟨?_, by rw [e]; omega⟩
  unfold crcHalf
  rw [show ((x : Int) % 16).toNat = x % 16 by omega, t1, show (x : Int) / 16 = ((x / 16 : Nat) : Int) by omega, e]
  exact bits_xor .u32 32 (by decide) wraps_u32 _ _ (by omega) (by omega)
theorem byte_is (x c : Nat) (hx : x < 4294967296) (hc : c < 256) : crcByte (x : Int) (c : Int) = ((stC x c 8 : Nat) : Int) ∧ stC x c 8 < 4294967296 := by
  have hxc : x ^^^ c < 2 ^ 32 := Nat.xor_lt_two_pow (by omega) (by omega)
  have e : stC x c 8 = stN 4 (stN 4 (x ^^^ c)) := by
    rw [stC_is x c hc 8 (Nat.le_refl _), show c % 2 ^ 8 = c by omega, ← stN_add]
  have b1 := half_is (x ^^^ c) (by omega)
  have b2 := half_is (stN 4 (x ^^^ c)) b1.2
  unfold crcByte
  rw [bits_xor .u32 32 (by decide) wraps_u32 _ _ (by omega) (by omega), b1.1, b2.1, e]
  exact ⟨rfl, b2.2⟩
/-- The register behind so many bits of a string. -/
def mb (s : ByteArray) (j : Nat) : Bool := (bn s (j / 8)).testBit (j % 8)
def reg (x : Nat) (s : ByteArray) : Nat → Nat
  | 0 => x
  | j + 1 => stB (reg x s j) (mb s j)
theorem reg_part (x : Nat) (s : ByteArray) (q : Nat) : ∀ j, j ≤ 8 → reg x s (8 * q + j) = stC (reg x s (8 * q)) (bn s q) j
  | 0, _ => rfl
  | j + 1, h => by
    show stB (reg x s (8 * q + j)) (mb s (8 * q + j)) = stB _ _
    rw [reg_part x s q j (by omega)]
    unfold mb
    rw [show (8 * q + j) / 8 = q by omega, show (8 * q + j) % 8 = j by omega]
theorem reg_crc (x : Nat) (hx : x < 4294967296) (s : ByteArray) : ∀ q, crcGo (x : Int) s q = ((reg x s (8 * q) : Nat) : Int) ∧ reg x s (8 * q) < 4294967296
  | 0 => ⟨rfl, hx⟩
  | q + 1 => by
    obtain ⟨h1, h2⟩ := reg_crc x hx s q
    have h3 := byte_is (reg x s (8 * q)) (bn s q) h2 (bn_lt s q)
    have h4 := reg_part x s q 8 (Nat.le_refl _)
    rw [show 8 * (q + 1) = 8 * q + 8 by omega, h4]
    refine ⟨?_, h3.2⟩
    show crcByte (crcGo (x : Int) s q) (bt s q) = _
    rw [h1, bn_bt, h3.1]
theorem stB_lt (x : Nat) (b : Bool) (hx : x < 4294967296) : stB x b < 4294967296 := by
  have : x / 2 ^^^ (if (x.testBit 0 != b) then poly else 0) < 2 ^ 32 := Nat.xor_lt_two_pow (by omega) (by unfold poly; split <;> omega)
  unfold stB
  omega
theorem reg_lt (x : Nat) (hx : x < 4294967296) (s : ByteArray) : ∀ j, reg x s j < 4294967296
  | 0 => hx
  | j + 1 => stB_lt _ _ (reg_lt x hx s j)
/-- The document's lists of bits. -/
def bitsL (s : ByteArray) (n : Nat) : List Bool := (List.range n).map (mb s)
def ofL (x : Nat) (n : Nat) : List Bool := (List.range n).map x.testBit
theorem range_snoc {α : Type} (f : Nat → α) (n : Nat) : (List.range (n + 1)).map f = (List.range n).map f ++ [f n] := by rw [List.range_succ, List.map_append]; rfl
theorem rdOf_range (f : Nat → Bool) (n i : Nat) : rdOf false ((List.range n).map f) (i : Int) = if i < n then f i else false := by
  unfold rdOf
  rw [Int.toNat_natCast, List.getD_eq_getElem?_getD, List.getElem?_map]
  by_cases h : i < n
  · rw [if_pos h, List.getElem?_range h]; rfl
  · rw [if_neg h, List.getElem?_eq_none (by rw [List.length_range]; omega)]; rfl
theorem div_bit (c k : Nat) : ((c / 2 ^ k % 2 : Nat) == 1) = c.testBit k := by rw [Nat.testBit_eq_decide_div_mod_eq]; rfl
theorem bits_l1 (s : ByteArray) (q : Nat) (hq : q < 1000) : ∀ (d j k : Nat), j + d = 8 → deckleref02_Bits.l1 (d + 1 + k) s (bitsL s (8 * q + j)) (q : Int) ((bn s q / 2 ^ j : Nat) : Int) (j : Int) = deckleref02_Bits.l0 k s (bitsL s (8 * (q + 1))) ((q + 1 : Nat) : Int)
  | 0, j, k, h => by
    obtain rfl : j = 8 := by omega
    rw [show 0 + 1 + k = k + 1 by omega, deckleref02_Bits.l1, if_neg (by decide), w64' _ (by omega), show 8 * q + 8 = 8 * (q + 1) by omega]
    rfl
  | d + 1, j, k, h => by
    have hb := bn_lt s q
    have hm : mb s (8 * q + j) = ((bn s q / 2 ^ j % 2 : Nat) == 1) := by
      unfold mb
      rw [show (8 * q + j) / 8 = q by omega, show (8 * q + j) % 8 = j by omega, ← div_bit]
    have ih := bits_l1 s q hq d (j + 1) k (by omega)
    have hXY : bn s q / 2 ^ (j + 1) = bn s q / 2 ^ j / 2 := by rw [Nat.pow_succ, ← Nat.div_div_eq_div_mul]
    have hd : bn s q / 2 ^ j ≤ bn s q := Nat.div_le_self _ _
    rw [hXY] at ih
    generalize bn s q / 2 ^ j = X at *
    have e1 : Int.tdiv (X : Int) 2 = ((X / 2 : Nat) : Int) := by rw [Int.tdiv_eq_ediv_of_nonneg (by omega)]; omega
    have e2 : (Int.tmod (X : Int) 2 == 1) = mb s (8 * q + j) := by
      rw [hm, Int.tmod_eq_emod_of_nonneg (by omega)]
      rcases Nat.mod_two_eq_zero_or_one X with h0 | h0 <;> rw [h0]
      · rw [show (X : Int) % 2 = 0 by omega]; rfl
      · rw [show (X : Int) % 2 = 1 by omega]; rfl
    rw [show d + 1 + 1 + k = (d + 1 + k) + 1 by omega, deckleref02_Bits.l1, if_pos (by omega), if_pos (by unfold bitsL; rw [List.length_map, List.length_range]; omega), e1, e2, w64' _ (by omega), w64' _ (by omega)]
    unfold bitsL at ih ⊢
    rw [show 8 * q + (j + 1) = (8 * q + j) + 1 by omega, range_snoc, show ((j + 1 : Nat) : Int) = (j : Int) + 1 by omega] at ih
    exact ih
theorem bits_l0 (s : ByteArray) (hs : s.size ≤ 1000) : ∀ (d q k : Nat), q + d = s.size → deckleref02_Bits.l0 (10 * d + 1 + k) s (bitsL s (8 * q)) (q : Int) = some (bitsL s (8 * s.size))
  | 0, q, k, h => by
    obtain rfl : q = s.size := by omega
    rw [show 10 * 0 + 1 + k = k + 1 by omega, deckleref02_Bits.l0, if_neg (by omega)]
  | d + 1, q, k, h => by
    have hb := bn_lt s q
    rw [show 10 * (d + 1) + 1 + k = (8 + 1 + (10 * d + 1 + k)) + 1 by omega, deckleref02_Bits.l0, if_pos (by omega), if_pos (by omega), bn_bt, w64' _ (by omega)]
    have h1 := bits_l1 s q (by omega) 8 0 (10 * d + 1 + k) (by omega)
    rw [Nat.pow_zero, Nat.div_one, Nat.add_zero] at h1
    refine Eq.trans h1 ?_
    exact bits_l0 s hs d (q + 1) k (by omega)
theorem refbits_is (s : ByteArray) (hs : s.size ≤ 1000) (k : Nat) (hk : 10 * s.size + 1 ≤ k) : deckleref02_Bits.f k s = some (bitsL s (8 * s.size)) := by
  have := bits_l0 s hs s.size 0 (k - (10 * s.size + 1)) (by omega)
  rw [show 10 * s.size + 1 + (k - (10 * s.size + 1)) = k by omega] at this
  exact this
theorem of_loop (x : Nat) (hx : x < 4294967296) : ∀ (d i k : Nat), i + d = 32 → deckleref02_Of.l0 (d + 1 + k) ((x / 2 ^ i : Nat) : Int) (ofL x i) (i : Int) = some (ofL x 32)
  | 0, i, k, h => by
    obtain rfl : i = 32 := by omega
    rw [show 0 + 1 + k = k + 1 by omega, deckleref02_Of.l0, if_neg (by decide)]
  | d + 1, i, k, h => by
    have hd : x / 2 ^ i ≤ x := Nat.div_le_self _ _
    have hm : x.testBit i = ((x / 2 ^ i % 2 : Nat) == 1) := (div_bit x i).symm
    have ih := of_loop x hx d (i + 1) k (by omega)
    have hXY : x / 2 ^ (i + 1) = x / 2 ^ i / 2 := by rw [Nat.pow_succ, ← Nat.div_div_eq_div_mul]
    rw [hXY] at ih
    generalize x / 2 ^ i = X at *
    have e1 : (Int.tdiv (X : Int) 2) % 4294967296 = ((X / 2 : Nat) : Int) := by rw [Int.tdiv_eq_ediv_of_nonneg (by omega)]; omega
    have e2 : (Int.tmod (X : Int) 2 == 1) = x.testBit i := by
      rw [hm, Int.tmod_eq_emod_of_nonneg (by omega)]
      rcases Nat.mod_two_eq_zero_or_one X with h0 | h0 <;> rw [h0]
      · rw [show (X : Int) % 2 = 0 by omega]; rfl
      · rw [show (X : Int) % 2 = 1 by omega]; rfl
    rw [show d + 1 + 1 + k = (d + 1 + k) + 1 by omega, deckleref02_Of.l0, if_pos (by omega), if_pos (by unfold ofL; rw [List.length_map, List.length_range]; omega), e1, e2, w64' _ (by omega)]
    unfold ofL at ih ⊢
    rw [range_snoc, show ((i + 1 : Nat) : Int) = (i : Int) + 1 by omega] at ih
    exact ih
theorem of_is (x : Nat) (hx : x < 4294967296) (k : Nat) (hk : 33 ≤ k) : deckleref02_Of.f k (x : Int) = some (ofL x 32) := by
  have := of_loop x hx 32 0 (k - 33) (by omega)
  rw [show 32 + 1 + (k - 33) = k by omega, Nat.pow_zero, Nat.div_one] at this
  exact this
theorem number_loop (x : Nat) (hx : x < 4294967296) : ∀ (d i k : Nat), i + d = 32 → deckleref02_Number.l0 (d + 1 + k) (ofL x 32) ((x % 2 ^ i : Nat) : Int) ((2 ^ i % 4294967296 : Nat) : Int) (i : Int) = some (x : Int)
  | 0, i, k, h => by
    obtain rfl : i = 32 := by omega
    have hl : (ofL x 32).length = 32 := by unfold ofL; rw [List.length_map, List.length_range]
    rw [show 0 + 1 + k = k + 1 by omega, deckleref02_Number.l0, if_neg (by rw [hl]; decide), Nat.mod_eq_of_lt (by omega)]
  | d + 1, i, k, h => by
    have hl : (ofL x 32).length = 32 := by unfold ofL; rw [List.length_map, List.length_range]
    have hr : rdOf false (ofL x 32) (i : Int) = x.testBit i := by unfold ofL; rw [rdOf_range, if_pos (by omega)]
    have hp : (2 : Nat) ^ (i + 1) ≤ 2 ^ 32 := Nat.pow_le_pow_right (by decide) (by omega)
    have hps : (2 : Nat) ^ (i + 1) = 2 * 2 ^ i := by rw [Nat.pow_succ]; omega
    have h32 : (2 : Nat) ^ 32 = 4294967296 := by decide
    have hm : x % 2 ^ (i + 1) = x % 2 ^ i + 2 ^ i * (x / 2 ^ i % 2) := by rw [Nat.pow_succ, Nat.mod_mul]
    have hb := div_bit x i
    have hlt : x % 2 ^ i < 2 ^ i := Nat.mod_lt _ (Nat.pow_pos (by decide))
    have ih := number_loop x hx d (i + 1) k (by omega)
    rw [show d + 1 + 1 + k = (d + 1 + k) + 1 by omega, deckleref02_Number.l0, if_pos (by rw [hl]; omega), if_pos (by omega), hr, w64' _ (by omega)]
    have e1 : (((2 ^ i % 4294967296 : Nat) : Int) * 2) % 4294967296 = ((2 ^ (i + 1) % 4294967296 : Nat) : Int) := by omega
    rw [show ((i + 1 : Nat) : Int) = (i : Int) + 1 by omega] at ih
    rw [e1]
    rcases Nat.mod_two_eq_zero_or_one (x / 2 ^ i) with h0 | h0
    · rw [h0] at hb hm
      rw [if_neg (by rw [← hb]; decide)]
      rw [hm, Nat.mul_zero, Nat.add_zero] at ih
      exact ih
    · rw [h0] at hb hm
      rw [if_pos (by rw [← hb]; rfl)]
      have e2 : (((x % 2 ^ i : Nat) : Int) + ((2 ^ i % 4294967296 : Nat) : Int)) % 4294967296 = ((x % 2 ^ (i + 1) : Nat) : Int) := by
        rw [hm, Nat.mul_one]
        omega
      rw [e2]
      exact ih
theorem number_of (x : Nat) (hx : x < 4294967296) (k : Nat) (hk : 33 ≤ k) : deckleref02_Number.f k (ofL x 32) = some (x : Int) := by
  have := number_loop x hx 32 0 (k - 33) (by omega)
  rw [show 32 + 1 + (k - 33) = k by omega, Nat.pow_zero, Nat.mod_one] at this
  exact this
theorem poly_is (k : Nat) (hk : 40 ≤ k) : deckleref02_Poly.f k = some (ofL poly 32) :=
  up (g := fun k => deckleref02_Poly.f k) (fun k => deckleref02_Poly.mono k) (show deckleref02_Poly.f 40 = some (ofL poly 32) by kernel_rfl) hk
/-- The division. -/
def rl (N : Nat) (F : Nat → Bool) : List Bool := (List.range N).map F
theorem rl_len (N : Nat) (F : Nat → Bool) : (rl N F).length = N := by unfold rl; rw [List.length_map, List.length_range]
theorem rl_rd (N : Nat) (F : Nat → Bool) (i : Nat) (h : i < N) : rdOf false (rl N F) (i : Int) = F i := by unfold rl; rw [rdOf_range, if_pos h]
theorem rl_congr (N : Nat) (F G : Nat → Bool) (h : ∀ j, j < N → F j = G j) : rl N F = rl N G := List.map_congr_left (fun j hj => h j (List.mem_range.1 hj))
theorem rl_get (N : Nat) (F : Nat → Bool) (j : Nat) (h : j < (rl N F).length) : (rl N F)[j]'h = F j := by simp [rl]
theorem rl_set (N : Nat) (F : Nat → Bool) (i : Nat) (v : Bool) : (rl N F).set i v = rl N (fun j => if j = i then v else F j) := by
  apply List.ext_getElem
  · rw [List.length_set, rl_len, rl_len]
  · intro j h1 h2
    rw [List.getElem_set, rl_get, rl_get]
    by_cases e : i = j
    · rw [if_pos e, if_pos e.symm]
    · rw [if_neg e, if_neg (fun x => e x.symm)]
theorem rl_drop (n : Nat) (F : Nat → Bool) : (rl (n + 32) F).drop n = rl 32 (fun q => F (n + q)) := by
  apply List.ext_getElem
  · rw [List.length_drop, rl_len, rl_len]; omega
  · intro j h1 h2
    rw [List.getElem_drop, rl_get, rl_get]
theorem high_bit (x q : Nat) (hx : x < 4294967296) (hq : 32 ≤ q) : x.testBit q = false := by
  apply Nat.testBit_lt_two_pow
  have : (2 : Nat) ^ 32 ≤ 2 ^ q := Nat.pow_le_pow_right (by decide) hq
  have h32 : (2 : Nat) ^ 32 = 4294967296 := by decide
  omega
theorem left_copy (x0 x1 : List Bool) (n : Nat) (m : Nat → Bool) (hn : n ≤ 10000) (h0 : x0 = rl n m) : ∀ (d i k : Nat), i + d = n → deckleref02_Left.l0 (d + 1 + k) x0 x1 (rl (n + 32) (fun j => if j < i then m j else false)) (i : Int) = deckleref02_Left.l1 k x0 x1 (rl (n + 32) (fun j => if j < n then m j else false)) 0
  | 0, i, k, h => by
    obtain rfl : i = n := by omega
    rw [show 0 + 1 + k = k + 1 by omega, deckleref02_Left.l0, if_neg (by rw [h0, rl_len]; omega)]
  | d + 1, i, k, h => by
    have ih := left_copy x0 x1 n m hn h0 d (i + 1) k (by omega)
    rw [show d + 1 + 1 + k = (d + 1 + k) + 1 by omega, deckleref02_Left.l0, if_pos (by rw [h0, rl_len]; omega), if_pos (by omega), if_pos (by rw [rl_len]; omega), Int.toNat_natCast, rl_set, w64' _ (by omega)]
    have hr : rdOf false x0 (i : Int) = m i := by rw [h0, rl_rd _ _ _ (by omega)]
    have e : rl (n + 32) (fun j => if j = i then rdOf false x0 (i : Int) else if j < i then m j else false) = rl (n + 32) (fun j => if j < i + 1 then m j else false) := by
      apply rl_congr
      intro j _
      rw [hr]
      by_cases g : j = i
      · subst g; rw [if_pos rfl, if_pos (by omega)]
      · rw [if_neg g]
        by_cases g2 : j < i
        · rw [if_pos g2, if_pos (by omega)]
        · rw [if_neg g2, if_neg (by omega)]
    rw [e]
    rw [show ((i + 1 : Nat) : Int) = (i : Int) + 1 by omega] at ih
    exact ih
theorem left_first (x0 : List Bool) (n x : Nat) (M : Nat → Bool) (hn : n ≤ 10000) : ∀ (d i k : Nat), i + d = 32 → deckleref02_Left.l1 (d + 1 + k) x0 (rl 32 x.testBit) (rl (n + 32) (fun j => if j < i then (M j != x.testBit j) else M j)) (i : Int) = deckleref02_Left.j2 k x0 (rl (n + 32) (fun j => if j < 32 then (M j != x.testBit j) else M j))
  | 0, i, k, h => by
    obtain rfl : i = 32 := by omega
    rw [show 0 + 1 + k = k + 1 by omega, deckleref02_Left.l1, if_neg (by decide)]
  | d + 1, i, k, h => by
    have ih := left_first x0 n x M hn d (i + 1) k (by omega)
    rw [show d + 1 + 1 + k = (d + 1 + k) + 1 by omega, deckleref02_Left.l1, if_pos (by omega), if_pos (by rw [rl_len]; omega), if_pos (by omega), if_pos (by rw [rl_len]; omega), Int.toNat_natCast, rl_set, rl_rd _ _ _ (by omega), rl_rd _ _ _ (by omega), w64' _ (by omega), if_neg (by omega)]
    have e : rl (n + 32) (fun j => if j = i then (M i != x.testBit i) else if j < i then (M j != x.testBit j) else M j) = rl (n + 32) (fun j => if j < i + 1 then (M j != x.testBit j) else M j) := by
      apply rl_congr
      intro j _
      by_cases g : j = i
      · subst g; rw [if_pos rfl, if_pos (by omega)]
      · rw [if_neg g]
        by_cases g2 : j < i
        · rw [if_pos g2, if_pos (by omega)]
        · rw [if_neg g2, if_neg (by omega)]
    rw [e]
    rw [show ((i + 1 : Nat) : Int) = (i : Int) + 1 by omega] at ih
    exact ih
theorem left_l3 (x0 : List Bool) (n i : Nat) (F : Nat → Bool) (hn : n ≤ 10000) (hi : i < n) : ∀ (d q k : Nat), q + d = 32 → deckleref02_Left.l3 (d + 1 + k) x0 (rl (n + 32) (fun j => if i < j ∧ j ≤ i + q then (F j != poly.testBit (j - i - 1)) else F j)) (rl 32 poly.testBit) (i : Int) (q : Int) = deckleref02_Left.l2 k x0 (rl (n + 32) (fun j => if i < j ∧ j ≤ i + 32 then (F j != poly.testBit (j - i - 1)) else F j)) (rl 32 poly.testBit) ((i + 1 : Nat) : Int)
  | 0, q, k, h => by
    obtain rfl : q = 32 := by omega
    rw [show 0 + 1 + k = k + 1 by omega, deckleref02_Left.l3, if_neg (by decide), w64' _ (by omega)]
    rfl
  | d + 1, q, k, h => by
    have ih := left_l3 x0 n i F hn hi d (q + 1) k (by omega)
    have e1 : wrap64 (wrap64 ((i : Int) + 1) + (q : Int)) = ((i + 1 + q : Nat) : Int) := by rw [w64' ((i : Int) + 1) (by omega), w64' _ (by omega)]; omega
    rw [show d + 1 + 1 + k = (d + 1 + k) + 1 by omega, deckleref02_Left.l3, if_pos (by omega), e1, if_pos (by omega), if_pos (by rw [rl_len]; omega), if_pos (by omega), if_pos (by rw [rl_len]; omega), Int.toNat_natCast, rl_set, rl_rd _ _ _ (by omega), rl_rd _ _ _ (by omega), w64' _ (by omega), if_neg (by omega)]
    have e : rl (n + 32) (fun j => if j = i + 1 + q then (F (i + 1 + q) != poly.testBit q) else if i < j ∧ j ≤ i + q then (F j != poly.testBit (j - i - 1)) else F j) = rl (n + 32) (fun j => if i < j ∧ j ≤ i + (q + 1) then (F j != poly.testBit (j - i - 1)) else F j) := by
      apply rl_congr
      intro j _
      by_cases g : j = i + 1 + q
      · subst g; rw [if_pos rfl, if_pos (by omega), show i + 1 + q - i - 1 = q by omega]
      · rw [if_neg g]
        by_cases g2 : i < j ∧ j ≤ i + q
        · rw [if_pos g2, if_pos (by omega)]
        · rw [if_neg g2, if_neg (by omega)]
    rw [e]
    rw [show ((q + 1 : Nat) : Int) = (q : Int) + 1 by omega] at ih
    exact ih
theorem reg_step (x : Nat) (s : ByteArray) (i q : Nat) : (reg x s (i + 1)).testBit q = ((reg x s i).testBit (q + 1) ^^ (((reg x s i).testBit 0 ^^ mb s i) && poly.testBit q)) := st_bit _ _ _
theorem left_l2 (x : Nat) (hx : x < 4294967296) (s : ByteArray) (n : Nat) (hn : n ≤ 10000) (x0 : List Bool) (h0 : x0 = rl n (mb s)) : ∀ (d i k : Nat) (F : Nat → Bool), i + d = n → (∀ j, i ≤ j → j < n + 32 → F j = ((reg x s i).testBit (j - i) ^^ (if j < n then mb s j else false))) →
    deckleref02_Left.l2 (34 * d + 1 + k) x0 (rl (n + 32) F) (rl 32 poly.testBit) (i : Int) = some (rl 32 (reg x s n).testBit)
  | 0, i, k, F, h, hF => by
    obtain rfl : i = n := by omega
    rw [show 34 * 0 + 1 + k = k + 1 by omega, deckleref02_Left.l2, if_neg (by rw [h0, rl_len]; omega), if_pos (by omega), if_pos (by rw [h0, rl_len, rl_len]; omega), Int.toNat_natCast, h0, rl_len, rl_drop]
    congr 1
    apply rl_congr
    intro q hq
    show F (i + q) = _
    rw [hF (i + q) (by omega) (by omega), if_neg (by omega), show i + q - i = q by omega, Bool.xor_false]
  | d + 1, i, k, F, h, hF => by
    have hl := reg_lt x hx s i
    have hFi := hF i (Nat.le_refl _) (by omega)
    rw [Nat.sub_self, if_pos (by omega)] at hFi
    have hpl : poly < 4294967296 := by decide
    rw [show 34 * (d + 1) + 1 + k = (33 + (34 * d + 1 + k)) + 1 by omega, deckleref02_Left.l2, if_pos (by rw [h0, rl_len]; omega), if_pos (by omega), if_pos (by rw [rl_len]; omega), rl_rd _ _ _ (by omega)]
    cases hb : F i with
    | true =>
      rw [if_pos rfl]
      have h3 := left_l3 x0 n i F hn (by omega) 32 0 (34 * d + 1 + k) (by omega)
      rw [show 32 + 1 + (34 * d + 1 + k) = 33 + (34 * d + 1 + k) by omega] at h3
      have e : rl (n + 32) (fun j => if i < j ∧ j ≤ i + 0 then (F j != poly.testBit (j - i - 1)) else F j) = rl (n + 32) F := rl_congr _ _ _ (fun j _ => if_neg (by omega))
      rw [e] at h3
      refine Eq.trans h3 ?_
      refine left_l2 x hx s n hn x0 h0 d (i + 1) k _ (by omega) (fun j hj hjn => ?_)
      rw [reg_step, ← hFi, hb, Bool.true_and, show j - (i + 1) = j - i - 1 by omega, show j - i - 1 + 1 = j - i by omega, hF j (by omega) hjn]
      by_cases g : i < j ∧ j ≤ i + 32
      · rw [if_pos g]
        cases (reg x s i).testBit (j - i) <;> cases poly.testBit (j - i - 1) <;> cases (if j < n then mb s j else false) <;> rfl
      · rw [if_neg g, high_bit poly _ hpl (by omega), Bool.xor_false]
    | false =>
      rw [if_neg (by decide), w64' _ (by omega)]
      have := left_l2 x hx s n hn x0 h0 d (i + 1) (33 + k) F (by omega) (fun j hj hjn => by
        rw [reg_step, ← hFi, hb, Bool.false_and, Bool.xor_false, show j - (i + 1) + 1 = j - i by omega]
        exact hF j (by omega) hjn)
      rw [show 34 * d + 1 + (33 + k) = 33 + (34 * d + 1 + k) by omega, show ((i + 1 : Nat) : Int) = (i : Int) + 1 by omega] at this
      exact this
theorem left_is2 (x : Nat) (hx : x < 4294967296) (s : ByteArray) (n : Nat) (hn : n ≤ 10000) (k : Nat) (hk : 35 * n + 120 ≤ k) : deckleref02_Left.f k (bitsL s n) (ofL x 32) = some (ofL (reg x s n) 32) := by
  have hl : (bitsL s n).length = n := rl_len n (mb s)
  have e : wrap64 (((bitsL s n).length : Int) + 32) = ((n + 32 : Nat) : Int) := by rw [hl, w64' _ (by omega)]; omega
  unfold deckleref02_Left.f
  rw [e, if_pos (by omega), Int.toNat_natCast, if_pos (by omega)]
  have e0 : List.replicate (n + 32) false = rl (n + 32) (fun j => if j < 0 then mb s j else false) := by
    apply List.ext_getElem
    · rw [List.length_replicate, rl_len]
    · intro j h1 h2
      simp [rl]
  obtain ⟨k, rfl⟩ : ∃ q, k = n + 1 + (33 + (1 + (34 * n + 1 + q))) := ⟨k - (35 * n + 36), by omega⟩
  have c1 := left_copy (bitsL s n) (ofL x 32) n (mb s) hn rfl n 0 (33 + (1 + (34 * n + 1 + k))) (by omega)
  rw [e0]
  refine Eq.trans c1 ?_
  have c2 := left_first (bitsL s n) n x (fun j => if j < n then mb s j else false) hn 32 0 (1 + (34 * n + 1 + k)) (by omega)
  have e1 : rl (n + 32) (fun j => if j < 0 then ((if j < n then mb s j else false) != x.testBit j) else if j < n then mb s j else false) = rl (n + 32) (fun j => if j < n then mb s j else false) := rl_congr _ _ _ (fun j _ => if_neg (by omega))
  rw [e1] at c2
  refine Eq.trans c2 ?_
  rw [show 1 + (34 * n + 1 + k) = (34 * n + 1 + k) + 1 by omega, deckleref02_Left.j2, poly_is _ (by omega), Option.bind_some]
  refine left_l2 x hx s n hn (bitsL s n) rfl n 0 k _ (by omega) (fun j hj hjn => ?_)
  show _ = (x.testBit (j - 0) ^^ _)
  rw [Nat.sub_zero]
  by_cases g : j < 32
  · rw [if_pos g]
    cases x.testBit j <;> cases (if j < n then mb s j else false) <;> rfl
  · rw [if_neg g, high_bit x j hx (by omega), Bool.false_xor]
theorem more_is (x : Nat) (hx : x < 4294967296) (s : ByteArray) (hs : s.size ≤ 1000) (k : Nat) (hk : 300 * s.size + 200 ≤ k) : deckleref02_More.f k (x : Int) s = some (crcGo (x : Int) s s.size) := by
  unfold deckleref02_More.f
  rw [refbits_is s hs k (by omega), Option.bind_some, of_is x hx k (by omega), Option.bind_some, left_is2 x hx s (8 * s.size) (by omega) k (by omega), Option.bind_some, number_of _ (reg_lt x hx s _) k (by omega), Option.bind_some, (reg_crc x hx s s.size).1]
theorem refsum_is (s : ByteArray) (hs : s.size ≤ 1000) (k : Nat) (hk : 300 * s.size + 200 ≤ k) : deckleref02_Sum.f k s = some (4294967295 - crcGo 4294967295 s s.size) := by
  have h := more_is 4294967295 (by decide) s hs k hk
  have hr := crcGo_range 4294967295 s (by decide) (by decide) s.size
  unfold deckleref02_Sum.f
  rw [show (4294967295 : Int) = ((4294967295 : Nat) : Int) from rfl, h, Option.bind_some]
  congr 1
  show (4294967295 - crcGo 4294967295 s s.size) % 4294967296 = 4294967295 - crcGo 4294967295 s s.size
  omega
theorem reftail_loop (x : Int) (h0 : 0 ≤ x) (h1 : x < 4294967296) (k : Nat) : deckleref02_Tail.f (k + 5) x = some (strOfNums [x % 256, (x / 256) % 256, (x / 65536) % 256, (x / 16777216) % 256]) := by
  have e1 : (Int.tdiv x 256) % 4294967296 = x / 256 := by rw [Int.tdiv_eq_ediv_of_nonneg h0]; omega
  have e2 : (Int.tdiv (x / 256) 256) % 4294967296 = x / 65536 := by rw [Int.tdiv_eq_ediv_of_nonneg (by omega)]; omega
  have e3 : (Int.tdiv (x / 65536) 256) % 4294967296 = x / 16777216 := by rw [Int.tdiv_eq_ediv_of_nonneg (by omega)]; omega
  have m : ∀ y : Int, 0 ≤ y → (Int.tmod y 256) % 256 = y % 256 := fun y hy => by rw [Int.tmod_eq_emod_of_nonneg hy]; omega
  unfold deckleref02_Tail.f
  rw [deckleref02_Tail.l0, if_pos (by decide), if_pos (by decide), e1, m x h0, show wrap64 (0 + 1) = 1 from w64' (0 + 1) (by decide), deckleref02_Tail.l0, if_pos (by decide), if_pos (by show 1 < _; decide), e2, m _ (by omega), show wrap64 (1 + 1) = 2 from w64' (1 + 1) (by decide), deckleref02_Tail.l0, if_pos (by decide), if_pos (by show 2 < _; decide), e3, m _ (by omega), show wrap64 (2 + 1) = 3 from w64' (2 + 1) (by decide), deckleref02_Tail.l0, if_pos (by decide), if_pos (by show 3 < _; decide), m _ (by omega), show wrap64 (3 + 1) = 4 from w64' (3 + 1) (by decide), deckleref02_Tail.l0, if_neg (by decide)]
  rfl
theorem refseal_is (s : ByteArray) (hs : s.size ≤ 1000) (k : Nat) (hk : 300 * s.size + 200 ≤ k) : deckleref02_Seal.f k s = some (s ++ sum4 s) := by
  have hr := crcGo_range 4294967295 s (by decide) (by decide) s.size
  obtain ⟨k, rfl⟩ : ∃ q, k = q + 5 := ⟨k - 5, by omega⟩
  unfold deckleref02_Seal.f
  rw [refsum_is s hs _ hk, Option.bind_some, reftail_loop _ (by omega) (by omega), Option.bind_some]
  have h4 := sum4_size s
  unfold sum4 at h4 ⊢
  rw [h4, if_pos (by omega)]
end Go.Proofs.YtbcgddacmjliaaaDoor.PF
end

section
-- Written by a program (the kit's print.py, called by wip/bin/prseat.sh, mended by wip/bin/mend.py).
namespace Go.Proofs.YtbcgddacmjliaaaDoor.PF
open Go.Proofs.YtbcgddacmjliaaaDoor.Tf Go.RowKit Go.Proofs.YtbcgddacmjliaaaDoorW.PrintWords Go.Proofs.YtbcgddacmjliaaaDoorW.PrintLast Go.Proofs.YtbcgddacmjliaaaDoorW.PrintMore
attribute [local go_sem] max2_int min2_int max_two min_two max_three min_three max_four min_four   -- for this text's walks alone
set_option linter.unusedVariables false
set_option linter.unusedSimpArgs false

attribute [local go_sem high] eqA30
/-! ### decklelaw05_FrameBack: function 6 -/
def decklelaw05_FrameBack.f (a0_0 : Int) (a0_1 : Int) (a0_2 : Int) (a0_3 : Int) (a1 : ByteArray) : Option (Bool) := (decklelaw05_works.f).bind fun t370 => (if t370 = true then ((frame_Encode.f a0_0 a0_1 a0_2 a0_3 a1).bind fun bt371 => (if bt371.2 = 0 then ((frame_Decode.f bt371.1).bind fun bt373 => (if (bt373.1 == 2 && ((bt373.2.1 == a0_0 && (bt373.2.2.1 == a0_1 && (bt373.2.2.2.1 == a0_2 && (bt373.2.2.2.2.1 == a0_3)))) && (bt373.2.2.2.2.2.toList == a1.toList))) = true then ((frame_Blank.f (a1.size : Int)).bind fun t379 => (some ((bt371.1.size : Int) == (t379.size : Int)))) else (some false))) else (some (bt371.1.toList == ([] : List UInt8))))) else (some false))
def decklelaw05_FrameBack.T6 : Bool × List (List Nat × List Nat) := (true, [([], []), ([0], [0]), ([], []), ([], []), ([2, 3], [2, 3]), ([1, 4], [1, 4]), ([5, 1], [5]), ([6], [6]), ([7, 6], [6, 7]), ([6], [6]), ([9, 6], [6, 9]), ([10, 6, 6], [6, 10]), ([11, 6], [6, 11]), ([8, 12, 6], [6, 8, 12]), ([6, 13], [6, 13]), ([14, 11, 0, 1, 2, 3, 4, 5, 6, 7, 8, 9, 10, 11, 12, 13, 14], [14])])
def decklelaw05_FrameBack.B6 : List Nat := [0, 1, 0, 0, 12, 31, 63, 127, 255, 127, 639, 1663, 3711, 8191, 16383, 32767]
theorem decklelaw05_FrameBack.tab6 : rtab .any (opsOf Tryd.f6 6) = decklelaw05_FrameBack.T6 := by kernel_rfl
theorem decklelaw05_FrameBack.bits6 : waitsOk decklelaw05_FrameBack.T6.2 decklelaw05_FrameBack.B6 = true := by kernel_rfl
set_option maxHeartbeats 8000000 in
set_option maxRecDepth 100000 in
theorem decklelaw05_FrameBack.calls (a0_0 : Int) (a0_1 : Int) (a0_2 : Int) (a0_3 : Int) (a1 : ByteArray) (r : Bool) (w : World) (h : decklelaw05_FrameBack.f a0_0 a0_1 a0_2 a0_3 a1 = some r) (HL : Aside0 (Hw.Laid w) := by first | exact HL | exact Hw.laid_at HL (by repeat (first | (with_reducible first | exact HB.out | apply below_alloc | apply pw_below_drewN | apply below_drew1) | exact HB.out | exact Below.refl _ _ | refine below_set ?_ (by apply Aside0.out; assumption)))) :
    Calls Tryd.prog 6 #[.agg #[.int .i64 a0_0, .int .i64 a0_1, .int .i64 a0_2, .int .i64 a0_3], .string a1] w fun e w' => e = .returned (.bool r) ∧ Below w.heap.size w w' := by
  have hu23 := Tryd.underlying23
  have hu30 := Tryd.underlying30
  have HB := Aside0.mk (Below.refl w.heap.size w)
  have H : ((decklelaw05_works.f).bind fun t370 => (if t370 = true then ((frame_Encode.f a0_0 a0_1 a0_2 a0_3 a1).bind fun bt371 => (if bt371.2 = 0 then ((frame_Decode.f bt371.1).bind fun bt373 => (if (bt373.1 == 2 && ((bt373.2.1 == a0_0 && (bt373.2.2.1 == a0_1 && (bt373.2.2.2.1 == a0_2 && (bt373.2.2.2.2.1 == a0_3)))) && (bt373.2.2.2.2.2.toList == a1.toList))) = true then ((frame_Blank.f (a1.size : Int)).bind fun t379 => (some ((bt371.1.size : Int) == (t379.size : Int)))) else (some false))) else (some (bt371.1.toList == ([] : List UInt8))))) else (some false))) = some r := h
  clear h
  replace H := Option.bind_eq_some_iff.mp H
  obtain ⟨t370, A30, H⟩ := H
  replace H : (if t370 = true then ((frame_Encode.f a0_0 a0_1 a0_2 a0_3 a1).bind fun bt371 => (if bt371.2 = 0 then ((frame_Decode.f bt371.1).bind fun bt373 => (if (bt373.1 == 2 && ((bt373.2.1 == a0_0 && (bt373.2.2.1 == a0_1 && (bt373.2.2.2.1 == a0_2 && (bt373.2.2.2.2.1 == a0_3)))) && (bt373.2.2.2.2.2.toList == a1.toList))) = true then ((frame_Blank.f (a1.size : Int)).bind fun t379 => (some ((bt371.1.size : Int) == (t379.size : Int)))) else (some false))) else (some (bt371.1.toList == ([] : List UInt8))))) else (some false)) = some r := H
  have A3 := Aside0.mk A30
  clear A30
  by_cases c4 : t370 = true
  · subst c4
    have H1 : ((frame_Encode.f a0_0 a0_1 a0_2 a0_3 a1).bind fun bt371 => (if bt371.2 = 0 then ((frame_Decode.f bt371.1).bind fun bt373 => (if (bt373.1 == 2 && ((bt373.2.1 == a0_0 && (bt373.2.2.1 == a0_1 && (bt373.2.2.2.1 == a0_2 && (bt373.2.2.2.2.1 == a0_3)))) && (bt373.2.2.2.2.2.toList == a1.toList))) = true then ((frame_Blank.f (a1.size : Int)).bind fun t379 => (some ((bt371.1.size : Int) == (t379.size : Int)))) else (some false))) else (some (bt371.1.toList == ([] : List UInt8))))) = some r := by rw [if_pos rfl] at H; exact H
    clear H
    have H := H1
    clear H1
    replace H := Option.bind_eq_some_iff.mp H
    obtain ⟨⟨t371, t372⟩, A50, H⟩ := H
    replace H : (if t372 = 0 then ((frame_Decode.f t371).bind fun bt373 => (if (bt373.1 == 2 && ((bt373.2.1 == a0_0 && (bt373.2.2.1 == a0_1 && (bt373.2.2.2.1 == a0_2 && (bt373.2.2.2.2.1 == a0_3)))) && (bt373.2.2.2.2.2.toList == a1.toList))) = true then ((frame_Blank.f (a1.size : Int)).bind fun t379 => (some ((t371.size : Int) == (t379.size : Int)))) else (some false))) else (some (t371.toList == ([] : List UInt8)))) = some r := H
    have A5 := Aside0.mk A50
    clear A50
    by_cases c6 : t372 = 0
    · rw [if_pos c6] at H
      have c6b0 : (t372 == 0) = true := beq_iff_eq.mpr c6
      have c6b1 : (t372 != 0) = false := bne_eq_false_iff_eq.mpr c6
      clear c6
      replace H := Option.bind_eq_some_iff.mp H
      obtain ⟨⟨t373, t374, t375, t376, t377, t378⟩, A70, H⟩ := H
      replace H : (if (t373 == 2 && ((t374 == a0_0 && (t375 == a0_1 && (t376 == a0_2 && (t377 == a0_3)))) && (t378.toList == a1.toList))) = true then ((frame_Blank.f (a1.size : Int)).bind fun t379 => (some ((t371.size : Int) == (t379.size : Int)))) else (some false)) = some r := H
      have A7 := Aside0.mk A70
      clear A70
      by_cases c8 : (t373 == 2 && ((t374 == a0_0 && (t375 == a0_1 && (t376 == a0_2 && (t377 == a0_3)))) && (t378.toList == a1.toList))) = true
      · rw [if_pos c8] at H
        have c8b0 : (t373 == 2 && ((t374 == a0_0 && (t375 == a0_1 && (t376 == a0_2 && (t377 == a0_3)))) && (t378.toList == a1.toList))) = true := c8
        (try (have c8b1 : decide (t373 = 2 && ((t374 == a0_0 && (t375 == a0_1 && (t376 == a0_2 && (t377 == a0_3)))) && (t378.toList == a1.toList))) = true := by simpa using c8))
        (try (have c8b2 : (t373 == 2 && ((t374 == a0_0 && (t375 == a0_1 && (t376 == a0_2 && (t377 == a0_3)))) && (t378.toList == a1.toList))) = true := by simpa using c8))
        clear c8
        replace H := Option.bind_eq_some_iff.mp H
        obtain ⟨t379, A90, H⟩ := H
        replace H : (some ((t371.size : Int) == (t379.size : Int))) = some r := H
        have A9 := Aside0.mk A90
        clear A90
        obtain rfl := Option.some.inj H
        go_enter Tryd.func6, Tryd.ntmps6
        try go_wp2_with (first | ((with_reducible refine gate_dst (N := 2) rfl ?_); (try (refine gate_guard (by rfl) ?_; dsimp only)); refine box_event ?hg (N := 2) ?hd (cs := #[.int .i64 a0_0, .int .i64 a0_1, .int .i64 a0_2, .int .i64 a0_3]) (t := 23) ?hr ?_; (case hd => rfl); (case hg => rfl); (case hr => first | (go_simp; done) | (go_simp; rfl)); intro gb369 hg w10 hbox hb; have n0_ := Aside0.mk (below_step (by repeat (first | (with_reducible first | exact HB.out | apply below_alloc | apply pw_below_drewN | apply below_drew1) | exact HB.out)) hb); have n1_ := Aside0.mk (hbox); have n2_ := Aside0.mk ((by rw [hg]; exact (below_size (by repeat (first | (with_reducible first | exact HB.out | apply below_alloc | apply pw_below_drewN | apply below_drew1) | exact HB.out))) : w.heap.size ≤ gb369)); have n3_ := Aside0.mk ((by rw [hg]; exact (below_size (by repeat (first | (with_reducible first | exact HB.out | apply below_alloc | apply pw_below_drewN | apply below_drew1) | exact HB.out))) : w.heap.size ≤ gb369)); clear HB; have HB := n0_; have BK369 := n1_; have GW369 := n2_; have GE369 := n3_; clear n0_ n1_ n2_ n3_; clear hb hbox hg) | ((with_reducible refine gate_callee (f := 9) rfl ?_); refine goesL_ (some 7) rfl rfl Tryd.func9 (by kernel_rfl) rfl #[] rfl (by (try simp only [List.map_toArray, List.map_cons, List.map_nil]); first | done | rfl | (simp only [List.length_drop, List.length_take]; rfl)) ?_; (with_reducible refine (decklelaw05_works.calls  true _ A3.out).mono ?_); rintro e w11 ⟨rfl, hb⟩; refine ⟨_, rfl, ?_⟩; have n0_ := Aside0.mk (blk_below (g := gb369) (o := .cells #[.int .i64 a0_0, .int .i64 a0_1, .int .i64 a0_2, .int .i64 a0_3] 23 (0, 0)) (by (with_reducible repeat (first | refine blk_drewN ?_ _ | refine blk_drew ?_ | refine blk_alloc ?_ _)); exact BK369.out) hb); have n1_ := Aside0.mk (below_step (by repeat (first | (with_reducible first | exact HB.out | apply below_alloc | apply pw_below_drewN | apply below_drew1 | refine below_set ?_ GE369.out) | exact HB.out)) hb); clear BK369; clear HB; have BK369 := n0_; have HB := n1_; clear n0_ n1_; (try clear hb); (try clear hb2); (try clear hk); (try clear hi); have hcz12_0 : w11.cell? ⟨gb369, 0, none⟩ = some (.int .i64 a0_0) := (blk_cell BK369.out 0).trans rfl; have hcz12_1 : w11.cell? ⟨gb369, 1, none⟩ = some (.int .i64 a0_1) := (blk_cell BK369.out 1).trans rfl; have hcz12_2 : w11.cell? ⟨gb369, 2, none⟩ = some (.int .i64 a0_2) := (blk_cell BK369.out 2).trans rfl; have hcz12_3 : w11.cell? ⟨gb369, 3, none⟩ = some (.int .i64 a0_3) := (blk_cell BK369.out 3).trans rfl; have hfz12_0 := blk_frozen BK369.out 0; have hfz12_1 := blk_frozen BK369.out 1; have hfz12_2 := blk_frozen BK369.out 2; have hfz12_3 := blk_frozen BK369.out 3) | ((with_reducible refine gate_callee (f := 10) rfl ?_); refine goesL_ (some 12) rfl rfl Tryd.func10 (by kernel_rfl) rfl #[.agg #[.int .i64 a0_0, .int .i64 a0_1, .int .i64 a0_2, .int .i64 a0_3], .string a1] rfl (by (try simp only [List.map_toArray, List.map_cons, List.map_nil]); first | done | rfl | (simp only [List.length_drop, List.length_take]; rfl)) ?_; (with_reducible refine (frame_Encode.calls a0_0 a0_1 a0_2 a0_3 a1 t371 t372 _ A5.out).mono ?_); rintro e w13 ⟨rfl, hb⟩; refine ⟨_, rfl, ?_⟩; have n0_ := Aside0.mk (blk_below (g := gb369) (o := .cells #[.int .i64 a0_0, .int .i64 a0_1, .int .i64 a0_2, .int .i64 a0_3] 23 (0, 0)) (by (with_reducible repeat (first | refine blk_drewN ?_ _ | refine blk_drew ?_ | refine blk_alloc ?_ _)); exact BK369.out) hb); have n1_ := Aside0.mk (below_step (by repeat (first | (with_reducible first | exact HB.out | apply below_alloc | apply pw_below_drewN | apply below_drew1 | refine below_set ?_ GE369.out) | exact HB.out)) hb); clear BK369; clear HB; have BK369 := n0_; have HB := n1_; clear n0_ n1_; (try clear hb); (try clear hb2); (try clear hk); (try clear hi)))
        have n0_ := Aside0.mk (blk_drew BK369.out)
        have n1_ := Aside0.mk (below_drew1 HB.out)
        clear BK369
        clear HB
        have BK369 := n0_
        have HB := n1_
        clear n0_ n1_
        refine start_ (n := 16) (S := fun w' => w'.cell? ⟨gb369, 0, none⟩ = some (.int .i64 a0_0) ∧ w'.cell? ⟨gb369, 1, none⟩ = some (.int .i64 a0_1) ∧ w'.cell? ⟨gb369, 2, none⟩ = some (.int .i64 a0_2) ∧ w'.cell? ⟨gb369, 3, none⟩ = some (.int .i64 a0_3)) (ds := []) (tfA 0 16) (by kernel_rfl) rfl rfl ⟨(blk_cell BK369.out 0).trans rfl, (blk_cell BK369.out 1).trans rfl, (blk_cell BK369.out 2).trans rfl, (blk_cell BK369.out 3).trans rfl⟩ (fun hHeld => ?_); refine with_tabW decklelaw05_FrameBack.tab6 decklelaw05_FrameBack.bits6 (fun HT_ HW_ => ?_)
        generalize w13.drew = w14 at BK369 HB hHeld ⊢
        refine pure_ (i := 0) (N := some 19) (v := ?_) (a' := ?_) (tfA 1 16) rfl rfl (any_of HT_.out (by kernel_rfl)) (fun _ _ _ h => h) (Or.inl ⟨by rfl, ?_⟩) ?_ ?_
        rotate_left
        · intro w'; go_simp; with_reducible rfl
        rotate_left
        · simp only [Act.put, sib, sc0, sc1, i64_w, i32_w]; rfl
        refine pure_ (i := 3) (N := some 22) (v := ?_) (a' := ?_) #[true, false, false, true, false, false, false, false, false, false, false, false, false, false, false, false] rfl rfl (any_of HT_.out (by kernel_rfl)) (fun _ _ _ h => h) (Or.inl ⟨by rfl, ?_⟩) ?_ ?_
        rotate_left
        · intro w'; go_simp; with_reducible rfl
        rotate_left
        · simp only [Act.put, sib, sc0, sc1, i64_w, i32_w]; rfl
        refine take_ (i := 2) (N := some 21) (v := ?_) (a' := ?_) #[true, false, true, true, false, false, false, false, false, false, false, false, false, false, false, false] rfl rfl (take_ofW HT_.out HW_.out (by kernel_rfl)) (fun _ _ _ h => h) (Or.inl ⟨by rfl, ?_⟩) hHeld ?_ ?_
        rotate_left
        · rintro w' ⟨s0, s1, s2, s3⟩
          go_simp
          with_reducible rfl
        rotate_left
        · simp only [Act.put, sib, sc0, sc1, i64_w, i32_w]
          rfl
        refine pure_ (i := 4) (N := some 23) (v := ?_) (a' := ?_) #[true, false, true, true, true, false, false, false, false, false, false, false, false, false, false, false] rfl rfl (any_of HT_.out (by kernel_rfl)) (fun _ _ _ h => h) (Or.inl ⟨by rfl, ?_⟩) ?_ ?_
        rotate_left
        · intro w'; go_simp; with_reducible rfl
        rotate_left
        · simp only [Act.put, sib, sc0, sc1, i64_w, i32_w]; rfl
        refine one_ (i := 1) (N := some 20) (tfA 5 16) rfl rfl (one_of HT_.out (by kernel_rfl)) (by decide) (fun K hK => ?_)
        refine goes_ Tryd.func12 (by kernel_rfl) rfl #[.string t371] (by rfl) rfl rfl (by (try simp only [List.map_toArray, List.map_cons, List.map_nil]); first | done | rfl | (simp only [List.length_drop, List.length_take]; rfl)) ?_
        with_reducible refine (frame_Decode.calls t371 t373 t374 t375 t376 t377 t378 _ A7.out).mono ?_
        rintro e w15 ⟨rfl, hb⟩
        refine ⟨_, rfl, ?_⟩
        have n0_ := Aside0.mk (blk_below (g := gb369) (o := .cells #[.int .i64 a0_0, .int .i64 a0_1, .int .i64 a0_2, .int .i64 a0_3] 23 (0, 0)) (by (with_reducible repeat (first | refine blk_drewN ?_ _ | refine blk_drew ?_ | refine blk_alloc ?_ _)); exact BK369.out) hb)
        have n1_ := Aside0.mk (below_step (by repeat (first | (with_reducible first | exact HB.out | apply below_alloc | apply pw_below_drewN | apply below_drew1 | refine below_set ?_ GE369.out) | exact HB.out)) hb)
        clear BK369
        clear HB
        have BK369 := n0_
        have HB := n1_
        clear n0_ n1_
        (try clear hb)
        (try clear hb2)
        (try clear hk)
        (try clear hi)
        refine hK.out _ _ ⟨(blk_cell BK369.out 0).trans rfl, (blk_cell BK369.out 1).trans rfl, (blk_cell BK369.out 2).trans rfl, (blk_cell BK369.out 3).trans rfl⟩ (fun hHeld => ?_)
        clear hK K
        refine norm_ (a' := ?_) ?_ ?_
        rotate_left
        · show Act.put _ (some 20) _ = _
          simp only [Act.put, sib, sc0, sc1, i64_w, i32_w]
          rfl
        refine pure_ (i := 5) (N := some 24) (v := ?_) (a' := ?_) (tfA 6 16) rfl rfl (any_of HT_.out (by kernel_rfl)) (fun _ _ _ h => h) (Or.inl ⟨by rfl, ?_⟩) ?_ ?_
        rotate_left
        · intro w'; go_simp; with_reducible rfl
        rotate_left
        · simp only [Act.put, sib, sc0, sc1, i64_w, i32_w]; rfl
        refine pure_ (i := 6) (N := some 25) (v := ?_) (a' := ?_) (tfA 7 16) rfl rfl (any_of HT_.out (by kernel_rfl)) (fun _ _ _ h => h) (Or.inl ⟨by rfl, ?_⟩) ?_ ?_
        rotate_left
        · intro w'; go_simp; with_reducible rfl
        rotate_left
        · simp only [Act.put, sib, sc0, sc1, i64_w, i32_w]; rfl
        refine pure_ (i := 7) (N := some 26) (v := ?_) (a' := ?_) (tfA 8 16) rfl rfl (any_of HT_.out (by kernel_rfl)) (fun _ _ _ h => h) (Or.inl ⟨by rfl, ?_⟩) ?_ ?_
        rotate_left
        · intro w'; go_simp; with_reducible rfl
        rotate_left
        · simp only [Act.put, sib, sc0, sc1, i64_w, i32_w]; rfl
        refine pure_ (i := 8) (N := some 27) (v := ?_) (a' := ?_) (tfA 9 16) rfl rfl (any_of HT_.out (by kernel_rfl)) (fun _ _ _ h => h) (Or.inl ⟨by rfl, ?_⟩) ?_ ?_
        rotate_left
        · intro w'; go_simp; with_reducible rfl
        rotate_left
        · simp only [Act.put, sib, sc0, sc1, i64_w, i32_w]; rfl
        refine pure_ (i := 9) (N := some 28) (v := ?_) (a' := ?_) (tfA 10 16) rfl rfl (any_of HT_.out (by kernel_rfl)) (fun _ _ _ h => h) (Or.inl ⟨by rfl, ?_⟩) ?_ ?_
        rotate_left
        · intro w'; go_simp; with_reducible rfl
        rotate_left
        · simp only [Act.put, sib, sc0, sc1, i64_w, i32_w]; rfl
        refine pure_ (i := 10) (N := some 29) (v := ?_) (a' := ?_) (tfA 11 16) rfl rfl (any_of HT_.out (by kernel_rfl)) (fun _ _ _ h => h) (Or.inl ⟨by rfl, ?_⟩) ?_ ?_
        rotate_left
        · intro w'; go_simp; with_reducible rfl
        rotate_left
        · simp only [Act.put, sib, sc0, sc1, i64_w, i32_w]; rfl
        refine one_ (i := 11) (N := some 30) (tfA 12 16) rfl rfl (one_of HT_.out (by kernel_rfl)) (by decide) (fun K hK => ?_)
        refine goes_ Tryd.func14 (by kernel_rfl) rfl #[.int .i64 (a1.size : Int)] (by rfl) rfl rfl (by (try simp only [List.map_toArray, List.map_cons, List.map_nil]); first | done | rfl | (simp only [List.length_drop, List.length_take]; rfl)) ?_
        with_reducible refine (frame_Blank.calls (a1.size : Int) t379 _ A9.out).mono ?_
        rintro e w16 ⟨rfl, hb⟩
        refine ⟨_, rfl, ?_⟩
        have n0_ := Aside0.mk (blk_below (g := gb369) (o := .cells #[.int .i64 a0_0, .int .i64 a0_1, .int .i64 a0_2, .int .i64 a0_3] 23 (0, 0)) (by (with_reducible repeat (first | refine blk_drewN ?_ _ | refine blk_drew ?_ | refine blk_alloc ?_ _)); exact BK369.out) hb)
        have n1_ := Aside0.mk (below_step (by repeat (first | (with_reducible first | exact HB.out | apply below_alloc | apply pw_below_drewN | apply below_drew1 | refine below_set ?_ GE369.out) | exact HB.out)) hb)
        clear BK369
        clear HB
        have BK369 := n0_
        have HB := n1_
        clear n0_ n1_
        (try clear hb)
        (try clear hb2)
        (try clear hk)
        (try clear hi)
        refine hK.out _ _ ⟨(blk_cell BK369.out 0).trans rfl, (blk_cell BK369.out 1).trans rfl, (blk_cell BK369.out 2).trans rfl, (blk_cell BK369.out 3).trans rfl⟩ (fun hHeld => ?_)
        clear hK K
        refine norm_ (a' := ?_) ?_ ?_
        rotate_left
        · show Act.put _ (some 30) _ = _
          simp only [Act.put, sib, sc0, sc1, i64_w, i32_w]
          rfl
        refine pure_ (i := 12) (N := some 31) (v := ?_) (a' := ?_) (tfA 13 16) rfl rfl (any_of HT_.out (by kernel_rfl)) (fun _ _ _ h => h) (Or.inl ⟨by rfl, ?_⟩) ?_ ?_
        rotate_left
        · intro w'; go_simp; with_reducible rfl
        rotate_left
        · simp only [Act.put, sib, sc0, sc1, i64_w, i32_w]; rfl
        refine pure_ (i := 13) (N := some 32) (v := ?_) (a' := ?_) (tfA 14 16) rfl rfl (any_of HT_.out (by kernel_rfl)) (fun _ _ _ h => h) (Or.inl ⟨by rfl, ?_⟩) ?_ ?_
        rotate_left
        · intro w'; go_simp; with_reducible rfl
        rotate_left
        · simp only [Act.put, sib, sc0, sc1, i64_w, i32_w]; rfl
        refine pure_ (i := 14) (N := some 33) (v := ?_) (a' := ?_) (tfA 15 16) rfl rfl (any_of HT_.out (by kernel_rfl)) (fun _ _ _ h => h) (Or.inl ⟨by rfl, ?_⟩) ?_ ?_
        rotate_left
        · intro w'; go_simp; with_reducible rfl
        rotate_left
        · simp only [Act.put, sib, sc0, sc1, i64_w, i32_w]; rfl
        refine pure_ (i := 15) (N := some 4) (v := ?_) (a' := ?_) (tfA 16 16) rfl rfl (any_of HT_.out (by kernel_rfl)) (fun _ _ _ h => h) (Or.inl ⟨by rfl, ?_⟩) ?_ ?_
        rotate_left
        · intro w'; go_simp; with_reducible rfl
        rotate_left
        · simp only [Act.put, sib, sc0, sc1, i64_w, i32_w]; rfl
        refine done_ (done_of HT_.out (by kernel_rfl)) ?_
        try go_wp2
        go_ret
        exact ⟨by first | rfl | (simp [errW_none, errW_some] <;> rfl) | (simp [*, errW_none, errW_some] <;> rfl), by repeat (first | (with_reducible first | exact HB.out | apply below_alloc | apply pw_below_drewN | apply below_drew1 | refine below_set ?_ GE369.out) | exact HB.out)⟩
      · rw [if_neg c8] at H
        have c8b0 : (t373 == 2 && ((t374 == a0_0 && (t375 == a0_1 && (t376 == a0_2 && (t377 == a0_3)))) && (t378.toList == a1.toList))) = false := by simpa using c8
        (try (have c8b1 : decide (t373 = 2 && ((t374 == a0_0 && (t375 == a0_1 && (t376 == a0_2 && (t377 == a0_3)))) && (t378.toList == a1.toList))) = false := by simpa using c8))
        (try (have c8b2 : (t373 == 2 && ((t374 == a0_0 && (t375 == a0_1 && (t376 == a0_2 && (t377 == a0_3)))) && (t378.toList == a1.toList))) = false := by simpa using c8))
        (try (have c8b3 : ¬ (t373 = 2 && ((t374 == a0_0 && (t375 == a0_1 && (t376 == a0_2 && (t377 == a0_3)))) && (t378.toList == a1.toList))) := by simpa using c8))
        clear c8
        obtain rfl := Option.some.inj H
        go_enter Tryd.func6, Tryd.ntmps6
        try go_wp2_with (first | ((with_reducible refine gate_dst (N := 2) rfl ?_); (try (refine gate_guard (by rfl) ?_; dsimp only)); refine box_event ?hg (N := 2) ?hd (cs := #[.int .i64 a0_0, .int .i64 a0_1, .int .i64 a0_2, .int .i64 a0_3]) (t := 23) ?hr ?_; (case hd => rfl); (case hg => rfl); (case hr => first | (go_simp; done) | (go_simp; rfl)); intro gb369 hg w17 hbox hb; have n0_ := Aside0.mk (below_step (by repeat (first | (with_reducible first | exact HB.out | apply below_alloc | apply pw_below_drewN | apply below_drew1) | exact HB.out)) hb); have n1_ := Aside0.mk (hbox); have n2_ := Aside0.mk ((by rw [hg]; exact (below_size (by repeat (first | (with_reducible first | exact HB.out | apply below_alloc | apply pw_below_drewN | apply below_drew1) | exact HB.out))) : w.heap.size ≤ gb369)); have n3_ := Aside0.mk ((by rw [hg]; exact (below_size (by repeat (first | (with_reducible first | exact HB.out | apply below_alloc | apply pw_below_drewN | apply below_drew1) | exact HB.out))) : w.heap.size ≤ gb369)); clear HB; have HB := n0_; have BK369 := n1_; have GW369 := n2_; have GE369 := n3_; clear n0_ n1_ n2_ n3_; clear hb hbox hg) | ((with_reducible refine gate_callee (f := 9) rfl ?_); refine goesL_ (some 7) rfl rfl Tryd.func9 (by kernel_rfl) rfl #[] rfl (by (try simp only [List.map_toArray, List.map_cons, List.map_nil]); first | done | rfl | (simp only [List.length_drop, List.length_take]; rfl)) ?_; (with_reducible refine (decklelaw05_works.calls  true _ A3.out).mono ?_); rintro e w18 ⟨rfl, hb⟩; refine ⟨_, rfl, ?_⟩; have n0_ := Aside0.mk (blk_below (g := gb369) (o := .cells #[.int .i64 a0_0, .int .i64 a0_1, .int .i64 a0_2, .int .i64 a0_3] 23 (0, 0)) (by (with_reducible repeat (first | refine blk_drewN ?_ _ | refine blk_drew ?_ | refine blk_alloc ?_ _)); exact BK369.out) hb); have n1_ := Aside0.mk (below_step (by repeat (first | (with_reducible first | exact HB.out | apply below_alloc | apply pw_below_drewN | apply below_drew1 | refine below_set ?_ GE369.out) | exact HB.out)) hb); clear BK369; clear HB; have BK369 := n0_; have HB := n1_; clear n0_ n1_; (try clear hb); (try clear hb2); (try clear hk); (try clear hi); have hcz19_0 : w18.cell? ⟨gb369, 0, none⟩ = some (.int .i64 a0_0) := (blk_cell BK369.out 0).trans rfl; have hcz19_1 : w18.cell? ⟨gb369, 1, none⟩ = some (.int .i64 a0_1) := (blk_cell BK369.out 1).trans rfl; have hcz19_2 : w18.cell? ⟨gb369, 2, none⟩ = some (.int .i64 a0_2) := (blk_cell BK369.out 2).trans rfl; have hcz19_3 : w18.cell? ⟨gb369, 3, none⟩ = some (.int .i64 a0_3) := (blk_cell BK369.out 3).trans rfl; have hfz19_0 := blk_frozen BK369.out 0; have hfz19_1 := blk_frozen BK369.out 1; have hfz19_2 := blk_frozen BK369.out 2; have hfz19_3 := blk_frozen BK369.out 3) | ((with_reducible refine gate_callee (f := 10) rfl ?_); refine goesL_ (some 12) rfl rfl Tryd.func10 (by kernel_rfl) rfl #[.agg #[.int .i64 a0_0, .int .i64 a0_1, .int .i64 a0_2, .int .i64 a0_3], .string a1] rfl (by (try simp only [List.map_toArray, List.map_cons, List.map_nil]); first | done | rfl | (simp only [List.length_drop, List.length_take]; rfl)) ?_; (with_reducible refine (frame_Encode.calls a0_0 a0_1 a0_2 a0_3 a1 t371 t372 _ A5.out).mono ?_); rintro e w20 ⟨rfl, hb⟩; refine ⟨_, rfl, ?_⟩; have n0_ := Aside0.mk (blk_below (g := gb369) (o := .cells #[.int .i64 a0_0, .int .i64 a0_1, .int .i64 a0_2, .int .i64 a0_3] 23 (0, 0)) (by (with_reducible repeat (first | refine blk_drewN ?_ _ | refine blk_drew ?_ | refine blk_alloc ?_ _)); exact BK369.out) hb); have n1_ := Aside0.mk (below_step (by repeat (first | (with_reducible first | exact HB.out | apply below_alloc | apply pw_below_drewN | apply below_drew1 | refine below_set ?_ GE369.out) | exact HB.out)) hb); clear BK369; clear HB; have BK369 := n0_; have HB := n1_; clear n0_ n1_; (try clear hb); (try clear hb2); (try clear hk); (try clear hi)))
        have n0_ := Aside0.mk (blk_drew BK369.out)
        have n1_ := Aside0.mk (below_drew1 HB.out)
        clear BK369
        clear HB
        have BK369 := n0_
        have HB := n1_
        clear n0_ n1_
        refine start_ (n := 16) (S := fun w' => w'.cell? ⟨gb369, 0, none⟩ = some (.int .i64 a0_0) ∧ w'.cell? ⟨gb369, 1, none⟩ = some (.int .i64 a0_1) ∧ w'.cell? ⟨gb369, 2, none⟩ = some (.int .i64 a0_2) ∧ w'.cell? ⟨gb369, 3, none⟩ = some (.int .i64 a0_3)) (ds := []) (tfA 0 16) (by kernel_rfl) rfl rfl ⟨(blk_cell BK369.out 0).trans rfl, (blk_cell BK369.out 1).trans rfl, (blk_cell BK369.out 2).trans rfl, (blk_cell BK369.out 3).trans rfl⟩ (fun hHeld => ?_); refine with_tabW decklelaw05_FrameBack.tab6 decklelaw05_FrameBack.bits6 (fun HT_ HW_ => ?_)
        generalize w20.drew = w21 at BK369 HB hHeld ⊢
        refine pure_ (i := 0) (N := some 19) (v := ?_) (a' := ?_) (tfA 1 16) rfl rfl (any_of HT_.out (by kernel_rfl)) (fun _ _ _ h => h) (Or.inl ⟨by rfl, ?_⟩) ?_ ?_
        rotate_left
        · intro w'; go_simp; with_reducible rfl
        rotate_left
        · simp only [Act.put, sib, sc0, sc1, i64_w, i32_w]; rfl
        refine pure_ (i := 3) (N := some 22) (v := ?_) (a' := ?_) #[true, false, false, true, false, false, false, false, false, false, false, false, false, false, false, false] rfl rfl (any_of HT_.out (by kernel_rfl)) (fun _ _ _ h => h) (Or.inl ⟨by rfl, ?_⟩) ?_ ?_
        rotate_left
        · intro w'; go_simp; with_reducible rfl
        rotate_left
        · simp only [Act.put, sib, sc0, sc1, i64_w, i32_w]; rfl
        refine take_ (i := 2) (N := some 21) (v := ?_) (a' := ?_) #[true, false, true, true, false, false, false, false, false, false, false, false, false, false, false, false] rfl rfl (take_ofW HT_.out HW_.out (by kernel_rfl)) (fun _ _ _ h => h) (Or.inl ⟨by rfl, ?_⟩) hHeld ?_ ?_
        rotate_left
        · rintro w' ⟨s0, s1, s2, s3⟩
          go_simp
          with_reducible rfl
        rotate_left
        · simp only [Act.put, sib, sc0, sc1, i64_w, i32_w]
          rfl
        refine pure_ (i := 4) (N := some 23) (v := ?_) (a' := ?_) #[true, false, true, true, true, false, false, false, false, false, false, false, false, false, false, false] rfl rfl (any_of HT_.out (by kernel_rfl)) (fun _ _ _ h => h) (Or.inl ⟨by rfl, ?_⟩) ?_ ?_
        rotate_left
        · intro w'; go_simp; with_reducible rfl
        rotate_left
        · simp only [Act.put, sib, sc0, sc1, i64_w, i32_w]; rfl
        refine one_ (i := 1) (N := some 20) (tfA 5 16) rfl rfl (one_of HT_.out (by kernel_rfl)) (by decide) (fun K hK => ?_)
        refine goes_ Tryd.func12 (by kernel_rfl) rfl #[.string t371] (by rfl) rfl rfl (by (try simp only [List.map_toArray, List.map_cons, List.map_nil]); first | done | rfl | (simp only [List.length_drop, List.length_take]; rfl)) ?_
        with_reducible refine (frame_Decode.calls t371 t373 t374 t375 t376 t377 t378 _ A7.out).mono ?_
        rintro e w22 ⟨rfl, hb⟩
        refine ⟨_, rfl, ?_⟩
        have n0_ := Aside0.mk (blk_below (g := gb369) (o := .cells #[.int .i64 a0_0, .int .i64 a0_1, .int .i64 a0_2, .int .i64 a0_3] 23 (0, 0)) (by (with_reducible repeat (first | refine blk_drewN ?_ _ | refine blk_drew ?_ | refine blk_alloc ?_ _)); exact BK369.out) hb)
        have n1_ := Aside0.mk (below_step (by repeat (first | (with_reducible first | exact HB.out | apply below_alloc | apply pw_below_drewN | apply below_drew1 | refine below_set ?_ GE369.out) | exact HB.out)) hb)
        clear BK369
        clear HB
        have BK369 := n0_
        have HB := n1_
        clear n0_ n1_
        (try clear hb)
        (try clear hb2)
        (try clear hk)
        (try clear hi)
        refine hK.out _ _ ⟨(blk_cell BK369.out 0).trans rfl, (blk_cell BK369.out 1).trans rfl, (blk_cell BK369.out 2).trans rfl, (blk_cell BK369.out 3).trans rfl⟩ (fun hHeld => ?_)
        clear hK K
        refine norm_ (a' := ?_) ?_ ?_
        rotate_left
        · show Act.put _ (some 20) _ = _
          simp only [Act.put, sib, sc0, sc1, i64_w, i32_w]
          rfl
        refine pure_ (i := 5) (N := some 24) (v := ?_) (a' := ?_) (tfA 6 16) rfl rfl (any_of HT_.out (by kernel_rfl)) (fun _ _ _ h => h) (Or.inl ⟨by rfl, ?_⟩) ?_ ?_
        rotate_left
        · intro w'; go_simp; with_reducible rfl
        rotate_left
        · simp only [Act.put, sib, sc0, sc1, i64_w, i32_w]; rfl
        refine pure_ (i := 6) (N := some 25) (v := ?_) (a' := ?_) (tfA 7 16) rfl rfl (any_of HT_.out (by kernel_rfl)) (fun _ _ _ h => h) (Or.inl ⟨by rfl, ?_⟩) ?_ ?_
        rotate_left
        · intro w'; go_simp; with_reducible rfl
        rotate_left
        · simp only [Act.put, sib, sc0, sc1, i64_w, i32_w]; rfl
        refine pure_ (i := 7) (N := some 26) (v := undef) (a' := ?_) (tfA 8 16) rfl rfl (any_of HT_.out (by kernel_rfl)) (fun _ _ _ h => h) (Or.inr ⟨by rfl, rfl⟩) ?_ ?_
        rotate_left
        · simp only [Act.put, sib, sc0, sc1, i64_w, i32_w]
          rfl
        refine pure_ (i := 8) (N := some 27) (v := undef) (a' := ?_) (tfA 9 16) rfl rfl (any_of HT_.out (by kernel_rfl)) (fun _ _ _ h => h) (Or.inr ⟨by rfl, rfl⟩) ?_ ?_
        rotate_left
        · simp only [Act.put, sib, sc0, sc1, i64_w, i32_w]
          rfl
        refine pure_ (i := 9) (N := some 28) (v := undef) (a' := ?_) (tfA 10 16) rfl rfl (any_of HT_.out (by kernel_rfl)) (fun _ _ _ h => h) (Or.inr ⟨by rfl, rfl⟩) ?_ ?_
        rotate_left
        · simp only [Act.put, sib, sc0, sc1, i64_w, i32_w]
          rfl
        refine pure_ (i := 10) (N := some 29) (v := undef) (a' := ?_) (tfA 11 16) rfl rfl (any_of HT_.out (by kernel_rfl)) (fun _ _ _ h => h) (Or.inr ⟨by rfl, rfl⟩) ?_ ?_
        rotate_left
        · simp only [Act.put, sib, sc0, sc1, i64_w, i32_w]
          rfl
        refine pure_ (i := 11) (N := some 30) (v := undef) (a' := ?_) (tfA 12 16) rfl rfl (any_of HT_.out (by kernel_rfl)) (fun _ _ _ h => h) (Or.inr ⟨by rfl, rfl⟩) ?_ ?_
        rotate_left
        · simp only [Act.put, sib, sc0, sc1, i64_w, i32_w]
          rfl
        refine pure_ (i := 12) (N := some 31) (v := undef) (a' := ?_) (tfA 13 16) rfl rfl (any_of HT_.out (by kernel_rfl)) (fun _ _ _ h => h) (Or.inr ⟨by rfl, rfl⟩) ?_ ?_
        rotate_left
        · simp only [Act.put, sib, sc0, sc1, i64_w, i32_w]
          rfl
        refine pure_ (i := 13) (N := some 32) (v := undef) (a' := ?_) (tfA 14 16) rfl rfl (any_of HT_.out (by kernel_rfl)) (fun _ _ _ h => h) (Or.inr ⟨by rfl, rfl⟩) ?_ ?_
        rotate_left
        · simp only [Act.put, sib, sc0, sc1, i64_w, i32_w]
          rfl
        refine pure_ (i := 14) (N := some 33) (v := ?_) (a' := ?_) (tfA 15 16) rfl rfl (any_of HT_.out (by kernel_rfl)) (fun _ _ _ h => h) (Or.inl ⟨by rfl, ?_⟩) ?_ ?_
        rotate_left
        · intro w'; go_simp; with_reducible rfl
        rotate_left
        · simp only [Act.put, sib, sc0, sc1, i64_w, i32_w]; rfl
        refine pure_ (i := 15) (N := some 4) (v := ?_) (a' := ?_) (tfA 16 16) rfl rfl (any_of HT_.out (by kernel_rfl)) (fun _ _ _ h => h) (Or.inl ⟨by rfl, ?_⟩) ?_ ?_
        rotate_left
        · intro w'; go_simp; with_reducible rfl
        rotate_left
        · simp only [Act.put, sib, sc0, sc1, i64_w, i32_w]; rfl
        refine done_ (done_of HT_.out (by kernel_rfl)) ?_
        try go_wp2
        go_ret
        exact ⟨by first | rfl | (simp [errW_none, errW_some] <;> rfl) | (simp [*, errW_none, errW_some] <;> rfl), by repeat (first | (with_reducible first | exact HB.out | apply below_alloc | apply pw_below_drewN | apply below_drew1 | refine below_set ?_ GE369.out) | exact HB.out)⟩
    · rw [if_neg c6] at H
      have c6b0 : (t372 == 0) = false := beq_eq_false_iff_ne.mpr c6
      have c6b1 : (t372 != 0) = true := bne_iff_ne.mpr c6
      obtain rfl := Option.some.inj H
      go_enter Tryd.func6, Tryd.ntmps6
      go_wp2_with (first | ((with_reducible refine gate_dst (N := 2) rfl ?_); (try (refine gate_guard (by rfl) ?_; dsimp only)); refine box_event ?hg (N := 2) ?hd (cs := #[.int .i64 a0_0, .int .i64 a0_1, .int .i64 a0_2, .int .i64 a0_3]) (t := 23) ?hr ?_; (case hd => rfl); (case hg => rfl); (case hr => first | (go_simp; done) | (go_simp; rfl)); intro gb369 hg w23 hbox hb; have n0_ := Aside0.mk (below_step (by repeat (first | (with_reducible first | exact HB.out | apply below_alloc | apply pw_below_drewN | apply below_drew1) | exact HB.out)) hb); have n1_ := Aside0.mk (hbox); have n2_ := Aside0.mk ((by rw [hg]; exact (below_size (by repeat (first | (with_reducible first | exact HB.out | apply below_alloc | apply pw_below_drewN | apply below_drew1) | exact HB.out))) : w.heap.size ≤ gb369)); have n3_ := Aside0.mk ((by rw [hg]; exact (below_size (by repeat (first | (with_reducible first | exact HB.out | apply below_alloc | apply pw_below_drewN | apply below_drew1) | exact HB.out))) : w.heap.size ≤ gb369)); clear HB; have HB := n0_; have BK369 := n1_; have GW369 := n2_; have GE369 := n3_; clear n0_ n1_ n2_ n3_; clear hb hbox hg) | ((with_reducible refine gate_callee (f := 9) rfl ?_); refine goesL_ (some 7) rfl rfl Tryd.func9 (by kernel_rfl) rfl #[] rfl (by (try simp only [List.map_toArray, List.map_cons, List.map_nil]); first | done | rfl | (simp only [List.length_drop, List.length_take]; rfl)) ?_; (with_reducible refine (decklelaw05_works.calls  true _ A3.out).mono ?_); rintro e w24 ⟨rfl, hb⟩; refine ⟨_, rfl, ?_⟩; have n0_ := Aside0.mk (blk_below (g := gb369) (o := .cells #[.int .i64 a0_0, .int .i64 a0_1, .int .i64 a0_2, .int .i64 a0_3] 23 (0, 0)) (by (with_reducible repeat (first | refine blk_drewN ?_ _ | refine blk_drew ?_ | refine blk_alloc ?_ _)); exact BK369.out) hb); have n1_ := Aside0.mk (below_step (by repeat (first | (with_reducible first | exact HB.out | apply below_alloc | apply pw_below_drewN | apply below_drew1 | refine below_set ?_ GE369.out) | exact HB.out)) hb); clear BK369; clear HB; have BK369 := n0_; have HB := n1_; clear n0_ n1_; (try clear hb); (try clear hb2); (try clear hk); (try clear hi); have hcz25_0 : w24.cell? ⟨gb369, 0, none⟩ = some (.int .i64 a0_0) := (blk_cell BK369.out 0).trans rfl; have hcz25_1 : w24.cell? ⟨gb369, 1, none⟩ = some (.int .i64 a0_1) := (blk_cell BK369.out 1).trans rfl; have hcz25_2 : w24.cell? ⟨gb369, 2, none⟩ = some (.int .i64 a0_2) := (blk_cell BK369.out 2).trans rfl; have hcz25_3 : w24.cell? ⟨gb369, 3, none⟩ = some (.int .i64 a0_3) := (blk_cell BK369.out 3).trans rfl; have hfz25_0 := blk_frozen BK369.out 0; have hfz25_1 := blk_frozen BK369.out 1; have hfz25_2 := blk_frozen BK369.out 2; have hfz25_3 := blk_frozen BK369.out 3) | ((with_reducible refine gate_callee (f := 10) rfl ?_); refine goesL_ (some 12) rfl rfl Tryd.func10 (by kernel_rfl) rfl #[.agg #[.int .i64 a0_0, .int .i64 a0_1, .int .i64 a0_2, .int .i64 a0_3], .string a1] rfl (by (try simp only [List.map_toArray, List.map_cons, List.map_nil]); first | done | rfl | (simp only [List.length_drop, List.length_take]; rfl)) ?_; (with_reducible refine (frame_Encode.calls a0_0 a0_1 a0_2 a0_3 a1 t371 t372 _ A5.out).mono ?_); rintro e w26 ⟨rfl, hb⟩; refine ⟨_, rfl, ?_⟩; have n0_ := Aside0.mk (blk_below (g := gb369) (o := .cells #[.int .i64 a0_0, .int .i64 a0_1, .int .i64 a0_2, .int .i64 a0_3] 23 (0, 0)) (by (with_reducible repeat (first | refine blk_drewN ?_ _ | refine blk_drew ?_ | refine blk_alloc ?_ _)); exact BK369.out) hb); have n1_ := Aside0.mk (below_step (by repeat (first | (with_reducible first | exact HB.out | apply below_alloc | apply pw_below_drewN | apply below_drew1 | refine below_set ?_ GE369.out) | exact HB.out)) hb); clear BK369; clear HB; have BK369 := n0_; have HB := n1_; clear n0_ n1_; (try clear hb); (try clear hb2); (try clear hk); (try clear hi)))
      go_ret
      exact ⟨by first | rfl | (simp [errW_none, errW_some] <;> rfl) | (simp [*, errW_none, errW_some] <;> rfl), by repeat (first | (with_reducible first | exact HB.out | apply below_alloc | apply pw_below_drewN | apply below_drew1 | refine below_set ?_ GE369.out) | exact HB.out)⟩
  · replace c4 := Bool.eq_false_iff.mpr c4
    subst c4
    have H1 : (some false) = some r := by rw [if_neg (show ¬ (false = true) by decide)] at H; exact H
    clear H
    have H := H1
    clear H1
    obtain rfl := Option.some.inj H
    go_enter Tryd.func6, Tryd.ntmps6
    go_wp2_with (first | ((with_reducible refine gate_dst (N := 2) rfl ?_); (try (refine gate_guard (by rfl) ?_; dsimp only)); refine box_event ?hg (N := 2) ?hd (cs := #[.int .i64 a0_0, .int .i64 a0_1, .int .i64 a0_2, .int .i64 a0_3]) (t := 23) ?hr ?_; (case hd => rfl); (case hg => rfl); (case hr => first | (go_simp; done) | (go_simp; rfl)); intro gb369 hg w27 hbox hb; have n0_ := Aside0.mk (below_step (by repeat (first | (with_reducible first | exact HB.out | apply below_alloc | apply pw_below_drewN | apply below_drew1) | exact HB.out)) hb); have n1_ := Aside0.mk (hbox); have n2_ := Aside0.mk ((by rw [hg]; exact (below_size (by repeat (first | (with_reducible first | exact HB.out | apply below_alloc | apply pw_below_drewN | apply below_drew1) | exact HB.out))) : w.heap.size ≤ gb369)); have n3_ := Aside0.mk ((by rw [hg]; exact (below_size (by repeat (first | (with_reducible first | exact HB.out | apply below_alloc | apply pw_below_drewN | apply below_drew1) | exact HB.out))) : w.heap.size ≤ gb369)); clear HB; have HB := n0_; have BK369 := n1_; have GW369 := n2_; have GE369 := n3_; clear n0_ n1_ n2_ n3_; clear hb hbox hg) | ((with_reducible refine gate_callee (f := 9) rfl ?_); refine goesL_ (some 7) rfl rfl Tryd.func9 (by kernel_rfl) rfl #[] rfl (by (try simp only [List.map_toArray, List.map_cons, List.map_nil]); first | done | rfl | (simp only [List.length_drop, List.length_take]; rfl)) ?_; (with_reducible refine (decklelaw05_works.calls  false _ A3.out).mono ?_); rintro e w28 ⟨rfl, hb⟩; refine ⟨_, rfl, ?_⟩; have n0_ := Aside0.mk (blk_below (g := gb369) (o := .cells #[.int .i64 a0_0, .int .i64 a0_1, .int .i64 a0_2, .int .i64 a0_3] 23 (0, 0)) (by (with_reducible repeat (first | refine blk_drewN ?_ _ | refine blk_drew ?_ | refine blk_alloc ?_ _)); exact BK369.out) hb); have n1_ := Aside0.mk (below_step (by repeat (first | (with_reducible first | exact HB.out | apply below_alloc | apply pw_below_drewN | apply below_drew1 | refine below_set ?_ GE369.out) | exact HB.out)) hb); clear BK369; clear HB; have BK369 := n0_; have HB := n1_; clear n0_ n1_; (try clear hb); (try clear hb2); (try clear hk); (try clear hi)))
    go_ret
    exact ⟨by first | rfl | (simp [errW_none, errW_some] <;> rfl) | (simp [*, errW_none, errW_some] <;> rfl), by repeat (first | (with_reducible first | exact HB.out | apply below_alloc | apply pw_below_drewN | apply below_drew1 | refine below_set ?_ GE369.out) | exact HB.out)⟩

end Go.Proofs.YtbcgddacmjliaaaDoor.PF
end

section
/- Law FrameBack in plain Lean. -/
set_option linter.unusedVariables false
set_option linter.unusedSimpArgs false
namespace Go.Proofs.YtbcgddacmjliaaaDoor.PF
open Go.RowKit Go.Proofs.YtbcgddacmjliaaaDoor.Hw Go.Proofs.YtbcgddacmjliaaaDoorW.PrintWords Go.Proofs.YtbcgddacmjliaaaDoorW.PrintLast

end Go.Proofs.YtbcgddacmjliaaaDoor.PF
end

section
/- The document's tag and frame (Encode) in plain words: the same as the program's. -/
set_option linter.unusedVariables false
set_option linter.unusedSimpArgs false
namespace Go.Proofs.YtbcgddacmjliaaaDoor.PF
open Go.RowKit Go.Proofs.YtbcgddacmjliaaaDoor.Hw Go.Proofs.YtbcgddacmjliaaaDoorW.PrintWords Go.Proofs.YtbcgddacmjliaaaDoorW.PrintLast

theorem may4e_is (k l s e : Int) : deckleref04_May.f k l s e = some (mayT k l s e) := by
  unfold deckleref04_May.f mayT
  repeat' split
  all_goals first
    | exact congrArg some (decide_eq_false (by omega)).symm
    | exact congrArg some (decide_eq_decide.2 ⟨fun h => ⟨by omega, by omega, by omega, by omega⟩, fun h => by omega⟩)
theorem le_ints (v : Nat) (i : Nat) : strOfNums ((List.range i).map fun j => ((v / 256 ^ j % 256 : Nat) : Int)) = leStr (v : Int) i := by
  apply bext
  · rw [son_size, List.length_map, List.length_range, leStr_size]
  · intro j hj
    rw [son_size, List.length_map, List.length_range] at hj
    rw [bn_son, bn_le _ (by omega) _ _ hj, List.getD_eq_getElem?_getD, List.getElem?_map, List.getElem?_range hj]
    show ((v / 256 ^ j % 256 : Nat) : Int).toNat % 256 = (v : Int).toNat / 256 ^ j % 256
    rw [Int.toNat_natCast, Int.toNat_natCast, Nat.mod_mod]
theorem put_ref (v : Nat) (hv : v < 18446744073709551616) (n : Nat) (h8 : n ≤ 8) (hlt : v < 256 ^ n) : ∀ (d i k : Nat), i + d = n → deckleref01_Put.l0 (d + 1 + k) ((v / 256 ^ i : Nat) : Int) (n : Int) ((List.range i).map fun j => ((v / 256 ^ j % 256 : Nat) : Int)) (i : Int) = some (leStr (v : Int) n, 0)
  | 0, i, k, h => by
    obtain rfl : i = n := by omega
    rw [show 0 + 1 + k = k + 1 by omega, deckleref01_Put.l0, if_neg (by omega), Nat.div_eq_of_lt hlt, if_neg (by decide), le_ints]
  | d + 1, i, k, h => by
    have ih := put_ref v hv n h8 hlt d (i + 1) k (by omega)
    have hXY : v / 256 ^ (i + 1) = v / 256 ^ i / 256 := by rw [Nat.pow_succ, ← Nat.div_div_eq_div_mul]
    have hd : v / 256 ^ i ≤ v := Nat.div_le_self _ _
    rw [hXY, List.range_succ, List.map_append] at ih
    rw [show d + 1 + 1 + k = (d + 1 + k) + 1 by omega, deckleref01_Put.l0, if_pos (by omega), if_pos (by rw [List.length_map, List.length_range]; omega), w64' _ (by omega)]
    have e1 : IntKind.u64.wrap (Int.tdiv ((v / 256 ^ i : Nat) : Int) 256) = ((v / 256 ^ i / 256 : Nat) : Int) := by
      generalize v / 256 ^ i = X at *
      rw [Int.tdiv_eq_ediv_of_nonneg (by omega), show (X : Int) / 256 = ((X / 256 : Nat) : Int) by omega, wrap_u64_nat _ (by omega)]
    have e2 : (Int.tmod ((v / 256 ^ i : Nat) : Int) 256) % 256 = ((v / 256 ^ i % 256 : Nat) : Int) := by
      generalize v / 256 ^ i = X at *
      rw [Int.tmod_eq_emod_of_nonneg (by omega)]; omega
    rw [e1, e2]
    rw [show ((i + 1 : Nat) : Int) = (i : Int) + 1 by omega] at ih
    exact ih
theorem number4_is (a : Int) (n : Nat) (h0 : 0 ≤ a) (hn : 1 ≤ n) (hn8 : n ≤ 7) (h1 : a < 2 ^ (n * 8)) (k : Nat) (hk : 20 ≤ k) : deckleref04_Number.f k a n = some (leStr a n) := by
  obtain ⟨v, rfl⟩ := Int.eq_ofNat_of_zero_le h0
  have hp : (2 : Nat) ^ (n * 8) ≤ 2 ^ (7 * 8) := Nat.pow_le_pow_right (by decide) (by omega)
  have q : (2 : Nat) ^ (7 * 8) = 72057594037927936 := by decide
  have hv : v < 2 ^ (n * 8) := by exact_mod_cast h1
  have h256 : v < 256 ^ n := by rw [show (256 : Nat) = 2 ^ 8 from rfl, ← Nat.pow_mul, Nat.mul_comm]; exact hv
  obtain ⟨k, rfl⟩ : ∃ q, k = n + 1 + 1 + q := ⟨k - (n + 2), by omega⟩
  have := put_ref v (by omega) n (by omega) h256 n 0 k (by omega)
  rw [Nat.pow_zero, Nat.div_one] at this
  unfold deckleref04_Number.f deckleref01_Put.f
  rw [if_neg (by omega), show decide ((n : Int) > 8) = false from decide_eq_false (by omega), wrap_u64_nat v (by omega), show n + 1 + 1 + k = (n + 1 + k) + 1 by omega, deckleref01_Put.j0, if_neg (by decide)]
  rw [show ((List.range 0).map fun j => ((v / 256 ^ j % 256 : Nat) : Int)) = ([] : List Int) from rfl, show ((0 : Nat) : Int) = 0 from rfl] at this
  rw [this, Option.bind_some]
theorem enc4_is (k l s e : Int) (q : Nat) (hq : 20 ≤ q) : deckleref04_Encode.f q k l s e = some (if mayT k l s e = true then (strOfNums (tagInts k l s e), 0) else (⟨#[]⟩, 1)) := by
  unfold deckleref04_Encode.f
  rw [may4e_is, Option.bind_some]
  by_cases hm : mayT k l s e = true
  · have h := of_decide_eq_true hm
    have hk : k % 256 = k := by omega
    have q2 : (2 : Int) ^ (2 * 8) = 65536 := by decide
    have z2 : (strOfNums ([27, k] : List Int)).size = 2 := son_size _
    have z0 : (strOfNums ([0, 0] : List Int)).size = 2 := son_size _
    rw [if_pos hm, if_pos hm, Option.bind_some, hk, show (2 : Int) = ((2 : Nat) : Int) from rfl, number4_is l 2 (by omega) (by decide) (by decide) (by omega) q hq, Option.bind_some, z2, leStr_size, if_pos (by decide), show (6 : Int) = ((6 : Nat) : Int) from rfl]
    have q6 : (2 : Int) ^ (6 * 8) = 281474976710656 := by decide
    have q4 : (2 : Int) ^ (4 * 8) = 4294967296 := by decide
    rw [number4_is s 6 (by omega) (by decide) (by decide) (by omega) q hq, Option.bind_some, ByteArray.size_append, z2, leStr_size, leStr_size, if_pos (by decide), show (4 : Int) = ((4 : Nat) : Int) from rfl]
    rw [number4_is e 4 (by omega) (by decide) (by decide) (by omega) q hq, Option.bind_some, ByteArray.size_append, ByteArray.size_append, z2, leStr_size, leStr_size, leStr_size, if_pos (by decide), Option.bind_some, ByteArray.size_append, ByteArray.size_append, ByteArray.size_append, z2, leStr_size, leStr_size, leStr_size, z0, if_pos (by decide), tag_bytes]
  · rw [if_neg hm, if_neg hm]
/-- The page's bytes. -/
theorem enc5_loop (all : ByteArray) (n : Nat) (ha : all.size = 8 * n) (hn : n ≤ 1000) : ∀ (d j k : Nat), j + d = n → 300 ≤ k → deckleref05_Encode.l0 (d + 1 + k) all (encs all j) ((8 * j : Nat) : Int) = some (encs all n, 0)
  | 0, j, k, h, hk => by
    obtain rfl : j = n := by omega
    rw [show 0 + 1 + k = k + 1 by omega, deckleref05_Encode.l0, w64' _ (by omega), if_neg (by omega)]
  | d + 1, j, k, h, hk => by
    have ih := enc5_loop all n ha hn d (j + 1) k (by omega) hk
    have hz := encs_size all j (by omega)
    have h8 : (all.extract (8 * j) (8 * j + 8)).size = 8 := by rw [size_extract' _ _ _ (by omega)]; omega
    have h9 := enc9_size _ h8
    rw [show d + 1 + 1 + k = (d + 1 + k) + 1 by omega, deckleref05_Encode.l0, w64' _ (by omega), if_pos (by omega), if_pos (by omega), if_pos (by omega), show (((8 * j : Nat) : Int) + 8).toNat = 8 * j + 8 by omega, Int.toNat_natCast, refenc_is _ h8 _ (by omega), Option.bind_some, hz, h9, if_pos (by omega)]
    rw [show ((8 * (j + 1) : Nat) : Int) = ((8 * j : Nat) : Int) + 8 by omega] at ih
    exact ih
theorem may5_is (n : Int) : deckleref05_May.f n = some (mayB n) := may_is n
theorem enc5_is (k l s e : Int) (d : ByteArray) (q : Nat) (hq : 500000 ≤ q) : deckleref05_Encode.f q k l s e d = frame_Encode.f k l s e d := by
  rw [frame_enc]
  unfold deckleref05_Encode.f
  rw [may5_is, Option.bind_some]
  by_cases hm : mayB d.size = true
  · have hb := of_decide_eq_true hm
    rw [if_pos hm, if_pos hm, enc4_is _ _ _ _ q (by omega), Option.bind_some]
    by_cases ht : mayT k l s e = true
    · have hz : (strOfNums (tagInts k l s e)).size = 16 := tag_size k l s e
      have hzd : (strOfNums (tagInts k l s e) ++ d).size = d.size + 16 := by rw [ByteArray.size_append, hz]; omega
      have hs2 : (strOfNums (tagInts k l s e) ++ d ++ sum4 (strOfNums (tagInts k l s e) ++ d)).size = d.size + 20 := by rw [ByteArray.size_append, sum4_size, hzd]
      have h4 : (strOfNums ([0, 0, 0, 0] : List Int)).size = 4 := son_size _
      have e4 : strOfNums ([0, 0, 0, 0] : List Int) = zero4 := rfl
      rw [if_pos ht, if_pos ht, if_pos (by rfl), hz, if_pos (by omega), refseal_is (strOfNums (tagInts k l s e) ++ d) (by omega) q (by omega), Option.bind_some, Option.bind_some, hs2, h4, if_pos (by omega), e4]
      have := enc5_loop (allOf k l s e d) ((d.size + 24) / 8) (by rw [allOf_size]; omega) (by omega) ((d.size + 24) / 8) 0 (q - ((d.size + 24) / 8 + 1)) (by omega) (by omega)
      rw [show (d.size + 24) / 8 + 1 + (q - ((d.size + 24) / 8 + 1)) = q by omega] at this
      exact this
    · rw [if_neg ht, if_neg ht, if_neg (by decide)]
  · rw [if_neg hm, if_neg hm]
/-- FrameEncodes. -/
theorem frameEncodes_true (k l s e : Int) (d : ByteArray) : ∃ q, decklelaw05_FrameEncodes.f q k l s e d = some true := by
  refine ⟨500000, ?_⟩
  unfold decklelaw05_FrameEncodes.f
  rw [works_true, Option.bind_some, enc5_is k l s e d _ (Nat.le_refl _)]
  by_cases h : (d.size : Int) > 1000
  · rw [if_pos h]
  · rw [if_neg h]
    obtain ⟨r, hr⟩ : ∃ r, frame_Encode.f k l s e d = some r := ⟨_, frame_enc k l s e d⟩
    rw [hr, Option.bind_some, Option.bind_some, if_pos rfl, if_pos rfl]
end Go.Proofs.YtbcgddacmjliaaaDoor.PF
end
