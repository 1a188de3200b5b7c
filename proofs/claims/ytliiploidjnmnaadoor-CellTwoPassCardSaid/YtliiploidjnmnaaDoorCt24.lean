/- The law's proof: words, contracts of the functions that it reaches, plain lemmas. -/
import Derived.ArgAppend
import Derived.Below
import Derived.BigQuiet
import Derived.Carry
import Derived.Deep.AppendLies
import Derived.Deep.CutBlock
import Derived.Deep.DeepCutAuto
import Derived.Deep.Draws
import Derived.Deep.LoopGhost
import Derived.Deep.OwnRows
import Derived.Deep.QuietTactic
import Derived.Deep.RegionHeld3
import Derived.Deep.RegionWith
import Derived.KernelRfl
import Derived.Laws.BitsLemmas
import Derived.Laws.BytesArg
import Derived.Laws.IdiomCopy
import Derived.Laws.MakeOwn
import Derived.Laws.OwnMore
import Derived.Laws.Rows
import Derived.Laws.Slices
import Derived.Lib.AppendStr
import Derived.Lib.BufferMore
import Derived.Lib.ConvBytes
import Derived.Lib.Hide
import Derived.Lib.LazyBuf
import Derived.Maps.AppendAt
import Derived.OpenShut
import Derived.OrdersHeld
import Derived.Outline
import Derived.OwnWalk
import Derived.OwnWalkIn
import Derived.RegionTactic
import Derived.RowKit3
import Derived.StillTailTactics
import Derived.Tactics
import Derived.WalkKit
import Derived.WideLaws
import Derived.RegionIn
import Derived.ControlIn
import Derived.Sort.CutIn
import Derived.WalkMore
import Derived.Test.YtliiploidjnmnaaDoorCt3
import Derived.Test.YtliiploidjnmnaaDoorCt1
import Derived.Test.YtliiploidjnmnaaDoorCt9
import Derived.Test.YtliiploidjnmnaaDoorCt16
import Derived.Test.YtliiploidjnmnaaDoorCt23
import Derived.Test.YtliiploidjnmnaaDoorCt17
import Derived.Test.YtliiploidjnmnaaDoorCt19
import Derived.Test.YtliiploidjnmnaaDoorCt7
import Derived.Test.YtliiploidjnmnaaDoorCt15
import Derived.Test.YtliiploidjnmnaaDoorCt20
import Derived.Test.YtliiploidjnmnaaDoorCt18
section
/- frame.Decode: what bytes are. -/
set_option linter.unusedVariables false
set_option linter.unusedSimpArgs false
namespace Go.Proofs.YtliiploidjnmnaaDoor.PF
open Go.RowKit Go.Shelf Go.Proofs.YtliiploidjnmnaaDoorW.PrintWords Go.Proofs.YtliiploidjnmnaaDoor.Mem Go.Proofs.YtliiploidjnmnaaDoor.Own Go.Proofs.YtliiploidjnmnaaDoor.Rng Go.Proofs.YtliiploidjnmnaaDoor.Hw

attribute [local go_sem] Oper.semAt_some
/-- The first j chunks: what they hold, what they are, and whether one is bad. -/
def decAt (s : ByteArray) : Nat → Option (ByteArray × Int × Bool)
  | 0 => some (⟨#[]⟩, 2, false)
  | j + 1 => (decAt s j).bind fun x => if x.2.2 = true then some x else (ham_Decode.f 40 (chk s j)).bind fun d => if d.2.1 = 4 then some (x.1, 4, true) else if x.1.size + d.1.size ≤ 140737488355328 then some (x.1 ++ d.1, if d.2.1 = 3 then 3 else x.2.1, false) else none
theorem decAt_le {s : ByteArray} (i : Nat) : ∀ (n : Nat) (r : ByteArray × Int × Bool), decAt s n = some r → i ≤ n → ∃ q, decAt s i = some q ∧ (q.2.2 = true → r = q)
  | 0, r, h, hi => ⟨r, by rw [Nat.le_zero.1 hi]; exact h, fun _ => rfl⟩
  | n + 1, r, h, hi => by
    rcases Nat.lt_or_ge n i with h1 | h1
    · have : i = n + 1 := by omega
      exact ⟨r, by rw [this]; exact h, fun _ => rfl⟩
    · obtain ⟨b, hb, h⟩ := Option.bind_eq_some_iff.mp h
      obtain ⟨q, hq, hr⟩ := decAt_le i n b hb h1
      refine ⟨q, hq, fun e => ?_⟩
      have := hr e
      subst this
      rw [if_pos e] at h
      exact (Option.some.inj h).symm
theorem decAt_step {s : ByteArray} {k n : Nat} {r : ByteArray × Int × Bool} {x : ByteArray} {wh : Int} (h : decAt s n = some r) (hk : k < n) (hI : decAt s k = some (x, wh, false)) :
    ∃ d is e, ham_Decode.f 40 (chk s k) = some (d, is, e) ∧ (is = 4 → r = (x, 4, true)) ∧ (is ≠ 4 → x.size + d.size ≤ 140737488355328 ∧ decAt s (k + 1) = some (x ++ d, if is = 3 then 3 else wh, false)) := by
  obtain ⟨q, hq, hr⟩ := decAt_le (k + 1) n r h hk
  have hq0 := hq
  obtain ⟨b, hb, hq⟩ := Option.bind_eq_some_iff.mp hq
  obtain rfl : (x, wh, false) = b := Option.some.inj (hI.symm.trans hb)
  rw [if_neg (by simp)] at hq
  obtain ⟨⟨d, is, e⟩, hd, hq⟩ := Option.bind_eq_some_iff.mp hq
  refine ⟨d, is, e, hd, fun h4 => ?_, fun h4 => ?_⟩
  · rw [if_pos h4] at hq
    have hq := (Option.some.inj hq).symm
    rw [hr (by rw [hq]), hq]
  · rw [if_neg h4] at hq
    by_cases hl : x.size + d.size ≤ 140737488355328
    · rw [if_pos hl] at hq
      exact ⟨hl, by rw [hq0, ← hq]⟩
    · rw [if_neg hl] at hq
      cases hq
abbrev Page6 := Int × Int × Int × Int × Int × ByteArray
def frame_Decode.f (s : ByteArray) : Option Page6 := if s.size ≤ 1000000 then (if s.size % 9 ≠ 0 ∨ s.size / 9 < 4 ∨ 35 < s.size / 9 then some (4, 0, 0, 0, 0, ⟨#[]⟩) else
  (frame_erased.f s).bind fun er => if er = true then some (1, 0, 0, 0, 0, ⟨#[]⟩) else (decAt s (s.size / 9)).bind fun x => if x.2.2 = true then some (4, 0, 0, 0, 0, ⟨#[]⟩) else if x.1.size = 0 then none else frame_whole.f 40 x.1 x.2.1) else none
abbrev Pg6 (g : Nat) (a b c d e : Int) (x : ByteArray) : Asn := Pt g (.cells #[.int .i64 a, .int .i64 b, .int .i64 c, .int .i64 d, .int .i64 e, .string x] 57)
abbrev BoxI (g : Nat) (a : Int) : Asn := Pt g (.cells #[.int .i64 a] 3)
theorem set6 {w0 w : World} {L : List Asn} {g : Nat} {T : TypeId} {a b c d e f : Value} (h : Own.Own w0 w (Pt g (.cells #[a, b, c, d, e, f] T (0, 0)) :: L)) (u1 u2 u3 u4 u5 u6 : Value) :
    Own.Own w0 ((((((w.setCell ⟨g, 0, none⟩ u1).setCell ⟨g, 1, none⟩ u2).setCell ⟨g, 2, none⟩ u3).setCell ⟨g, 3, none⟩ u4).setCell ⟨g, 4, none⟩ u5).setCell ⟨g, 5, none⟩ u6) (Pt g (.cells #[u1, u2, u3, u4, u5, u6] T (0, 0)) :: L) :=
  ((((((h.set (i := 0) u1).set (i := 1) u2).set (i := 2) u3).set (i := 3) u4).set (i := 4) u5).set (i := 5) u6)
def accD (s : ByteArray) (k : Nat) : ByteArray := ((decAt s k).getD (⟨#[]⟩, 2, false)).1
def whD (s : ByteArray) (k : Nat) : Int := ((decAt s k).getD (⟨#[]⟩, 2, false)).2.1
abbrev restD (BB B6 B3 B2 : Nat) (s : ByteArray) (k : Nat) : List Asn := [BldA BB (accD s k), BoxI B6 (whD s k), Pg6 B3 4 0 0 0 0 ⟨#[]⟩, Pg6 B2 0 0 0 0 0 ⟨#[]⟩]
def InvD (s : ByteArray) (k : Nat) : Prop := ∃ x wh, decAt s k = some (x, wh, false) ∧ (wh = 2 ∨ wh = 3)
theorem inv_acc {s : ByteArray} {k : Nat} {x : ByteArray} {wh : Int} {b : Bool} (h : decAt s k = some (x, wh, b)) : accD s k = x ∧ whD s k = wh := by unfold accD whD; rw [h]; exact ⟨rfl, rfl⟩
theorem own_ne {w0 w : World} {g h : Nat} {o o2 : Obj} {L : List Asn} (H : Own.Own w0 w (Pt g o :: Pt h o2 :: L)) : g ≠ h := by
  obtain ⟨_, S, ⟨S1, S2, ⟨_, h1⟩, ⟨S3, S4, ⟨_, h3⟩, _, _, i3, _⟩, d, _, _⟩, _⟩ := H
  rintro rfl
  exact d _ h1 (i3 _ h3)
/-- What the function's result cell holds. -/
theorem page_res {w0 W : World} {L : List Asn} {B2 : Nat} {a b c d e : Int} {x : ByteArray} {tmps : Array Value} (hp : Own.Own w0 W (Pg6 B2 a b c d e x :: L)) (ht : tmps[2]? = some (.pointer (some ⟨B2, 0, none⟩))) :
    (results Tryd.f24 tmps).run Tryd.prog W = .ok (.agg #[.int .i64 a, .int .i64 b, .int .i64 c, .int .i64 d, .int .i64 e, .string x]) W := by
  obtain ⟨y0, y1, y2, y3, y4, y5⟩ := cells6 hp.pt
  have hu30 := Tryd.underlying57
  have hu23 := Tryd.underlying55
  simp [results, Tryd.results24, go_sem, ht, y0, y1, y2, y3, y4, y5]
set_option maxHeartbeats 4000000 in
set_option maxRecDepth 100000 in
theorem frame_Decode.calls (s : ByteArray) (r1 r2 r3 r4 r5 : Int) (r6 : ByteArray) (w : World) (h : frame_Decode.f s = some (r1, r2, r3, r4, r5, r6)) (HL : Aside0 (Laid w) := by first | exact HL | exact Hw.laid_at HL (by repeat (first | (with_reducible first | exact HB.out | apply below_alloc | apply pw_below_drewN | apply below_drew1) | exact HB.out | exact Below.refl _ _ | refine below_set ?_ (by apply Aside0.out; assumption)))) :
    Calls Tryd.prog 24 #[.string s] w fun e w' => e = .returned (.agg #[.int .i64 r1, .int .i64 r2, .int .i64 r3, .int .i64 r4, .int .i64 r5, .string r6]) ∧ Below w.heap.size w w' := by
  unfold frame_Decode.f at h
  by_cases hs : s.size ≤ 1000000
  · rw [if_pos hs] at h
    have ha := ((Own.Own.new w).alloc (.cells #[.int .i64 0, .int .i64 0, .int .i64 0, .int .i64 0, .int .i64 0, .string ⟨#[]⟩] 57)).alloc (.cells #[.int .i64 4, .int .i64 0, .int .i64 0, .int .i64 0, .int .i64 0, .string ⟨#[]⟩] 57)
    rw [World.size_alloc] at ha
    obtain ⟨B2, hB2⟩ : ∃ B2, B2 = w.heap.size := ⟨_, rfl⟩
    obtain ⟨B3, hB3⟩ : ∃ B3, B3 = w.heap.size + 1 := ⟨_, rfl⟩
    rw [← hB3, ← hB2] at ha
    have HO := Aside0.mk ha
    have HB2 := Lib.hid hB2
    have HB3 := Lib.hid hB3
    have HS := Lib.hid hs
    obtain ⟨n, hn⟩ : ∃ n : Nat, n = s.size / 9 := ⟨_, rfl⟩
    obtain ⟨m, hm⟩ : ∃ m : Nat, m = s.size % 9 := ⟨_, rfl⟩
    rw [← hn, ← hm] at h
    have q1 : Int.tdiv (s.size : Int) 9 = (n : Int) := by rw [Int.tdiv_eq_ediv_of_nonneg (by omega)]; omega
    have q2 : Int.tmod (s.size : Int) 9 = (m : Int) := by rw [Int.tmod_eq_emod_of_nonneg (by omega)]; omega
    clear ha hs hB2 hB3
    refine (callsIn_wide (n := 3)).1 ?_
    refine callsIn_of_wp_marks Tryd.func24 rfl trivial ?_ rfl
    simp only [Tryd.ntmps24, List.size_toArray, List.length_cons, List.length_nil, Nat.reduceAdd, Nat.reduceSub, Array.replicate_succ, Array.replicate_zero, List.push_toArray, List.append_toArray, List.nil_append, List.cons_append]
    refine wpIn_wide.2 ?_
    have hu30 := Tryd.underlying57
    have hu23 := Tryd.underlying55
    go_wp2_with fail
    apply wp_scope_straight
    go_upto_region 2 with (fail)
    rw [← HB3.out, ← HB2.out]
    have hOO := HO.out
    clear HO
    generalize hW : World.alloc _ _ = w2 at hOO ⊢
    clear hW
    have HO := Aside0.mk hOO
    clear hOO
    by_cases hbad : m ≠ 0 ∨ n < 4 ∨ 35 < n
    · rw [if_pos hbad] at h
      simp only [Option.some.injEq, Prod.mk.injEq] at h
      obtain ⟨rfl, rfl, rfl, rfl, rfl, rfl⟩ := h
      obtain ⟨x0, x1, x2, x3, x4, x5⟩ := cells6 HO.out.pt
      have wn : wrap64 (n : Int) = (n : Int) := by unfold wrap64; have := HS.out; omega
      have wn2 : IntKind.i64.wrap (n : Int) = (n : Int) := (Go.Proofs.YtliiploidjnmnaaDoorW.PrintLast.i64_w _).trans wn
      have hlt := blk_lt HO.out.drop.pt
      have g0 := blk_frozen HO.out.drop.pt 0
      have g1 := blk_frozen HO.out.drop.pt 1
      have g2 := blk_frozen HO.out.drop.pt 2
      have g3 := blk_frozen HO.out.drop.pt 3
      have g4 := blk_frozen HO.out.drop.pt 4
      have g5 := blk_frozen HO.out.drop.pt 5
      have z0 := blk_cell HO.out.drop.pt 0
      have z1 := blk_cell HO.out.drop.pt 1
      have z2 := blk_cell HO.out.drop.pt 2
      have z3 := blk_cell HO.out.drop.pt 3
      have z4 := blk_cell HO.out.drop.pt 4
      have z5 := blk_cell HO.out.drop.pt 5
      simp only [List.getElem?_toArray, List.getElem?_cons_zero, List.getElem?_cons_succ] at z0 z1 z2 z3 z4 z5
      by_cases e1 : m = 0
      · have c2 : ((m : Int) != 0) = false := by subst e1; rfl
        by_cases e2 : n < 4
        · have d1 : decide ((n : Int) < 4) = true := decide_eq_true (by omega)
          clear hbad hn hm
          go_wp2_with fail
          rw [Exit.noGoto_ret]
          have hp := set6 HO.out.pull2 (.int .i64 4) (.int .i64 0) (.int .i64 0) (.int .i64 0) (.int .i64 0) (.string ⟨#[]⟩)
          exact ⟨_, page_res hp rfl, rfl, hp.below⟩
        · have d1 : decide ((n : Int) < 4) = false := decide_eq_false (by omega)
          have d2 : decide (35 < (n : Int)) = true := decide_eq_true (by omega)
          clear hbad hn hm
          go_wp2_with fail
          rw [Exit.noGoto_ret]
          have hp := set6 HO.out.pull2 (.int .i64 4) (.int .i64 0) (.int .i64 0) (.int .i64 0) (.int .i64 0) (.string ⟨#[]⟩)
          exact ⟨_, page_res hp rfl, rfl, hp.below⟩
      · have c2 : ((m : Int) != 0) = true := by simp; omega
        clear hbad hn hm
        go_wp2_with fail
        rw [Exit.noGoto_ret]
        have hp := set6 HO.out.pull2 (.int .i64 4) (.int .i64 0) (.int .i64 0) (.int .i64 0) (.int .i64 0) (.string ⟨#[]⟩)
        exact ⟨_, page_res hp rfl, rfl, hp.below⟩
    · rw [if_neg hbad] at h
      obtain ⟨er, her, h⟩ := Option.bind_eq_some_iff.mp h
      have m0 : m = 0 := by omega
      have n4 : 4 ≤ n := by omega
      have n35 : n ≤ 35 := by omega
      clear hbad
      subst m0
      have wn : wrap64 (n : Int) = (n : Int) := by unfold wrap64; have := HS.out; omega
      have wn2 : IntKind.i64.wrap (n : Int) = (n : Int) := (Go.Proofs.YtliiploidjnmnaaDoorW.PrintLast.i64_w _).trans wn
      have c2 : (((0 : Nat) : Int) != 0) = false := rfl
      have d1 : decide ((n : Int) < 4) = false := decide_eq_false (by omega)
      have d2 : decide (35 < (n : Int)) = false := decide_eq_false (by omega)
      have HE := Aside0.mk her
      have HN := Lib.hid hn
      clear her hm hn
      go_wp2_with fail
      refine (frame_erased.calls s er _ HE.out (Hw.laid_at HL HO.out.below)).mono ?_
      rintro e w3 ⟨rfl, hb⟩
      have HP := Aside0.mk (HO.out.move hb)
      clear hb HO
      cases er with
      | true =>
        rw [if_pos rfl] at h
        simp only [Option.some.injEq, Prod.mk.injEq] at h
        obtain ⟨rfl, rfl, rfl, rfl, rfl, rfl⟩ := h
        have hlt := blk_lt HP.out.drop.pt
        have g0 := blk_frozen HP.out.drop.pt 0
        have g1 := blk_frozen HP.out.drop.pt 1
        have g2 := blk_frozen HP.out.drop.pt 2
        have g3 := blk_frozen HP.out.drop.pt 3
        have g4 := blk_frozen HP.out.drop.pt 4
        have g5 := blk_frozen HP.out.drop.pt 5
        have z0 := blk_cell HP.out.drop.pt 0
        have z1 := blk_cell HP.out.drop.pt 1
        have z2 := blk_cell HP.out.drop.pt 2
        have z3 := blk_cell HP.out.drop.pt 3
        have z4 := blk_cell HP.out.drop.pt 4
        have z5 := blk_cell HP.out.drop.pt 5
        simp only [List.getElem?_toArray, List.getElem?_cons_zero, List.getElem?_cons_succ] at z0 z1 z2 z3 z4 z5
        go_wp2_with fail
        rw [Exit.noGoto_ret]
        have hp := set6 HP.out.pull2 (.int .i64 1) (.int .i64 0) (.int .i64 0) (.int .i64 0) (.int .i64 0) (.string ⟨#[]⟩)
        exact ⟨_, page_res hp rfl, rfl, hp.below⟩
      | false =>
        rw [if_neg (by decide)] at h
        obtain ⟨⟨x, wh, bad⟩, hx, h⟩ := Option.bind_eq_some_iff.mp h
        have HX := Aside0.mk hx
        have HH := Aside0.mk h
        clear hx h
        go_upto_region 9 with (fail)
        have ho := (own_bld HP.out).alloc (.cells #[.int .i64 2] 3)
        rw [World.size_alloc] at ho
        obtain ⟨BB, hBB⟩ : ∃ B, B = w3.heap.size := ⟨_, rfl⟩
        obtain ⟨B6, hB6⟩ : ∃ B, B = w3.heap.size + 1 := ⟨_, rfl⟩
        rw [← hB6, ← hBB] at ho
        rw [← hB6, ← hBB]
        clear HP hB6 hBB
        generalize hW : World.alloc _ _ = w4 at ho ⊢
        clear hW
        have HQ := Aside0.mk (own_swap [_] [_] ho)
        clear ho
        go_wp2_with fail
        apply wp_label
        go_wp2_with fail
        refine (chunks_own s HQ.out).mono ?_
        rintro e w5 ⟨b, rfl, ho⟩
        have HF := Aside0.mk (show Own.Own w w5 (ChL b s (restD BB B6 B3 B2 s) 0) from ho)
        clear ho HQ
        go_wp2_with fail
        have hx2 : decAt s (s.size / 9) = some (x, wh, bad) := by rw [← HN.out]; exact HX.out
        clear HX
        have HX := Aside0.mk hx2
        clear hx2
        refine (wpIn_wide (n := 3)).1 ?_
        refine wp_range_loop (n := 3) (by omega) (gf := 71) (lb := #[.pointer (some ⟨b, 0, none⟩)]) rfl (enters_of Tryd.func71 (by kernel_rfl) rfl) (fun _ => rfl)
          (chunks_iter w b s HS.out (restD BB B6 B3 B2 s) (InvD s) ⟨_, _, rfl, .inl rfl⟩) HF.out
          (fun c L => c = .exit 0 ∧ bad = true ∧ ∃ x0, L = [BoxS b s, BldA BB x0, BoxI B6 4, Pg6 B3 4 0 0 0 0 ⟨#[]⟩, Pg6 B2 0 0 0 0 0 ⟨#[]⟩]) ?round ?done ?stop
        case round =>
          rintro l D o k c Lk W ⟨q0, rfl⟩ ⟨hk, hc, rfl, x0, w0, hI, hw⟩ hO
          subst hc
          obtain ⟨dd, is, ee, hd, h4, h5⟩ := decAt_step HX.out hk hI
          obtain ⟨ia, iw⟩ := inv_acc hI
          have hO2 : Own.Own w W (Dfr D :: Pt l (.loop q0) :: BoxS b s :: [BldA BB (accD s k), BoxI B6 (whD s k), Pg6 B3 4 0 0 0 0 ⟨#[]⟩, Pg6 B2 0 0 0 0 0 ⟨#[]⟩]) := hO
          rw [ia, iw] at hO2
          have HD := Aside0.mk hd
          have H4 := Aside0.mk h4
          have H5 := Aside0.mk h5
          have HW' := Lib.hid hw
          clear hd h4 h5 hI ia iw hO hw
          gi_wp2_with (fail)
          refine ⟨_, hO2, ?_⟩
          rintro o2 W2 ⟨q2, rfl⟩ h2
          gi_wp2_with (fail)
          refine ⟨trivial, ?_⟩
          gi_at_call 55
          refine (CallsIn.inRound l (callsIn_wide.2 (ham_Decode.calls 40 _ _ _ _ _ HD.out (Hw.laid_at HL h2.below)))).mono ?_
          rintro e w6 ⟨rfl, hb⟩
          have HC := Aside0.mk (h2.move hb)
          clear h2 hb hO2
          have z0 := blk_cell HC.out.drop.drop.drop.drop.pt 0
          have g0 := blk_frozen HC.out.drop.drop.drop.drop.pt 0
          simp only [List.getElem?_toArray, List.getElem?_cons_zero] at z0
          by_cases e4 : is = 4
          · have c4 : (is == 4) = true := by simpa using e4
            have hb1 : bad = true := by have := H4.out e4; simp only [Prod.mk.injEq] at this; exact this.2.2
            subst e4
            gi_wp2_with (fail)
            have hq := own_swap [_] [_, _, _, _] ((own_swap [_, _, _, _] [_] HC.out).set (i := 0) (.int .i64 4))
            exact ⟨_, ⟨rfl, hb1, _, rfl⟩, hq⟩
          · have c4 : (is == 4) = false := by simpa using e4
            obtain ⟨h6, h7⟩ := H5.out e4
            have H6 := Lib.hid h6
            have H7 := Aside0.mk h7
            obtain ⟨ia, iw⟩ := inv_acc h7
            have IA := Lib.hid ia
            have IW := Lib.hid iw
            have aw : ∀ v : Int, Away [Dfr D, Pt l (.loop q2), BoxS b s, BoxI B6 v, Pg6 B3 4 0 0 0 0 ⟨#[]⟩, Pg6 B2 0 0 0 0 0 ⟨#[]⟩] := fun v => Away.cons (away_pt (by intro c fz e; cases e)) (Away.cons (away_pt (by intro c fz e; cases e)) (Away.cons (away_pt (by intro c fz e; cases e)) (Away.cons (away_pt (by intro c fz e; cases e)) (Away.cons (away_pt (by intro c fz e; cases e)) (Away.cons (away_pt (by intro c fz e; cases e)) Away.nil)))))
            clear h6 h7 ia iw
            by_cases e3 : is = 3
            · subst e3
              have hq := own_swap [_] [_, _, _, _] ((own_swap [_, _, _, _] [_] HC.out).set (i := 0) (.int .i64 3))
              have HQ := Aside0.mk (own_swap [_, _, _] [_] hq)
              clear hq HC
              gi_wp2_with (fail)
              refine ⟨trivial, ?_⟩
              gi_at_call 56
              refine (CallsIn.inRound l (callsIn_wide.2 (own_write HQ.out (aw 3) H6.out))).mono ?_
              rintro e w7 ⟨rfl, ho⟩
              have HZ := Aside0.mk (own_swap [_] [_, _, _] ho)
              clear ho HQ
              gi_wp2_with (fail)
              refine ⟨_, ⟨?_, _, _, H7.out, .inr (by simp)⟩, HZ.out⟩
              show _ = [BoxS b s, BldA BB (accD s (k + 1)), BoxI B6 (whD s (k + 1)), Pg6 B3 4 0 0 0 0 ⟨#[]⟩, Pg6 B2 0 0 0 0 0 ⟨#[]⟩]
              rw [IA.out, IW.out]
              simp
              done
            · have c3 : (is == 3) = false := by simpa using e3
              have HQ := Aside0.mk (own_swap [_, _, _] [_] HC.out)
              clear HC
              gi_wp2_with (fail)
              refine ⟨trivial, ?_⟩
              gi_at_call 56
              refine (CallsIn.inRound l (callsIn_wide.2 (own_write HQ.out (aw w0) H6.out))).mono ?_
              rintro e w7 ⟨rfl, ho⟩
              have HZ := Aside0.mk (own_swap [_] [_, _, _] ho)
              clear ho HQ
              gi_wp2_with (fail)
              refine ⟨_, ⟨?_, _, _, H7.out, by rw [if_neg e3]; exact HW'.out⟩, HZ.out⟩
              show _ = [BoxS b s, BldA BB (accD s (k + 1)), BoxI B6 (whD s (k + 1)), Pg6 B3 4 0 0 0 0 ⟨#[]⟩, Pg6 B2 0 0 0 0 0 ⟨#[]⟩]
              rw [IA.out, IW.out, if_neg e3]
              rfl
        case done =>
          rintro D L W ⟨rfl, x0, w0, hI, hw⟩ hO
          have e0 := Option.some.inj (HX.out.symm.trans hI)
          simp only [Prod.mk.injEq] at e0
          obtain ⟨rfl, rfl, rfl⟩ := e0
          obtain ⟨ia, iw⟩ := inv_acc hI
          have hO2 : Own.Own w W (Dfr D :: BoxS b s :: [BldA BB (accD s (s.size / 9)), BoxI B6 (whD s (s.size / 9)), Pg6 B3 4 0 0 0 0 ⟨#[]⟩, Pg6 B2 0 0 0 0 0 ⟨#[]⟩]) := hO
          rw [ia, iw] at hO2
          have hh := HH.out
          rw [if_neg (by decide)] at hh
          by_cases hz : x.size = 0
          · rw [if_pos hz] at hh
            cases hh
          · rw [if_neg hz] at hh
            have HZ := Lib.hid hz
            have HH2 := Aside0.mk hh
            have c4 : (wh == 4) = false := by simp; omega
            have HC := Aside0.mk hO2
            have z0 := blk_cell HC.out.drop.drop.drop.pt 0
            simp only [List.getElem?_toArray, List.getElem?_cons_zero] at z0
            have HC0 := Aside0.mk (own_swap [_, _] [_] HC.out.drew)
            have aw : Away [Dfr D, BoxS b s, BoxI B6 wh, Pg6 B3 4 0 0 0 0 ⟨#[]⟩, Pg6 B2 0 0 0 0 0 ⟨#[]⟩] := Away.cons (away_pt (by intro c fz e; cases e)) (Away.cons (away_pt (by intro c fz e; cases e)) (Away.cons (away_pt (by intro c fz e; cases e)) (Away.cons (away_pt (by intro c fz e; cases e)) (Away.cons (away_pt (by intro c fz e; cases e)) Away.nil))))
            clear hh HH hO hO2 hI ia iw hz hw HF
            go_upto_region 20 with (fail)
            go_region_held3 (fun w' => w'.cell? ⟨B6, 0, none⟩ = some (.int .i64 wh)) (go_keep) (first
              | (go_at_call 58; refine (own_string HC0.out aw HZ.out).mono ?_; rintro e w7 ⟨rfl, ho⟩; have HV := Aside0.mk ho; have c5 : w7.cell? ⟨B6, 0, none⟩ = some (.int .i64 wh) := (blk_cell HV.out.drop.drop.drop.pt 0); clear ho)
              | (go_at_call 57; refine (frame_whole.calls 40 _ _ _ _ _ _ _ _ _ HH2.out (Hw.laid_at HL HV.out.below)).mono ?_; rintro e w8 ⟨rfl, hb⟩; have HU := Aside0.mk (own_swap [_, _, _, _, _] [_] (HV.out.move hb)); have hp8 := HU.out.pt; have hlt := blk_lt hp8; have g0 := blk_frozen hp8 0; have g1 := blk_frozen hp8 1; have g2 := blk_frozen hp8 2; have g3 := blk_frozen hp8 3; have g4 := blk_frozen hp8 4; have g5 := blk_frozen hp8 5; have y0 := blk_cell hp8 0; have y1 := blk_cell hp8 1; have y2 := blk_cell hp8 2; have y3 := blk_cell hp8 3; have y4 := blk_cell hp8 4; have y5 := blk_cell hp8 5; simp only [List.getElem?_toArray, List.getElem?_cons_zero, List.getElem?_cons_succ] at y0 y1 y2 y3 y4 y5; have c6 : w8.cell? ⟨B6, 0, none⟩ = some (.int .i64 wh) := (blk_cell HU.out.drop.drop.drop.drop.pt 0); have hne : B6 ≠ B2 := own_ne (own_swap [_, _, _, _] [_] HU.out); have hne2 := hne.symm; clear hp8 hb))
            all_goals go_wp2_with fail
            all_goals rw [Exit.noGoto_ret]
            all_goals
              have hp := set6 HU.out (.int .i64 r1) (.int .i64 r2) (.int .i64 r3) (.int .i64 r4) (.int .i64 r5) (.string r6)
              have H5 := own_putObj (own_swap [_, _] [_] hp) (.deferred none)
              have hK := (own_swap [_, _] [_] hp).pt
              refine ⟨by simp, .inl ⟨_, _, rfl, run_takeDeferred hK, ?_⟩⟩
              exact ⟨_, page_res H5.drop rfl, rfl, H5.below⟩
        case stop =>
          rintro D c L W ⟨rfl, rfl, x0, rfl⟩ hO
          have hh := HH.out
          rw [if_pos rfl] at hh
          simp only [Option.some.injEq, Prod.mk.injEq] at hh
          obtain ⟨rfl, rfl, rfl, rfl, rfl, rfl⟩ := hh
          have HC := Aside0.mk hO
          have z6 := blk_cell HC.out.drop.drop.drop.pt 0
          simp only [List.getElem?_toArray, List.getElem?_cons_zero] at z6
          have HP := Aside0.mk (own_swap [_, _, _, _] [_, _] HC.out)
          obtain ⟨x0, x1, x2, x3, x4, x5⟩ := cells6 HP.out.pt
          have hlt := blk_lt HP.out.drop.pt
          have g0 := blk_frozen HP.out.drop.pt 0
          have g1 := blk_frozen HP.out.drop.pt 1
          have g2 := blk_frozen HP.out.drop.pt 2
          have g3 := blk_frozen HP.out.drop.pt 3
          have g4 := blk_frozen HP.out.drop.pt 4
          have g5 := blk_frozen HP.out.drop.pt 5
          have z0 := blk_cell HP.out.drop.pt 0
          have z1 := blk_cell HP.out.drop.pt 1
          have z2 := blk_cell HP.out.drop.pt 2
          have z3 := blk_cell HP.out.drop.pt 3
          have z4 := blk_cell HP.out.drop.pt 4
          have z5 := blk_cell HP.out.drop.pt 5
          simp only [List.getElem?_toArray, List.getElem?_cons_zero, List.getElem?_cons_succ] at z0 z1 z2 z3 z4 z5
          have c4 : ((4 : Int) == 4) = true := rfl
          clear hO HF
          refine wpIn_wide.2 ?_
          go_wp2_with fail
          have hp := set6 HP.out.pull2 (.int .i64 4) (.int .i64 0) (.int .i64 0) (.int .i64 0) (.int .i64 0) (.string ⟨#[]⟩)
          have H5 := own_putObj (own_swap [_, _] [_] hp) (.deferred none)
          have hK := (own_swap [_, _] [_] hp).pt
          refine ⟨by simp, .inl ⟨_, _, rfl, run_takeDeferred hK, ?_⟩⟩
          exact ⟨_, page_res H5.drop rfl, rfl, H5.below⟩
  · rw [if_neg hs] at h
    cases h
end Go.Proofs.YtliiploidjnmnaaDoor.PF
end

section
/- A page's bytes in plain words: what is encoded, chunk by chunk; what chunks come to; what a whole page is; which is erased. -/
set_option linter.unusedVariables false
set_option linter.unusedSimpArgs false
namespace Go.Proofs.YtliiploidjnmnaaDoor.PF
open Go.RowKit Go.Proofs.YtliiploidjnmnaaDoor.Hw Go.Proofs.YtliiploidjnmnaaDoorW.PrintWords Go.Proofs.YtliiploidjnmnaaDoorW.PrintLast

/-- Eight bytes with their check; the bytes of a whole page, chunk by chunk. -/
def enc9 (s : ByteArray) : ByteArray := s ++ strOfNums [((chkB s : Nat) : Int)]
def encs (all : ByteArray) : Nat → ByteArray
  | 0 => ⟨#[]⟩
  | j + 1 => encs all j ++ enc9 (all.extract (8 * j) (8 * j + 8))
theorem enc9_size (s : ByteArray) (h : s.size = 8) : (enc9 s).size = 9 := by unfold enc9; rw [ByteArray.size_append, son_size, h]; rfl
theorem encs_size (all : ByteArray) : ∀ n, 8 * n ≤ all.size → (encs all n).size = 9 * n
  | 0, _ => rfl
  | n + 1, h => by
    unfold encs
    rw [ByteArray.size_append, encs_size all n (by omega), enc9_size _ (by rw [size_extract' _ _ _ (by omega)]; omega)]
    omega
theorem encAt_is (all : ByteArray) : ∀ n, 8 * n ≤ all.size → n ≤ 1000 → encAt all n = some (encs all n)
  | 0, _, _ => rfl
  | n + 1, h, h2 => by
    have h8 : (all.extract (8 * n) (8 * n + 8)).size = 8 := by rw [size_extract' _ _ _ (by omega)]; omega
    have hz : (encs all n).size + (enc9 (all.extract (8 * n) (8 * n + 8))).size ≤ 140737488355328 := by rw [encs_size all n (by omega), enc9_size _ h8]; omega
    unfold encAt
    rw [encAt_is all n (by omega) (by omega), Option.bind_some, ham_enc _ h8, Option.bind_some]
    exact if_pos hz
theorem encs_chk (all : ByteArray) (j : Nat) : ∀ n, 8 * n ≤ all.size → j < n → chk (encs all n) j = enc9 (all.extract (8 * j) (8 * j + 8))
  | 0, _, h => by omega
  | n + 1, h, hj => by
    have hs := encs_size all n (by omega)
    have h9 : (enc9 (all.extract (8 * n) (8 * n + 8))).size = 9 := enc9_size _ (by rw [size_extract' _ _ _ (by omega)]; omega)
    unfold chk encs
    by_cases e : j = n
    · subst e
      rw [app_extract_r _ _ _ _ (by omega) (by omega), hs, Nat.sub_self, Nat.add_sub_cancel_left, ← h9, ext_all]
    · rw [app_extract_l _ _ _ _ (by omega)]
      exact encs_chk all j n (by omega) (by omega)
/-- What chunks come to. -/
def whAt (st : Nat → Int) : Nat → Int
  | 0 => 2
  | n + 1 => if st n = 3 then 3 else whAt st n
theorem ext_snoc (a : ByteArray) (m n : Nat) (h : n ≤ a.size) (hm : m ≤ n) : a.extract 0 m ++ a.extract m n = a.extract 0 n := by
  apply bext
  · rw [ByteArray.size_append, size_extract' _ _ _ (by omega), size_extract' _ _ _ (by omega), size_extract' _ _ _ (by omega)]; omega
  · intro i hi
    rw [ByteArray.size_append, size_extract' _ _ _ (by omega), size_extract' _ _ _ (by omega)] at hi
    rw [bn_append, size_extract' _ _ _ (by omega), bn_extract _ 0 n i (by omega) (by omega)]
    split
    · rw [bn_extract _ _ _ _ (by omega) (by omega)]
    · rw [bn_extract _ _ _ _ (by omega) (by omega)]; congr 1; omega
theorem dec_ok (s a : ByteArray) (st : Nat → Int) : ∀ n, 8 * n ≤ a.size → n ≤ 1000 → (∀ j, j < n → ham_Decode.f 40 (chk s j) = some (a.extract (8 * j) (8 * j + 8), st j, 0) ∧ st j ≠ 4) → decAt s n = some (a.extract 0 (8 * n), whAt st n, false)
  | 0, _, _, _ => by
    have : a.extract 0 (8 * 0) = ⟨#[]⟩ := bext (by rw [size_extract' _ _ _ (by omega)]; rfl) (fun i hi => by rw [size_extract' _ _ _ (by omega)] at hi; omega)
    rw [this]
    rfl
  | n + 1, h, h2, hh => by
    obtain ⟨h3, h4⟩ := hh n (by omega)
    have ih := dec_ok s a st n (by omega) (by omega) (fun j hj => hh j (by omega))
    unfold decAt
    rw [ih, Option.bind_some, if_neg (by decide : ¬ (false = true)), h3, Option.bind_some, if_neg h4, if_pos (by rw [size_extract' _ _ _ (by omega), size_extract' _ _ _ (by omega)]; omega), ext_snoc a _ _ (by omega) (by omega)]
    rfl
theorem dec_stay (s : ByteArray) (x : ByteArray) (wh : Int) (j : Nat) (h : decAt s j = some (x, wh, true)) : ∀ d, decAt s (j + d) = some (x, wh, true)
  | 0 => h
  | d + 1 => by
    show decAt s (j + d + 1) = _
    unfold decAt
    rw [dec_stay s x wh j h d, Option.bind_some, if_pos rfl]
/-- A bad chunk behind others. -/
theorem dec_bad (s a : ByteArray) (st : Nat → Int) (n j : Nat) (hj : j < n) (ha : 8 * j ≤ a.size) (h1 : n ≤ 1000) (hh : ∀ i, i < j → ham_Decode.f 40 (chk s i) = some (a.extract (8 * i) (8 * i + 8), st i, 0) ∧ st i ≠ 4) (hb : ham_Decode.f 40 (chk s j) = some (⟨#[]⟩, 4, 0)) : decAt s n = some (a.extract 0 (8 * j), 4, true) := by
  have h := dec_ok s a st j ha (by omega) hh
  have h2 : decAt s (j + 1) = some (a.extract 0 (8 * j), 4, true) := by
    unfold decAt
    rw [h, Option.bind_some, if_neg (by decide : ¬ (false = true)), hb, Option.bind_some, if_pos rfl]
  have := dec_stay s _ _ _ h2 (n - (j + 1))
  rw [show j + 1 + (n - (j + 1)) = n by omega] at this
  exact this
/-- What a whole page's bytes are. -/
def wholeP (a : ByteArray) (wh : Int) : Page6 :=
  if a.extract (a.size - 4) a.size = zero4 ∧ Sealed (a.extract 0 (a.size - 4)) ∧ TagOk (a.extract 0 16) then
    (wh, ((bn (a.extract 0 16) 1 : Nat) : Int), ((parts (a.extract 0 16) 2 4 : Nat) : Int), ((parts (a.extract 0 16) 4 10 : Nat) : Int), ((parts (a.extract 0 16) 10 14 : Nat) : Int), a.extract 16 (a.size - 8)) else (4, 0, 0, 0, 0, ⟨#[]⟩)
theorem frame_whole_is (a : ByteArray) (wh : Int) (h32 : 32 ≤ a.size) (h : a.size ≤ 1000) (k : Nat) (hk : 20 ≤ k) : frame_whole.f k a wh = some (wholeP a wh) := by
  obtain ⟨k, rfl⟩ : ∃ q, k = q + 20 := ⟨k - 20, by omega⟩
  have e : wrap64 ((a.size : Int) - 4) = ((a.size - 4 : Nat) : Int) := by rw [w64' _ (by omega)]; omega
  have e8 : wrap64 (((a.size - 4 : Nat) : Int) - 4) = ((a.size - 8 : Nat) : Int) := by rw [w64' _ (by omega)]; omega
  have hz4 : (a.extract (a.size - 4) a.size).toList = ([0, 0, 0, 0] : List UInt8) ↔ a.extract (a.size - 4) a.size = zero4 := by
    rw [show ([0, 0, 0, 0] : List UInt8) = zero4.toList by rw [ByteArray.toList_eq]]
    exact tl_inj _ _
  have hw := whole_is (a.extract 0 (a.size - 4)) (by rw [size_extract' _ _ _ (by omega)]; omega)
  unfold frame_whole.f
  rw [e, if_pos (by omega), if_pos (by omega), Int.toNat_natCast]
  unfold wholeP
  by_cases q1 : a.extract (a.size - 4) a.size = zero4
  · rw [if_pos (hz4.2 q1), hw, Option.bind_some]
    by_cases q2 : Sealed (a.extract 0 (a.size - 4))
    · rw [decide_eq_true q2, frame_whole.j0, if_neg (by decide), if_pos (by decide), if_pos (by omega), tag_dec _ (by rw [size_extract' _ _ _ (by omega)]) _ (by omega), Option.bind_some]
      by_cases q3 : TagOk (a.extract 0 16)
      · rw [if_pos q3, if_pos (by rfl), e8, if_pos (by omega), if_pos (by omega), Int.toNat_natCast, if_pos ⟨q1, q2, q3⟩]
      · rw [if_neg q3, if_neg (by decide), if_neg (fun x => q3 x.2.2)]
    · rw [decide_eq_false q2, frame_whole.j0, if_pos (by decide), if_neg (fun x => q2 x.2.1)]
  · rw [if_neg (fun x => q1 (hz4.1 x)), frame_whole.j0, if_pos rfl, if_neg (fun x => q1 x.1)]
/-- A page's bytes ahead of their checks. -/
def allOf (k l s e : Int) (d : ByteArray) : ByteArray := (strOfNums (tagInts k l s e) ++ d ++ sum4 (strOfNums (tagInts k l s e) ++ d)) ++ zero4
theorem allOf_size (k l s e : Int) (d : ByteArray) : (allOf k l s e d).size = d.size + 24 := by
  unfold allOf
  rw [ByteArray.size_append, ByteArray.size_append, ByteArray.size_append, tag_size, sum4_size]
  show 16 + d.size + 4 + 4 = _
  omega
def pageOf (k l s e : Int) (d : ByteArray) : ByteArray := encs (allOf k l s e d) ((d.size + 24) / 8)
theorem frame_enc (k l s e : Int) (d : ByteArray) : frame_Encode.f k l s e d = some (if mayB d.size = true then (if mayT k l s e = true then (pageOf k l s e d, 0) else (⟨#[]⟩, 1)) else (⟨#[]⟩, 2)) := by
  unfold frame_Encode.f
  rw [may_is, Option.bind_some]
  by_cases hm : mayB d.size = true
  · have hb := of_decide_eq_true hm
    rw [if_pos hm, if_pos hm]
    unfold tag_Encode.f
    rw [Option.bind_some]
    by_cases ht : mayT k l s e = true
    · have hz : (strOfNums (tagInts k l s e)).size = 16 := tag_size k l s e
      have hzd : (strOfNums (tagInts k l s e) ++ d).size = d.size + 16 := by rw [ByteArray.size_append, hz]; omega
      have hs2 : (strOfNums (tagInts k l s e) ++ d ++ sum4 (strOfNums (tagInts k l s e) ++ d)).size = d.size + 20 := by rw [ByteArray.size_append, sum4_size, hzd]
      rw [if_pos ht, if_pos ht, if_pos (by rfl), if_pos (by rw [hz]; omega), seal_is _ (by rw [hzd]; omega), Option.bind_some, hs2, if_pos ⟨by omega, by omega⟩]
      have := encAt_is (allOf k l s e d) ((d.size + 24) / 8) (by rw [allOf_size]; omega) (by omega)
      unfold allOf at this
      rw [show d.size + 20 + 4 = d.size + 24 by omega, this, Option.bind_some]
      rfl
    · rw [if_neg ht, if_neg ht, if_neg (by decide)]
  · rw [if_neg hm, if_neg hm]
/-- The page of what is encoded. -/
theorem whole_back (k l s e : Int) (d : ByteArray) (h8 : 8 ≤ d.size) (hm : mayT k l s e = true) (wh : Int) : wholeP (allOf k l s e d) wh = (wh, k, l, s, e, d) := by
  have hz := allOf_size k l s e d
  have ht := tag_size k l s e
  have hzd : (strOfNums (tagInts k l s e) ++ d).size = d.size + 16 := by rw [ByteArray.size_append, ht]; omega
  have hs2 : (strOfNums (tagInts k l s e) ++ d ++ sum4 (strOfNums (tagInts k l s e) ++ d)).size = d.size + 20 := by rw [ByteArray.size_append, sum4_size, hzd]
  have e1 : (allOf k l s e d).extract ((allOf k l s e d).size - 4) (allOf k l s e d).size = zero4 := by
    rw [hz]
    unfold allOf
    rw [app_extract_r _ _ _ _ (by omega) (by rw [hs2]; show _ ≤ _ + 4; omega), hs2, show d.size + 24 - 4 - (d.size + 20) = 0 by omega, show d.size + 24 - (d.size + 20) = 4 by omega]
    exact ext_all zero4
  have e2 : (allOf k l s e d).extract 0 ((allOf k l s e d).size - 4) = strOfNums (tagInts k l s e) ++ d ++ sum4 (strOfNums (tagInts k l s e) ++ d) := by
    rw [hz]
    unfold allOf
    rw [app_extract_l _ _ _ _ (by omega), show d.size + 24 - 4 = d.size + 20 by omega, ← hs2, ext_all]
  have e3 : (allOf k l s e d).extract 0 16 = strOfNums (tagInts k l s e) := by
    unfold allOf
    rw [app_extract_l _ _ _ _ (by omega), app_extract_l _ _ _ _ (by omega), app_extract_l _ _ _ _ (by omega), ← ht, ext_all]
  have e4 : (allOf k l s e d).extract 16 ((allOf k l s e d).size - 8) = d := by
    rw [hz]
    unfold allOf
    rw [app_extract_l _ _ _ _ (by omega), app_extract_l _ _ _ _ (by omega), app_extract_r _ _ _ _ (by omega) (by omega), ht, Nat.sub_self, show d.size + 24 - 8 - 16 = d.size by omega, ext_all]
  obtain ⟨t0, t1, t2, t3, t4⟩ := tag_parts k l s e hm
  unfold wholeP
  rw [e1, e2, e3, e4, if_pos ⟨rfl, seal_sealed _, t0⟩, t1, t2, t3, t4]
/-- Which chunks look erased. -/
theorem era_yes (s : ByteArray) : ∀ n, (∀ j, j < n → (chk s j).size ≤ 9 ∧ zerGo (chk s j) (chk s j).size ≤ 1) → eraAt s n = some true
  | 0, _ => rfl
  | n + 1, h => by
    obtain ⟨h1, h2⟩ := h n (by omega)
    unfold eraAt bits_Zeros.f
    rw [era_yes s n (fun j hj => h j (by omega)), Option.bind_some, if_pos rfl, if_pos (by omega), Option.bind_some, decide_eq_true (by omega)]
theorem era_some (s : ByteArray) : ∀ n, (∀ j, j < n → (chk s j).size ≤ 9) → ∃ b, eraAt s n = some b
  | 0, _ => ⟨true, rfl⟩
  | n + 1, h => by
    obtain ⟨b, hb⟩ := era_some s n (fun j hj => h j (by omega))
    have h1 := h n (by omega)
    unfold eraAt bits_Zeros.f
    rw [hb, Option.bind_some]
    cases b with
    | true => rw [if_pos rfl, if_pos (by omega), Option.bind_some]; exact ⟨_, rfl⟩
    | false => rw [if_neg (by decide)]; exact ⟨_, rfl⟩
theorem era_stay (s : ByteArray) (j : Nat) (h : eraAt s j = some false) : ∀ d, eraAt s (j + d) = some false
  | 0 => h
  | d + 1 => by
    show eraAt s (j + d + 1) = _
    unfold eraAt
    rw [era_stay s j h d, Option.bind_some, if_neg (by decide)]
theorem era_no (s : ByteArray) (n j : Nat) (hj : j < n) (h : ∀ i, i < n → (chk s i).size ≤ 9) (h2 : 1 < zerGo (chk s j) (chk s j).size) : eraAt s n = some false := by
  obtain ⟨b, hb⟩ := era_some s j (fun i hi => h i (by omega))
  have h9 := h j hj
  have h1 : eraAt s (j + 1) = some false := by
    unfold eraAt bits_Zeros.f
    rw [hb, Option.bind_some]
    cases b with
    | true => rw [if_pos rfl, if_pos (by omega), Option.bind_some, decide_eq_false (by omega)]
    | false => rw [if_neg (by decide)]
  have := era_stay s _ h1 (n - (j + 1))
  rw [show j + 1 + (n - (j + 1)) = n by omega] at this
  exact this
theorem zer_turn : ∀ (m : Fin 8) (c : Fin 256), zerB (c.val ^^^ 2 ^ m.val) ≤ zerB c.val + 1 ∧ zerB c.val ≤ zerB (c.val ^^^ 2 ^ m.val) + 1 := by decide +kernel
theorem zerGo_congr {s t : ByteArray} : ∀ n, (∀ i, i < n → bn s i = bn t i) → zerGo s n = zerGo t n
  | 0, _ => rfl
  | n + 1, h => by
    show zerGo s n + zerB (bn s n) = zerGo t n + zerB (bn t n)
    rw [zerGo_congr n (fun i hi => h i (by omega)), h n (by omega)]
theorem zerGo_turn (s : ByteArray) (j : Nat) (hj : j / 8 < s.size) : ∀ n, zerGo (flipAt s j) n ≤ zerGo s n + 1 ∧ zerGo s n ≤ zerGo (flipAt s j) n + 1
  | 0 => ⟨by show 0 ≤ 0 + 1; omega, by show 0 ≤ 0 + 1; omega⟩
  | n + 1 => by
    have ih := zerGo_turn s j hj n
    have hb := bn_flipAt s j n hj
    show zerGo (flipAt s j) n + zerB (bn (flipAt s j) n) ≤ zerGo s n + zerB (bn s n) + 1 ∧ zerGo s n + zerB (bn s n) ≤ zerGo (flipAt s j) n + zerB (bn (flipAt s j) n) + 1
    by_cases e : n = j / 8
    · have hc : zerGo (flipAt s j) n = zerGo s n := zerGo_congr n (fun i hi => by rw [bn_flipAt s j i hj, if_neg (by omega)])
      rw [if_pos e] at hb
      have z := zer_turn ⟨j % 8, by omega⟩ ⟨bn s n, bn_lt s n⟩
      simp only at z
      rw [hb, hc]
      omega
    · rw [if_neg e] at hb
      rw [hb]
      omega
theorem zerGo_mono (s : ByteArray) : ∀ n m, m ≤ n → zerGo s m ≤ zerGo s n
  | 0, m, h => by rw [Nat.le_zero.1 h]; exact Nat.le_refl _
  | n + 1, m, h => by
    by_cases e : m = n + 1
    · rw [e]; exact Nat.le_refl _
    · have := zerGo_mono s n m (by omega)
      show zerGo s m ≤ zerGo s n + zerB (bn s n)
      omega
/-- The first chunk of a page has four bits at least that are nought. -/
theorem first_zeros (k l s e : Int) (d : ByteArray) (h8 : 8 ≤ d.size) : 4 ≤ zerGo (chk (pageOf k l s e d) 0) 9 := by
  have hz := allOf_size k l s e d
  have ht := tag_size k l s e
  unfold pageOf
  rw [encs_chk _ 0 _ (by omega) (by omega)]
  have e0 : bn (enc9 ((allOf k l s e d).extract (8 * 0) (8 * 0 + 8))) 0 = 27 := by
    unfold enc9
    rw [bn_append, if_pos (by rw [size_extract' _ _ _ (by omega)]; omega), bn_extract _ _ _ _ (by omega) (by omega)]
    unfold allOf
    rw [bn_append, if_pos (by rw [ByteArray.size_append, ByteArray.size_append, ht]; omega), bn_append, if_pos (by rw [ByteArray.size_append, ht]; omega), bn_append, if_pos (by omega), tag_bn, if_pos (by omega), bn_son]
    rfl
  refine Nat.le_trans ?_ (zerGo_mono _ 9 1 (by omega))
  show 4 ≤ 0 + zerB _
  rw [e0]
  decide
end Go.Proofs.YtliiploidjnmnaaDoor.PF
end

section
/- A page, there and back. -/
set_option linter.unusedVariables false
set_option linter.unusedSimpArgs false
namespace Go.Proofs.YtliiploidjnmnaaDoor.PF
open Go.RowKit Go.Proofs.YtliiploidjnmnaaDoor.Hw Go.Proofs.YtliiploidjnmnaaDoorW.PrintWords Go.Proofs.YtliiploidjnmnaaDoorW.PrintLast

/-- Decode of bytes of so many chunks. -/
theorem frame_dec_good (s a : ByteArray) (n : Nat) (st : Nat → Int) (h4 : 4 ≤ n) (h35 : n ≤ 35) (hs : s.size = 9 * n) (ha : a.size = 8 * n) (he : frame_erased.f s = some false) (hh : ∀ j, j < n → ham_Decode.f 40 (chk s j) = some (a.extract (8 * j) (8 * j + 8), st j, 0) ∧ st j ≠ 4) :
    frame_Decode.f s = some (wholeP a (whAt st n)) := by
  unfold frame_Decode.f
  rw [if_pos (by omega), if_neg (by omega), he, Option.bind_some, if_neg (by decide), show s.size / 9 = n by omega, dec_ok s a st n (by omega) (by omega) hh, Option.bind_some, if_neg (by simp), ← ha, ext_all]
  rw [if_neg (by show ¬ a.size = 0; omega), frame_whole_is a _ (by omega) (by omega) 40 (by omega)]
theorem chk_size (s : ByteArray) (j : Nat) (h : 9 * j + 9 ≤ s.size) : (chk s j).size = 9 := by unfold chk; rw [size_extract' _ _ _ h]; omega
theorem page_size (k l s e : Int) (d : ByteArray) (h : d.size % 8 = 0) : (pageOf k l s e d).size = 9 * ((d.size + 24) / 8) := by
  unfold pageOf
  rw [encs_size _ _ (by rw [allOf_size]; omega)]
theorem page_chk (k l s e : Int) (d : ByteArray) (h : d.size % 8 = 0) (j : Nat) (hj : j < (d.size + 24) / 8) : chk (pageOf k l s e d) j = enc9 ((allOf k l s e d).extract (8 * j) (8 * j + 8)) ∧ ((allOf k l s e d).extract (8 * j) (8 * j + 8)).size = 8 := by
  have hz := allOf_size k l s e d
  exact ⟨encs_chk _ j _ (by omega) hj, by rw [size_extract' _ _ _ (by omega)]; omega⟩
theorem page_code (k l s e : Int) (d : ByteArray) (h : d.size % 8 = 0) (j : Nat) (hj : j < (d.size + 24) / 8) : IsCode (chk (pageOf k l s e d) j) ∧ (chk (pageOf k l s e d) j).extract 0 8 = (allOf k l s e d).extract (8 * j) (8 * j + 8) := by
  obtain ⟨h1, h2⟩ := page_chk k l s e d h j hj
  rw [h1]
  exact ⟨enc_code _ h2, enc_extract _ h2 _⟩
theorem wh_two (st : Nat → Int) : ∀ n, (∀ j, j < n → st j = 2) → whAt st n = 2
  | 0, _ => rfl
  | n + 1, h => by
    unfold whAt
    rw [h n (by omega), if_neg (by decide), wh_two st n (fun j hj => h j (by omega))]
theorem page_dec (k l s e : Int) (d : ByteArray) (hd : mayB d.size = true) (ht : mayT k l s e = true) : frame_Decode.f (pageOf k l s e d) = some (2, k, l, s, e, d) := by
  have hb := of_decide_eq_true hd
  have hm : d.size % 8 = 0 := by omega
  have hsz := page_size k l s e d hm
  have he : frame_erased.f (pageOf k l s e d) = some false := by
    unfold frame_erased.f
    rw [if_pos (by omega)]
    refine era_no _ _ 0 (by omega) (fun i hi => by rw [chk_size _ _ (by omega)]; omega) ?_
    have := first_zeros k l s e d (by omega)
    rw [chk_size _ _ (by omega)]
    omega
  rw [frame_dec_good _ (allOf k l s e d) ((d.size + 24) / 8) (fun _ => 2) (by omega) (by omega) hsz (by rw [allOf_size]; omega) he ?_, whole_back k l s e d (by omega) ht, wh_two _ _ (fun _ _ => rfl)]
  intro j hj
  obtain ⟨c1, c2⟩ := page_code k l s e d hm j hj
  exact ⟨by rw [c1.good 39, c2], by decide⟩
end Go.Proofs.YtliiploidjnmnaaDoor.PF
end

section
/- The law's own pageOf, of a number: a page. -/
set_option linter.unusedVariables false
set_option linter.unusedSimpArgs false
namespace Go.Proofs.YtliiploidjnmnaaDoor.PF
open Go.RowKit Go.Shelf Go.Proofs.YtliiploidjnmnaaDoorW.PrintWords Go.Proofs.YtliiploidjnmnaaDoor.Hw

/-- Eight bytes of a number. -/
def data8 (n : Nat) : ByteArray := ⟨(Lib.repeatL [UInt8.ofNat n] 8).toArray⟩
theorem data8_size (n : Nat) : (data8 n).size = 8 := rfl
theorem data8_may (n : Nat) : mayB (data8 n).size = true := by rw [data8_size]; decide
/-- The page of a number. -/
def pgN (n : Nat) : ByteArray := pageOf 1 n n 0 (data8 n)
theorem pgN_enc (n : Nat) (h : n ≤ 255) : frame_Encode.f 1 n n 0 (data8 n) = some (pgN n, 0) := by
  rw [frame_enc, if_pos (data8_may n), if_pos]
  · rfl
  · unfold mayT
    simp
    omega
set_option maxRecDepth 100000 in
theorem and_both : ∀ m : Fin 256, bits BinOp.and .i64 ((m : Nat) : Int) 4095 = ((m : Nat) : Int) ∧ bits BinOp.and .i64 ((m : Nat) : Int) 65535 = ((m : Nat) : Int) := by decide
theorem conv_one (n : Nat) (w : World) (C : Nat) : (convert 91 9 (.slice (some ⟨w.heap.size, 0, none⟩) 1 C)).run Tryd.prog (w.alloc (.cells #[.int .u8 n] 5)) = .ok (.string ⟨#[UInt8.ofNat n]⟩) (w.alloc (.cells #[.int .u8 n] 5)) := by
  have hc : (w.alloc (.cells #[.int .u8 n] 5)).heap[w.heap.size]? = some (.cells #[.int .u8 n] 5 (0, 0)) := by
    show (w.heap.push _)[w.heap.size]? = _
    exact Array.getElem?_push_size
  have h := run_convert_bytes_arg (P := Tryd.prog) (w.alloc (.cells #[.int .u8 n] 5)) 91 5 Tryd.underlying91 Tryd.underlying5 w.heap.size 0 1 C [(n : Int)] rfl (fun i hi => by
    obtain rfl : i = 0 := by omega
    exact (blk_cell hc 0).trans rfl) 9 Tryd.underlying9
  exact h
set_option maxHeartbeats 4000000 in
set_option maxRecDepth 100000 in
theorem pageOf_calls (n : Nat) (w : World) (hn : n ≤ 255) (HL : Aside0 (Laid w)) :
    Calls Tryd.prog 25 #[.int .i64 n] w fun e w' => e = .returned (.string (pgN n)) ∧ Below w.heap.size w w' := by
  have HE := Aside0.mk (pgN_enc n hn)
  have HR := Aside0.mk (fun (w1 : World) => Any.strings_Repeat lays105 extra105 ⟨#[UInt8.ofNat n]⟩ 8 w1 (by omega) (by show 1 * 8 ≤ _; omega))
  have HB := Aside0.mk ((Below.refl w.heap.size w).alloc (Nat.le_refl _) (.cells #[.int .u8 n] 5))
  obtain ⟨k1, k2⟩ := and_both ⟨n, by omega⟩
  have k1 : bits BinOp.and .i64 (n : Int) 4095 = (n : Int) := k1
  have k2 : bits BinOp.and .i64 (n : Int) 65535 = (n : Int) := k2
  have K1 := Aside0.mk k1
  have K2 := Aside0.mk k2
  have hcv := conv_one n w 1
  go_enter Tryd.func25, Tryd.ntmps25
  go_wp2_with fail
  clear hcv k1 k2
  refine (HR.out _).mono ?_
  rintro e w2 ⟨rfl, hb2⟩
  have HB2 := Aside0.mk (below_then HB.out HB.out.size hb2)
  clear hb2 HB
  have HL2 := Hw.laid_at HL HB2.out
  go_wp2_with fail
  refine (frame_Encode.calls _ _ _ _ _ _ _ _ HE.out HL2).mono ?_
  rintro e w3 ⟨rfl, hb3⟩
  have HB3 := Aside0.mk (below_then HB2.out HB2.out.size hb3)
  clear hb3 HB2
  go_wp2_with fail
  go_ret
  exact ⟨rfl, HB3.out⟩
end Go.Proofs.YtliiploidjnmnaaDoor.PF
end

section
/- The law's own three: three pages of a number. -/
set_option linter.unusedVariables false
set_option linter.unusedSimpArgs false
namespace Go.Proofs.YtliiploidjnmnaaDoor.PF
open Go.RowKit Go.Shelf Go.Proofs.YtliiploidjnmnaaDoorW.PrintWords Go.Proofs.YtliiploidjnmnaaDoor.Mem Go.Proofs.YtliiploidjnmnaaDoor.Own Go.Proofs.YtliiploidjnmnaaDoor.Hw

theorem cells3q {w : World} {g : Nat} {a b c : Value} {T : TypeId} (k : w.heap[g]? = some (.cells #[a, b, c] T (0, 0))) : w.cell? ⟨g, 0, none⟩ = some a ∧ w.cell? ⟨g, 1, none⟩ = some b ∧ w.cell? ⟨g, 2, none⟩ = some c ∧
    w.frozen? ⟨g, 0, none⟩ = false ∧ w.frozen? ⟨g, 1, none⟩ = false ∧ w.frozen? ⟨g, 2, none⟩ = false := ⟨blk_cell k 0, blk_cell k 1, blk_cell k 2, blk_frozen k 0, blk_frozen k 1, blk_frozen k 2⟩
set_option maxHeartbeats 4000000 in
set_option maxRecDepth 100000 in
theorem three_calls (n : Nat) (w : World) (hn : n ≤ 253) (HL : Aside0 (Laid w)) :
    Calls Tryd.prog 22 #[.int .i64 n] w fun e w' => e = .returned (.agg #[.string (pgN n), .string (pgN (n + 1)), .string (pgN (n + 2))]) ∧ Below w.heap.size w w' := by
  have k1 : wrap64 ((n : Int) + 1) = ((n + 1 : Nat) : Int) := by unfold wrap64; omega
  have k2 : wrap64 ((n : Int) + 2) = ((n + 2 : Nat) : Int) := by unfold wrap64; omega
  have P0 := Aside0.mk (fun (w1 : World) (h : Aside0 (Laid w1)) => pageOf_calls n w1 (by omega) h)
  have P1 := Aside0.mk (fun (w1 : World) (h : Aside0 (Laid w1)) => pageOf_calls (n + 1) w1 (by omega) h)
  have P2 := Aside0.mk (fun (w1 : World) (h : Aside0 (Laid w1)) => pageOf_calls (n + 2) w1 (by omega) h)
  have K1 := Aside0.mk k1
  have K2 := Aside0.mk k2
  clear k1 k2
  have o0 := (Own.new w).alloc (.cells #[.string ⟨#[]⟩, .string ⟨#[]⟩, .string ⟨#[]⟩] 36)
  have HO := Aside0.mk o0
  clear o0
  go_enter Tryd.func22, Tryd.ntmps22
  go_wp2_with fail
  refine (P0.out _ (Hw.laid_at HL HO.out.below)).mono ?_
  rintro e w1 ⟨rfl, hb1⟩
  have o1 := HO.out.move hb1
  have H1 := Aside0.mk o1
  obtain ⟨x0, x1, x2, f0, f1, f2⟩ := cells3q o1.pt
  clear hb1 o1 HO
  go_wp2_with fail
  clear x0 x1 x2 f0 f1 f2
  rw [show ((n : Int) + 1) = ((n + 1 : Nat) : Int) from by omega]
  refine (P1.out _ (Hw.laid_at HL H1.out.below)).mono ?_
  rintro e w2 ⟨rfl, hb1⟩
  have o1 := H1.out.move hb1
  have H2 := Aside0.mk o1
  clear hb1 o1 H1
  go_wp2_with fail
  rw [show ((n : Int) + 2) = ((n + 2 : Nat) : Int) from by omega]
  refine (P2.out _ (Hw.laid_at HL H2.out.below)).mono ?_
  rintro e w3 ⟨rfl, hb1⟩
  have o1 := H2.out.move hb1
  have H3 := Aside0.mk o1
  obtain ⟨x0, x1, x2, f0, f1, f2⟩ := cells3q o1.pt
  have o2 := ((o1.set (i := 0) (.string (pgN n))).set (i := 1) (.string (pgN (n + 1)))).set (i := 2) (.string (pgN (n + 2)))
  have H4 := Aside0.mk o2
  have y := o2.pt
  clear hb1 o1 H2 o2
  go_wp2_with fail
  refine bodyPost_ret (results_cell_row rfl _ _ w.heap.size 36 #[.string (pgN n), .string (pgN (n + 1)), .string (pgN (n + 2))] (0, 0) _ rfl y (by with_reducible exact Tryd.underlying36) rfl (by kernel_rfl)) rfl ?_
  exact ⟨rfl, H4.out.below⟩
end Go.Proofs.YtliiploidjnmnaaDoor.PF
end

section
/- A page, and a blank one, with at most one bit turned in each chunk. -/
set_option linter.unusedVariables false
set_option linter.unusedSimpArgs false
namespace Go.Proofs.YtliiploidjnmnaaDoor.PF
open Go.RowKit Go.Proofs.YtliiploidjnmnaaDoor.Hw Go.Proofs.YtliiploidjnmnaaDoorW.PrintWords Go.Proofs.YtliiploidjnmnaaDoorW.PrintLast

theorem ffs_size (n : Nat) : (ffs n).size = n := by
  unfold ffs
  show (List.replicate _ (255 : UInt8)).toArray.size = _
  simp
theorem ffs_bn (n i : Nat) (h : i < n) : bn (ffs n) i = 255 := by
  rw [bn_at _ i (by rw [ffs_size]; exact h)]
  simp [ffs, ByteArray.getElem_eq_getElem_data]
theorem ffs_chk (n j : Nat) (h : j < n) : chk (ffs (9 * n)) j = ffs 9 := by
  have hz := ffs_size (9 * n)
  unfold chk
  apply bext
  · rw [size_extract' _ _ _ (by omega), ffs_size]; omega
  · intro i hi
    rw [size_extract' _ _ _ (by omega)] at hi
    rw [bn_extract _ _ _ i hi (by omega), ffs_bn _ _ (by omega), ffs_bn _ _ (by omega)]
theorem ffs_zeros : zerGo (ffs 9) 9 = 0 := by
  have h : ∀ n, n ≤ 9 → zerGo (ffs 9) n = 0 := by
    intro n
    induction n with
    | zero => intro _; rfl
    | succ n ih =>
      intro h
      show zerGo (ffs 9) n + zerB (bn (ffs 9) n) = 0
      rw [ih (by omega), ffs_bn _ _ (by omega)]
      decide
  exact h 9 (Nat.le_refl _)
/-- A bit turned in one chunk. -/
theorem chk_turn (s : ByteArray) (n i b j : Nat) (hs : s.size = 9 * n) (hi : i < n) (hb : b < 72) (hj : j < n) : chk (flipAt s (72 * i + b)) j = if j = i then flipAt (chk s i) b else chk s j := by
  have hz : (flipAt s (72 * i + b)).size = 9 * n := by rw [flipAt_size, hs]
  have hsz := chk_size (flipAt s (72 * i + b)) j (by omega)
  apply bext
  · rw [hsz]
    split
    · rw [flipAt_size, chk_size _ _ (by omega)]
    · rw [chk_size _ _ (by omega)]
  · intro q hq
    rw [hsz] at hq
    have e : bn (chk (flipAt s (72 * i + b)) j) q = bn (flipAt s (72 * i + b)) (9 * j + q) := by
      unfold chk
      rw [bn_extract _ _ _ q (by omega) (by omega)]
    have e2 : bn (chk s j) q = bn s (9 * j + q) := by
      unfold chk
      rw [bn_extract _ _ _ q (by omega) (by omega)]
    rw [e, bn_flipAt _ _ _ (by omega)]
    by_cases hji : j = i
    · subst hji
      rw [if_pos rfl, bn_flipAt _ _ _ (by rw [chk_size _ _ (by omega)]; omega), e2]
      by_cases hq2 : q = b / 8
      · rw [if_pos (by omega), if_pos hq2, show (72 * j + b) % 8 = b % 8 by omega]
      · rw [if_neg (by omega), if_neg hq2]
    · rw [if_neg (by omega), if_neg hji, e2]
/-- A blank page with at most one bit turned in each chunk. -/
theorem blank_dec (Bl : ByteArray) (n : Nat) (h4 : 4 ≤ n) (h35 : n ≤ 35) (hs : Bl.size = 9 * n) (h : ∀ j, j < n → chk Bl j = ffs 9 ∨ ∃ b, b < 72 ∧ chk Bl j = flipAt (ffs 9) b) : frame_Decode.f Bl = some (1, 0, 0, 0, 0, ⟨#[]⟩) := by
  have he : frame_erased.f Bl = some true := by
    unfold frame_erased.f
    rw [if_pos (by omega)]
    refine era_yes _ _ (fun j hj => ?_)
    have hz := chk_size Bl j (by omega)
    rw [hz]
    refine ⟨by omega, ?_⟩
    have z := ffs_zeros
    rcases h j (by omega) with e | ⟨b, hb, e⟩
    · rw [e]; omega
    · rw [e]
      have := (zerGo_turn (ffs 9) b (by rw [ffs_size]; omega) 9).1
      omega
  unfold frame_Decode.f
  rw [if_pos (by omega), if_neg (by omega), he, Option.bind_some, if_pos rfl]
end Go.Proofs.YtliiploidjnmnaaDoor.PF
end

section
/- The law's own works, by hand. -/
set_option linter.unusedVariables false
set_option linter.unusedSimpArgs false
namespace Go.Proofs.YtliiploidjnmnaaDoor.PF
open Go.RowKit Go.Shelf Go.Proofs.YtliiploidjnmnaaDoorW.PrintWords Go.Proofs.YtliiploidjnmnaaDoor.Mem Go.Proofs.YtliiploidjnmnaaDoor.Own Go.Proofs.YtliiploidjnmnaaDoor.Hw

theorem pgN_size (n : Nat) : (pgN n).size = 36 := by unfold pgN; rw [page_size _ _ _ _ _ (by rw [data8_size])]; rw [data8_size]
def cS0 : CellS := newS 2 (ffs 36)
def cS1 : CellS := prog1 cS0 (pgN 1)
def cS2 : CellS := prog1 cS1 (pgN 2)
theorem progS_no {S : CellS} {a : Int} {p : ByteArray} (k x y : Int) (h : ¬ progOk S a p) : progS S a p k x y = S := if_neg h
theorem progC_no {S : CellS} {a : Int} {p : ByteArray} (k : Int) (h : ¬ progOk S a p) : progC S a p k = 80 := if_neg h
theorem progS_ok {S : CellS} {a : Int} {p : ByteArray} (x y : Int) (h : progOk S a p) : progS S a p 0 x y = prog1 S p := by unfold progS; rw [if_pos h]; rfl
theorem progC_ok {S : CellS} {a : Int} {p : ByteArray} (h : progOk S a p) : progC S a p 0 = 0 := by unfold progC; rw [if_pos h]; rfl
theorem ok0 : ¬ progOk cS0 1 (pgN 1) := fun h => absurd h.2.2.2.1 (by decide)
theorem ok1 : progOk cS0 0 (pgN 1) := ⟨rfl, rfl, by decide, rfl, by decide, by rw [pgN_size]; exact (ffs_size 36).symm⟩
theorem ok2 : progOk cS1 1 (pgN 2) := ⟨rfl, rfl, by show (1 : Int) ≠ 2; decide, rfl, by show (1 : Int) < 2; decide, by rw [pgN_size]; exact (ffs_size 36).symm⟩
theorem ok3 : ¬ progOk cS2 2 (pgN 3) := fun h => absurd (show (2 : Int) < 2 from h.2.2.2.2.1) (by decide)
theorem fit0 : Fit cS0 := ⟨by decide, by decide, by decide, by decide, by decide, by show (ffs 36).size ≤ _; rw [ffs_size]; omega⟩
theorem prog1_fit {S : CellS} {p : ByteArray} (h : Fit S) (hp : p.size ≤ 100000) (hd : S.done + 1 ≤ 2 * S.lines.length) : Fit (prog1 S p) := by
  refine ⟨?_, ?_, ?_, ?_, ?_, h.blank⟩
  · show 1 ≤ (S.lines.set _ _).length; rw [List.length_set]; exact h.n1
  · show (S.lines.set _ _).length ≤ 64; rw [List.length_set]; exact h.n64
  · show 0 ≤ S.done + 1; have := h.d0; omega
  · show S.done + 1 ≤ 2 * ((S.lines.set _ _).length : Int); rw [List.length_set]; exact hd
  · intro l hl
    rcases List.mem_or_eq_of_mem_set hl with h1 | rfl
    · exact h.sizes l h1
    · exact ⟨hp, Nat.zero_le _, Nat.zero_le _⟩
theorem fit1 : Fit cS1 := prog1_fit fit0 (by rw [pgN_size]; omega) (by decide)
theorem fit2 : Fit cS2 := prog1_fit fit1 (by rw [pgN_size]; omega) (by show (1 : Int) + 1 ≤ 2 * 2; decide)
theorem rd2 : readV cS2 1 0 = (pgN 2, 0) := by
  have hok : readOk cS2 1 0 := ⟨by decide, by show (1 : Int) < 2; decide, by decide, by decide, fun h => h.2 rfl⟩
  have hz : ¬ (pgN 2).size = 0 := by rw [pgN_size]; decide
  unfold readV
  rw [if_pos hok]
  show (readB cS2 1 0, (0 : Int)) = _
  have hb : readB cS2 1 0 = pgN 2 := by
    unfold readB
    show (if (pgN 2).size = 0 then _ else if false = true then _ else if foggyB cS2 1 = true then _ else pgN 2) = pgN 2
    rw [if_neg hz, if_neg (by decide), if_neg]
    unfold foggyB
    show ¬ decide ((1 : Int) = 2 ∧ _) = true
    simp
  rw [hb]
theorem fogS_no {S : CellS} {a : Int} {p0 p1 p2 : ByteArray} (k x y : Int) (h : ¬ fogOk S a p0 p1 p2) : fogS S a p0 p1 p2 k x y = S := if_neg h
theorem fogC_no {S : CellS} {a : Int} {p0 p1 p2 : ByteArray} (k : Int) (h : ¬ fogOk S a p0 p1 p2) : fogC S a p0 p1 p2 k = 80 := if_neg h
theorem ok4 (p0 p1 p2 : ByteArray) : ¬ fogOk cS2 0 p0 p1 p2 := fun h => h.2.2.1 rfl
set_option maxHeartbeats 4000000 in
set_option maxRecDepth 100000 in
theorem works_calls (w : World) (HL : Aside0 (Laid w)) :
    Calls Tryd.prog 10 #[] w fun e w' => e = .returned (.bool true) ∧ Below w.heap.size w w' := by
  have N0 := Aside0.mk (new_yes (L := []) 2 8 (by omega) (by omega) (by decide) (Own.new w))
  go_enter Tryd.func10, Tryd.ntmps10
  go_wp2_with fail
  refine N0.out.mono ?_
  rintro e w1 ⟨g, lb, rfl, h1⟩
  have O1 : Aside0 (Own.Own w w1 (CellO g lb cS0 [])) := ⟨h1⟩
  clear h1 N0
  go_wp2_with fail
  refine (pageOf_calls 1 _ (by omega) (Hw.laid_at HL O1.out.below)).mono ?_
  rintro e w2 ⟨rfl, hb⟩
  have O2 := Aside0.mk (O1.out.move hb)
  clear hb O1
  go_wp2_with fail
  refine (prog_no 1 (pgN 1) 0 0 0 0 ok0 O2.out).mono ?_
  rintro e w3 ⟨rfl, hb⟩
  rw [progS_no _ _ _ ok0] at hb
  rw [progC_no _ ok0]
  have O3 := Aside0.mk hb
  clear hb O2
  go_wp2_with fail
  refine (pageOf_calls 1 _ (by omega) (Hw.laid_at HL O3.out.below)).mono ?_
  rintro e w4 ⟨rfl, hb⟩
  have O4 := Aside0.mk (O3.out.move hb)
  clear hb O3
  go_wp2_with fail
  refine (prog_yes 0 (pgN 1) 0 0 0 0 fit0 (by rw [pgN_size]; omega) ok1 O4.out).mono ?_
  rintro e w5 ⟨rfl, hb⟩
  rw [progS_ok _ _ ok1] at hb
  rw [progC_ok ok1]
  have O5 : Aside0 (Own.Own w w5 (CellO g lb cS1 [])) := ⟨hb⟩
  clear hb O4
  go_wp2_with fail
  refine (pageOf_calls 2 _ (by omega) (Hw.laid_at HL O5.out.below)).mono ?_
  rintro e w6 ⟨rfl, hb⟩
  have O6 := Aside0.mk (O5.out.move hb)
  clear hb O5
  go_wp2_with fail
  refine (prog_yes 1 (pgN 2) 0 0 0 0 fit1 (by rw [pgN_size]; omega) ok2 O6.out).mono ?_
  rintro e w7 ⟨rfl, hb⟩
  rw [progS_ok _ _ ok2] at hb
  rw [progC_ok ok2]
  have O7 : Aside0 (Own.Own w w7 (CellO g lb cS2 [])) := ⟨hb⟩
  clear hb O6
  go_wp2_with fail
  refine (Read_own 1 0 fit2 O7.out).mono ?_
  rintro e w8 ⟨rfl, hb⟩
  rw [rd2]
  have O8 := Aside0.mk hb
  clear hb O7
  go_wp2_with fail
  refine (pageOf_calls 2 _ (by omega) (Hw.laid_at HL O8.out.below)).mono ?_
  rintro e w9 ⟨rfl, hb⟩
  have O9 := Aside0.mk (O8.out.move hb)
  clear hb O8
  go_wp2_with fail
  refine (pageOf_calls 3 _ (by omega) (Hw.laid_at HL O9.out.below)).mono ?_
  rintro e w10 ⟨rfl, hb⟩
  have O10 := Aside0.mk (O9.out.move hb)
  clear hb O9
  go_wp2_with fail
  refine (prog_no 2 (pgN 3) 0 0 0 0 ok3 O10.out).mono ?_
  rintro e w11 ⟨rfl, hb⟩
  rw [progS_no _ _ _ ok3] at hb
  rw [progC_no _ ok3]
  have O11 := Aside0.mk hb
  clear hb O10
  go_wp2_with fail
  refine (fog_no 0 _ _ _ 0 0 0 0 fit2 (ok4 _ _ _) O11.out).mono ?_
  rintro e w12 ⟨rfl, hb⟩
  rw [fogS_no _ _ _ (ok4 _ _ _)] at hb
  rw [fogC_no _ (ok4 _ _ _)]
  have O12 := Aside0.mk hb
  clear hb O11
  go_wp2_with fail
  refine (mode_own O12.out).mono ?_
  rintro e w13 ⟨rfl, rfl⟩
  rw [show cS2.mode = 1 from rfl]
  go_wp2_with fail
  refine (done_own O12.out).mono ?_
  rintro e w14 ⟨rfl, rfl⟩
  rw [show cS2.done = 2 from rfl]
  go_wp2_with fail
  go_ret
  exact ⟨rfl, O12.out.below⟩
end Go.Proofs.YtliiploidjnmnaaDoor.PF
end

section
/- A page, and a blank one, with two bits turned in one chunk. -/
set_option linter.unusedVariables false
set_option linter.unusedSimpArgs false
namespace Go.Proofs.YtliiploidjnmnaaDoor.PF
open Go.RowKit Go.Proofs.YtliiploidjnmnaaDoor.Hw Go.Proofs.YtliiploidjnmnaaDoorW.PrintWords Go.Proofs.YtliiploidjnmnaaDoorW.PrintLast

/-- Two bits turned in one chunk, at most one in each other. -/
structure Two (S S' : ByteArray) (n j0 : Nat) : Prop where
  size : S'.size = 9 * n
  here : ∃ a b, a < 72 ∧ b < 72 ∧ a ≠ b ∧ chk S' j0 = flipAt (flipAt (chk S j0) a) b
  away : ∀ j, j < n → j ≠ j0 → chk S' j = chk S j ∨ ∃ c, c < 72 ∧ chk S' j = flipAt (chk S j) c
/-- Chunks that are words of the code, and their data. -/
structure Coded (S : ByteArray) (n : Nat) (a : ByteArray) : Prop where
  size : S.size = 9 * n
  n4 : 4 ≤ n
  n35 : n ≤ 35
  asize : a.size = 8 * n
  code : ∀ j, j < n → IsCode (chk S j) ∧ (chk S j).extract 0 8 = a.extract (8 * j) (8 * j + 8)
theorem two_dec {S S' a : ByteArray} {n j0 : Nat} (hS : Coded S n a) (h : Two S S' n j0) (hj : j0 < n) (he : frame_erased.f S' = some false) : frame_Decode.f S' = some (4, 0, 0, 0, 0, ⟨#[]⟩) := by
  have h4 := hS.n4
  have h35 := hS.n35
  have hz := h.size
  have haz := hS.asize
  obtain ⟨x, y, hx, hy, hxy, e⟩ := h.here
  have hb : ham_Decode.f 40 (chk S' j0) = some (⟨#[]⟩, 4, 0) := by rw [e]; exact (hS.code j0 hj).1.two x y hx hy hxy 39
  let st : Nat → Int := fun j => if chk S' j = chk S j then 2 else 3
  have hd := dec_bad S' a st n j0 hj (by omega) (by omega) (fun i hi => by
    obtain ⟨c1, c2⟩ := hS.code i (by omega)
    rcases h.away i (by omega) (by omega) with e | ⟨c, hc, e⟩
    · refine ⟨?_, ?_⟩
      · show _ = some (_, (if chk S' i = chk S i then (2 : Int) else 3), 0)
        rw [if_pos e, e, c1.good 39, c2]
      · show (if chk S' i = chk S i then (2 : Int) else 3) ≠ 4
        split <;> decide
    · by_cases q : chk S' i = chk S i
      · refine ⟨?_, ?_⟩
        · show _ = some (_, (if chk S' i = chk S i then (2 : Int) else 3), 0)
          rw [if_pos q, q, c1.good 39, c2]
        · show (if chk S' i = chk S i then (2 : Int) else 3) ≠ 4
          split <;> decide
      · refine ⟨?_, ?_⟩
        · show _ = some (_, (if chk S' i = chk S i then (2 : Int) else 3), 0)
          rw [if_neg q, e, c1.one c hc 39, c2]
        · show (if chk S' i = chk S i then (2 : Int) else 3) ≠ 4
          split <;> decide) hb
  unfold frame_Decode.f
  rw [if_pos (by omega), if_neg (by omega), he, Option.bind_some, if_neg (by decide), show S'.size / 9 = n by omega, hd, Option.bind_some, if_pos rfl]
theorem era_two {S' : ByteArray} {n : Nat} (hz : S'.size = 9 * n) (h35 : n ≤ 35) (j : Nat) (hj : j < n) (h : 1 < zerGo (chk S' j) 9) : frame_erased.f S' = some false := by
  unfold frame_erased.f
  rw [if_pos (by omega)]
  refine era_no _ _ j (by omega) (fun i hi => by rw [chk_size _ _ (by omega)]; omega) ?_
  rw [chk_size _ _ (by omega)]
  exact h
theorem page_coded (k l s e : Int) (d : ByteArray) (hd : mayB d.size = true) : Coded (pageOf k l s e d) ((d.size + 24) / 8) (allOf k l s e d) := by
  have hb := of_decide_eq_true hd
  exact ⟨page_size k l s e d (by omega), by omega, by omega, by rw [allOf_size]; omega, fun j hj => page_code k l s e d (by omega) j hj⟩
theorem page_two (k l s e : Int) (d : ByteArray) (hd : mayB d.size = true) (S' : ByteArray) (j0 : Nat) (h : Two (pageOf k l s e d) S' ((d.size + 24) / 8) j0) (hj : j0 < (d.size + 24) / 8) : frame_Decode.f S' = some (4, 0, 0, 0, 0, ⟨#[]⟩) := by
  have hb := of_decide_eq_true hd
  have hc := page_coded k l s e d hd
  have hsz := hc.size
  have z := first_zeros k l s e d (by omega)
  refine two_dec hc h hj (era_two h.size hc.n35 0 (by omega) ?_)
  have h9 : (chk (pageOf k l s e d) 0).size = 9 := chk_size _ _ (by omega)
  by_cases e0 : j0 = 0
  · subst e0
    obtain ⟨a, b, ha, hb2, hab, q⟩ := h.here
    rw [q]
    have z1 := (zerGo_turn (chk (pageOf k l s e d) 0) a (by rw [h9]; omega) 9).2
    have z2 := (zerGo_turn (flipAt (chk (pageOf k l s e d) 0) a) b (by rw [flipAt_size, h9]; omega) 9).2
    omega
  · rcases h.away 0 (by omega) (fun x => e0 x.symm) with q | ⟨c, hc2, q⟩
    · rw [q]; omega
    · rw [q]
      have z1 := (zerGo_turn (chk (pageOf k l s e d) 0) c (by rw [h9]; omega) 9).2
      omega
theorem ffs_code : IsCode (ffs 9) := by
  have hP : ∀ n, n ≤ 8 → hamP (ffs 9) n = (List.range n).foldl (fun p i => p ^^^ xorB i 255) 0 := by
    intro n
    induction n with
    | zero => intro _; rfl
    | succ n ih =>
      intro h
      show hamP (ffs 9) n ^^^ xorB n (bn (ffs 9) n) = _
      rw [ih (by omega), ffs_bn _ _ (by omega), List.range_succ, List.foldl_append]
      rfl
  have hN : ∀ n, n ≤ 8 → hamN (ffs 9) n = 8 * n := by
    intro n
    induction n with
    | zero => intro _; rfl
    | succ n ih =>
      intro h
      show hamN (ffs 9) n + popB (bn (ffs 9) n) = _
      rw [ih (by omega), ffs_bn _ _ (by omega), show popB 255 = 8 by decide]
      omega
  refine ⟨ffs_size 9, ?_, ?_⟩
  · unfold syn
    rw [hP 8 (by omega), ffs_bn _ _ (by omega)]
    decide +kernel
  · unfold par
    rw [hN 8 (by omega), ffs_bn _ _ (by omega)]
    decide +kernel
theorem ffs_coded (n : Nat) (h4 : 4 ≤ n) (h35 : n ≤ 35) : Coded (ffs (9 * n)) n (ffs (8 * n)) := by
  refine ⟨ffs_size _, h4, h35, ffs_size _, fun j hj => ⟨by rw [ffs_chk _ _ hj]; exact ffs_code, ?_⟩⟩
  rw [ffs_chk _ _ hj]
  have z1 := ffs_size 9
  have z2 := ffs_size (8 * n)
  apply bext
  · rw [size_extract' _ _ _ (by omega), size_extract' _ _ _ (by omega)]; omega
  · intro i hi
    rw [size_extract' _ _ _ (by omega)] at hi
    rw [bn_extract _ _ _ _ (by omega) (by omega), bn_extract _ _ _ _ (by omega) (by omega), ffs_bn _ _ (by omega), ffs_bn _ _ (by omega)]
theorem zer_up : ∀ (m : Fin 8) (c : Fin 256), c.val / 2 ^ m.val % 2 = 1 → zerB (c.val ^^^ 2 ^ m.val) = zerB c.val + 1 := by decide +kernel
theorem bit_stays : ∀ (m q : Fin 8), (255 ^^^ 2 ^ m.val) / 2 ^ q.val % 2 = if m = q then 0 else 1 := by decide +kernel
theorem bit_255 : ∀ q : Fin 8, 255 / 2 ^ q.val % 2 = 1 := by decide +kernel
theorem zerGo_up (s : ByteArray) (j : Nat) (hj : j / 8 < s.size) (hb : bn s (j / 8) / 2 ^ (j % 8) % 2 = 1) : ∀ n, j / 8 < n → zerGo (flipAt s j) n = zerGo s n + 1
  | 0, h => by omega
  | n + 1, h => by
    have hbn := bn_flipAt s j n hj
    show zerGo (flipAt s j) n + zerB (bn (flipAt s j) n) = zerGo s n + zerB (bn s n) + 1
    by_cases e : n = j / 8
    · have hc : zerGo (flipAt s j) n = zerGo s n := zerGo_congr n (fun i hi => by rw [bn_flipAt s j i hj, if_neg (by omega)])
      rw [if_pos e] at hbn
      have z := zer_up ⟨j % 8, by omega⟩ ⟨bn s n, bn_lt s n⟩
      simp only at z
      rw [← e] at hb
      rw [hbn, hc, z hb]
      omega
    · rw [if_neg e] at hbn
      rw [hbn, zerGo_up s j hj hb n (by omega)]
      omega
theorem ffs_two (a b : Nat) (ha : a < 72) (hb : b < 72) (hab : a ≠ b) : zerGo (flipAt (flipAt (ffs 9) a) b) 9 = 2 := by
  have z1 := ffs_size 9
  have z0 := ffs_zeros
  have u1 := zerGo_up (ffs 9) a (by omega) (by rw [ffs_bn _ _ (by omega)]; exact bit_255 ⟨a % 8, by omega⟩) 9 (by omega)
  have u2 := zerGo_up (flipAt (ffs 9) a) b (by rw [flipAt_size]; omega) (by
    rw [bn_flipAt _ _ _ (by omega), ffs_bn _ _ (by omega)]
    split
    · have := bit_stays ⟨a % 8, by omega⟩ ⟨b % 8, by omega⟩
      simp only at this
      rw [this, if_neg (by simp only [Fin.mk.injEq]; omega)]
    · exact bit_255 ⟨b % 8, by omega⟩) 9 (by omega)
  omega
theorem blank_two (n : Nat) (h4 : 4 ≤ n) (h35 : n ≤ 35) (S' : ByteArray) (j0 : Nat) (h : Two (ffs (9 * n)) S' n j0) (hj : j0 < n) : frame_Decode.f S' = some (4, 0, 0, 0, 0, ⟨#[]⟩) := by
  refine two_dec (ffs_coded n h4 h35) h hj (era_two h.size h35 j0 hj ?_)
  obtain ⟨a, b, ha, hb, hab, q⟩ := h.here
  rw [q, ffs_chk _ _ hj, ffs_two a b ha hb hab]
  decide
/-- Two bits turned in a chunk; a third one in another. -/
theorem two_made (x : ByteArray) (n j a b : Nat) (hx : x.size = 9 * n) (hj : j < n) (ha : a < 72) (hb : b < 72) (hab : a ≠ b) : Two x (flipAt (flipAt x (72 * j + a)) (72 * j + b)) n j := by
  have z1 : (flipAt x (72 * j + a)).size = 9 * n := by rw [flipAt_size, hx]
  refine ⟨by rw [flipAt_size, z1], ⟨a, b, ha, hb, hab, ?_⟩, fun i hi hij => Or.inl ?_⟩
  · rw [chk_turn _ n j b j z1 hj hb hj, if_pos rfl, chk_turn _ n j a j hx hj ha hj, if_pos rfl]
  · rw [chk_turn _ n j b i z1 hj hb hi, if_neg hij, chk_turn _ n j a i hx hj ha hi, if_neg hij]
/-- What is hurt is bad. -/
theorem hurtB_two (x : ByteArray) (n : Nat) (a b : Int) (hx : x.size = 9 * n) (h1 : 1 ≤ n) : Two x (hurtB x a b) n 0 := by
  have a0 := Int.emod_nonneg a (by decide : (72 : Int) ≠ 0)
  have a1 := Int.emod_lt_of_pos a (by decide : (0 : Int) < 72)
  have b0 := Int.emod_nonneg b (by decide : (71 : Int) ≠ 0)
  have b1 := Int.emod_lt_of_pos b (by decide : (0 : Int) < 71)
  have c0 := Int.emod_nonneg (a % 72 + 1 + b % 71) (by decide : (72 : Int) ≠ 0)
  have c1 := Int.emod_lt_of_pos (a % 72 + 1 + b % 71) (by decide : (0 : Int) < 72)
  have := two_made x n 0 (a % 72).toNat ((a % 72 + 1 + b % 71) % 72).toNat hx (by omega) (by omega) (by omega) (by omega)
  unfold hurtB
  rw [if_neg (by omega)]
  rw [Nat.mul_zero, Nat.zero_add, Nat.zero_add] at this
  exact this
end Go.Proofs.YtliiploidjnmnaaDoor.PF
end

section
/- What is read of a spoilt block, in plain words. -/
set_option linter.unusedVariables false
set_option linter.unusedSimpArgs false
namespace Go.Proofs.YtliiploidjnmnaaDoor.PF
open Go.RowKit Go.Shelf Go.Proofs.YtliiploidjnmnaaDoorW.PrintWords Go.Proofs.YtliiploidjnmnaaDoor.Hw

/-- A blank page of the law's size, or a page of a number. -/
def Pageish (X : ByteArray) : Prop := X = ffs 36 ∨ ∃ m, X = pgN m
theorem pageish_size {X : ByteArray} (h : Pageish X) : X.size = 9 * 4 := by
  rcases h with rfl | ⟨m, rfl⟩
  · rw [ffs_size]
  · rw [pgN_size]
theorem pageish_two {X : ByteArray} (x y : Int) (h : Pageish X) : frame_Decode.f (hurtB X x y) = some (4, 0, 0, 0, 0, ⟨#[]⟩) := by
  have ht := hurtB_two X 4 x y (pageish_size h) (by omega)
  rcases h with rfl | ⟨m, rfl⟩
  · exact blank_two 4 (by omega) (by omega) _ 0 ht (by omega)
  · have e : ((data8 m).size + 24) / 8 = 4 := by rw [data8_size]
    exact page_two 1 m m 0 (data8 m) (data8_may m) _ 0 (by rw [e]; exact ht) (by rw [e]; decide)
theorem hurtB_size36 {X : ByteArray} (x y : Int) (h : Pageish X) : (hurtB X x y).size = 36 := (hurtB_two X 4 x y (pageish_size h) (by omega)).size
/-- What stands at a line's first part, and is not marked. -/
def Plain0 (S : CellS) (a : Nat) : Prop := (S.lines.getD a line0).h0 = false ∧ ((S.lines.getD a line0).p0.size = 0 ∨ ∃ m, (S.lines.getD a line0).p0 = pgN m)
end Go.Proofs.YtliiploidjnmnaaDoor.PF
end
