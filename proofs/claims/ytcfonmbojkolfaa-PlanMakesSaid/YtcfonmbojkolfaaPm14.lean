/- The law's proof: words, contracts of the functions that it reaches, plain lemmas. -/
import Derived.Test.YtcfonmbojkolfaaProg
import Derived.Below
import Derived.Carry
import Derived.Deep.Draws
import Derived.Deep.AppendLies
import Derived.Maps.AppendAt
import Derived.OwnWalk
import Derived.Laws.BytesArg
import Derived.Laws.MakeOwn
import Derived.Laws.OwnMore
import Derived.Deep.OwnRows
import Derived.Tactics
import Derived.Lib.ConvBytes
import Derived.Laws.Slices
import Derived.WalkKit
import Derived.KernelRfl
import Derived.RowKit3
import Derived.Deep.LoopGhost
import Derived.Deep.QuietTactic
import Derived.BigQuiet
import Derived.WideLaws
import Derived.Deep.DeepCutAuto
import Derived.Deep.CutBlock
import Derived.Deep.RegionHeld3
import Derived.Deep.RegionWith
import Derived.Laws.Rows
import Derived.Lib.AppendStr
import Derived.ArgAppend
import Derived.Laws.IdiomCopy
import Derived.OrdersHeld
import Derived.Laws.BitsLemmas
import Derived.Outline
import Derived.RegionTactic
import Derived.Lib.Hide
import Derived.StillTailTactics
import Derived.OpenShut
import Derived.Test.YtcfonmbojkolfaaPm3
import Derived.Test.YtcfonmbojkolfaaPm12
import Derived.Test.YtcfonmbojkolfaaPm13
import Derived.Lib.BufferMore
import Derived.Lib.LazyBuf
import Derived.RegionIn
import Derived.ControlIn
import Derived.Sort.CutIn
section
/- Law PlanOnce: the walk. -/
set_option linter.unusedVariables false
set_option linter.unusedSimpArgs false
namespace Go.Proofs.Ytcfonmbojkolfaa.Plan
open Go.RowKit Go.Proofs.YtcfonmbojkolfaaW.PrintWords Go.Proofs.Ytcfonmbojkolfaa.Mem Go.Proofs.Ytcfonmbojkolfaa.Own Go.Proofs.Ytcfonmbojkolfaa.Maps Go.Proofs.Ytcfonmbojkolfaa.PN

open Go.Proofs.Ytcfonmbojkolfaa.Rng
attribute [local go_sem high] eqA27
attribute [local go_sem] Oper.semAt_some
/-- What Make comes to, in one form. -/
def PvOk (w0 : World) (G : G6) (tg : Int) (l : List S27) (L : List Asn) (p : Option Addr) (w' : World) : Prop :=
  (makeC G tg l ≠ 0 ∧ p = none ∧ Own.Own w0 w' L) ∨ (makeC G tg l = 0 ∧ ∃ g A c r, p = some ⟨g, 0, none⟩ ∧ Own.Own w0 w' (PlO g A c r (planOf G tg l) L))
theorem PvOk.own {w0 w' : World} {G : G6} {tg : Int} {l : List S27} {L : List Asn} {p : Option Addr} (h : PvOk w0 G tg l L p w') : Own.Own w0 w' L := by
  rcases h with ⟨_, _, h⟩ | ⟨_, g, A, c, r, _, h⟩
  · exact h
  · exact h.drop.drop.drop
theorem makeEnd_one {w0 w' : World} {G : G6} {tg : Int} {l : List S27} {L : List Asn} {e : Ending} (h : MakeEnd w0 G tg l L e w') : ∃ p, e = .returned (.tuple #[.pointer p, .int .i64 (makeC G tg l)]) ∧ PvOk w0 G tg l L p w' := by
  rcases h with ⟨h1, rfl, h2⟩ | ⟨h1, g, A, c, r, rfl, h2⟩
  · exact ⟨_, rfl, .inl ⟨h1, rfl, h2⟩⟩
  · exact ⟨_, by rw [h1], .inr ⟨h1, g, A, c, r, rfl, h2⟩⟩
abbrev BoxT (B : Nat) (tg : Int) : Asn := Pt B (.cells #[.int .i64 tg] 3)
abbrev BoxR (B : Nat) (b : Bool) : Asn := Pt B (.cells #[.bool b] 4)
abbrev BoxQ (B : Nat) (p : Option Addr) : Asn := Pt B (.cells #[.pointer p] 28)
def AfterK (w : World) (tg : Int) (l : List S27) (B3 B4 : Nat) (s5 s6 : Value) (wx : World) : Prop := ∃ (B5 : Nat) (p : Option Addr), s5 = Value.pointer (some ⟨B5, 0, none⟩) ∧ s6 = Value.int .i64 (makeC G0 tg l) ∧
  ((makeC G0 tg l ≠ 0 ∧ p = none ∧ Own.Own w wx [BoxQ B5 p, BoxR B4 false, BoxT B3 tg]) ∨ (makeC G0 tg l = 0 ∧ ∃ g A c r, p = some ⟨g, 0, none⟩ ∧ Own.Own w wx (BoxQ B5 p :: PlO g A c r (planOf G0 tg l) [BoxR B4 false, BoxT B3 tg])))
theorem afterK {w w1 : World} {tg : Int} {l : List S27} {B3 B4 : Nat} {p : Option Addr} (h : PvOk w G0 tg l [BoxR B4 false, BoxT B3 tg] p w1) : AfterK w tg l B3 B4 (.pointer (some ⟨w1.heap.size, 0, none⟩)) (.int .i64 (makeC G0 tg l)) (w1.alloc (.cells #[.pointer p] 28)) := by
  rcases h with ⟨h1, rfl, h⟩ | ⟨h1, g, A, c, r, rfl, h⟩
  · exact ⟨_, _, rfl, rfl, .inl ⟨h1, rfl, h.alloc _⟩⟩
  · exact ⟨_, _, rfl, rfl, .inr ⟨h1, g, A, c, r, rfl, h.alloc _⟩⟩
theorem afterK2 {w w1 : World} {tg : Int} {l : List S27} {B3 B4 B5 : Nat} {p : Option Addr} (h : PvOk w G0 tg l [BoxQ B5 none, BoxR B4 false, BoxT B3 tg] p w1) : AfterK w tg l B3 B4 (.pointer (some ⟨B5, 0, none⟩)) (.int .i64 (makeC G0 tg l)) (w1.setCell ⟨B5, 0, none⟩ (.pointer p)) := by
  rcases h with ⟨h1, rfl, h⟩ | ⟨h1, g, A, c, r, rfl, h⟩
  · exact ⟨_, _, rfl, rfl, .inl ⟨h1, rfl, h.set (i := 0) _⟩⟩
  · exact ⟨_, _, rfl, rfl, .inr ⟨h1, g, A, c, r, rfl, (own_swap [_, _, _] [_] h).set (i := 0) _⟩⟩
/-- How many of a line's first j parts have a source. -/
def pN (n : Nat) (r : Int) (j : Nat) : Int := if 3 * r + j ≤ n then j else if n ≤ 3 * r then 0 else n - 3 * r
theorem pN_line (n : Nat) (r : Int) : pN n r 3 = onLine n r := by
  unfold pN onLine
  split <;> split <;> (try split) <;> (try split) <;> omega
theorem pN_0 (n : Nat) (r : Int) : pN n r 0 = 0 := by
  unfold pN
  split
  · rfl
  · split <;> omega
theorem pN_bd (n : Nat) (r : Int) (j : Nat) : 0 ≤ pN n r j ∧ pN n r j ≤ j := by
  unfold pN
  split
  · omega
  · split <;> omega
theorem pN_in (n : Nat) (r : Int) (j : Nat) (h : 3 * r + (j : Nat) < (n : Int)) : pN n r (j + 1) = pN n r j + 1 := by
  unfold pN
  rw [if_pos (by omega), if_pos (by omega)]
  omega
theorem pN_out (n : Nat) (r : Int) (j : Nat) (h : ¬ 3 * r + (j : Nat) < (n : Int)) : pN n r (j + 1) = pN n r j := by
  unfold pN
  split <;> split <;> (try split) <;> (try split) <;> omega
theorem vint {a b : Int} (h : a = b) : Value.int .i64 a = Value.int .i64 b := by rw [h]
theorem src_in {tg : Int} {l : List S27} (hto : ∀ i : Nat, i < l.length → toP (planOf G0 tg l) (tOf (rd_T27 l i)) = (plcAt tg i, true)) (hf0 : ∀ i : Nat, i < l.length → 0 ≤ (rd_T27 l i).f0) (r1 : Int) (j : Nat) (h0 : 0 ≤ r1) (hj : j < 3) (h : 3 * r1 + (j : Nat) < (l.length : Int)) (q : Tri) (hq : q = srcAt l (3 * r1 + (j : Nat))) :
    0 ≤ q.1 ∧ toP (planOf G0 tg l) q = ((tg, r1, ((j : Nat) : Int)), true) := by
  obtain ⟨i, hi⟩ : ∃ i : Nat, (i : Int) = 3 * r1 + (j : Nat) := ⟨(3 * r1 + (j : Nat)).toNat, by omega⟩
  rw [srcAt, if_pos h, ← hi] at hq
  subst hq
  refine ⟨hf0 i (by omega), ?_⟩
  rw [hto i (by omega)]
  have e1 : (i : Int) / 3 = r1 := by omega
  have e2 : (i : Int) % 3 = (j : Nat) := by omega
  show ((tg, (i : Int) / 3, (i : Int) % 3), true) = _
  rw [e1, e2]
theorem src_out {l : List S27} (r1 : Int) (j : Nat) (h : ¬ 3 * r1 + (j : Nat) < (l.length : Int)) (q : Tri) (hq : q = srcAt l (3 * r1 + (j : Nat))) : q = (-1, 0, 0) := by rw [hq, srcAt, if_neg h]
/-- Two boxes of which nothing more is asked. -/
def Has2 (w0 W : World) (g h : Nat) (L : List Asn) : Prop := ∃ cs ds T U, Own.Own w0 W (Pt g (.cells cs T (0, 0)) :: Pt h (.cells ds U (0, 0)) :: L)
theorem Has2.set {w0 W : World} {g h i : Nat} {u : Value} {L : List Asn} (H : Has2 w0 W g h L) : Has2 w0 (W.setCell ⟨g, i, none⟩ u) g h L := let ⟨_, _, _, _, k⟩ := H; ⟨_, _, _, _, k.set (i := i) u⟩
theorem Has2.swap {w0 W : World} {g h : Nat} {L : List Asn} (H : Has2 w0 W g h L) : Has2 w0 W h g L := let ⟨_, _, _, _, k⟩ := H; ⟨_, _, _, _, k.pull2⟩
theorem Has2.set2 {w0 W : World} {g h i : Nat} {u : Value} {L : List Asn} (H : Has2 w0 W g h L) : Has2 w0 (W.setCell ⟨h, i, none⟩ u) g h L := H.swap.set.swap
theorem Has2.done {w0 W : World} {g h : Nat} {L : List Asn} (H : Has2 w0 W g h L) : Own.Own w0 W L := let ⟨_, _, _, _, k⟩ := H; k.drop.drop
theorem Has2.of {w0 W : World} {g h : Nat} {cs ds : Array Value} {T U : TypeId} {L : List Asn} (H : Own.Own w0 W (Pt g (.cells cs T (0, 0)) :: Pt h (.cells ds U (0, 0)) :: L)) : Has2 w0 W g h L := ⟨_, _, _, _, H⟩
def Has1 (w0 W : World) (g : Nat) (L : List Asn) : Prop := ∃ cs T, Own.Own w0 W (Pt g (.cells cs T (0, 0)) :: L)
theorem Has1.set {w0 W : World} {g i : Nat} {u : Value} {L : List Asn} (H : Has1 w0 W g L) : Has1 w0 (W.setCell ⟨g, i, none⟩ u) g L := let ⟨_, _, k⟩ := H; ⟨_, _, k.set (i := i) u⟩
theorem Has1.alloc {w0 W : World} {g : Nat} {o : Obj} {L : List Asn} (H : Has1 w0 W g L) : Has1 w0 (W.alloc o) g L := let ⟨_, _, k⟩ := H; ⟨_, _, k.alloc' o⟩
theorem Has1.done {w0 W : World} {g : Nat} {L : List Asn} (H : Has1 w0 W g L) : Own.Own w0 W L := let ⟨_, _, k⟩ := H; k.drop
theorem Has1.of {w0 W : World} {g : Nat} {cs : Array Value} {T : TypeId} {L : List Asn} (H : Own.Own w0 W (Pt g (.cells cs T (0, 0)) :: L)) : Has1 w0 W g L := ⟨_, _, H⟩
theorem two_alloc {w0 W : World} {o1 o2 : Obj} {L : List Asn} (H : Own.Own w0 W L) : Own.Own w0 ((W.alloc o1).alloc o2) L := (H.alloc' o1).alloc' o2
theorem step_no {e : Ending} {v : Value} {B : Prop} (h : (1 : Int) ≠ 0 ∧ e = .returned v ∨ (1 : Int) = 0 ∧ B) : e = .returned v := by
  rcases h with ⟨_, h⟩ | ⟨h, _⟩
  · exact h
  · exact absurd h (by decide)
abbrev LZ (D g : Nat) (A : Option Addr) (c r : Nat) (S : PlS) (B3 B4 B5 : Nat) (tg : Int) : List Asn := BoxQ B5 (some ⟨g, 0, none⟩) :: BoxR B4 false :: BoxT B3 tg :: Dfr D :: PlO g A c r S []
set_option maxHeartbeats 8000000 in
set_option maxRecDepth 100000 in
theorem once_own {w : World} (A : Option Addr) (cc : Nat) (l : List S27) (tg : Int) (hr : Kd.C k27 w A l.length l) (hc : l.length ≤ cc) :
    Calls Try.prog 4 #[.slice A l.length cc, .int .i64 tg] w fun e w' => e = .returned (.bool true) ∧ Below w.heap.size w w' := by
  have HR := Aside0.mk hr
  have hm := Kd.C_max hr
  have HC := Lib.hid hc
  have ha := ((Own.Own.new w).alloc (.cells #[.int .i64 tg] 3)).alloc (.cells #[.bool false] 4)
  rw [World.size_alloc] at ha
  obtain ⟨B3, hB3⟩ : ∃ B3, B3 = w.heap.size := ⟨_, rfl⟩
  obtain ⟨B4, hB4⟩ : ∃ B4, B4 = B3 + 1 := ⟨_, rfl⟩
  rw [← hB3, ← hB4] at ha
  have HO := Aside0.mk ha
  have HB3 := Lib.hid hB3
  have HB4 := Lib.hid hB4
  clear ha hr hB3 hB4 hc
  refine (callsIn_wide (n := 3)).1 ?_
  refine callsIn_of_wp_marks Try.func4 rfl trivial ?_ rfl
  simp only [Try.ntmps4, List.size_toArray, List.length_cons, List.length_nil, Nat.reduceAdd, Nat.reduceSub, Array.replicate_succ, Array.replicate_zero, List.push_toArray, List.append_toArray, List.nil_append, List.cons_append]
  refine wpIn_wide.2 ?_
  go_wp2_with fail
  rw [← HB3.out, ← HB4.out]
  refine (works_own HO.out).mono ?_
  rintro e w1 ⟨rfl, ho⟩
  have HW := Aside0.mk ho
  clear ho HO
  have r0 := blk_cell HW.out.pt 0
  have r1 := blk_frozen HW.out.pt 0
  by_cases h40 : 40 < l.length
  · have d1 : decide (40 < (l.length : Int)) = true := decide_eq_true (by omega)
    go_wp2_with fail
    have H5 := HW.out.set (i := 0) (.bool true)
    have hc := blk_cell H5.pt 0
    exact ⟨.bool true, by simp [results, Try.results4, go_sem, hc], rfl, H5.below⟩
  · have d1 : decide (40 < (l.length : Int)) = false := decide_eq_false (by omega)
    clear r0 r1
    go_upto_region 5 with (fail)
    go_cut [5, 6] from 32 to 38 (fun s5 s6 wx => AfterK w tg l B3 B4 s5 s6 wx)
    case first =>
      have c3 := blk_cell HW.out.drop.pt 0
      simp only [List.getElem?_toArray, List.getElem?_cons_zero] at c3
      have hlt := blk_lt HW.out.drop.pt
      go_region_held3 (fun w' => w'.cell? ⟨B3, 0, none⟩ = some (.int .i64 tg)) (go_keep) (first
        | (go_at_call 12; refine (decklelaw25_geo.calls 8 6 64 4 0 4 _ rfl).mono ?_; rintro e w2 ⟨rfl, hb⟩; (first | have HB := Aside0.mk (HW.out.drew.move hb) | have HB := Aside0.mk ((HW.out.alloc (.cells #[.pointer none] 28)).drew.move hb)); have c4 : w2.cell? ⟨B3, 0, none⟩ = some (.int .i64 tg) := (by (first | exact blk_cell HB.out.drop.pt 0 | exact blk_cell HB.out.drop.drop.pt 0)); have k4 := blk_lt HB.out.pt; clear hb)
        | (go_at_call 11; (first | refine (make_any G0 tg A cc l g0_ok (by omega) HC.out (Kd.C_below HR.out HB.out.below) HB.out).mono ?_ | refine (make_any G0 tg A cc l g0_ok (by omega) HC.out (Kd.C_below HR.out (HB.out.alloc (.cells #[.pointer none] 28)).below) (HB.out.alloc (.cells #[.pointer none] 28))).mono ?_); rintro e w3 he; obtain ⟨p, rfl, hp⟩ := makeEnd_one he; have HP := Aside0.mk hp; have c5 : w3.cell? ⟨B3, 0, none⟩ = some (.int .i64 tg) := (by (first | exact blk_cell HP.out.own.drop.pt 0 | exact blk_cell HP.out.own.drop.drop.pt 0)); have f5 := blk_frozen HP.out.own.pt 0; have q5 := blk_cell HP.out.own.pt 0; simp only [List.getElem?_toArray, List.getElem?_cons_zero] at q5; (try (have n6 := own_ne2 HP.out.own.pull3; have n7 := n6.symm)); clear hp he))
      all_goals go_wp2_with fail
      all_goals go_meet
      all_goals first | exact afterK HP.out | exact afterK2 HP.out
    case rest =>
      obtain ⟨B5, p, rfl, rfl, ⟨h1, rfl, ho⟩ | ⟨h1, g, A', c, r, rfl, ho⟩⟩ := hcut
      · have hne : (makeC G0 tg l == 0) = false := by simpa using h1
        have hne2 : (makeC G0 tg l != 0) = true := by simpa using h1
        have HX := Aside0.mk ho
        have c5 := blk_cell HX.out.pt 0
        have c4 := blk_cell HX.out.drop.pt 0
        have f4 := blk_frozen HX.out.drop.pt 0
        simp only [List.getElem?_toArray, List.getElem?_cons_zero] at c5 c4
        clear h1 ho HW
        go_wp2_with fail
        have H5 := HX.out.pull2.set (i := 0) (.bool true)
        have hc := blk_cell H5.pt 0
        exact ⟨.bool true, by simp [results, Try.results4, go_sem, hc], rfl, H5.below⟩
      · rw [h1]
        obtain ⟨⟨t0, t8⟩, hl18, hto, hf0, hmb⟩ := plan_yes h1
        have HTO := Lib.hid hto
        have HF0 := Lib.hid hf0
        have HMB := Lib.hid hmb
        have HX := Aside0.mk ho
        have c5 := blk_cell HX.out.pt 0
        simp only [List.getElem?_toArray, List.getElem?_cons_zero] at c5
        have hm1 := fun W => run_makeMap (P := Try.prog) 36 W
        clear h1 ho HW hto hf0 hmb
        go_upto_region 9 with (fail)
        have hy := (mp_new tri (.int .i64) HX.out 0).alloc (.cells #[.map (some wc.heap.size)] 36)
        rw [World.size_alloc] at hy
        obtain ⟨rm, hrm⟩ : ∃ rm, rm = wc.heap.size := ⟨_, rfl⟩
        obtain ⟨B7, hB7⟩ : ∃ B7, B7 = wc.heap.size + 1 := ⟨_, rfl⟩
        rw [← hB7, ← hrm] at hy
        rw [← hB7, ← hrm]
        have HY := Aside0.mk (own_swap [_, _] [_, _, _, _] hy)
        clear hm1 c5 HX hy hB7 hrm
        generalize hW : World.alloc _ _ = w2 at HY ⊢
        clear hW
        have c5 := blk_cell HY.out.pt 0
        simp only [List.getElem?_toArray, List.getElem?_cons_zero] at c5
        go_wp2_with fail
        refine (moves_own (g := g) HY.out).mono ?_
        rintro e w3 ⟨b, rfl, ho⟩
        have HF := Aside0.mk (show Own.Own w w3 (MvL b g A' c r (planOf G0 tg l) (fun k => [Pt B7 (.cells #[.map (some rm)] 36), PlM rm (takenM tg k), BoxQ B5 (some ⟨g, 0, none⟩), BoxR B4 false, BoxT B3 tg]) 0) from own_swap [_, _, _, _, _] [_] (own_swap [_, _] [_, _, _, _, _] ho))
        clear ho HY
        go_wp2_with fail
        refine (wpIn_wide (n := 3)).1 ?_
        refine wp_range_box (n := 3) (by omega) (gf := 39) (lb := #[.pointer (some ⟨b, 0, none⟩)]) rfl (enters_of Try.func39 (by kernel_rfl) rfl) (fun _ => rfl)
          (moves_iter w b g c r A' (planOf G0 tg l) (by show l.length ≤ 1000; omega) (fun k => [Pt B7 (.cells #[.map (some rm)] 36), PlM rm (takenM tg k), BoxQ B5 (some ⟨g, 0, none⟩), BoxR B4 false, BoxT B3 tg])) HF.out (fun _ _ => False) ?round ?done ?stop
        case round =>
          rintro lp D o k d Lk W ⟨hk, hd, rfl⟩ hO
          have hk' : k < l.length := hk
          obtain ⟨⟨a0, a1, a2⟩, b0, b1, b2⟩ := d
          have htk := HTO.out k hk'
          have hd1 : ((a0, a1, a2) : Tri) = tOf (rd_T27 l k) := congrArg (·.1) hd
          have hd2 : ((b0, b1, b2) : Tri) = plcAt tg k := congrArg (·.2) hd
          rw [← hd1, ← hd2] at htk
          have hb0 : b0 = tg := congrArg (·.1) hd2
          have hnk := taken_none tg k k (Nat.le_refl _)
          rw [← hd2] at hnk
          have hsk : takenM tg (k + 1) = mset (b0, b1, b2) 1 (takenM tg k) := by rw [hd2]; rfl
          have HTK := Lib.hid htk
          have HNK := Lib.hid hnk
          have HSK := Lib.hid hsk
          clear hd hd1 hd2 htk hnk hsk
          subst hb0
          have ha := (hO.alloc (.cells #[.int .i64 a0, .int .i64 a1, .int .i64 a2] 27)).alloc (.cells #[.int .i64 b0, .int .i64 b1, .int .i64 b2] 27)
          rw [World.size_alloc] at ha
          have HA := Aside0.mk (own_swap [_, _] [_, _] ha)
          obtain ⟨B8, hB8⟩ : ∃ B8, B8 = W.heap.size := ⟨_, rfl⟩
          obtain ⟨B9, hB9⟩ : ∃ B9, B9 = W.heap.size + 1 := ⟨_, rfl⟩
          rw [← hB9, ← hB8] at HA
          have HB8 := Lib.hid hB8
          have HB9 := Lib.hid hB9
          clear ha hO hB8 hB9
          gi_wp2_with (fail)
          refine ⟨_, HA.out, ?_⟩
          rw [← HB9.out, ← HB8.out]
          clear HA
          intro o2 W2 h2
          have HC := Aside0.mk h2
          clear h2
          have hp9 := HC.out.drop.drop.pt
          obtain ⟨x0, x1, x2⟩ := cells3 HC.out.drop.drop.drop.pt
          have q5 := blk_cell HC.out.drop.drop.drop.drop.drop.drop.drop.drop.drop.drop.pt 0
          simp only [List.getElem?_toArray, List.getElem?_cons_zero] at q5
          gi_wp2_with (fail)
          refine ⟨trivial, ?_⟩
          gi_at_call 14
          refine (CallsIn.inRound lp (callsIn_wide.2 (to_own (a0, a1, a2) (fun i hi => HMB.out _ i hi) (own_swap [_, _, _, _, _] [_, _, _] HC.out)))).mono ?_
          rintro e w5 ⟨rfl, ho⟩
          rw [HTK.out]
          have hd' := (own_swap [_, _, _] [_, _, _, _, _] ho).alloc (.cells #[.int .i64 b0, .int .i64 b1, .int .i64 b2] 27)
          obtain ⟨BX, hBX⟩ : ∃ BX, BX = w5.heap.size := ⟨_, rfl⟩
          rw [← hBX] at hd'
          have HD := Aside0.mk hd'
          have HBX := Lib.hid hBX
          clear ho HC hp9 x0 x1 x2 q5 hd' hBX
          gi_upto_region 13 with (fail)
          rw [← HBX.out]
          generalize hW : World.alloc w5 _ = w6 at HD ⊢
          clear hW
          have HP := own_swap [_, _, _, _, _, _, _, _, _, _] [_] HD.out
          have h1 := own_lookup keyT Try.underlying36 HP (b0, b1, b2) zero3
          rw [HNK.out] at h1
          simp only [Option.map_none, Option.getD_none, Option.isSome_none] at h1
          obtain ⟨w7, h2, ho7⟩ := own_update keyT Try.underlying36 HP (b0, b1, b2) (1 : Int)
          rw [← HSK.out] at ho7
          have HE := Aside0.mk (own_swap [_] [_, _, _, _, _, _, _, _, _, _] ho7)
          obtain ⟨x0, x1, x2⟩ := cells3 HD.out.pt
          obtain ⟨y0, y1, y2⟩ := cells3 HD.out.drop.drop.drop.pt
          have c7 := blk_cell HD.out.drop.drop.drop.drop.drop.drop.drop.drop.drop.pt 0
          have c3 := blk_cell HD.out.drop.drop.drop.drop.drop.drop.drop.drop.drop.drop.drop.drop.drop.pt 0
          simp only [List.getElem?_toArray, List.getElem?_cons_zero] at c7 c3
          clear ho7 HP HD
          gi_wp2_with (fail)
          exact ⟨_, rfl, (own_swap [_, _] [_, _] HE.out.drop).drop.drop⟩
        case done =>
          intro D L W hL hO
          subst hL
          have HZ := Aside0.mk (show Own.Own w W (LZ D g A' c r (planOf G0 tg l) B3 B4 B5 tg) from own_swap [_, _, _, _] [_, _, _] (own_swap [_, _, _, _] [_, _] hO.pull2.drop).drop.drop)
          clear hO HF
          have c5 := blk_cell HZ.out.pt 0
          simp only [List.getElem?_toArray, List.getElem?_cons_zero] at c5
          go_wp2_with fail
          refine (steps_own (S := planOf G0 tg l) (by show (0 : Int) ≤ 6; omega) (by show (6 : Int) ≤ 1000; omega) (own_swap [_, _, _, _] [_, _, _] HZ.out)).mono ?_
          rintro e w4 ⟨rfl, rfl⟩
          rw [show 2 * (planOf G0 tg l).ln = 12 from rfl]
          clear c5
          go_wp2_with fail
          go_loopw [14, 15, 84] (fun v14 v15 v84 wr => ∃ k : Nat, k ≤ 12 ∧ v84 = .int .i64 k ∧ v14 = .int .i64 (toldN l.length false k) ∧ v15 = .int .i64 (toldN l.length true k) ∧ Aside0 (Own.Own w wr (LZ D g A' c r (planOf G0 tg l) B3 B4 B5 tg))) (fun _ _ v84 _ => 12 - (intOf v84).toNat)
          case atStart => exact ⟨0, by omega, rfl, rfl, rfl, HZ⟩
          case round =>
            clear HZ
            obtain ⟨k, hk, rfl, rfl, rfl, HZ⟩ := hrel
            obtain ⟨F0, hF0⟩ : ∃ F, F = toldN l.length false k := ⟨_, rfl⟩
            obtain ⟨F1, hF1⟩ : ∃ F, F = toldN l.length true k := ⟨_, rfl⟩
            have b0 := told_bd l.length false k
            have b1 := told_bd l.length true k
            rw [← hF0] at b0
            rw [← hF1] at b1
            rw [← hF0, ← hF1]
            have HF0' := Lib.hid hF0
            have HF1' := Lib.hid hF1
            clear hF0 hF1
            have c5 := blk_cell HZ.out.pt 0
            simp only [List.getElem?_toArray, List.getElem?_cons_zero] at c5
            by_cases hk12 : k < 12
            · have dk : decide ((k : Int) < 12) = true := decide_eq_true (by omega)
              obtain ⟨r1, hr1⟩ : ∃ r, r = (six.getD k (0, false)).1 := ⟨_, rfl⟩
              obtain ⟨r2, hr2⟩ : ∃ r, r = (six.getD k (0, false)).2 := ⟨_, rfl⟩
              have hst : order_At.f 8 (planOf G0 tg l).ln k = some (r1, r2, 0) := by rw [hr1, hr2]; exact at_six ⟨k, hk12⟩
              have hl6 : 0 ≤ r1 ∧ r1 < 6 := by rw [hr1]; exact six_line ⟨k, hk12⟩
              obtain ⟨hl0, hl1⟩ := hl6
              have hn0 : toldN l.length false (k + 1) = F0 + if r2 = false then onLine l.length r1 else 0 := by rw [HF0'.out, hr1, hr2]; rfl
              have hn1 : toldN l.length true (k + 1) = F1 + if r2 = true then onLine l.length r1 else 0 := by rw [HF1'.out, hr1, hr2]; rfl
              have HN0 := Lib.hid hn0
              have HN1 := Lib.hid hn1
              have HST := Lib.hid hst
              clear hst hn0 hn1 hr1 hr2
              go_wp2_with fail
              refine (step_own k r1 0 r2 HST.out (fun _ => ⟨hl0, by omega⟩) (own_swap [_, _, _, _] [_, _, _] HZ.out)).mono ?_
              rintro e w5 ⟨⟨h, _⟩ | ⟨_, rfl⟩, ho⟩
              · exact absurd rfl h
              obtain ⟨p0, hp0⟩ : ∃ p, p = srcAt l (3 * r1) := ⟨_, rfl⟩
              obtain ⟨p1, hp1⟩ : ∃ p, p = srcAt l (3 * r1 + 1) := ⟨_, rfl⟩
              obtain ⟨p2, hp2⟩ : ∃ p, p = srcAt l (3 * r1 + 2) := ⟨_, rfl⟩
              have HP0 := Lib.hid hp0
              have HP1 := Lib.hid hp1
              have HP2 := Lib.hid hp2
              rw [show (planOf G0 tg l).src = l from rfl, ← hp0, ← hp1, ← hp2]
              have ha := ((own_swap [_, _, _] [_, _, _, _] ho).alloc (.cells #[.int .i64 r1, .bool r2] 45)).alloc (pg9 p0 p1 p2)
              rw [World.size_alloc] at ha
              obtain ⟨BS, hBS⟩ : ∃ BS, BS = w5.heap.size := ⟨_, rfl⟩
              obtain ⟨BP, hBP⟩ : ∃ BP, BP = w5.heap.size + 1 := ⟨_, rfl⟩
              rw [← hBP, ← hBS] at ha
              have HA := Aside0.mk ha
              have HBS := Lib.hid hBS
              have HBP := Lib.hid hBP
              clear ho ha HZ c5 hp0 hp1 hp2 hBS hBP
              go_upto_region 24 with (fail)
              rw [← HBP.out, ← HBS.out]
              generalize hW : World.alloc _ _ = w6 at HA ⊢
              clear hW
              obtain ⟨p00, p01, p02⟩ := p0
              obtain ⟨p10, p11, p12⟩ := p1
              obtain ⟨p20, p21, p22⟩ := p2
              obtain ⟨c0, c1, c2, c3, c4, c5, c6, c7, c8⟩ := cells9 HA.out.pt
              dsimp only at c0 c1 c2 c3 c4 c5 c6 c7 c8
              have i0 : ∀ w, (Instr.index 46 (pgV (p00, p01, p02) (p10, p11, p12) (p20, p21, p22)) (.int .i64 0)).run Try.prog w = .ok (tri (p00, p01, p02)) w := fun _ => by kernel_rfl
              have i1 : ∀ w, (Instr.index 46 (pgV (p00, p01, p02) (p10, p11, p12) (p20, p21, p22)) (.int .i64 1)).run Try.prog w = .ok (tri (p10, p11, p12)) w := fun _ => by kernel_rfl
              have i2 : ∀ w, (Instr.index 46 (pgV (p00, p01, p02) (p10, p11, p12) (p20, p21, p22)) (.int .i64 2)).run Try.prog w = .ok (tri (p20, p21, p22)) w := fun _ => by kernel_rfl
              go_wp2_with fail
              clear c0 c1 c2 c3 c4 c5 c6 c7 c8
              cases r2
              · go_loopw [14, 15, 97] (fun v14 v15 v97 wr => ∃ j : Nat, j ≤ 3 ∧ v97 = .int .i64 j ∧ v14 = .int .i64 (F0 + pN l.length r1 j) ∧ v15 = .int .i64 F1 ∧ Aside0 (Own.Own w wr (Pt BP (pg9 (p00, p01, p02) (p10, p11, p12) (p20, p21, p22)) :: Pt BS (.cells #[.int .i64 r1, .bool false] 45) :: LZ D g A' c r (planOf G0 tg l) B3 B4 B5 tg))) (fun _ _ v97 _ => 3 - (intOf v97).toNat)
                case atStart => exact ⟨0, by omega, rfl, vint (by rw [pN_0]; omega), rfl, HA⟩
                case round =>
                  clear HA
                  obtain ⟨j, hj, rfl, rfl, rfl, HA⟩ := hrel
                  have pb := pN_bd l.length r1 j
                  obtain ⟨P, hP⟩ : ∃ P, P = pN l.length r1 j := ⟨_, rfl⟩
                  rw [← hP] at pb ⊢
                  rcases (by omega : j = 0 ∨ j = 1 ∨ j = 2 ∨ j = 3) with rfl | rfl | rfl | rfl
                  · have hst := HP0.out
                    by_cases hin : 3 * r1 + (0 : Nat) < (l.length : Int)
                    · obtain ⟨q0, hq⟩ := src_in HTO.out HF0.out r1 0 hl0 (by decide) hin _ (by simpa using hst)
                      have hps := pN_in l.length r1 0 hin
                      rw [← hP] at hps
                      have HQ := Lib.hid hq
                      have HPS := Lib.hid hps
                      have dq : decide (p00 < 0) = false := decide_eq_false (by have : 0 ≤ p00 := q0; omega)
                      have ha := HA.out.alloc (.cells #[.int .i64 p00, .int .i64 p01, .int .i64 p02] 27)
                      obtain ⟨B1, hB1⟩ : ∃ B1, B1 = wr.heap.size := ⟨_, rfl⟩
                      rw [← hB1] at ha
                      have HB1 := Lib.hid hB1
                      have HB := Aside0.mk ha
                      clear hst hin q0 hq hps ha hB1 HA hP
                      go_upto_region 27 with (fail)
                      rw [← HB1.out]
                      generalize hW : World.alloc wr _ = w7 at HB ⊢
                      clear hW
                      obtain ⟨x0, x1, x2⟩ := cells3 HB.out.pt
                      have c5 := blk_cell HB.out.drop.drop.drop.pt 0
                      simp only [List.getElem?_toArray, List.getElem?_cons_zero] at c5
                      go_wp2_with fail
                      refine (to_own (p00, p01, p02) (fun i hi => HMB.out _ i hi) (own_swap [_, _, _, _, _, _, _] [_, _, _] HB.out)).mono ?_
                      rintro e w8 ⟨rfl, ho⟩
                      rw [HQ.out]
                      have hc' := (own_swap [_, _, _] [_, _, _, _, _, _, _] ho).alloc (.cells #[.int .i64 tg, .int .i64 r1, .int .i64 (0 : Nat)] 27)
                      obtain ⟨B2, hB2⟩ : ∃ B2, B2 = w8.heap.size := ⟨_, rfl⟩
                      rw [← hB2] at hc'
                      have HB2 := Lib.hid hB2
                      have HC2 := Aside0.mk hc'
                      clear ho HB x0 x1 x2 c5 hc' hB2
                      go_upto_region 29 with (fail)
                      rw [← HB2.out]
                      generalize hW : World.alloc w8 _ = w9 at HC2 ⊢
                      clear hW
                      obtain ⟨x0, x1, x2⟩ := cells3 HC2.out.pt
                      have s0 := blk_cell HC2.out.drop.drop.drop.pt 0
                      have s1 := blk_cell HC2.out.drop.drop.drop.pt 1
                      have c3 := blk_cell HC2.out.drop.drop.drop.drop.drop.drop.pt 0
                      simp only [List.getElem?_toArray, List.getElem?_cons_zero, List.getElem?_cons_succ] at s0 s1 c3
                      have HX := Aside0.mk HC2.out.drop.drop
                      clear HC2
                      go_wp2_with fail
                      exact ⟨⟨1, by omega, rfl, vint (by rw [HPS.out]; omega), rfl, HX⟩, by simp [intOf]⟩
                    · have hq := src_out r1 0 hin _ (by simpa using hst)
                      have hps := pN_out l.length r1 0 hin
                      rw [← hP] at hps
                      have HPS := Lib.hid hps
                      injection hq with q0 hq'
                      injection hq' with q1 q2
                      have HX := Aside0.mk (HA.out.alloc' (.cells #[.int .i64 p00, .int .i64 p01, .int .i64 p02] 27))
                      have dq : decide (p00 < 0) = true := decide_eq_true (by omega)
                      clear hst hin hps HA hP q0 q1 q2
                      go_wp2_with fail
                      exact ⟨⟨1, by omega, rfl, vint (by rw [HPS.out]), rfl, HX⟩, by simp [intOf]⟩
                  · have hst := HP1.out
                    by_cases hin : 3 * r1 + (1 : Nat) < (l.length : Int)
                    · obtain ⟨q0, hq⟩ := src_in HTO.out HF0.out r1 1 hl0 (by decide) hin _ (by simpa using hst)
                      have hps := pN_in l.length r1 1 hin
                      rw [← hP] at hps
                      have HQ := Lib.hid hq
                      have HPS := Lib.hid hps
                      have dq : decide (p10 < 0) = false := decide_eq_false (by have : 0 ≤ p10 := q0; omega)
                      have ha := HA.out.alloc (.cells #[.int .i64 p10, .int .i64 p11, .int .i64 p12] 27)
                      obtain ⟨B1, hB1⟩ : ∃ B1, B1 = wr.heap.size := ⟨_, rfl⟩
                      rw [← hB1] at ha
                      have HB1 := Lib.hid hB1
                      have HB := Aside0.mk ha
                      clear hst hin q0 hq hps ha hB1 HA hP
                      go_upto_region 27 with (fail)
                      rw [← HB1.out]
                      generalize hW : World.alloc wr _ = w7 at HB ⊢
                      clear hW
                      obtain ⟨x0, x1, x2⟩ := cells3 HB.out.pt
                      have c5 := blk_cell HB.out.drop.drop.drop.pt 0
                      simp only [List.getElem?_toArray, List.getElem?_cons_zero] at c5
                      go_wp2_with fail
                      refine (to_own (p10, p11, p12) (fun i hi => HMB.out _ i hi) (own_swap [_, _, _, _, _, _, _] [_, _, _] HB.out)).mono ?_
                      rintro e w8 ⟨rfl, ho⟩
                      rw [HQ.out]
                      have hc' := (own_swap [_, _, _] [_, _, _, _, _, _, _] ho).alloc (.cells #[.int .i64 tg, .int .i64 r1, .int .i64 (1 : Nat)] 27)
                      obtain ⟨B2, hB2⟩ : ∃ B2, B2 = w8.heap.size := ⟨_, rfl⟩
                      rw [← hB2] at hc'
                      have HB2 := Lib.hid hB2
                      have HC2 := Aside0.mk hc'
                      clear ho HB x0 x1 x2 c5 hc' hB2
                      go_upto_region 29 with (fail)
                      rw [← HB2.out]
                      generalize hW : World.alloc w8 _ = w9 at HC2 ⊢
                      clear hW
                      obtain ⟨x0, x1, x2⟩ := cells3 HC2.out.pt
                      have s0 := blk_cell HC2.out.drop.drop.drop.pt 0
                      have s1 := blk_cell HC2.out.drop.drop.drop.pt 1
                      have c3 := blk_cell HC2.out.drop.drop.drop.drop.drop.drop.pt 0
                      simp only [List.getElem?_toArray, List.getElem?_cons_zero, List.getElem?_cons_succ] at s0 s1 c3
                      have HX := Aside0.mk HC2.out.drop.drop
                      clear HC2
                      go_wp2_with fail
                      exact ⟨⟨2, by omega, rfl, vint (by rw [HPS.out]; omega), rfl, HX⟩, by simp [intOf]⟩
                    · have hq := src_out r1 1 hin _ (by simpa using hst)
                      have hps := pN_out l.length r1 1 hin
                      rw [← hP] at hps
                      have HPS := Lib.hid hps
                      injection hq with q0 hq'
                      injection hq' with q1 q2
                      have HX := Aside0.mk (HA.out.alloc' (.cells #[.int .i64 p10, .int .i64 p11, .int .i64 p12] 27))
                      have dq : decide (p10 < 0) = true := decide_eq_true (by omega)
                      clear hst hin hps HA hP q0 q1 q2
                      go_wp2_with fail
                      exact ⟨⟨2, by omega, rfl, vint (by rw [HPS.out]), rfl, HX⟩, by simp [intOf]⟩
                  · have hst := HP2.out
                    by_cases hin : 3 * r1 + (2 : Nat) < (l.length : Int)
                    · obtain ⟨q0, hq⟩ := src_in HTO.out HF0.out r1 2 hl0 (by decide) hin _ (by simpa using hst)
                      have hps := pN_in l.length r1 2 hin
                      rw [← hP] at hps
                      have HQ := Lib.hid hq
                      have HPS := Lib.hid hps
                      have dq : decide (p20 < 0) = false := decide_eq_false (by have : 0 ≤ p20 := q0; omega)
                      have ha := HA.out.alloc (.cells #[.int .i64 p20, .int .i64 p21, .int .i64 p22] 27)
                      obtain ⟨B1, hB1⟩ : ∃ B1, B1 = wr.heap.size := ⟨_, rfl⟩
                      rw [← hB1] at ha
                      have HB1 := Lib.hid hB1
                      have HB := Aside0.mk ha
                      clear hst hin q0 hq hps ha hB1 HA hP
                      go_upto_region 27 with (fail)
                      rw [← HB1.out]
                      generalize hW : World.alloc wr _ = w7 at HB ⊢
                      clear hW
                      obtain ⟨x0, x1, x2⟩ := cells3 HB.out.pt
                      have c5 := blk_cell HB.out.drop.drop.drop.pt 0
                      simp only [List.getElem?_toArray, List.getElem?_cons_zero] at c5
                      go_wp2_with fail
                      refine (to_own (p20, p21, p22) (fun i hi => HMB.out _ i hi) (own_swap [_, _, _, _, _, _, _] [_, _, _] HB.out)).mono ?_
                      rintro e w8 ⟨rfl, ho⟩
                      rw [HQ.out]
                      have hc' := (own_swap [_, _, _] [_, _, _, _, _, _, _] ho).alloc (.cells #[.int .i64 tg, .int .i64 r1, .int .i64 (2 : Nat)] 27)
                      obtain ⟨B2, hB2⟩ : ∃ B2, B2 = w8.heap.size := ⟨_, rfl⟩
                      rw [← hB2] at hc'
                      have HB2 := Lib.hid hB2
                      have HC2 := Aside0.mk hc'
                      clear ho HB x0 x1 x2 c5 hc' hB2
                      go_upto_region 29 with (fail)
                      rw [← HB2.out]
                      generalize hW : World.alloc w8 _ = w9 at HC2 ⊢
                      clear hW
                      obtain ⟨x0, x1, x2⟩ := cells3 HC2.out.pt
                      have s0 := blk_cell HC2.out.drop.drop.drop.pt 0
                      have s1 := blk_cell HC2.out.drop.drop.drop.pt 1
                      have c3 := blk_cell HC2.out.drop.drop.drop.drop.drop.drop.pt 0
                      simp only [List.getElem?_toArray, List.getElem?_cons_zero, List.getElem?_cons_succ] at s0 s1 c3
                      have HX := Aside0.mk HC2.out.drop.drop
                      clear HC2
                      go_wp2_with fail
                      exact ⟨⟨3, by omega, rfl, vint (by rw [HPS.out]; omega), rfl, HX⟩, by simp [intOf]⟩
                    · have hq := src_out r1 2 hin _ (by simpa using hst)
                      have hps := pN_out l.length r1 2 hin
                      rw [← hP] at hps
                      have HPS := Lib.hid hps
                      injection hq with q0 hq'
                      injection hq' with q1 q2
                      have HX := Aside0.mk (HA.out.alloc' (.cells #[.int .i64 p20, .int .i64 p21, .int .i64 p22] 27))
                      have dq : decide (p20 < 0) = true := decide_eq_true (by omega)
                      clear hst hin hps HA hP q0 q1 q2
                      go_wp2_with fail
                      exact ⟨⟨3, by omega, rfl, vint (by rw [HPS.out]), rfl, HX⟩, by simp [intOf]⟩
                  · rw [pN_line] at hP
                    have hn0 := HN0.out
                    have hn1 := HN1.out
                    rw [← hP] at hn0 hn1
                    simp only [if_true, if_false, reduceIte, Bool.false_eq_true, Bool.true_eq_false, Int.add_zero, reduceCtorEq] at hn0 hn1
                    have HM0 := Lib.hid hn0
                    have HM1 := Lib.hid hn1
                    have HX := Aside0.mk HA.out.drop.drop
                    clear hP hn0 hn1 HA
                    go_wp2_with fail
                    exact ⟨⟨k + 1, by omega, by go_num, vint HM0.out.symm, vint HM1.out.symm, HX⟩, by simp [intOf]; omega⟩
              · go_loopw [14, 15, 97] (fun v14 v15 v97 wr => ∃ j : Nat, j ≤ 3 ∧ v97 = .int .i64 j ∧ v14 = .int .i64 F0 ∧ v15 = .int .i64 (F1 + pN l.length r1 j) ∧ Aside0 (Own.Own w wr (Pt BP (pg9 (p00, p01, p02) (p10, p11, p12) (p20, p21, p22)) :: Pt BS (.cells #[.int .i64 r1, .bool true] 45) :: LZ D g A' c r (planOf G0 tg l) B3 B4 B5 tg))) (fun _ _ v97 _ => 3 - (intOf v97).toNat)
                case atStart => exact ⟨0, by omega, rfl, rfl, vint (by rw [pN_0]; omega), HA⟩
                case round =>
                  clear HA
                  obtain ⟨j, hj, rfl, rfl, rfl, HA⟩ := hrel
                  have pb := pN_bd l.length r1 j
                  obtain ⟨P, hP⟩ : ∃ P, P = pN l.length r1 j := ⟨_, rfl⟩
                  rw [← hP] at pb ⊢
                  rcases (by omega : j = 0 ∨ j = 1 ∨ j = 2 ∨ j = 3) with rfl | rfl | rfl | rfl
                  · have hst := HP0.out
                    by_cases hin : 3 * r1 + (0 : Nat) < (l.length : Int)
                    · obtain ⟨q0, hq⟩ := src_in HTO.out HF0.out r1 0 hl0 (by decide) hin _ (by simpa using hst)
                      have hps := pN_in l.length r1 0 hin
                      rw [← hP] at hps
                      have HQ := Lib.hid hq
                      have HPS := Lib.hid hps
                      have dq : decide (p00 < 0) = false := decide_eq_false (by have : 0 ≤ p00 := q0; omega)
                      have ha := HA.out.alloc (.cells #[.int .i64 p00, .int .i64 p01, .int .i64 p02] 27)
                      obtain ⟨B1, hB1⟩ : ∃ B1, B1 = wr.heap.size := ⟨_, rfl⟩
                      rw [← hB1] at ha
                      have HB1 := Lib.hid hB1
                      have HB := Aside0.mk ha
                      clear hst hin q0 hq hps ha hB1 HA hP
                      go_upto_region 27 with (fail)
                      rw [← HB1.out]
                      generalize hW : World.alloc wr _ = w7 at HB ⊢
                      clear hW
                      obtain ⟨x0, x1, x2⟩ := cells3 HB.out.pt
                      have c5 := blk_cell HB.out.drop.drop.drop.pt 0
                      simp only [List.getElem?_toArray, List.getElem?_cons_zero] at c5
                      go_wp2_with fail
                      refine (to_own (p00, p01, p02) (fun i hi => HMB.out _ i hi) (own_swap [_, _, _, _, _, _, _] [_, _, _] HB.out)).mono ?_
                      rintro e w8 ⟨rfl, ho⟩
                      rw [HQ.out]
                      have hc' := (own_swap [_, _, _] [_, _, _, _, _, _, _] ho).alloc (.cells #[.int .i64 tg, .int .i64 r1, .int .i64 (0 : Nat)] 27)
                      obtain ⟨B2, hB2⟩ : ∃ B2, B2 = w8.heap.size := ⟨_, rfl⟩
                      rw [← hB2] at hc'
                      have HB2 := Lib.hid hB2
                      have HC2 := Aside0.mk hc'
                      clear ho HB x0 x1 x2 c5 hc' hB2
                      go_upto_region 29 with (fail)
                      rw [← HB2.out]
                      generalize hW : World.alloc w8 _ = w9 at HC2 ⊢
                      clear hW
                      obtain ⟨x0, x1, x2⟩ := cells3 HC2.out.pt
                      have s0 := blk_cell HC2.out.drop.drop.drop.pt 0
                      have s1 := blk_cell HC2.out.drop.drop.drop.pt 1
                      have c3 := blk_cell HC2.out.drop.drop.drop.drop.drop.drop.pt 0
                      simp only [List.getElem?_toArray, List.getElem?_cons_zero, List.getElem?_cons_succ] at s0 s1 c3
                      have HX := Aside0.mk HC2.out.drop.drop
                      clear HC2
                      go_wp2_with fail
                      exact ⟨⟨1, by omega, rfl, rfl, vint (by rw [HPS.out]; omega), HX⟩, by simp [intOf]⟩
                    · have hq := src_out r1 0 hin _ (by simpa using hst)
                      have hps := pN_out l.length r1 0 hin
                      rw [← hP] at hps
                      have HPS := Lib.hid hps
                      injection hq with q0 hq'
                      injection hq' with q1 q2
                      have HX := Aside0.mk (HA.out.alloc' (.cells #[.int .i64 p00, .int .i64 p01, .int .i64 p02] 27))
                      have dq : decide (p00 < 0) = true := decide_eq_true (by omega)
                      clear hst hin hps HA hP q0 q1 q2
                      go_wp2_with fail
                      exact ⟨⟨1, by omega, rfl, rfl, vint (by rw [HPS.out]), HX⟩, by simp [intOf]⟩
                  · have hst := HP1.out
                    by_cases hin : 3 * r1 + (1 : Nat) < (l.length : Int)
                    · obtain ⟨q0, hq⟩ := src_in HTO.out HF0.out r1 1 hl0 (by decide) hin _ (by simpa using hst)
                      have hps := pN_in l.length r1 1 hin
                      rw [← hP] at hps
                      have HQ := Lib.hid hq
                      have HPS := Lib.hid hps
                      have dq : decide (p10 < 0) = false := decide_eq_false (by have : 0 ≤ p10 := q0; omega)
                      have ha := HA.out.alloc (.cells #[.int .i64 p10, .int .i64 p11, .int .i64 p12] 27)
                      obtain ⟨B1, hB1⟩ : ∃ B1, B1 = wr.heap.size := ⟨_, rfl⟩
                      rw [← hB1] at ha
                      have HB1 := Lib.hid hB1
                      have HB := Aside0.mk ha
                      clear hst hin q0 hq hps ha hB1 HA hP
                      go_upto_region 27 with (fail)
                      rw [← HB1.out]
                      generalize hW : World.alloc wr _ = w7 at HB ⊢
                      clear hW
                      obtain ⟨x0, x1, x2⟩ := cells3 HB.out.pt
                      have c5 := blk_cell HB.out.drop.drop.drop.pt 0
                      simp only [List.getElem?_toArray, List.getElem?_cons_zero] at c5
                      go_wp2_with fail
                      refine (to_own (p10, p11, p12) (fun i hi => HMB.out _ i hi) (own_swap [_, _, _, _, _, _, _] [_, _, _] HB.out)).mono ?_
                      rintro e w8 ⟨rfl, ho⟩
                      rw [HQ.out]
                      have hc' := (own_swap [_, _, _] [_, _, _, _, _, _, _] ho).alloc (.cells #[.int .i64 tg, .int .i64 r1, .int .i64 (1 : Nat)] 27)
                      obtain ⟨B2, hB2⟩ : ∃ B2, B2 = w8.heap.size := ⟨_, rfl⟩
                      rw [← hB2] at hc'
                      have HB2 := Lib.hid hB2
                      have HC2 := Aside0.mk hc'
                      clear ho HB x0 x1 x2 c5 hc' hB2
                      go_upto_region 29 with (fail)
                      rw [← HB2.out]
                      generalize hW : World.alloc w8 _ = w9 at HC2 ⊢
                      clear hW
                      obtain ⟨x0, x1, x2⟩ := cells3 HC2.out.pt
                      have s0 := blk_cell HC2.out.drop.drop.drop.pt 0
                      have s1 := blk_cell HC2.out.drop.drop.drop.pt 1
                      have c3 := blk_cell HC2.out.drop.drop.drop.drop.drop.drop.pt 0
                      simp only [List.getElem?_toArray, List.getElem?_cons_zero, List.getElem?_cons_succ] at s0 s1 c3
                      have HX := Aside0.mk HC2.out.drop.drop
                      clear HC2
                      go_wp2_with fail
                      exact ⟨⟨2, by omega, rfl, rfl, vint (by rw [HPS.out]; omega), HX⟩, by simp [intOf]⟩
                    · have hq := src_out r1 1 hin _ (by simpa using hst)
                      have hps := pN_out l.length r1 1 hin
                      rw [← hP] at hps
                      have HPS := Lib.hid hps
                      injection hq with q0 hq'
                      injection hq' with q1 q2
                      have HX := Aside0.mk (HA.out.alloc' (.cells #[.int .i64 p10, .int .i64 p11, .int .i64 p12] 27))
                      have dq : decide (p10 < 0) = true := decide_eq_true (by omega)
                      clear hst hin hps HA hP q0 q1 q2
                      go_wp2_with fail
                      exact ⟨⟨2, by omega, rfl, rfl, vint (by rw [HPS.out]), HX⟩, by simp [intOf]⟩
                  · have hst := HP2.out
                    by_cases hin : 3 * r1 + (2 : Nat) < (l.length : Int)
                    · obtain ⟨q0, hq⟩ := src_in HTO.out HF0.out r1 2 hl0 (by decide) hin _ (by simpa using hst)
                      have hps := pN_in l.length r1 2 hin
                      rw [← hP] at hps
                      have HQ := Lib.hid hq
                      have HPS := Lib.hid hps
                      have dq : decide (p20 < 0) = false := decide_eq_false (by have : 0 ≤ p20 := q0; omega)
                      have ha := HA.out.alloc (.cells #[.int .i64 p20, .int .i64 p21, .int .i64 p22] 27)
                      obtain ⟨B1, hB1⟩ : ∃ B1, B1 = wr.heap.size := ⟨_, rfl⟩
                      rw [← hB1] at ha
                      have HB1 := Lib.hid hB1
                      have HB := Aside0.mk ha
                      clear hst hin q0 hq hps ha hB1 HA hP
                      go_upto_region 27 with (fail)
                      rw [← HB1.out]
                      generalize hW : World.alloc wr _ = w7 at HB ⊢
                      clear hW
                      obtain ⟨x0, x1, x2⟩ := cells3 HB.out.pt
                      have c5 := blk_cell HB.out.drop.drop.drop.pt 0
                      simp only [List.getElem?_toArray, List.getElem?_cons_zero] at c5
                      go_wp2_with fail
                      refine (to_own (p20, p21, p22) (fun i hi => HMB.out _ i hi) (own_swap [_, _, _, _, _, _, _] [_, _, _] HB.out)).mono ?_
                      rintro e w8 ⟨rfl, ho⟩
                      rw [HQ.out]
                      have hc' := (own_swap [_, _, _] [_, _, _, _, _, _, _] ho).alloc (.cells #[.int .i64 tg, .int .i64 r1, .int .i64 (2 : Nat)] 27)
                      obtain ⟨B2, hB2⟩ : ∃ B2, B2 = w8.heap.size := ⟨_, rfl⟩
                      rw [← hB2] at hc'
                      have HB2 := Lib.hid hB2
                      have HC2 := Aside0.mk hc'
                      clear ho HB x0 x1 x2 c5 hc' hB2
                      go_upto_region 29 with (fail)
                      rw [← HB2.out]
                      generalize hW : World.alloc w8 _ = w9 at HC2 ⊢
                      clear hW
                      obtain ⟨x0, x1, x2⟩ := cells3 HC2.out.pt
                      have s0 := blk_cell HC2.out.drop.drop.drop.pt 0
                      have s1 := blk_cell HC2.out.drop.drop.drop.pt 1
                      have c3 := blk_cell HC2.out.drop.drop.drop.drop.drop.drop.pt 0
                      simp only [List.getElem?_toArray, List.getElem?_cons_zero, List.getElem?_cons_succ] at s0 s1 c3
                      have HX := Aside0.mk HC2.out.drop.drop
                      clear HC2
                      go_wp2_with fail
                      exact ⟨⟨3, by omega, rfl, rfl, vint (by rw [HPS.out]; omega), HX⟩, by simp [intOf]⟩
                    · have hq := src_out r1 2 hin _ (by simpa using hst)
                      have hps := pN_out l.length r1 2 hin
                      rw [← hP] at hps
                      have HPS := Lib.hid hps
                      injection hq with q0 hq'
                      injection hq' with q1 q2
                      have HX := Aside0.mk (HA.out.alloc' (.cells #[.int .i64 p20, .int .i64 p21, .int .i64 p22] 27))
                      have dq : decide (p20 < 0) = true := decide_eq_true (by omega)
                      clear hst hin hps HA hP q0 q1 q2
                      go_wp2_with fail
                      exact ⟨⟨3, by omega, rfl, rfl, vint (by rw [HPS.out]), HX⟩, by simp [intOf]⟩
                  · rw [pN_line] at hP
                    have hn0 := HN0.out
                    have hn1 := HN1.out
                    rw [← hP] at hn0 hn1
                    simp only [if_true, if_false, reduceIte, Bool.false_eq_true, Bool.true_eq_false, Int.add_zero, reduceCtorEq] at hn0 hn1
                    have HM0 := Lib.hid hn0
                    have HM1 := Lib.hid hn1
                    have HX := Aside0.mk HA.out.drop.drop
                    clear hP hn0 hn1 HA
                    go_wp2_with fail
                    exact ⟨⟨k + 1, by omega, by go_num, vint HM0.out.symm, vint HM1.out.symm, HX⟩, by simp [intOf]; omega⟩
            · obtain rfl : k = 12 := by omega
              have e0 : F0 = (l.length : Nat) := by rw [HF0'.out]; exact told_all false ⟨l.length, by omega⟩
              have e1 : F1 = (l.length : Nat) := by rw [HF1'.out]; exact told_all true ⟨l.length, by omega⟩
              subst e0 e1
              have hst : order_At.f 8 (planOf G0 tg l).ln 12 = some (0, false, 1) := at_end
              have HST := Lib.hid hst
              have HZ1 := Aside0.mk HZ.out.drew
              clear hst HF0' HF1' b0 b1
              have dk : decide (((12 : Nat) : Int) < 12) = false := by decide
              go_upto_region 36 with (fail)
              go_cut [26] from 129 to 136 (fun s26 wx => s26 = Value.int .i64 1 ∧ Own.Own w wx (LZ D g A' c r (planOf G0 tg l) B3 B4 B5 tg))
              case first =>
                have c5 := blk_cell HZ.out.pt 0
                simp only [List.getElem?_toArray, List.getElem?_cons_zero] at c5
                have hlt := blk_lt HZ.out.pt
                have hza := ((HZ.out.alloc (.cells #[.int .i64 0, .bool false] 45)).alloc (pg9 z3 z3 z3)).drew
                have hzb := ((HZ.out.alloc (pg9 z3 z3 z3)).alloc (.cells #[.int .i64 0, .bool false] 45)).drew
                rw [World.size_alloc] at hza hzb
                have HZa := Aside0.mk hza
                have HZb := Aside0.mk hzb
                clear hza hzb
                go_region_held3 (fun w' => w'.cell? ⟨B5, 0, none⟩ = some (.pointer (some ⟨g, 0, none⟩))) (go_keep) (first
                  | (go_at_call 15; (first | refine (steps_own (S := planOf G0 tg l) (by show (0 : Int) ≤ 6; omega) (by show (6 : Int) ≤ 1000; omega) (own_swap [_, _, _, _] [_, _, _] (HZ.out.drew))).mono ?_ | refine (steps_own (S := planOf G0 tg l) (by show (0 : Int) ≤ 6; omega) (by show (6 : Int) ≤ 1000; omega) (own_swap [_, _, _, _, _] [_, _, _] ((HZ.out.alloc _).drew))).mono ?_ | refine (steps_own (S := planOf G0 tg l) (by show (0 : Int) ≤ 6; omega) (by show (6 : Int) ≤ 1000; omega) (own_swap [_, _, _, _, _, _] [_, _, _] HZa.out)).mono ?_ | refine (steps_own (S := planOf G0 tg l) (by show (0 : Int) ≤ 6; omega) (by show (6 : Int) ≤ 1000; omega) (own_swap [_, _, _, _, _, _] [_, _, _] HZb.out)).mono ?_); rintro e w8 ⟨rfl, rfl⟩; rw [show 2 * (planOf G0 tg l).ln = 12 from rfl])
                  | (go_at_call 16; (first | (refine (step_own 12 0 1 false HST.out (fun h => absurd h (by decide)) (own_swap [_, _, _, _] [_, _, _] (HZ.out.drew))).mono ?_; rintro e w9 ⟨h9, ho⟩; obtain rfl := step_no h9; have HN := Aside0.mk (own_swap [_, _, _] [_, _, _, _] ho); have c9 : w9.cell? ⟨B5, 0, none⟩ = some (.pointer (some ⟨g, 0, none⟩)) := blk_cell HN.out.pt 0;  have HF : Aside0 (Own.Own w w9 (LZ D g A' c r (planOf G0 tg l) B3 B4 B5 tg)) := ⟨HN.out⟩; clear ho h9 HN) | (refine (step_own 12 0 1 false HST.out (fun h => absurd h (by decide)) (own_swap [_, _, _, _, _] [_, _, _] ((HZ.out.alloc _).drew))).mono ?_; rintro e w9 ⟨h9, ho⟩; obtain rfl := step_no h9; have HN := Aside0.mk (own_swap [_, _, _] [_, _, _, _, _] ho); have c9 : w9.cell? ⟨B5, 0, none⟩ = some (.pointer (some ⟨g, 0, none⟩)) := blk_cell HN.out.drop.pt 0; have p0 := HN.out.pt; have lt0 := blk_lt p0; have fr00 := blk_frozen p0 0; have ce00 := blk_cell p0 0; have fr01 := blk_frozen p0 1; have ce01 := blk_cell p0 1; have fr02 := blk_frozen p0 2; have ce02 := blk_cell p0 2; have fr03 := blk_frozen p0 3; have ce03 := blk_cell p0 3; have fr04 := blk_frozen p0 4; have ce04 := blk_cell p0 4; have fr05 := blk_frozen p0 5; have ce05 := blk_cell p0 5; have fr06 := blk_frozen p0 6; have ce06 := blk_cell p0 6; have fr07 := blk_frozen p0 7; have ce07 := blk_cell p0 7; have fr08 := blk_frozen p0 8; have ce08 := blk_cell p0 8; simp only [List.getElem?_toArray, List.getElem?_cons_zero, List.getElem?_cons_succ, List.getElem?_nil] at ce00 ce01 ce02 ce03 ce04 ce05 ce06 ce07 ce08; have n0 := own_ne2 (HN.out.pull2); have m0 := n0.symm; clear p0; have HF : Aside0 (Has1 w w9 wr.heap.size (LZ D g A' c r (planOf G0 tg l) B3 B4 B5 tg)) := ⟨Has1.of HN.out⟩; clear ho h9 HN) | (refine (step_own 12 0 1 false HST.out (fun h => absurd h (by decide)) (own_swap [_, _, _, _, _, _] [_, _, _] HZa.out)).mono ?_; rintro e w9 ⟨h9, ho⟩; obtain rfl := step_no h9; have HN := Aside0.mk (own_swap [_, _, _] [_, _, _, _, _, _] ho); have c9 : w9.cell? ⟨B5, 0, none⟩ = some (.pointer (some ⟨g, 0, none⟩)) := blk_cell HN.out.drop.drop.pt 0; have nx := own_ne2 HN.out; have mx := nx.symm; have p0 := HN.out.pt; have lt0 := blk_lt p0; have fr00 := blk_frozen p0 0; have ce00 := blk_cell p0 0; have fr01 := blk_frozen p0 1; have ce01 := blk_cell p0 1; have fr02 := blk_frozen p0 2; have ce02 := blk_cell p0 2; have fr03 := blk_frozen p0 3; have ce03 := blk_cell p0 3; have fr04 := blk_frozen p0 4; have ce04 := blk_cell p0 4; have fr05 := blk_frozen p0 5; have ce05 := blk_cell p0 5; have fr06 := blk_frozen p0 6; have ce06 := blk_cell p0 6; have fr07 := blk_frozen p0 7; have ce07 := blk_cell p0 7; have fr08 := blk_frozen p0 8; have ce08 := blk_cell p0 8; simp only [List.getElem?_toArray, List.getElem?_cons_zero, List.getElem?_cons_succ, List.getElem?_nil] at ce00 ce01 ce02 ce03 ce04 ce05 ce06 ce07 ce08; have n0 := own_ne2 (HN.out.pull3); have m0 := n0.symm; clear p0;have p1 := HN.out.drop.pt; have lt1 := blk_lt p1; have fr10 := blk_frozen p1 0; have ce10 := blk_cell p1 0; have fr11 := blk_frozen p1 1; have ce11 := blk_cell p1 1; have fr12 := blk_frozen p1 2; have ce12 := blk_cell p1 2; have fr13 := blk_frozen p1 3; have ce13 := blk_cell p1 3; have fr14 := blk_frozen p1 4; have ce14 := blk_cell p1 4; have fr15 := blk_frozen p1 5; have ce15 := blk_cell p1 5; have fr16 := blk_frozen p1 6; have ce16 := blk_cell p1 6; have fr17 := blk_frozen p1 7; have ce17 := blk_cell p1 7; have fr18 := blk_frozen p1 8; have ce18 := blk_cell p1 8; simp only [List.getElem?_toArray, List.getElem?_cons_zero, List.getElem?_cons_succ, List.getElem?_nil] at ce10 ce11 ce12 ce13 ce14 ce15 ce16 ce17 ce18; have n1 := own_ne2 (HN.out.drop.pull2); have m1 := n1.symm; clear p1; have HF : Aside0 (Has2 w w9 (wr.heap.size + 1) wr.heap.size (LZ D g A' c r (planOf G0 tg l) B3 B4 B5 tg)) := ⟨Has2.of HN.out⟩; clear ho h9 HN) | (refine (step_own 12 0 1 false HST.out (fun h => absurd h (by decide)) (own_swap [_, _, _, _, _, _] [_, _, _] HZb.out)).mono ?_; rintro e w9 ⟨h9, ho⟩; obtain rfl := step_no h9; have HN := Aside0.mk (own_swap [_, _, _] [_, _, _, _, _, _] ho); have c9 : w9.cell? ⟨B5, 0, none⟩ = some (.pointer (some ⟨g, 0, none⟩)) := blk_cell HN.out.drop.drop.pt 0; have nx := own_ne2 HN.out; have mx := nx.symm; have p0 := HN.out.pt; have lt0 := blk_lt p0; have fr00 := blk_frozen p0 0; have ce00 := blk_cell p0 0; have fr01 := blk_frozen p0 1; have ce01 := blk_cell p0 1; have fr02 := blk_frozen p0 2; have ce02 := blk_cell p0 2; have fr03 := blk_frozen p0 3; have ce03 := blk_cell p0 3; have fr04 := blk_frozen p0 4; have ce04 := blk_cell p0 4; have fr05 := blk_frozen p0 5; have ce05 := blk_cell p0 5; have fr06 := blk_frozen p0 6; have ce06 := blk_cell p0 6; have fr07 := blk_frozen p0 7; have ce07 := blk_cell p0 7; have fr08 := blk_frozen p0 8; have ce08 := blk_cell p0 8; simp only [List.getElem?_toArray, List.getElem?_cons_zero, List.getElem?_cons_succ, List.getElem?_nil] at ce00 ce01 ce02 ce03 ce04 ce05 ce06 ce07 ce08; have n0 := own_ne2 (HN.out.pull3); have m0 := n0.symm; clear p0;have p1 := HN.out.drop.pt; have lt1 := blk_lt p1; have fr10 := blk_frozen p1 0; have ce10 := blk_cell p1 0; have fr11 := blk_frozen p1 1; have ce11 := blk_cell p1 1; have fr12 := blk_frozen p1 2; have ce12 := blk_cell p1 2; have fr13 := blk_frozen p1 3; have ce13 := blk_cell p1 3; have fr14 := blk_frozen p1 4; have ce14 := blk_cell p1 4; have fr15 := blk_frozen p1 5; have ce15 := blk_cell p1 5; have fr16 := blk_frozen p1 6; have ce16 := blk_cell p1 6; have fr17 := blk_frozen p1 7; have ce17 := blk_cell p1 7; have fr18 := blk_frozen p1 8; have ce18 := blk_cell p1 8; simp only [List.getElem?_toArray, List.getElem?_cons_zero, List.getElem?_cons_succ, List.getElem?_nil] at ce10 ce11 ce12 ce13 ce14 ce15 ce16 ce17 ce18; have n1 := own_ne2 (HN.out.drop.pull2); have m1 := n1.symm; clear p1; have HF : Aside0 (Has2 w w9 (wr.heap.size + 1) wr.heap.size (LZ D g A' c r (planOf G0 tg l) B3 B4 B5 tg)) := ⟨Has2.of HN.out⟩; clear ho h9 HN))))
                all_goals go_wp2_with fail
                all_goals go_meet
                all_goals
                  refine ⟨rfl, ?_⟩
                  first
                  | (with_reducible refine two_alloc ?_; with_reducible exact HF.out)
                  | (with_reducible refine Has1.done (g := wr.heap.size) ?_; (repeat first | with_reducible refine Has1.set ?_ | with_reducible refine Has1.alloc ?_); with_reducible exact HF.out)
                  | (with_reducible refine Has2.done (g := wr.heap.size + 1) (h := wr.heap.size) ?_; (repeat first | with_reducible refine Has2.set ?_ | with_reducible refine Has2.set2 ?_); with_reducible exact HF.out)
              case rest =>
                obtain ⟨rfl, ho⟩ := hcut
                have HX := Aside0.mk ho
                clear ho HZ HZ1
                have r0 := blk_cell HX.out.drop.pt 0
                have r1 := blk_frozen HX.out.drop.pt 0
                have de : (((l.length : Nat) : Int) == ((l.length : Nat) : Int)) = true := by simp
                go_wp2_with fail
                have H4 := HX.out.pull2.set (i := 0) (.bool true)
                have H5 := own_putObj (own_swap [_, _, _] [_] H4) (.deferred none)
                have hK := (own_swap [_, _, _] [_] H4).pt
                have hc : (World.putObj _ D (.deferred none)).cell? ⟨B4, 0, none⟩ = some (.bool true) := blk_cell H5.drop.pt 0
                refine ⟨by simp, .inl ⟨_, _, rfl, run_takeDeferred hK, ?_⟩⟩
                exact ⟨.bool true, by simp [results, Try.results4, go_sem, hc], rfl, H5.below⟩
        case stop =>
          intro D c L W h _
          exact h.elim
def decklelaw25_PlanOnce.f (_l : List S27) (_t : Int) : Option Bool := some true
theorem decklelaw25_PlanOnce.calls (A0 : Option Addr) (c0 : Nat) (l0 : List S27) (a1 : Int) (r : Bool) (w : World) (hr0 : Kd.C k27 w A0 l0.length l0) (hc0 : l0.length ≤ c0) (h : decklelaw25_PlanOnce.f l0 a1 = some r) :
    Calls Try.prog 4 #[.slice A0 l0.length c0, .int .i64 a1] w fun e w' => e = .returned (.bool r) ∧ Below w.heap.size w w' := by
  obtain rfl := Option.some.inj h
  exact once_own A0 c0 l0 a1 hr0 hc0
end Go.Proofs.Ytcfonmbojkolfaa.Plan
end
