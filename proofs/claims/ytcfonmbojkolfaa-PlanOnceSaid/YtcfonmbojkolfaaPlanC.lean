/- Package plan, by hand: Make. -/
import Derived.Test.YtcfonmbojkolfaaProg
import Derived.Below
import Derived.Carry
import Derived.Deep.Draws
import Derived.Deep.AppendLies
import Derived.Maps.AppendAt
import Derived.OwnWalk
import Derived.Laws.BytesArg
import Derived.Laws.MakeOwn
import Derived.Laws.OwnMore
import Derived.Deep.OwnRows
import Derived.Tactics
import Derived.Lib.ConvBytes
import Derived.Laws.Slices
import Derived.WalkKit
import Derived.KernelRfl
import Derived.RowKit3
import Derived.Deep.LoopGhost
import Derived.Deep.QuietTactic
import Derived.BigQuiet
import Derived.WideLaws
import Derived.Deep.DeepCutAuto
import Derived.Deep.CutBlock
import Derived.Deep.RegionHeld3
import Derived.Deep.RegionWith
import Derived.Laws.Rows
import Derived.Lib.AppendStr
import Derived.ArgAppend
import Derived.Laws.IdiomCopy
import Derived.OrdersHeld
import Derived.Laws.BitsLemmas
import Derived.Outline
import Derived.RegionTactic
import Derived.Lib.Hide
import Derived.StillTailTactics
import Derived.Deep.RegionWith
import Derived.OpenShut
import Derived.Test.YtcfonmbojkolfaaWWords
import Derived.Test.YtcfonmbojkolfaaPlanB
import Derived.Lib.BufferMore
import Derived.Lib.LazyBuf
set_option linter.unusedVariables false
namespace Go.Proofs.Ytcfonmbojkolfaa.Plan
open Go.RowKit Go.Proofs.YtcfonmbojkolfaaW.PrintWords Go.Proofs.Ytcfonmbojkolfaa.Mem Go.Proofs.Ytcfonmbojkolfaa.Own Go.Proofs.Ytcfonmbojkolfaa.Maps Go.Proofs.Ytcfonmbojkolfaa.PN

/-- What Make's loop keeps: where each source stands; is one there twice, or of the target? -/
structure MS where
  m : List (Tri × Int)
  tw : Bool
def stepM (tg : Int) (s : MS) (i : Nat) (a : Tri) : MS := ⟨mset a i s.m, s.tw || (mget a s.m).isSome || (a.1 == tg)⟩
def runM (tg : Int) : Nat → List S27 → MS → MS
  | _, [], s => s
  | i, a :: l, s => runM tg (i + 1) l (stepM tg s i (tOf a))
theorem runM_snoc (tg : Int) (a : S27) : ∀ (l : List S27) (i : Nat) (s : MS), runM tg i (l ++ [a]) s = stepM tg (runM tg i l s) (i + l.length) (tOf a)
  | [], _, _ => rfl
  | b :: l, i, s => by
    show runM tg (i + 1) (l ++ [a]) _ = _
    rw [runM_snoc tg a l]
    show stepM tg (runM tg (i + 1) l _) (i + 1 + l.length) _ = stepM tg (runM tg (i + 1) l _) (i + (l.length + 1)) _
    rw [show i + 1 + l.length = i + (l.length + 1) by omega]
def ms0 : MS := ⟨[], false⟩
theorem runM_take (tg : Int) (l : List S27) (i : Nat) (h : i < l.length) : runM tg 0 (l.take (i + 1)) ms0 = stepM tg (runM tg 0 (l.take i) ms0) i (tOf (rd_T27 l i)) := by
  rw [List.take_succ_eq_append_getElem h, runM_snoc]
  have e : rd_T27 l (i : Int) = l[i] := by
    show l.getD (i : Int).toNat z27 = _
    rw [Int.toNat_natCast, List.getD_eq_getElem?_getD, List.getElem?_eq_getElem h]; rfl
  rw [e, List.length_take, Nat.min_eq_left (by omega), Nat.zero_add]
/-- Why there is no plan. -/
def makeC (G : G6) (tg : Int) (l : List S27) : Int :=
  if ¬ (∀ a ∈ l, PageIn G (tOf a)) then 1
  else if tg < 0 ∨ G.b ≤ tg then 1
  else if 3 * G.l < l.length then 2
  else if (runM tg 0 l ms0).tw = true then 5 else 0
def planOf (G : G6) (tg : Int) (l : List S27) : PlS := ⟨G.l, tg, l, (runM tg 0 l ms0).m⟩
def AfterP (w0 : World) (G : G6) (BG : Nat) (tg : Int) (l : List S27) (L : List Asn) (s10 : Value) (wx : World) : Prop := ∃ g A c r, s10 = .pointer (some ⟨g, 0, none⟩) ∧ Own w0 wx (PlO g A c r ⟨G.l, tg, l, []⟩ (Pt BG (geoC G) :: L))
/-- What Make comes to. -/
def MakeEnd (w0 : World) (G : G6) (tg : Int) (l : List S27) (L : List Asn) (e : Ending) (w' : World) : Prop :=
  (makeC G tg l ≠ 0 ∧ e = .returned (.tuple #[.pointer none, .int .i64 (makeC G tg l)]) ∧ Own w0 w' L) ∨
  (makeC G tg l = 0 ∧ ∃ g A c r, e = .returned (.tuple #[.pointer (some ⟨g, 0, none⟩), .int .i64 0]) ∧ Own w0 w' (PlO g A c r (planOf G tg l) L))
section
variable {w0 w : World} {L : List Asn}
theorem plo_out {w : World} {g c r : Nat} {A : Option Addr} {S : PlS} {X : Asn} (h : Own w0 w (PlO g A c r S (X :: L))) : Own w0 w (PlO g A c r S L) := Own.drop (own_swap [_, _, _] [_] h)
set_option maxHeartbeats 8000000 in
set_option maxRecDepth 100000 in
theorem make_own (G : G6) (tg : Int) (A0 : Option Addr) (c0 : Nat) (l : List S27) (hok : G.Ok) (hl : l.length ≤ 100000) (hc0 : l.length ≤ c0) (hr : Kd.C k27 w0 A0 l.length l) (HO : Own w0 w L) :
    Calls Try.prog 11 #[geoV G, .int .i64 tg, .slice A0 l.length c0] w (MakeEnd w0 G tg l L) := by
  have hs := hok.1
  unfold SizesOk at hs
  have hchk := check_some G.b G.l G.y G.s G.p G.w hok.wf.1 hok.wf.2 8 (Nat.le_refl _)
  rw [if_pos (show GeoOk G.b G.l G.y G.s G.p G.w from hok)] at hchk
  have HCK := Lib.hid hchk
  have HOK := Lib.hid hok
  have HR := Aside0.mk hr
  have hl0 : 0 ≤ G.l := by omega
  have hl1 : G.l ≤ 64 := by omega
  obtain ⟨BG, hBG⟩ : ∃ BG, BG = w.heap.size := ⟨_, rfl⟩
  have HBG := Lib.hid hBG
  have hA := HO.alloc (geoC G)
  rw [← hBG] at hA
  have HA := Aside0.mk hA
  obtain ⟨x0, x1, x2, x3, x4, x5⟩ := cells6 hA.pt
  clear hchk hok hr hs HO hBG hA
  go_enter Try.func11, Try.ntmps11
  go_wp2_with fail
  rw [← HBG.out]
  refine (geom_Check.calls 8 G.b G.l G.y G.s G.p G.w 0 _ HCK.out).mono ?_
  rintro e w1 ⟨rfl, hb⟩
  have HB := Aside0.mk (HA.out.move hb)
  clear hb HA x0 x1 x2 x3 x4 x5
  obtain ⟨x0, x1, x2, x3, x4, x5⟩ := cells6 HB.out.pt
  have hlt := blk_lt HB.out.pt
  go_wp2_with fail
  have hm1 := fun W => run_makeMap (P := Try.prog) 36 W
  have HD := Aside0.mk HB.out.drew
  have HM := Aside0.mk (mp_new tri (.int .i64) HB.out.drew 0)
  go_cut [10] (fun s10 wx => AfterP w0 G BG tg l L s10 wx)
  case first =>
    go_region_held3 (fun w' => w'.cell? ⟨BG, 0, none⟩ = some (.int .i64 G.b) ∧ w'.cell? ⟨BG, 1, none⟩ = some (.int .i64 G.l) ∧ w'.cell? ⟨BG, 2, none⟩ = some (.int .i64 G.y) ∧ w'.cell? ⟨BG, 3, none⟩ = some (.int .i64 G.s) ∧ w'.cell? ⟨BG, 4, none⟩ = some (.int .i64 G.p) ∧ w'.cell? ⟨BG, 5, none⟩ = some (.int .i64 G.w)) (go_keep) (first | (go_at_call 38; refine (clone_own (w0 := w0) A0 c0 l (by omega) (Kd.C_below HR.out HD.out.below) HD.out).mono ?_; rintro e w2 ⟨vq, rfl, ho⟩; obtain ⟨Aq, cq, rfl, _, ho⟩ := row_form ho; have HQ := Aside0.mk ho; obtain ⟨x0, x1, x2, x3, x4, x5⟩ := cells6 HQ.out.drop.pt; clear ho) | (go_at_call 38; refine (clone_own (w0 := w0) A0 c0 l (by omega) (Kd.C_below HR.out HM.out.below) HM.out).mono ?_; rintro e w2 ⟨vq, rfl, ho⟩; obtain ⟨Aq, cq, rfl, _, ho⟩ := row_form ho; have HQ := Aside0.mk ho; obtain ⟨x0, x1, x2, x3, x4, x5⟩ := cells6 HQ.out.drop.drop.pt; clear ho))
    all_goals go_wp2_with fail
    all_goals go_meet
    · have ha := (mp_new tri (.int .i64) HQ.out 0).alloc (plC ⟨G.l, tg, l, []⟩ Aq cq (w2.heap.size))
      rw [World.size_alloc] at ha
      exact ⟨_, Aq, cq, _, rfl, ha⟩
    · exact ⟨_, Aq, cq, w1.heap.size, rfl, (own_swap [_] [_] HQ.out).alloc (plC ⟨G.l, tg, l, []⟩ Aq cq (w1.heap.size))⟩
  case rest =>
    obtain ⟨g, A, c, r, rfl, ho⟩ := hcut
    have HO := Aside0.mk ho
    clear ho HB HD HM x0 x1 x2 x3 x4 x5 hm1 hlt
    go_wp2_with fail
    go_loopw [11, 32] (fun v11 v32 wr => ∃ (i : Nat) (m : List (Tri × Int)) (tw : Bool), i ≤ l.length ∧ v32 = .int .i64 i ∧ v11 = .bool tw ∧ Aside0 (runM tg 0 (l.take i) ms0 = ⟨m, tw⟩ ∧ ∀ a ∈ l.take i, PageIn G (tOf a)) ∧ Aside0 (Own w0 wr (PlO g A c r ⟨G.l, tg, l, m⟩ (Pt BG (geoC G) :: L)))) (fun _ v32 _ => l.length - (intOf v32).toNat)
    case atStart => exact ⟨0, [], false, by omega, rfl, rfl, ⟨⟨rfl, by simp⟩⟩, HO⟩
    case round =>
      clear HO
      obtain ⟨i, m, tw, hi, rfl, rfl, HS, HO⟩ := hrel
      by_cases hlt : i < l.length
      · have dl : decide ((i : Int) < (l.length : Nat)) = true := decide_eq_true (by omega)
        obtain ⟨ad, rfl, q0, q1, q2⟩ := at_T27 (Kd.C_below HR.out HO.out.below) i (by omega) (by omega)
        have hst := runM_take tg l i hlt
        have hmem : l.take (i + 1) = l.take i ++ [rd_T27 l i] := by
          rw [List.take_succ_eq_append_getElem hlt]
          have e : rd_T27 l (i : Int) = l[i] := by
            show l.getD (i : Int).toNat z27 = _
            rw [Int.toNat_natCast, List.getD_eq_getElem?_getD, List.getElem?_eq_getElem hlt]; rfl
          rw [e]
        obtain ⟨⟨a0, a1, a2⟩, hR⟩ : ∃ R, R = rd_T27 l i := ⟨_, rfl⟩
        rw [← hR] at q0 q1 q2 hst hmem
        dsimp only at q0 q1 q2
        rw [Int.toNat_natCast] at q0 q1 q2
        rw [HS.out.1] at hst
        have hmem2 : (⟨a0, a1, a2⟩ : S27) ∈ l := List.mem_of_mem_take (i := i + 1) (by rw [hmem]; simp)
        have HST := Aside0.mk hst
        have HMEM := Aside0.mk hmem
        have HMEM2 := Aside0.mk hmem2
        obtain ⟨BA, hBA⟩ : ∃ BA, BA = wr.heap.size := ⟨_, rfl⟩
        have HBA := Lib.hid hBA
        have ha := HO.out.alloc (.cells #[.int .i64 a0, .int .i64 a1, .int .i64 a2] 27)
        rw [← hBA] at ha
        have HA := Aside0.mk ha
        clear hst hmem hmem2 hR hBA ha
        go_wp2_with fail
        rw [← HBA.out]
        refine (page_own BG (a0, a1, a2) HOK.out (own_swap [_, _, _, _] [_] HA.out)).mono ?_
        rintro e w1 ⟨rfl, ho⟩
        have HB := Aside0.mk (own_swap [_] [_, _, _, _] ho)
        clear ho HA
        obtain ⟨y0, y1, y2⟩ := cells3 HB.out.pt
        obtain ⟨_, _, _, x3, _, _, _, _⟩ := cells4 HB.out.drop.pt
        by_cases hp : PageIn G (a0, a1, a2)
        · rw [decide_eq_true hp]
          have HP := Aside0.mk hp
          go_upto_region 12 with (fail)
          have h1 := own_lookup keyT Try.underlying36 HB.out.drew.pull3 (a0, a1, a2) zero3
          obtain ⟨w4, h2, ho4⟩ := own_update keyT Try.underlying36 HB.out.drew.drew.pull3 (a0, a1, a2) (i : Int)
          have HE := Aside0.mk ho4
          have HALL : Aside0 (∀ a ∈ l.take (i + 1), PageIn G (tOf a)) := ⟨by
            rw [HMEM.out]
            intro a ha
            rcases List.mem_append.mp ha with h | h
            · exact HS.out.2 a h
            · rw [List.mem_singleton.mp h]; exact HP.out⟩
          clear hp ho4 HB HMEM HMEM2
          obtain ⟨b1, hb1⟩ : ∃ b1, b1 = (mget (a0, a1, a2) m).isSome := ⟨_, rfl⟩
          obtain ⟨b2, hb2⟩ : ∃ b2, b2 = decide (a0 = tg) := ⟨_, rfl⟩
          have hst : runM tg 0 (l.take (i + 1)) ms0 = ⟨mset (a0, a1, a2) (i : Int) m, tw || b1 || b2⟩ := by rw [HST.out, hb1, hb2]; rfl
          have HSN := Aside0.mk hst
          rw [← hb1] at h1
          clear hst hb1 HST HS
          have HB2 := Aside0.mk hb2.symm
          clear hb2
          go_region
          all_goals clear h1
          all_goals
            have hb2 := HB2.out
            cases tw
            · cases b1
              · cases b2
                all_goals go_wp2_with fail
                all_goals go_region
                all_goals go_wp2_with fail
                all_goals go_roundw
                all_goals try (case rel => exact ⟨i + 1, _, _, by omega, by go_num, by first | rfl | exact congrArg Value.bool HB2.out | (have h8 := HB2.out; simp at h8 ⊢; exact h8), ⟨HSN.out, HALL.out⟩, ⟨HE.out.pull2.drop.pull2⟩⟩)
                all_goals (case measure => simp [intOf]; omega)
              · go_wp2_with fail
                go_region
                all_goals go_wp2_with fail
                all_goals go_roundw
                all_goals try (case rel => exact ⟨i + 1, _, _, by omega, by go_num, rfl, ⟨HSN.out, HALL.out⟩, ⟨HE.out.pull2.drop.pull2⟩⟩)
                all_goals (case measure => simp [intOf]; omega)
            · go_wp2_with fail
              go_region
              all_goals go_wp2_with fail
              all_goals go_roundw
              all_goals try (case rel => exact ⟨i + 1, _, _, by omega, by go_num, rfl, ⟨HSN.out, HALL.out⟩, ⟨HE.out.pull2.drop.pull2⟩⟩)
              all_goals (case measure => simp [intOf]; omega)
        · rw [decide_eq_false hp]
          have HP := Aside0.mk hp
          clear hp
          go_wp2_with fail
          have hmk : makeC G tg l = 1 := if_pos (fun h => HP.out (h _ HMEM2.out))
          exact bodyPost_ret (v := .tuple #[.pointer none, .int .i64 1]) (by simp [results, Try.results11, go_sem]) rfl (.inl ⟨by rw [hmk]; decide, by rw [hmk], HB.out.drop.drop.drop.drop.drop⟩)
      · obtain rfl : i = l.length := by omega
        have dl : decide (((l.length : Nat) : Int) < (l.length : Nat)) = false := decide_eq_false (by omega)
        rw [List.take_length] at HS
        have h1 : ¬ ¬ (∀ a ∈ l, PageIn G (tOf a)) := not_not_intro HS.out.2
        obtain ⟨x0, x1, x2, x3, x4, x5⟩ := cells6 HO.out.drop.drop.drop.pt
        by_cases hc1 : tg < 0 ∨ G.b ≤ tg
        · have hmk : makeC G tg l = 1 := (if_neg h1).trans (if_pos hc1)
          have HMK := Aside0.mk hmk
          clear h1 hmk HS
          by_cases hn : tg < 0
          · have d1 : decide (tg < 0) = true := decide_eq_true hn
            clear hn hc1
            go_wp2_with fail
            exact bodyPost_ret (v := .tuple #[.pointer none, .int .i64 1]) (by simp [results, Try.results11, go_sem]) rfl (.inl ⟨by rw [HMK.out]; decide, by rw [HMK.out], HO.out.drop.drop.drop.drop⟩)
          · have d1 : decide (tg < 0) = false := decide_eq_false hn
            have d2 : decide (G.b ≤ tg) = true := decide_eq_true (by omega)
            clear hn hc1
            go_wp2_with fail
            exact bodyPost_ret (v := .tuple #[.pointer none, .int .i64 1]) (by simp [results, Try.results11, go_sem]) rfl (.inl ⟨by rw [HMK.out]; decide, by rw [HMK.out], HO.out.drop.drop.drop.drop⟩)
        · have d1 : decide (tg < 0) = false := decide_eq_false (by omega)
          have d2 : decide (G.b ≤ tg) = false := decide_eq_false (by omega)
          by_cases hc2 : 3 * G.l < l.length
          · have hmk : makeC G tg l = 2 := (if_neg h1).trans ((if_neg hc1).trans (if_pos hc2))
            have d3 : decide (3 * G.l < (l.length : Nat)) = true := decide_eq_true hc2
            have HMK := Aside0.mk hmk
            clear h1 hmk HS hc1 hc2
            go_wp2_with fail
            exact bodyPost_ret (v := .tuple #[.pointer none, .int .i64 2]) (by simp [results, Try.results11, go_sem]) rfl (.inl ⟨by rw [HMK.out]; decide, by rw [HMK.out], HO.out.drop.drop.drop.drop⟩)
          · have d3 : decide (3 * G.l < (l.length : Nat)) = false := decide_eq_false hc2
            have hmk : makeC G tg l = if tw = true then 5 else 0 := by
              refine (if_neg h1).trans ((if_neg hc1).trans ((if_neg hc2).trans ?_))
              rw [HS.out.1]
            have hpl : planOf G tg l = ⟨G.l, tg, l, m⟩ := by unfold planOf; rw [HS.out.1]
            have HPL := Lib.hid hpl
            have HMK := Aside0.mk hmk
            clear h1 hmk HS hc1 hc2 hpl
            cases tw
            · go_wp2_with fail
              exact bodyPost_ret (v := .tuple #[.pointer (some ⟨g, 0, none⟩), .int .i64 0]) (by simp [results, Try.results11, go_sem]) rfl (.inr ⟨HMK.out, g, A, c, r, rfl, by rw [HPL.out]; exact plo_out HO.out⟩)
            · go_wp2_with fail
              exact bodyPost_ret (v := .tuple #[.pointer none, .int .i64 5]) (by simp [results, Try.results11, go_sem]) rfl (.inl ⟨by rw [HMK.out]; decide, by rw [HMK.out]; rfl, HO.out.drop.drop.drop.drop⟩)
end
end Go.Proofs.Ytcfonmbojkolfaa.Plan
