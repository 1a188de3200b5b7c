/- Package pmap: whatever is played is as the document has it. -/
import Derived.Test.YtiblpienmkjmgaaProg
import Derived.Below
import Derived.Carry
import Derived.Deep.Draws
import Derived.Deep.AppendLies
import Derived.Maps.AppendAt
import Derived.OwnWalk
import Derived.Laws.BytesArg
import Derived.Laws.MakeOwn
import Derived.Laws.OwnMore
import Derived.Deep.OwnRows
import Derived.Tactics
import Derived.Lib.ConvBytes
import Derived.Laws.Slices
import Derived.WalkKit
import Derived.KernelRfl
import Derived.RowKit3
import Derived.Deep.LoopGhost
import Derived.Deep.QuietTactic
import Derived.BigQuiet
import Derived.WideLaws
import Derived.Deep.DeepCutAuto
import Derived.Deep.CutBlock
import Derived.Deep.RegionHeld3
import Derived.Deep.RegionWith
import Derived.Laws.Rows
import Derived.Lib.AppendStr
import Derived.ArgAppend
import Derived.Laws.IdiomCopy
import Derived.OrdersHeld
import Derived.Laws.BitsLemmas
import Derived.Outline
import Derived.RegionTactic
import Derived.Lib.Hide
import Derived.StillTailTactics
import Derived.Deep.RegionWith
import Derived.OpenShut
import Derived.Test.YtiblpienmkjmgaaWWords
import Derived.Test.YtiblpienmkjmgaaPmapR
import Derived.Test.YtiblpienmkjmgaaPMx1
set_option linter.unusedVariables false
namespace Go.Proofs.Ytiblpienmkjmgaa.Pmap
open Go.RowKit Go.Proofs.YtiblpienmkjmgaaW.PrintWords Go.Proofs.Ytiblpienmkjmgaa.Mem Go.Proofs.Ytiblpienmkjmgaa.Own Go.Proofs.Ytiblpienmkjmgaa.Maps Go.Proofs.Ytiblpienmkjmgaa.PM

attribute [local go_sem high] eqA24
theorem getD_tri2 (o : Option Tri) : ∃ a0 a1 a2 : Int, o.getD (0, 0, 0) = (a0, a1, a2) := ⟨_, _, _, rfl⟩
abbrev geoV (G : G6) : Value := .agg #[.int .i64 G.b, .int .i64 G.l, .int .i64 G.y, .int .i64 G.s, .int .i64 G.p, .int .i64 G.w]
abbrev geoC (G : G6) : Obj := .cells #[.int .i64 G.b, .int .i64 G.l, .int .i64 G.y, .int .i64 G.s, .int .i64 G.p, .int .i64 G.w] 37 (0, 0)
abbrev actC (x : S46) : Obj := .cells #[.int .i64 x.f0, .int .i64 x.f1, .int .i64 x.f2.f0, .int .i64 x.f2.f1, .int .i64 x.f2.f2, .int .i64 x.f3.f0, .int .i64 x.f3.f1, .int .i64 x.f3.f2] 46 (0, 0)
/-- The map, the document's map, and more. -/
abbrev PD (G : G6) (g m1 m2 v c B7 : Nat) (S : PS) (u : Value) (xs : List Int) (R : List Asn) : List Asn := PMs G g m1 m2 v c G.b.toNat S (Pt B7 (dC G u) :: I u xs :: R)
section
variable {w0 w : World} {G : G6} {g m1 m2 v c B7 : Nat} {S : PS} {u : Value} {xs : List Int} {R L : List Asn} {A : Asn}
theorem pd_in (h : Own w0 w (A :: PD G g m1 m2 v c B7 S u xs R)) : Own w0 w (PD G g m1 m2 v c B7 S u xs (A :: R)) := own_swap [_] [_, _, _, _, _, _] h
theorem pd_i (h : Own w0 w (PD G g m1 m2 v c B7 S u xs R)) : Own w0 w (I u xs :: PMs G g m1 m2 v c G.b.toNat S (Pt B7 (dC G u) :: R)) := own_swap [_, _, _, _, _] [_] h
theorem pd_of_i (h : Own w0 w (I u xs :: PMs G g m1 m2 v c G.b.toNat S (Pt B7 (dC G u) :: R))) : Own w0 w (PD G g m1 m2 v c B7 S u xs R) := own_swap [_] [_, _, _, _, _] h
theorem own_ne2 {g1 g2 : Nat} {o1 o2 : Obj} (h : Own w0 w (Pt g1 o1 :: Pt g2 o2 :: L)) : g1 ≠ g2 := by
  obtain ⟨b, S, ⟨S1, S2, h1, ⟨S3, S4, h3, _, _, i3, _⟩, d, _, _⟩, _⟩ := h
  exact fun e => d g1 h1.2 (i3 g1 (e ▸ h3.2))
theorem pd_7 {u' : Value} (h : Own w0 w (I u xs :: PMs G g m1 m2 v c G.b.toNat S (Pt B7 (dC G u') :: R))) : Own w0 w (Pt B7 (dC G u') :: I u xs :: PMs G g m1 m2 v c G.b.toNat S R) := own_swap [_, _, _, _, _] [_] h
theorem pd_of_7 (h : Own w0 w (Pt B7 (dC G u) :: I u xs :: PMs G g m1 m2 v c G.b.toNat S R)) : Own w0 w (PD G g m1 m2 v c B7 S u xs R) := own_swap [_, _] [_, _, _, _] h
theorem pd_cells7 (h : Own w0 w (PD G g m1 m2 v c B7 S u xs R)) : w.heap[B7]? = some (dC G u) := h.drop.drop.drop.drop.pt
theorem pd_more (h : Own w0 w (PD G g m1 m2 v c B7 S u xs R)) : Own w0 w R := h.drop.drop.drop.drop.drop.drop
theorem pd_drop (h : Own w0 w (PD G g m1 m2 v c B7 S u xs (A :: R))) : Own w0 w (PD G g m1 m2 v c B7 S u xs R) := Own.drop (own_swap [_, _, _, _, _, _] [_] h)
/-- What the document's map answers is stored. -/
theorem pd_store {u' : Value} (h : Own w0 w (I u' xs :: PMs G g m1 m2 v c G.b.toNat S (Pt B7 (dC G u) :: R))) :
    Own w0 (((((((w.setCell ⟨B7, 0, none⟩ (.int .i64 G.b)).setCell ⟨B7, 1, none⟩ (.int .i64 G.l)).setCell ⟨B7, 2, none⟩ (.int .i64 G.y)).setCell ⟨B7, 3, none⟩ (.int .i64 G.s)).setCell ⟨B7, 4, none⟩ (.int .i64 G.p)).setCell ⟨B7, 5, none⟩ (.int .i64 G.w)).setCell ⟨B7, 6, none⟩ u') (PD G g m1 m2 v c B7 S u' xs R) :=
  pd_of_7 (own_set7 (own_swap [_, _, _, _, _] [_] h) _ _ _ _ _ _ _)
end
def AfterK (w0 : World) (G : G6) (g m1 m2 v c B7 : Nat) (S' : PS) (cd : Int) (R : List Asn) (s11 s12 : Value) (wx : World) : Prop := s11 = .int .i64 cd ∧ s12 = .int .i64 cd ∧ ∃ (Au : Option Addr) (cu : Nat) (xs : List Int), Aside0 (Inv G S' ∧ RefOf G S' xs) ∧ Aside0 (Own w0 wx (PD G g m1 m2 v c B7 S' (.slice Au xs.length cu) xs R))
set_option maxHeartbeats 8000000 in
set_option maxRecDepth 100000 in
theorem plays_ok (G : G6) (A : Option Addr) (cc : Nat) (l : List S46) (w : World) (hok : G.Ok) (h1 : G.s ≤ 100) (h2 : G.b ≤ 20) (hr : Kd.C k46 w A l.length l) (hcc : l.length ≤ cc) :
    Calls Try.prog 4 #[geoV G, .slice A l.length cc] w fun e w' => e = .returned (.bool true) ∧ Below w.heap.size w w' := by
  have hs := hok.1
  unfold SizesOk at hs
  have HO := Aside0.mk ((Own.new w).alloc (geoC G))
  have HR := Aside0.mk hr
  have hm := Kd.C_max hr
  have HOK := Lib.hid hok
  have t1 : decide (100 < G.s) = false := decide_eq_false (by omega)
  have t2 : decide (20 < G.b) = false := decide_eq_false (by omega)
  have b1 : 1 ≤ G.b := by omega
  obtain ⟨B2, hB2⟩ : ∃ B2, B2 = w.heap.size := ⟨_, rfl⟩
  have HB2 := Lib.hid hB2
  rw [← hB2] at HO
  clear hr hok hB2 hs
  go_enter Try.func4, Try.ntmps4
  go_wp2_with fail
  rw [← HB2.out]
  refine (new_yes HOK.out HO.out).mono ?_
  rintro e w1 ⟨g, m1, m2, v, c, rfl, ho⟩
  have HN := Aside0.mk ho
  obtain ⟨x0, x1, x2, x3, x4, x5⟩ := cells6 ho.drop.drop.drop.drop.pt
  clear ho HO
  go_wp2_with fail
  refine (rnew_own HOK.out HN.out).mono ?_
  rintro e w2 ⟨u, xs, rfl, href, ho⟩
  obtain ⟨Au, cu, rfl, _, _⟩ := ho.reads
  obtain ⟨B7, hB7⟩ : ∃ B7, B7 = w2.heap.size := ⟨_, rfl⟩
  have ho := ho.alloc (dC G (.slice Au xs.length cu))
  rw [← hB7] at ho
  have HB7 := Lib.hid hB7
  have HD := Aside0.mk (pd_of_7 ho)
  have HREF := Aside0.mk href
  have hxs := href.len
  clear x0 x1 x2 x3 x4 x5 HN hB7 href hxs
  obtain ⟨x0, x1, x2, x3, x4, x5⟩ := cells6 ho.drop.drop.drop.drop.drop.drop.pt
  clear ho
  delta dV
  go_wp2_with fail
  rw [← HB7.out]
  clear x0 x1 x2 x3 x4 x5
  go_loopw [9] (fun v9 wr => ∃ (i : Nat) (S : PS) (Au : Option Addr) (cu : Nat) (xs : List Int), i ≤ l.length ∧ i ≤ 40 ∧ v9 = .int .i64 i ∧ Aside0 (Inv G S ∧ RefOf G S xs) ∧ Aside0 (Own w wr (PD G g m1 m2 v c B7 S (.slice Au xs.length cu) xs [Pt B2 (geoC G)]))) (fun v9 _ => 40 - (intOf v9).toNat)
  case atStart => exact ⟨0, newP G, Au, cu, xs, by omega, by omega, rfl, ⟨newP_inv G HOK.out, HREF.out⟩, HD⟩
  case round =>
    clear HD HREF
    obtain ⟨i, S, Au, cu, xs, hi, hi2, rfl, HS, HD⟩ := hrel
    by_cases hc : i < l.length ∧ i < 40
    · obtain ⟨hlt, h40⟩ := hc
      have dl : decide ((i : Int) < (l.length : Nat)) = true := decide_eq_true (by omega)
      have d4 : decide ((i : Int) < 40) = true := decide_eq_true (by omega)
      obtain ⟨ad, rfl, q0, q1, ⟨q2, q3, q4⟩, q5, q6, q7⟩ := at_T46 (Kd.C_below HR.out HD.out.below) i hlt
      obtain ⟨⟨k, lba, ⟨a0, a1, a2⟩, ⟨b0, b1, b2⟩⟩, hR⟩ : ∃ R, R = rd_T46 l i := ⟨_, rfl⟩
      rw [← hR] at q0 q1 q2 q3 q4 q5 q6 q7
      dsimp only at q0 q1 q2 q3 q4 q5 q6 q7
      obtain ⟨BA, hBA⟩ : ∃ BA, BA = wr.heap.size := ⟨_, rfl⟩
      have HBA := Lib.hid hBA
      have ho := pd_in (HD.out.alloc (actC ⟨k, lba, ⟨a0, a1, a2⟩, ⟨b0, b1, b2⟩⟩))
      rw [← hBA] at ho
      have HE := Aside0.mk ho
      clear hR HD hBA ho
      obtain ⟨X, hX⟩ : ∃ X : S46, X = ⟨k, lba, ⟨a0, a1, a2⟩, ⟨b0, b1, b2⟩⟩ := ⟨_, rfl⟩
      have hIS := stepP_inv HS.out.1 X
      obtain ⟨S', cd, hsc⟩ : ∃ S' cd, stepP G S X = (S', cd) := ⟨_, _, rfl⟩
      rw [hsc] at hIS
      have HIS := Aside0.mk hIS
      rw [hX] at hsc
      have HSC := Lib.hid hsc
      clear hX hIS hsc
      go_upto_block 2 with (fail)
      rw [← HBA.out]
      go_cut [11, 12] from 70 to 116 (fun s11 s12 wx => AfterK w G g m1 m2 v c B7 S' cd [Pt BA (actC ⟨k, lba, ⟨a0, a1, a2⟩, ⟨b0, b1, b2⟩⟩), Pt B2 (geoC G)] s11 s12 wx)
      case first =>
        by_cases hk0 : k = 0
        · subst hk0
          have es : setR G S lba (a0, a1, a2) = (S', cd) := HSC.out
          have ES := Aside0.mk (set_any lba (a0, a1, a2) HOK.out HS.out.1 HE.out)
          rw [es] at ES
          have EQ := Aside0.mk (show ∀ (W : World) (L : List Asn), Own w W (I (.slice Au xs.length cu) xs :: L) → Calls Try.prog 19 #[dV G (.slice Au xs.length cu), .int .i64 lba, tri (a0, a1, a2)] W fun e w' => ∃ u' xs', e = .returned (.tuple #[dV G u', .int .i64 cd]) ∧ RefOf G S' xs' ∧ Own w w' (I u' xs' :: L) from fun W L h => by have := rset_own lba (a0, a1, a2) HS.out.2 HOK.out HS.out.1 h; rw [es] at this; exact this)
          clear es
          obtain ⟨y0, y1, y2, y3, y4, y5, y6, y7⟩ := cells8 (pd_more HE.out).pt
          go_wp2_with fail
          refine ES.out.mono ?_
          rintro e w5 ⟨rfl, ho⟩
          clear y0 y1 y2 y3 y4 y5 y6 y7
          obtain ⟨x0, x1, x2, x3, x4, x5, x6⟩ := cells7 (pd_cells7 ho)
          obtain ⟨y0, y1, y2, y3, y4, y5, y6, y7⟩ := cells8 (pd_more ho).pt
          have HE1 := Aside0.mk ho
          clear ho HE
          go_wp2_with fail
          refine (EQ.out _ _ (pd_i HE1.out)).mono ?_
          clear x0 x1 x2 x3 x4 x5 x6 y0 y1 y2 y3 y4 y5 y6 y7
          rintro e w6 ⟨u', xs', rfl, href', ho⟩
          obtain ⟨Au', cu', rfl, _, _⟩ := ho.reads
          delta dV
          have hb7 := (pd_7 ho).pt
          obtain ⟨x0, x1, x2, x3, x4, x5, x6⟩ := cells7 hb7
          obtain ⟨z0, z1, z2, z3, z4, z5, z6⟩ := frozen7 hb7
          have HF := Aside0.mk (pd_store ho)
          have HF2 := Aside0.mk (show Inv G S' ∧ RefOf G S' xs' from ⟨HIS.out, href'⟩)
          clear hb7 ho HE1 href'
          go_wp2_with fail
          go_meet
          exact ⟨rfl, rfl, _, _, _, HF2, HF⟩
        · have e0 : (k == 0) = false := by simpa using hk0
          by_cases hk1 : k = 1
          · subst hk1
            have es : clearR G S lba = (S', cd) := HSC.out
            have ES := Aside0.mk (clear_any lba HOK.out HS.out.1 HE.out)
            rw [es] at ES
            have EQ := Aside0.mk (show ∀ (W : World) (L : List Asn), Own w W (I (.slice Au xs.length cu) xs :: L) → Calls Try.prog 21 #[dV G (.slice Au xs.length cu), .int .i64 lba] W fun e w' => ∃ u' xs', e = .returned (.tuple #[dV G u', .int .i64 cd]) ∧ RefOf G S' xs' ∧ Own w w' (I u' xs' :: L) from fun W L h => by have := rclear_own lba HS.out.2 HOK.out HS.out.1 h; rw [es] at this; exact this)
            clear es
            obtain ⟨y0, y1, y2, y3, y4, y5, y6, y7⟩ := cells8 (pd_more HE.out).pt
            go_wp2_with fail
            refine ES.out.mono ?_
            rintro e w5 ⟨rfl, ho⟩
            clear y0 y1 y2 y3 y4 y5 y6 y7
            obtain ⟨x0, x1, x2, x3, x4, x5, x6⟩ := cells7 (pd_cells7 ho)
            obtain ⟨y0, y1, y2, y3, y4, y5, y6, y7⟩ := cells8 (pd_more ho).pt
            have HE1 := Aside0.mk ho
            clear ho HE
            go_wp2_with fail
            refine (EQ.out _ _ (pd_i HE1.out)).mono ?_
            clear x0 x1 x2 x3 x4 x5 x6 y0 y1 y2 y3 y4 y5 y6 y7
            rintro e w6 ⟨u', xs', rfl, href', ho⟩
            obtain ⟨Au', cu', rfl, _, _⟩ := ho.reads
            delta dV
            have hb7 := (pd_7 ho).pt
            obtain ⟨x0, x1, x2, x3, x4, x5, x6⟩ := cells7 hb7
            obtain ⟨z0, z1, z2, z3, z4, z5, z6⟩ := frozen7 hb7
            have HF := Aside0.mk (pd_store ho)
            have HF2 := Aside0.mk (show Inv G S' ∧ RefOf G S' xs' from ⟨HIS.out, href'⟩)
            clear hb7 ho HE1 href'
            go_wp2_with fail
            go_meet
            exact ⟨rfl, rfl, _, _, _, HF2, HF⟩
          · have e1 : (k == 1) = false := by simpa using hk1
            have es : moveR G S (a0, a1, a2) (b0, b1, b2) = (S', cd) := by have := HSC.out; unfold stepP at this; rw [if_neg hk0, if_neg hk1] at this; exact this
            have ES := Aside0.mk (move_any (a0, a1, a2) (b0, b1, b2) HOK.out HS.out.1 HE.out)
            rw [es] at ES
            have EQ := Aside0.mk (show ∀ (W : World) (L : List Asn), Own w W (I (.slice Au xs.length cu) xs :: L) → Calls Try.prog 22 #[dV G (.slice Au xs.length cu), tri (a0, a1, a2), tri (b0, b1, b2)] W fun e w' => ∃ u' xs', e = .returned (.tuple #[dV G u', .int .i64 cd]) ∧ RefOf G S' xs' ∧ Own w w' (I u' xs' :: L) from fun W L h => by have := rmove_own (a0, a1, a2) (b0, b1, b2) HS.out.2 HOK.out HS.out.1 h; rw [es] at this; exact this)
            clear es
            obtain ⟨y0, y1, y2, y3, y4, y5, y6, y7⟩ := cells8 (pd_more HE.out).pt
            go_wp2_with fail
            refine ES.out.mono ?_
            rintro e w5 ⟨rfl, ho⟩
            clear y0 y1 y2 y3 y4 y5 y6 y7
            obtain ⟨x0, x1, x2, x3, x4, x5, x6⟩ := cells7 (pd_cells7 ho)
            obtain ⟨y0, y1, y2, y3, y4, y5, y6, y7⟩ := cells8 (pd_more ho).pt
            have HE1 := Aside0.mk ho
            clear ho HE
            go_wp2_with fail
            refine (EQ.out _ _ (pd_i HE1.out)).mono ?_
            clear x0 x1 x2 x3 x4 x5 x6 y0 y1 y2 y3 y4 y5 y6 y7
            rintro e w6 ⟨u', xs', rfl, href', ho⟩
            obtain ⟨Au', cu', rfl, _, _⟩ := ho.reads
            delta dV
            have hb7 := (pd_7 ho).pt
            obtain ⟨x0, x1, x2, x3, x4, x5, x6⟩ := cells7 hb7
            obtain ⟨z0, z1, z2, z3, z4, z5, z6⟩ := frozen7 hb7
            have HF := Aside0.mk (pd_store ho)
            have HF2 := Aside0.mk (show Inv G S' ∧ RefOf G S' xs' from ⟨HIS.out, href'⟩)
            clear hb7 ho HE1 href'
            go_wp2_with fail
            go_meet
            exact ⟨rfl, rfl, _, _, _, HF2, HF⟩
      case rest =>
        obtain ⟨rfl, rfl, Au', cu', xs', HF2, HF⟩ := hcut
        obtain ⟨y0, y1, y2, y3, y4, y5, y6, y7⟩ := cells8 (pd_more HF.out).pt
        go_wp2_with fail
        clear y0 y1 y2 y3 y4 y5 y6 y7
        refine (atP lba HF.out).mono ?_
        rintro e w7 ⟨rfl, ho⟩
        obtain ⟨p0, p1, p2, hp⟩ := getD_tri2 (mget lba S'.l1)
        obtain ⟨pb, hpb⟩ : ∃ pb, pb = (mget lba S'.l1).isSome := ⟨_, rfl⟩
        rw [hp, ← hpb]
        have HP := Lib.hid hp
        have HPB := Lib.hid hpb
        obtain ⟨BP, hBP⟩ : ∃ BP, BP = w7.heap.size := ⟨_, rfl⟩
        have ho2 := pd_in (ho.alloc (.cells #[.int .i64 p0, .int .i64 p1, .int .i64 p2] 24))
        rw [← hBP] at ho2
        have HBP := Lib.hid hBP
        have HG := Aside0.mk ho2
        obtain ⟨x0, x1, x2, x3, x4, x5, x6⟩ := cells7 (pd_cells7 ho2)
        obtain ⟨y0, y1, y2, y3, y4, y5, y6, y7⟩ := cells8 (pd_more ho2).drop.pt
        clear ho ho2 HF hp hpb hBP
        go_wp2_with fail
        rw [← HBP.out]
        refine (rat_own lba HF2.out.2 HOK.out HF2.out.1 (pd_i HG.out)).mono ?_
        clear x0 x1 x2 x3 x4 x5 x6 y0 y1 y2 y3 y4 y5 y6 y7
        rintro e w8 ⟨rfl, ho⟩
        rw [HP.out, ← HPB.out]
        obtain ⟨BQ, hBQ⟩ : ∃ BQ, BQ = w8.heap.size := ⟨_, rfl⟩
        have ho2 := pd_in ((pd_of_i ho).alloc (.cells #[.int .i64 p0, .int .i64 p1, .int .i64 p2] 24))
        rw [← hBQ] at ho2
        have HBQ := Lib.hid hBQ
        have HH := Aside0.mk ho2
        obtain ⟨y0, y1, y2, y3, y4, y5, y6, y7⟩ := cells8 (pd_more ho2).drop.drop.pt
        clear ho ho2 HG hBQ
        go_wp2_with fail
        rw [← HBQ.out]
        refine (lbaP (a0, a1, a2) HH.out).mono ?_
        clear y0 y1 y2 y3 y4 y5 y6 y7
        rintro e w9 ⟨rfl, ho⟩
        obtain ⟨n, hn⟩ : ∃ n, n = (mget (a0, a1, a2) S'.l2).getD 0 := ⟨_, rfl⟩
        obtain ⟨nb, hnb⟩ : ∃ nb, nb = (mget (a0, a1, a2) S'.l2).isSome := ⟨_, rfl⟩
        rw [← hn, ← hnb]
        have HN1 := Lib.hid hn
        have HN2 := Lib.hid hnb
        have HI := Aside0.mk ho
        obtain ⟨x0, x1, x2, x3, x4, x5, x6⟩ := cells7 (pd_cells7 ho)
        obtain ⟨y0, y1, y2, y3, y4, y5, y6, y7⟩ := cells8 (pd_more ho).drop.drop.pt
        clear ho HH hn hnb
        go_wp2_with fail
        refine (rlba_own (a0, a1, a2) HF2.out.2 HOK.out HF2.out.1 (pd_i HI.out)).mono ?_
        clear x0 x1 x2 x3 x4 x5 x6 y0 y1 y2 y3 y4 y5 y6 y7
        rintro e w10 ⟨rfl, ho⟩
        rw [← HN1.out, ← HN2.out]
        have HJ := Aside0.mk (pd_of_i ho)
        clear ho HI
        go_wp2_with fail
        obtain ⟨x0, x1, x2, x3, x4, x5, x6⟩ := cells7 (pd_cells7 HJ.out)
        obtain ⟨_, _, y2, y3, y4, _, _, _⟩ := cells8 (pd_more HJ.out).drop.drop.pt
        obtain ⟨r0, r1, r2⟩ := cells3 (pd_more HJ.out).pt
        obtain ⟨s0, s1, s2⟩ := cells3 (pd_more HJ.out).drop.pt
        have HJD := Aside0.mk HJ.out.drew
        obtain ⟨vl, hvl⟩ : ∃ vl : Nat, vl = (pagesP G S' a0).length := ⟨_, rfl⟩
        have hvq : (if (0 : Int) ≤ a0 ∧ a0 < (G.b.toNat : Int) then S'.v.getD a0.toNat 0 else 0) = (vl : Int) := by rw [hvl]; exact valid_eq HOK.out HF2.out.1 a0
        have HVL := Lib.hid hvl
        have HVQ := Lib.hid hvq
        have hlen := (HF2.out.1.fine HOK.out).len
        have HLEN := Lib.hid hlen
        clear hvl hvq hlen HJ
        go_cut [188] from 145 to 188 (fun s188 wx => s188 = .bool false ∧ Aside0 (Own w wx (PD G g m1 m2 v c B7 S' (.slice Au' xs'.length cu') xs' [Pt B2 (geoC G)])))
        case first =>
          go_region_held3 (fun w' => w'.cell? ⟨B7, 0, none⟩ = some (.int .i64 G.b) ∧ w'.cell? ⟨B7, 1, none⟩ = some (.int .i64 G.l) ∧ w'.cell? ⟨B7, 2, none⟩ = some (.int .i64 G.y) ∧ w'.cell? ⟨B7, 3, none⟩ = some (.int .i64 G.s) ∧ w'.cell? ⟨B7, 4, none⟩ = some (.int .i64 G.p) ∧ w'.cell? ⟨B7, 5, none⟩ = some (.int .i64 G.w) ∧ w'.cell? ⟨B7, 6, none⟩ = some (.slice Au' xs'.length cu') ∧
              w'.cell? ⟨BA, 2, none⟩ = some (.int .i64 a0) ∧ w'.cell? ⟨BA, 3, none⟩ = some (.int .i64 a1) ∧ w'.cell? ⟨BA, 4, none⟩ = some (.int .i64 a2) ∧ w'.cell? ⟨BP, 0, none⟩ = some (.int .i64 p0) ∧ w'.cell? ⟨BP, 1, none⟩ = some (.int .i64 p1) ∧ w'.cell? ⟨BP, 2, none⟩ = some (.int .i64 p2) ∧
              w'.cell? ⟨BQ, 0, none⟩ = some (.int .i64 p0) ∧ w'.cell? ⟨BQ, 1, none⟩ = some (.int .i64 p1) ∧ w'.cell? ⟨BQ, 2, none⟩ = some (.int .i64 p2)) (go_keep)
            (first
              | (go_at_call 15; refine (totalP HJD.out).mono ?_; rintro e w11 ⟨rfl, rfl⟩)
              | (go_at_call 25; refine (rtotal_own HF2.out.2 HOK.out HF2.out.1 (pd_i HJD.out)).mono ?_; rintro e w11 ⟨rfl, ho⟩; have HK := Aside0.mk (pd_of_i ho); clear ho; obtain ⟨x0, x1, x2, x3, x4, x5, x6⟩ := cells7 (pd_cells7 HK.out); obtain ⟨_, _, y2, y3, y4, _, _, _⟩ := cells8 (pd_more HK.out).drop.drop.pt; obtain ⟨r0, r1, r2⟩ := cells3 (pd_more HK.out).pt; obtain ⟨s0, s1, s2⟩ := cells3 (pd_more HK.out).drop.pt)
              | (go_at_call 26; refine (valid_own (n := G.b.toNat) a0 HLEN.out HK.out).mono ?_; rintro e w12 ⟨rfl, rfl⟩; rw [HVQ.out])
              | (go_at_call 27; refine (rpages_own a0 HF2.out.2 HOK.out HF2.out.1 (pd_i HK.out)).mono ?_; rintro e w13 ⟨vq, rfl, ho⟩; obtain ⟨Aq, cq, rfl, _, _⟩ := row_form ho; have HM := Aside0.mk (pd_of_i ho.drop); rw [← HVL.out]; clear ho; obtain ⟨x0, x1, x2, x3, x4, x5, x6⟩ := cells7 (pd_cells7 HM.out); obtain ⟨_, _, y2, y3, y4, _, _, _⟩ := cells8 (pd_more HM.out).drop.drop.pt; obtain ⟨r0, r1, r2⟩ := cells3 (pd_more HM.out).pt; obtain ⟨s0, s1, s2⟩ := cells3 (pd_more HM.out).drop.pt))
          all_goals go_wp2_with fail
          all_goals go_meet
          all_goals exact ⟨rfl, ⟨pd_drop (pd_drop (pd_drop HM.out))⟩⟩
        case rest =>
          obtain ⟨rfl, HN⟩ := hcut
          go_wp2_with fail
          go_roundw
          case rel => exact ⟨i + 1, S', Au', cu', xs', by omega, by omega, by go_num, HF2, HN⟩
          case measure => simp [intOf]; omega
    · have hc' : (i < l.length → i = 40) := fun h => by omega
      have key : ∀ b : Bool, (b = true → i < l.length ∧ i < 40) → b = false := fun b h => by
        cases b with
        | false => rfl
        | true => exact absurd (h rfl) hc
      by_cases hlt : i < l.length
      all_goals
        first
          | (have dl : decide ((i : Int) < (l.length : Nat)) = true := decide_eq_true (by omega)
             have d4 : decide ((i : Int) < 40) = false := decide_eq_false (by omega)
             clear key hc' hc)
          | (have dl : decide ((i : Int) < (l.length : Nat)) = false := decide_eq_false (by omega)
             clear key hc' hc)
        go_wp2_with fail
        go_loopw [21] (fun v21 wr => ∃ (b : Int), -1 ≤ b ∧ b ≤ 21 ∧ v21 = .int .i64 b ∧ Aside0 (Own w wr (PD G g m1 m2 v c B7 S (.slice Au xs.length cu) xs [Pt B2 (geoC G)]))) (fun v21 _ => (22 - intOf v21).toNat)
        case atStart => exact ⟨-1, by omega, by omega, rfl, HD⟩
        case round =>
          clear HD
          obtain ⟨b, hb1, hb2, rfl, HD⟩ := hrel
          obtain ⟨x0, x1, x2, x3, x4, x5⟩ := cells6 (pd_more HD.out).pt
          by_cases hbt : b ≤ G.b
          · have db : decide (b ≤ G.b) = true := decide_eq_true hbt
            have hps := pagesP_small (S := S) HOK.out b
            obtain ⟨Pg, hPg⟩ : ∃ Pg, Pg = pagesP G S b := ⟨_, rfl⟩
            rw [← hPg] at hps
            have HPg := Lib.hid hPg
            have hvq : (if (0 : Int) ≤ b ∧ b < (G.b.toNat : Int) then S.v.getD b.toNat 0 else 0) = (Pg.length : Int) := by rw [hPg]; exact valid_eq HOK.out HS.out.1 b
            have HVQ := Lib.hid hvq
            have HLEN := Lib.hid (HS.out.1.fine HOK.out).len
            clear hPg hvq
            go_wp2_with fail
            clear x0 x1 x2 x3 x4 x5
            refine (pages_own b HOK.out HS.out.1 HD.out).mono ?_
            rintro e z1 ⟨u1, rfl, ho⟩
            rw [← HPg.out] at ho
            have HE := Aside0.mk (own_swap [_, _, _, _, _, _] [_] ho)
            clear HD
            obtain ⟨x0, x1, x2, x3, x4, x5, x6⟩ := cells7 (pd_cells7 ho.drop)
            clear ho
            go_wp2_with fail
            refine (rpages_own b HS.out.2 HOK.out HS.out.1 HE.out).mono ?_
            rintro e z2 ⟨vq, rfl, ho⟩
            rw [← HPg.out] at ho
            have HF := Aside0.mk (own_swap [_, _] [_] (crow_of ho))
            clear ho HE x0 x1 x2 x3 x4 x5 x6
            go_wp2_with fail
            refine (same_own Pg (by omega) HF.out).mono ?_
            rintro e z3 ⟨rfl, ho⟩
            have HG := Aside0.mk (own_swap [_] [_] ho).drop
            clear ho HF
            go_wp2_with fail
            refine (spoilAds_own Pg (by omega) HG.out).mono ?_
            rintro e z4 ⟨rfl, ho⟩
            have HN := Aside0.mk (pd_of_i ho)
            clear ho HG
            go_wp2_with fail
            obtain ⟨x0, x1, x2, x3, x4, x5, x6⟩ := cells7 (pd_cells7 HN.out)
            have HND := Aside0.mk HN.out.drew
            clear HN
            have t1' : True := trivial
            have t2' : True := trivial
            go_cut [223] from 206 to 223 (fun s223 wx => s223 = .bool false ∧ Aside0 (Own w wx (PD G g m1 m2 v c B7 S (.slice Au xs.length cu) xs [Pt B2 (geoC G)])))
            case first =>
              go_region_held3 (fun w' => w'.cell? ⟨B7, 0, none⟩ = some (.int .i64 G.b) ∧ w'.cell? ⟨B7, 1, none⟩ = some (.int .i64 G.l) ∧ w'.cell? ⟨B7, 2, none⟩ = some (.int .i64 G.y) ∧ w'.cell? ⟨B7, 3, none⟩ = some (.int .i64 G.s) ∧ w'.cell? ⟨B7, 4, none⟩ = some (.int .i64 G.p) ∧ w'.cell? ⟨B7, 5, none⟩ = some (.int .i64 G.w) ∧ w'.cell? ⟨B7, 6, none⟩ = some (.slice Au xs.length cu)) (go_keep)
                (first
                  | (go_at_call 26; refine (valid_own (n := G.b.toNat) b HLEN.out HND.out).mono ?_; rintro e z5 ⟨rfl, rfl⟩; rw [HVQ.out])
                  | (go_at_call 27; have _t := t1'; refine (rpages_own b HS.out.2 HOK.out HS.out.1 (pd_i HND.out)).mono ?_; rintro e z6 ⟨vq2, rfl, ho⟩; rw [← HPg.out] at ho; obtain ⟨Aq, cq, rfl, _, _⟩ := row_form ho; have HK := Aside0.mk (pd_of_i ho.drop); clear ho t1' _t; obtain ⟨x0, x1, x2, x3, x4, x5, x6⟩ := cells7 (pd_cells7 HK.out))
                  | (go_at_call 28; refine (pages_own b HOK.out HS.out.1 HK.out).mono ?_; rintro e z7 ⟨u2, rfl, ho⟩; rw [← HPg.out] at ho; have HL := Aside0.mk (own_swap [_, _, _, _, _, _] [_] ho); obtain ⟨x0, x1, x2, x3, x4, x5, x6⟩ := cells7 (pd_cells7 ho.drop); clear ho)
                  | (go_at_call 27; have _t := t2'; refine (rpages_own b HS.out.2 HOK.out HS.out.1 HL.out).mono ?_; rintro e z8 ⟨vq3, rfl, ho⟩; rw [← HPg.out] at ho; have HM := Aside0.mk (own_swap [_, _] [_] (crow_of ho)); clear t2' _t; obtain ⟨x0, x1, x2, x3, x4, x5, x6⟩ := cells7 (ho.drop.drop.drop.drop.drop.drop.drop.pt); clear ho)
                  | (go_at_call 29; refine (same_own Pg (by omega) HM.out).mono ?_; rintro e z9 ⟨rfl, ho⟩; have HQ := Aside0.mk (pd_of_i ho.drop.drop); clear ho; obtain ⟨x0, x1, x2, x3, x4, x5, x6⟩ := cells7 (pd_cells7 HQ.out)))
              all_goals go_wp2_with fail
              all_goals go_meet
              all_goals exact ⟨rfl, HQ⟩
            case rest =>
              obtain ⟨rfl, HQ⟩ := hcut
              go_wp2_with fail
              go_roundw
              case rel => exact ⟨b + 1, by omega, by omega, rfl, HQ⟩
              case measure => simp [intOf]; omega
          · have db : decide (b ≤ G.b) = false := decide_eq_false hbt
            go_wp2_with fail
            refine (works_own HD.out).mono ?_
            rintro e z1 ⟨rfl, ho⟩
            have HE := Aside0.mk ho.below
            clear ho HD
            go_wp2_with fail
            go_ret
            exact ⟨rfl, HE.out⟩
end Go.Proofs.Ytiblpienmkjmgaa.Pmap
