/- Package pmap, by hand: what was played. -/
import Derived.Test.YtiblpienmkjmgaaProg
import Derived.Below
import Derived.Carry
import Derived.Deep.Draws
import Derived.Deep.AppendLies
import Derived.Maps.AppendAt
import Derived.OwnWalk
import Derived.Laws.BytesArg
import Derived.Laws.MakeOwn
import Derived.Laws.OwnMore
import Derived.Deep.OwnRows
import Derived.Tactics
import Derived.Lib.ConvBytes
import Derived.Laws.Slices
import Derived.WalkKit
import Derived.KernelRfl
import Derived.RowKit3
import Derived.Deep.LoopGhost
import Derived.Deep.QuietTactic
import Derived.BigQuiet
import Derived.WideLaws
import Derived.Deep.DeepCutAuto
import Derived.Deep.CutBlock
import Derived.Deep.RegionHeld3
import Derived.Deep.RegionWith
import Derived.Laws.Rows
import Derived.Lib.AppendStr
import Derived.ArgAppend
import Derived.Laws.IdiomCopy
import Derived.OrdersHeld
import Derived.Laws.BitsLemmas
import Derived.Outline
import Derived.RegionTactic
import Derived.Lib.Hide
import Derived.StillTailTactics
import Derived.Deep.RegionWith
import Derived.OpenShut
import Derived.Test.YtiblpienmkjmgaaWWords
import Derived.Test.YtiblpienmkjmgaaPmapK
set_option linter.unusedVariables false
namespace Go.Proofs.Ytiblpienmkjmgaa.Pmap
open Go.RowKit Go.Proofs.YtiblpienmkjmgaaW.PrintWords Go.Proofs.Ytiblpienmkjmgaa.Mem Go.Proofs.Ytiblpienmkjmgaa.Own Go.Proofs.Ytiblpienmkjmgaa.Maps Go.Proofs.Ytiblpienmkjmgaa.PM

structure S46 where
  f0 : Int
  f1 : Int
  f2 : S24
  f3 : S24
def z46 : S46 := ⟨0, 0, z24, z24⟩
def k46 : Kd S46 := Kd.iso (Kd.pair (Kd.int .i64) (Kd.pair (Kd.int .i64) (Kd.pair k24 k24))) (fun x : S46 => (x.f0, x.f1, x.f2, x.f3))
theorem k46_open {w : World} {x : S46} {cs : List Value} (h : k46.K w x cs) : cs = [.int .i64 x.f0, .int .i64 x.f1, .int .i64 x.f2.f0, .int .i64 x.f2.f1, .int .i64 x.f2.f2, .int .i64 x.f3.f0, .int .i64 x.f3.f1, .int .i64 x.f3.f2] := by
  obtain ⟨_, _, rfl, rfl, ⟨_, _, rfl, rfl, ⟨a, b, rfl, h1, h2⟩⟩⟩ := h
  obtain rfl := k24_open h1
  obtain rfl := k24_open h2
  exact rfl
def rd_T46 (xs : List S46) (i : Nat) : S46 := xs.getD i z46
theorem at_T46 {w : World} {A : Option Addr} {n : Nat} {xs : List S46} (h : Kd.C k46 w A n xs) (i : Nat) (h1 : i < n) : ∃ ad, A = some ad ∧ w.cell? (ad.add (i * 8)) = some (.int .i64 (rd_T46 xs i).f0) ∧ w.cell? ⟨(ad.add (i * 8)).block, (ad.add (i * 8)).off + 1, none⟩ = some (.int .i64 (rd_T46 xs i).f1) ∧
    (w.cell? ⟨(ad.add (i * 8)).block, (ad.add (i * 8)).off + 2, none⟩ = some (.int .i64 (rd_T46 xs i).f2.f0) ∧ w.cell? ⟨(ad.add (i * 8)).block, (ad.add (i * 8)).off + 3, none⟩ = some (.int .i64 (rd_T46 xs i).f2.f1) ∧ w.cell? ⟨(ad.add (i * 8)).block, (ad.add (i * 8)).off + 4, none⟩ = some (.int .i64 (rd_T46 xs i).f2.f2)) ∧
    (w.cell? ⟨(ad.add (i * 8)).block, (ad.add (i * 8)).off + 5, none⟩ = some (.int .i64 (rd_T46 xs i).f3.f0) ∧ w.cell? ⟨(ad.add (i * 8)).block, (ad.add (i * 8)).off + 6, none⟩ = some (.int .i64 (rd_T46 xs i).f3.f1) ∧ w.cell? ⟨(ad.add (i * 8)).block, (ad.add (i * 8)).off + 7, none⟩ = some (.int .i64 (rd_T46 xs i).f3.f2)) := by
  obtain ⟨ad, c, e, _, hK, hc0⟩ := Kd.C_get h z46 (i : Int) (by omega) (by omega)
  have hc : ∀ j u, c[j]? = some u → w.cell? (ad.add (i * 8 + j)) = some u := hc0
  obtain rfl := k46_open hK
  refine ⟨ad, e, hc 0 _ rfl, ?_, ⟨?_, ?_, ?_⟩, ?_, ?_, ?_⟩
  · rw [← add_field _ _ 1 (by omega)]; exact hc 1 _ rfl
  · rw [← add_field _ _ 2 (by omega)]; exact hc 2 _ rfl
  · rw [← add_field _ _ 3 (by omega)]; exact hc 3 _ rfl
  · rw [← add_field _ _ 4 (by omega)]; exact hc 4 _ rfl
  · rw [← add_field _ _ 5 (by omega)]; exact hc 5 _ rfl
  · rw [← add_field _ _ 6 (by omega)]; exact hc 6 _ rfl
  · rw [← add_field _ _ 7 (by omega)]; exact hc 7 _ rfl
abbrev tOf (a : S24) : Tri := (a.f0, a.f1, a.f2)
def stepP (G : G6) (S : PS) (x : S46) : PS × Int := if x.f0 = 0 then setR G S x.f1 (tOf x.f2) else if x.f0 = 1 then clearR G S x.f1 else moveR G S (tOf x.f2) (tOf x.f3)
theorem stepP_inv {G : G6} {S : PS} (hi : Inv G S) (x : S46) : Inv G (stepP G S x).1 := by
  unfold stepP
  split
  · exact setR_inv hi _ _
  · split
    · exact clearR_inv hi _
    · exact moveR_inv hi _ _
def playP (G : G6) (S : PS) : List S46 → PS
  | [] => S
  | x :: l => playP G (stepP G S x).1 l
theorem playP_snoc (G : G6) (x : S46) : ∀ (l : List S46) (S : PS), playP G S (l ++ [x]) = (stepP G (playP G S l) x).1
  | [], _ => rfl
  | y :: l, S => playP_snoc G x l _
theorem playP_inv {G : G6} : ∀ (l : List S46) {S : PS}, Inv G S → Inv G (playP G S l)
  | [], _, h => h
  | x :: l, _, h => playP_inv l (stepP_inv h x)
theorem playP_take (G : G6) (S : PS) (l : List S46) (i : Nat) (h : i < l.length) : playP G S (l.take (i + 1)) = (stepP G (playP G S (l.take i)) (rd_T46 l i)).1 := by
  rw [List.take_succ_eq_append_getElem h, playP_snoc]
  unfold rd_T46
  rw [List.getD_eq_getElem?_getD, List.getElem?_eq_getElem h]; rfl
section
variable {w0 w : World} {L : List Asn}
set_option maxHeartbeats 4000000 in
set_option maxRecDepth 100000 in
theorem played_own (A : Option Addr) (cc : Nat) (l : List S46) (HO : Own w0 w L) (hr : Kd.C k46 w0 A l.length l) (hcc : l.length ≤ cc) : Calls Try.prog 11 #[.slice A l.length cc] w fun e w' => ∃ g m1 m2 v c, e = .returned (.pointer (some ⟨g, 0, none⟩)) ∧ Own w0 w' (PMs G0 g m1 m2 v c G0.b.toNat (playP G0 X0 (l.take 60)) L) := by
  have HO := Aside0.mk HO
  have HR := Aside0.mk hr
  have hm := Kd.C_max hr
  clear hr
  go_enter Try.func11, Try.ntmps11
  go_wp2_with fail
  refine (decklelaw19_geo.calls 8 6 64 4 0 4 _ rfl).mono ?_
  rintro e w1 ⟨rfl, hb⟩
  have H1 := Aside0.mk (HO.out.move hb)
  clear hb HO
  go_wp2_with fail
  refine (new_g0 H1.out).mono ?_
  rintro e w2 ⟨g, m1, m2, v, c, rfl, ho⟩
  have H2 := Aside0.mk ho
  clear ho H1
  go_wp2_with fail
  go_loopw [5] (fun v5 wr => ∃ (i : Nat) (S : PS), i ≤ l.length ∧ i ≤ 60 ∧ v5 = .int .i64 i ∧ Aside0 (S = playP G0 X0 (l.take i) ∧ Inv G0 S) ∧ Aside0 (Own w0 wr (PMs G0 g m1 m2 v c G0.b.toNat S L))) (fun v5 _ => 60 - (intOf v5).toNat)
  case atStart => exact ⟨0, X0, Nat.zero_le _, by omega, rfl, ⟨rfl, newP_inv G0 g0_ok⟩, H2⟩
  case round =>
    clear H2
    obtain ⟨i, S, hi, hi2, rfl, HS, HO⟩ := hrel
    by_cases hlt : i < l.length
    · have dl : decide ((i : Int) < (l.length : Nat)) = true := decide_eq_true (by omega)
      by_cases h60 : i < 60
      · have d6 : decide ((i : Int) < 60) = true := decide_eq_true (by omega)
        obtain ⟨ad, rfl, q0, q1, ⟨q2, q3, q4⟩, q5, q6, q7⟩ := at_T46 (Kd.C_below HR.out HO.out.below) i hlt
        have hst : playP G0 X0 (l.take (i + 1)) = (stepP G0 S (rd_T46 l i)).1 := by rw [playP_take _ _ _ _ hlt, HS.out.1]
        obtain ⟨⟨k, lba, ⟨a0, a1, a2⟩, ⟨b0, b1, b2⟩⟩, hR⟩ : ∃ R, R = rd_T46 l i := ⟨_, rfl⟩
        rw [← hR] at q0 q1 q2 q3 q4 q5 q6 q7 hst
        dsimp only at q0 q1 q2 q3 q4 q5 q6 q7
        have HST := Lib.hid hst
        clear hR hst
        have HI := Aside0.mk (stepP_inv HS.out.2 ⟨k, lba, ⟨a0, a1, a2⟩, ⟨b0, b1, b2⟩⟩)
        by_cases hk0 : k = 0
        · subst hk0
          have hs := set_any lba (a0, a1, a2) g0_ok HS.out.2 HO.out.drew
          have es : stepP G0 S ⟨0, lba, ⟨a0, a1, a2⟩, ⟨b0, b1, b2⟩⟩ = setR G0 S lba (a0, a1, a2) := rfl
          rw [← es] at hs
          have HSC := Aside0.mk hs
          clear es hs
          go_wp2_with fail
          go_region_with (go_at_call 18; refine HSC.out.mono ?_; rintro e w3 ⟨rfl, ho⟩; have HN := Aside0.mk ho; clear ho)
          all_goals go_wp2_with fail
          all_goals go_roundw
          all_goals try (case rel => exact ⟨i + 1, _, by omega, by omega, by go_num, ⟨HST.out.symm, HI.out⟩, HN⟩)
          all_goals (case measure => simp [intOf]; omega)
        · have e0 : (k == 0) = false := by simpa using hk0
          by_cases hk1 : k = 1
          · subst hk1
            have hs := clear_any lba g0_ok HS.out.2 HO.out
            have es : stepP G0 S ⟨1, lba, ⟨a0, a1, a2⟩, ⟨b0, b1, b2⟩⟩ = clearR G0 S lba := rfl
            rw [← es] at hs
            have HSC := Aside0.mk hs
            clear es hs hk0
            go_wp2_with fail
            refine HSC.out.mono ?_
            rintro e w3 ⟨rfl, ho⟩
            have HN := Aside0.mk ho
            clear ho
            go_wp2_with fail
            go_roundw
            case rel => exact ⟨i + 1, _, by omega, by omega, by go_num, ⟨HST.out.symm, HI.out⟩, HN⟩
            case measure => simp [intOf]; omega
          · have e1 : (k == 1) = false := by simpa using hk1
            have hs := move_any (a0, a1, a2) (b0, b1, b2) g0_ok HS.out.2 HO.out.drew
            have es : stepP G0 S ⟨k, lba, ⟨a0, a1, a2⟩, ⟨b0, b1, b2⟩⟩ = moveR G0 S (a0, a1, a2) (b0, b1, b2) := by unfold stepP; rw [if_neg hk0, if_neg hk1]
            rw [← es] at hs
            have HSC := Aside0.mk hs
            clear es hs hk0 hk1
            go_wp2_with fail
            go_region_with (go_at_call 14; refine HSC.out.mono ?_; rintro e w3 ⟨rfl, ho⟩; have HN := Aside0.mk ho; clear ho)
            all_goals go_wp2_with fail
            all_goals go_roundw
            all_goals try (case rel => exact ⟨i + 1, _, by omega, by omega, by go_num, ⟨HST.out.symm, HI.out⟩, HN⟩)
            all_goals (case measure => simp [intOf]; omega)
      · obtain rfl : i = 60 := by omega
        go_wp2_with fail
        go_ret
        rw [HS.out.1] at HO
        exact ⟨_, _, _, _, _, rfl, HO.out⟩
    · obtain rfl : i = l.length := by omega
      have dl : decide ((l.length : Int) < (l.length : Nat)) = false := decide_eq_false (by omega)
      go_wp2_with fail
      go_ret
      have e : S = playP G0 X0 (l.take 60) := by rw [HS.out.1, List.take_of_length_le (Nat.le_refl _), List.take_of_length_le (by omega)]
      rw [e] at HO
      exact ⟨_, _, _, _, _, rfl, HO.out⟩
end
end Go.Proofs.Ytiblpienmkjmgaa.Pmap
