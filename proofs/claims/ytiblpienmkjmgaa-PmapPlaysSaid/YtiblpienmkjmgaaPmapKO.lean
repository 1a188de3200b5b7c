/- Package pmap, by hand: the chapter's example; what was played. -/
import Derived.Test.YtiblpienmkjmgaaProg
import Derived.Below
import Derived.Carry
import Derived.Deep.Draws
import Derived.Deep.AppendLies
import Derived.Maps.AppendAt
import Derived.OwnWalk
import Derived.Laws.BytesArg
import Derived.Laws.MakeOwn
import Derived.Laws.OwnMore
import Derived.Deep.OwnRows
import Derived.Tactics
import Derived.Lib.ConvBytes
import Derived.Laws.Slices
import Derived.WalkKit
import Derived.KernelRfl
import Derived.RowKit3
import Derived.Deep.LoopGhost
import Derived.Deep.QuietTactic
import Derived.BigQuiet
import Derived.WideLaws
import Derived.Deep.DeepCutAuto
import Derived.Deep.CutBlock
import Derived.Deep.RegionHeld3
import Derived.Deep.RegionWith
import Derived.Laws.Rows
import Derived.Lib.AppendStr
import Derived.ArgAppend
import Derived.Laws.IdiomCopy
import Derived.OrdersHeld
import Derived.Laws.BitsLemmas
import Derived.Outline
import Derived.RegionTactic
import Derived.Lib.Hide
import Derived.StillTailTactics
import Derived.OpenShut
import Derived.Test.YtiblpienmkjmgaaWWords
import Derived.Test.YtiblpienmkjmgaaPmapGJ
import Derived.Test.YtiblpienmkjmgaaPMx6
set_option linter.unusedVariables false
namespace Go.Proofs.Ytiblpienmkjmgaa.Pmap
open Go.RowKit Go.Proofs.YtiblpienmkjmgaaW.PrintWords Go.Proofs.Ytiblpienmkjmgaa.Mem Go.Proofs.Ytiblpienmkjmgaa.Own Go.Proofs.Ytiblpienmkjmgaa.Maps Go.Proofs.Ytiblpienmkjmgaa.PM

def G0 : G6 := ⟨8, 6, 64, 4, 0, 4⟩
theorem g0_ok : G0.Ok := by
  show GeoOk 8 6 64 4 0 4
  decide
def X0 : PS := newP G0
def X1 : PS := ⟨[(3, (2, 0, 0))], [((2, 0, 0), 3)], [0, 0, 1, 0, 0, 0, 0, 0]⟩
def X2 : PS := ⟨[(3, (5, 1, 0))], [((5, 1, 0), 3)], [0, 0, 0, 0, 0, 1, 0, 0]⟩
theorem x1_is : setR G0 X0 3 (2, 0, 0) = (X1, 0) := by kernel_rfl
theorem x2_is : setR G0 X1 3 (5, 1, 0) = (X2, 0) := by kernel_rfl
section
variable {w0 w : World} {L : List Asn}
theorem new_g0 (HO : Own w0 w L) : Calls Try.prog 16 #[.agg #[.int .i64 8, .int .i64 6, .int .i64 64, .int .i64 4, .int .i64 0, .int .i64 4]] w fun e w' => ∃ g m1 m2 v c, e = .returned (.tuple #[.pointer (some ⟨g, 0, none⟩), .int .i64 0]) ∧ Own w0 w' (PMs G0 g m1 m2 v c G0.b.toNat X0 L) :=
  new_yes (G := G0) g0_ok HO
set_option maxHeartbeats 4000000 in
set_option maxRecDepth 100000 in
theorem works_own (HO : Own w0 w L) : Calls Try.prog 10 #[] w fun e w' => e = .returned (.bool true) ∧ Own w0 w' L := by
  have HO := Aside0.mk HO
  go_enter Try.func10, Try.ntmps10
  go_wp2_with fail
  refine (decklelaw19_geo.calls 8 6 64 4 0 4 _ rfl).mono ?_
  rintro e w1 ⟨rfl, hb⟩
  have H1 := Aside0.mk (HO.out.move hb)
  clear hb HO
  go_wp2_with fail
  refine (new_g0 H1.out).mono ?_
  rintro e w2 ⟨g, m1, m2, v, c, rfl, ho⟩
  have H2 := Aside0.mk ho
  clear ho H1
  go_wp2_with fail
  have hs := set_any 3 (2, 0, 0) g0_ok (newP_inv G0 g0_ok) H2.out
  rw [show newP G0 = X0 from rfl, x1_is] at hs
  refine hs.mono ?_
  rintro e w3 ⟨rfl, ho⟩
  have H3 := Aside0.mk ho
  clear ho H2 hs
  go_wp2_with fail
  refine (valid_own (n := G0.b.toNat) 2 rfl H3.out).mono ?_
  rintro e w4 ⟨rfl, rfl⟩
  rw [show (if (0 : Int) ≤ 2 ∧ (2 : Int) < (G0.b.toNat : Int) then X1.v.getD (2 : Int).toNat 0 else 0) = 1 by decide]
  go_wp2_with fail
  have i1 : Inv G0 X1 := by have := setR_inv (newP_inv G0 g0_ok) 3 (2, 0, 0); rw [show newP G0 = X0 from rfl, x1_is] at this; exact this
  have hs := set_any 3 (5, 1, 0) g0_ok i1 H3.out
  rw [x2_is] at hs
  refine hs.mono ?_
  rintro e w5 ⟨rfl, ho⟩
  have H4 := Aside0.mk ho
  clear ho H3 hs
  go_wp2_with fail
  refine (valid_own (n := G0.b.toNat) 2 rfl H4.out).mono ?_
  rintro e w6 ⟨rfl, rfl⟩
  rw [show (if (0 : Int) ≤ 2 ∧ (2 : Int) < (G0.b.toNat : Int) then X2.v.getD (2 : Int).toNat 0 else 0) = 0 by decide]
  go_wp2_with fail
  refine (valid_own (n := G0.b.toNat) 5 rfl H4.out).mono ?_
  rintro e w7 ⟨rfl, rfl⟩
  rw [show (if (0 : Int) ≤ 5 ∧ (5 : Int) < (G0.b.toNat : Int) then X2.v.getD (5 : Int).toNat 0 else 0) = 1 by decide]
  go_wp2_with fail
  refine (total_own H4.out).mono ?_
  rintro e w8 ⟨rfl, rfl⟩
  rw [show X2.l1.length = 1 from rfl]
  go_wp2_with fail
  go_ret
  exact ⟨rfl, H4.out.drop.drop.drop.drop⟩
end
end Go.Proofs.Ytiblpienmkjmgaa.Pmap

/- Package pmap, by hand: what was played. -/
set_option linter.unusedVariables false
namespace Go.Proofs.Ytiblpienmkjmgaa.Pmap
open Go.RowKit Go.Proofs.YtiblpienmkjmgaaW.PrintWords Go.Proofs.Ytiblpienmkjmgaa.Mem Go.Proofs.Ytiblpienmkjmgaa.Own Go.Proofs.Ytiblpienmkjmgaa.Maps Go.Proofs.Ytiblpienmkjmgaa.PM

structure S46 where
  f0 : Int
  f1 : Int
  f2 : S24
  f3 : S24
def z46 : S46 := ⟨0, 0, z24, z24⟩
def k46 : Kd S46 := Kd.iso (Kd.pair (Kd.int .i64) (Kd.pair (Kd.int .i64) (Kd.pair k24 k24))) (fun x : S46 => (x.f0, x.f1, x.f2, x.f3))
theorem k46_open {w : World} {x : S46} {cs : List Value} (h : k46.K w x cs) : cs = [.int .i64 x.f0, .int .i64 x.f1, .int .i64 x.f2.f0, .int .i64 x.f2.f1, .int .i64 x.f2.f2, .int .i64 x.f3.f0, .int .i64 x.f3.f1, .int .i64 x.f3.f2] := by
  obtain ⟨_, _, rfl, rfl, ⟨_, _, rfl, rfl, ⟨a, b, rfl, h1, h2⟩⟩⟩ := h
  obtain rfl := k24_open h1
  obtain rfl := k24_open h2
  exact rfl
def rd_T46 (xs : List S46) (i : Nat) : S46 := xs.getD i z46
theorem at_T46 {w : World} {A : Option Addr} {n : Nat} {xs : List S46} (h : Kd.C k46 w A n xs) (i : Nat) (h1 : i < n) : ∃ ad, A = some ad ∧ w.cell? (ad.add (i * 8)) = some (.int .i64 (rd_T46 xs i).f0) ∧ w.cell? ⟨(ad.add (i * 8)).block, (ad.add (i * 8)).off + 1, none⟩ = some (.int .i64 (rd_T46 xs i).f1) ∧
    (w.cell? ⟨(ad.add (i * 8)).block, (ad.add (i * 8)).off + 2, none⟩ = some (.int .i64 (rd_T46 xs i).f2.f0) ∧ w.cell? ⟨(ad.add (i * 8)).block, (ad.add (i * 8)).off + 3, none⟩ = some (.int .i64 (rd_T46 xs i).f2.f1) ∧ w.cell? ⟨(ad.add (i * 8)).block, (ad.add (i * 8)).off + 4, none⟩ = some (.int .i64 (rd_T46 xs i).f2.f2)) ∧
    (w.cell? ⟨(ad.add (i * 8)).block, (ad.add (i * 8)).off + 5, none⟩ = some (.int .i64 (rd_T46 xs i).f3.f0) ∧ w.cell? ⟨(ad.add (i * 8)).block, (ad.add (i * 8)).off + 6, none⟩ = some (.int .i64 (rd_T46 xs i).f3.f1) ∧ w.cell? ⟨(ad.add (i * 8)).block, (ad.add (i * 8)).off + 7, none⟩ = some (.int .i64 (rd_T46 xs i).f3.f2)) := by
  obtain ⟨ad, c, e, _, hK, hc0⟩ := Kd.C_get h z46 (i : Int) (by omega) (by omega)
  have hc : ∀ j u, c[j]? = some u → w.cell? (ad.add (i * 8 + j)) = some u := hc0
  obtain rfl := k46_open hK
  refine ⟨ad, e, hc 0 _ rfl, ?_, ⟨?_, ?_, ?_⟩, ?_, ?_, ?_⟩
  · rw [← add_field _ _ 1 (by omega)]; exact hc 1 _ rfl
  · rw [← add_field _ _ 2 (by omega)]; exact hc 2 _ rfl
  · rw [← add_field _ _ 3 (by omega)]; exact hc 3 _ rfl
  · rw [← add_field _ _ 4 (by omega)]; exact hc 4 _ rfl
  · rw [← add_field _ _ 5 (by omega)]; exact hc 5 _ rfl
  · rw [← add_field _ _ 6 (by omega)]; exact hc 6 _ rfl
  · rw [← add_field _ _ 7 (by omega)]; exact hc 7 _ rfl
abbrev tOf (a : S24) : Tri := (a.f0, a.f1, a.f2)
def stepP (G : G6) (S : PS) (x : S46) : PS × Int := if x.f0 = 0 then setR G S x.f1 (tOf x.f2) else if x.f0 = 1 then clearR G S x.f1 else moveR G S (tOf x.f2) (tOf x.f3)
theorem stepP_inv {G : G6} {S : PS} (hi : Inv G S) (x : S46) : Inv G (stepP G S x).1 := by
  unfold stepP
  split
  · exact setR_inv hi _ _
  · split
    · exact clearR_inv hi _
    · exact moveR_inv hi _ _
def playP (G : G6) (S : PS) : List S46 → PS
  | [] => S
  | x :: l => playP G (stepP G S x).1 l
theorem playP_snoc (G : G6) (x : S46) : ∀ (l : List S46) (S : PS), playP G S (l ++ [x]) = (stepP G (playP G S l) x).1
  | [], _ => rfl
  | y :: l, S => playP_snoc G x l _
theorem playP_inv {G : G6} : ∀ (l : List S46) {S : PS}, Inv G S → Inv G (playP G S l)
  | [], _, h => h
  | x :: l, _, h => playP_inv l (stepP_inv h x)
theorem playP_take (G : G6) (S : PS) (l : List S46) (i : Nat) (h : i < l.length) : playP G S (l.take (i + 1)) = (stepP G (playP G S (l.take i)) (rd_T46 l i)).1 := by
  rw [List.take_succ_eq_append_getElem h, playP_snoc]
  unfold rd_T46
  rw [List.getD_eq_getElem?_getD, List.getElem?_eq_getElem h]; rfl
section
variable {w0 w : World} {L : List Asn}
set_option maxHeartbeats 4000000 in
set_option maxRecDepth 100000 in
theorem played_own (A : Option Addr) (cc : Nat) (l : List S46) (HO : Own w0 w L) (hr : Kd.C k46 w0 A l.length l) (hcc : l.length ≤ cc) : Calls Try.prog 11 #[.slice A l.length cc] w fun e w' => ∃ g m1 m2 v c, e = .returned (.pointer (some ⟨g, 0, none⟩)) ∧ Own w0 w' (PMs G0 g m1 m2 v c G0.b.toNat (playP G0 X0 (l.take 60)) L) := by
  have HO := Aside0.mk HO
  have HR := Aside0.mk hr
  have hm := Kd.C_max hr
  clear hr
  go_enter Try.func11, Try.ntmps11
  go_wp2_with fail
  refine (decklelaw19_geo.calls 8 6 64 4 0 4 _ rfl).mono ?_
  rintro e w1 ⟨rfl, hb⟩
  have H1 := Aside0.mk (HO.out.move hb)
  clear hb HO
  go_wp2_with fail
  refine (new_g0 H1.out).mono ?_
  rintro e w2 ⟨g, m1, m2, v, c, rfl, ho⟩
  have H2 := Aside0.mk ho
  clear ho H1
  go_wp2_with fail
  go_loopw [5] (fun v5 wr => ∃ (i : Nat) (S : PS), i ≤ l.length ∧ i ≤ 60 ∧ v5 = .int .i64 i ∧ Aside0 (S = playP G0 X0 (l.take i) ∧ Inv G0 S) ∧ Aside0 (Own w0 wr (PMs G0 g m1 m2 v c G0.b.toNat S L))) (fun v5 _ => 60 - (intOf v5).toNat)
  case atStart => exact ⟨0, X0, Nat.zero_le _, by omega, rfl, ⟨rfl, newP_inv G0 g0_ok⟩, H2⟩
  case round =>
    clear H2
    obtain ⟨i, S, hi, hi2, rfl, HS, HO⟩ := hrel
    by_cases hlt : i < l.length
    · have dl : decide ((i : Int) < (l.length : Nat)) = true := decide_eq_true (by omega)
      by_cases h60 : i < 60
      · have d6 : decide ((i : Int) < 60) = true := decide_eq_true (by omega)
        obtain ⟨ad, rfl, q0, q1, ⟨q2, q3, q4⟩, q5, q6, q7⟩ := at_T46 (Kd.C_below HR.out HO.out.below) i hlt
        have hst : playP G0 X0 (l.take (i + 1)) = (stepP G0 S (rd_T46 l i)).1 := by rw [playP_take _ _ _ _ hlt, HS.out.1]
        obtain ⟨⟨k, lba, ⟨a0, a1, a2⟩, ⟨b0, b1, b2⟩⟩, hR⟩ : ∃ R, R = rd_T46 l i := ⟨_, rfl⟩
        rw [← hR] at q0 q1 q2 q3 q4 q5 q6 q7 hst
        dsimp only at q0 q1 q2 q3 q4 q5 q6 q7
        have HST := Lib.hid hst
        clear hR hst
        have HI := Aside0.mk (stepP_inv HS.out.2 ⟨k, lba, ⟨a0, a1, a2⟩, ⟨b0, b1, b2⟩⟩)
        by_cases hk0 : k = 0
        · subst hk0
          have hs := set_any lba (a0, a1, a2) g0_ok HS.out.2 HO.out.drew
          have es : stepP G0 S ⟨0, lba, ⟨a0, a1, a2⟩, ⟨b0, b1, b2⟩⟩ = setR G0 S lba (a0, a1, a2) := rfl
          rw [← es] at hs
          have HSC := Aside0.mk hs
          clear es hs
          go_wp2_with fail
          go_region_with (go_at_call 18; refine HSC.out.mono ?_; rintro e w3 ⟨rfl, ho⟩; have HN := Aside0.mk ho; clear ho)
          all_goals go_wp2_with fail
          all_goals go_roundw
          all_goals try (case rel => exact ⟨i + 1, _, by omega, by omega, by go_num, ⟨HST.out.symm, HI.out⟩, HN⟩)
          all_goals (case measure => simp [intOf]; omega)
        · have e0 : (k == 0) = false := by simpa using hk0
          by_cases hk1 : k = 1
          · subst hk1
            have hs := clear_any lba g0_ok HS.out.2 HO.out
            have es : stepP G0 S ⟨1, lba, ⟨a0, a1, a2⟩, ⟨b0, b1, b2⟩⟩ = clearR G0 S lba := rfl
            rw [← es] at hs
            have HSC := Aside0.mk hs
            clear es hs hk0
            go_wp2_with fail
            refine HSC.out.mono ?_
            rintro e w3 ⟨rfl, ho⟩
            have HN := Aside0.mk ho
            clear ho
            go_wp2_with fail
            go_roundw
            case rel => exact ⟨i + 1, _, by omega, by omega, by go_num, ⟨HST.out.symm, HI.out⟩, HN⟩
            case measure => simp [intOf]; omega
          · have e1 : (k == 1) = false := by simpa using hk1
            have hs := move_any (a0, a1, a2) (b0, b1, b2) g0_ok HS.out.2 HO.out.drew
            have es : stepP G0 S ⟨k, lba, ⟨a0, a1, a2⟩, ⟨b0, b1, b2⟩⟩ = moveR G0 S (a0, a1, a2) (b0, b1, b2) := by unfold stepP; rw [if_neg hk0, if_neg hk1]
            rw [← es] at hs
            have HSC := Aside0.mk hs
            clear es hs hk0 hk1
            go_wp2_with fail
            go_region_with (go_at_call 14; refine HSC.out.mono ?_; rintro e w3 ⟨rfl, ho⟩; have HN := Aside0.mk ho; clear ho)
            all_goals go_wp2_with fail
            all_goals go_roundw
            all_goals try (case rel => exact ⟨i + 1, _, by omega, by omega, by go_num, ⟨HST.out.symm, HI.out⟩, HN⟩)
            all_goals (case measure => simp [intOf]; omega)
      · obtain rfl : i = 60 := by omega
        go_wp2_with fail
        go_ret
        rw [HS.out.1] at HO
        exact ⟨_, _, _, _, _, rfl, HO.out⟩
    · obtain rfl : i = l.length := by omega
      have dl : decide ((l.length : Int) < (l.length : Nat)) = false := decide_eq_false (by omega)
      go_wp2_with fail
      go_ret
      have e : S = playP G0 X0 (l.take 60) := by rw [HS.out.1, List.take_of_length_le (Nat.le_refl _), List.take_of_length_le (by omega)]
      rw [e] at HO
      exact ⟨_, _, _, _, _, rfl, HO.out⟩
end
end Go.Proofs.Ytiblpienmkjmgaa.Pmap

/- Package pmap, by hand: a sector moved, and moved back; things owned, in another order. -/
set_option linter.unusedVariables false
namespace Go.Proofs.Ytiblpienmkjmgaa.Pmap
open Go.RowKit Go.Proofs.YtiblpienmkjmgaaW.PrintWords Go.Proofs.Ytiblpienmkjmgaa.Mem Go.Proofs.Ytiblpienmkjmgaa.Own Go.Proofs.Ytiblpienmkjmgaa.Maps Go.Proofs.Ytiblpienmkjmgaa.PM

theorem hold_perm {w : World} {b : Nat} {L R : List Asn} (hp : L.Perm R) : ∀ S, Hold w b L S → Hold w b R S := by
  induction hp with
  | nil => exact fun _ h => h
  | cons x _ ih => exact fun _ h => Hold.cons ih h
  | swap x y l => exact fun _ h => Hold.swap h
  | trans _ _ ih1 ih2 => exact fun S h => ih2 S (ih1 S h)
theorem own_perm {w0 w : World} {L R : List Asn} (h : Own w0 w L) (hp : L.Perm R) : Own w0 w R := h.map (hold_perm hp)
theorem own_swap {w0 w : World} (A B : List Asn) {L : List Asn} (h : Own w0 w (A ++ (B ++ L))) : Own w0 w (B ++ (A ++ L)) := by
  refine own_perm h ?_
  rw [← List.append_assoc, ← List.append_assoc]
  exact List.Perm.append_right L List.perm_append_comm
section
variable {w0 w : World} {L : List Asn} {G : G6} {g m1 m2 v c n g' m1' m2' v' c' n' : Nat} {S S' : PS}
theorem pms_swap (h : Own w0 w (PMs G g m1 m2 v c n S (PMs G g' m1' m2' v' c' n' S' L))) : Own w0 w (PMs G g' m1' m2' v' c' n' S' (PMs G g m1 m2 v c n S L)) :=
  own_swap [_, _, _, _] [_, _, _, _] h
theorem pms_under {A : Asn} (h : Own w0 w (A :: PMs G g m1 m2 v c n S L)) : Own w0 w (PMs G g m1 m2 v c n S (A :: L)) := own_swap [_] [_, _, _, _] h
theorem pms_over {A : Asn} (h : Own w0 w (PMs G g m1 m2 v c n S (A :: L))) : Own w0 w (A :: PMs G g m1 m2 v c n S L) := own_swap [_, _, _, _] [_] h
theorem atP (k : Int) (HO : Own w0 w (PMs G g m1 m2 v c n S L)) :
    Calls Try.prog 12 #[.pointer (some ⟨g, 0, none⟩), .int .i64 k] w fun e w' => e = .returned (.tuple #[tri ((mget k S.l1).getD (0, 0, 0)), .bool (mget k S.l1).isSome]) ∧ Own w0 w' (PMs G g m1 m2 v c n S L) := at_own k HO
theorem lbaP (a : Tri) (HO : Own w0 w (PMs G g m1 m2 v c n S L)) :
    Calls Try.prog 13 #[.pointer (some ⟨g, 0, none⟩), tri a] w fun e w' => e = .returned (.tuple #[.int .i64 ((mget a S.l2).getD 0), .bool (mget a S.l2).isSome]) ∧ Own w0 w' (PMs G g m1 m2 v c n S L) :=
  (lba_own a (own_swap [_] [_] HO.drop |> fun _ => (own_perm HO (List.Perm.cons _ (List.Perm.swap _ _ _))))).mono fun e w' ⟨he, ho⟩ => ⟨he, own_perm ho (List.Perm.cons _ (List.Perm.swap _ _ _))⟩
theorem totalP (HO : Own w0 w (PMs G g m1 m2 v c n S L)) : Calls Try.prog 15 #[.pointer (some ⟨g, 0, none⟩)] w fun e w' => e = .returned (.int .i64 S.l1.length) ∧ w' = w := total_own HO
end
theorem mget_pos {α β : Type} [DecidableEq α] {a : α} {x : β} : ∀ {l : List (α × β)}, mget a l = some x → 0 < l.length
  | [], h => by simp [mget] at h
  | _ :: _, _ => by simp
theorem setR_moves {G : G6} {S : PS} (hi : Inv G S) {k : Int} {a b : Tri} (hx : mget k S.l1 = some a) (hb : PageIn G b) (hf : mget b S.l2 = none ∨ mget b S.l2 = some k) :
    ∃ T, setR G S k b = (T, 0) ∧ Inv G T ∧ (∀ j, mget j T.l1 = if j = k then some b else mget j S.l1) ∧ T.l1.length = S.l1.length ∧ (mget a T.l2 = none ∨ mget a T.l2 = some k) := by
  have hd := hi.dom k a hx
  have he : setR G S k b = (putP (dropP S k) k b, 0) := by
    unfold setR
    rw [if_neg (by intro h; rcases h with h | h; exact h hd.1; exact h hb), if_pos hf]
  have hT : Inv G (putP (dropP S k) k b) := by have := setR_inv hi k b; rw [he] at this; exact this
  have hg : ∀ j, mget j (putP (dropP S k) k b).l1 = if j = k then some b else mget j S.l1 := by
    intro j
    show mget j (mset k b (dropP S k).l1) = _
    rw [mget_set]
    by_cases e : j = k
    · rw [if_pos e, if_pos e]
    · rw [if_neg e, if_neg e, (hi.drop k).2.2 j e]
  refine ⟨_, he, hT, hg, ?_, ?_⟩
  · show (mset k b (dropP S k).l1).length = _
    rw [mset_len, (hi.drop k).2.1]
    have e : (dropP S k).l1 = mdel k S.l1 := by unfold dropP; rw [hx]
    have := mget_pos hx
    rw [e, mdel_len, hx]
    simp; omega
  · cases h : mget a (putP (dropP S k) k b).l2 with
    | none => exact .inl rfl
    | some j =>
      refine .inr ?_
      have h1 := (hT.bij j a).2 h
      rw [hg j] at h1
      by_cases e : j = k
      · rw [e]
      · rw [if_neg e] at h1
        have h2 := (hi.bij j a).1 h1
        rw [(hi.bij k a).1 hx] at h2
        exact absurd (Option.some.inj h2).symm e
structure SameP (G : G6) (S' S : PS) : Prop where
  inv : Inv G S'
  get : ∀ k, mget k S'.l1 = mget k S.l1
  len : S'.l1.length = S.l1.length
theorem move_law {G : G6} {S : PS} (hi : Inv G S) {k : Int} {a : Tri} (hx : mget k S.l1 = some a) (b : Tri) :
    (moveR G S a b = (S, 1) ∧ mget b S.l2 = none) ∨
    (∃ T U, moveR G S a b = (T, 0) ∧ Inv G T ∧ moveR G T b a = (U, 0) ∧ SameP G U S ∧ (mget b S.l2 = none ∨ mget b S.l2 = some k ∧ b = a)) ∨
    (∃ o, moveR G S a b = (S, 5) ∧ mget b S.l2 = some o ∧ b ≠ a) := by
  have hd := hi.dom k a hx
  have hm : ∀ b, moveR G S a b = setR G S k b := by intro b; unfold moveR; rw [(hi.bij k a).1 hx]
  rw [hm b]
  by_cases hb : PageIn G b
  · by_cases hf : mget b S.l2 = none ∨ mget b S.l2 = some k
    · obtain ⟨T, e1, i1, g1, l1, f1⟩ := setR_moves hi hx hb hf
      have hT : mget k T.l1 = some b := by rw [g1 k, if_pos rfl]
      have hm2 : moveR G T b a = setR G T k a := by unfold moveR; rw [(i1.bij k b).1 hT]
      obtain ⟨U, e2, i2, g2, l2, _⟩ := setR_moves i1 hT hd.2 f1
      refine .inr (.inl ⟨T, U, e1, i1, by rw [hm2, e2], ⟨i2, fun j => ?_, l2.trans l1⟩, ?_⟩)
      · rw [g2 j]
        by_cases e : j = k
        · rw [if_pos e, e, hx]
        · rw [if_neg e, g1 j, if_neg e]
      · rcases hf with h | h
        · exact .inl h
        · have := (hi.bij k b).2 h
          rw [hx] at this
          exact .inr ⟨h, (Option.some.inj this).symm⟩
    · cases ho : mget b S.l2 with
      | none => exact absurd (.inl ho) hf
      | some o =>
        refine .inr (.inr ⟨o, ?_, rfl, fun e => ?_⟩)
        · unfold setR
          rw [if_neg (by intro h; rcases h with h | h; exact h hd.1; exact h hb), if_neg hf]
        · rw [e, (hi.bij k a).1 hx] at ho
          exact hf (.inr (by rw [e]; exact (hi.bij k a).1 hx))
  · refine .inl ⟨by unfold setR; rw [if_pos (.inr hb)], ?_⟩
    cases ho : mget b S.l2 with
    | none => rfl
    | some o => exact absurd (hi.dom o b ((hi.bij o b).2 ho)).2 hb
end Go.Proofs.Ytiblpienmkjmgaa.Pmap

/- Package pmap: THERE AND BACK, what is counted. -/
set_option linter.unusedVariables false
namespace Go.Proofs.Ytiblpienmkjmgaa.Pmap
open Go.RowKit Go.Proofs.YtiblpienmkjmgaaW.PrintWords Go.Proofs.Ytiblpienmkjmgaa.Mem Go.Proofs.Ytiblpienmkjmgaa.Own Go.Proofs.Ytiblpienmkjmgaa.Maps Go.Proofs.Ytiblpienmkjmgaa.PM

theorem count_split (f : Int × Tri → Int) (m : Int) (l : List (Int × Tri)) : l.countP (fun x => decide (f x < m + 1)) = l.countP (fun x => decide (f x < m)) + l.countP (fun x => decide (f x = m)) := by
  induction l with
  | nil => rfl
  | cons x l ih =>
    simp only [List.countP_cons, ih, decide_eq_true_eq]
    by_cases h1 : f x < m
    · rw [if_pos (by omega), if_pos h1, if_neg (by omega)]; omega
    · by_cases h2 : f x = m
      · rw [if_pos (by omega), if_neg h1, if_pos h2]; omega
      · rw [if_neg (by omega), if_neg h1, if_neg h2]; omega
theorem count_none (p : Int × Tri → Bool) (l : List (Int × Tri)) (h : ∀ x ∈ l, p x = false) : l.countP p = 0 := by
  rw [List.countP_eq_zero]
  intro x hx
  rw [h x hx]; simp
theorem count_key {G : G6} {S : PS} (hi : Inv G S) (k : Int) : S.l1.countP (fun x => decide (x.1 = k)) = if (mget k S.l1).isSome = true then 1 else 0 := by
  cases hx : mget k S.l1 with
  | none =>
    rw [if_neg (by simp)]
    refine count_none _ _ (fun x hm => decide_eq_false (fun e => ?_))
    have := mem_get S.l1 hi.o1 x hm
    rw [e, hx] at this
    cases this
  | some a =>
    rw [if_pos (by simp), count_del _ k a S.l1 hx, if_pos (by simp), count_none]
    intro x hm
    refine decide_eq_false (fun e => ?_)
    have := mem_get _ (once_del k S.l1 hi.o1).1 x hm
    rw [mget_del _ _ _ hi.o1, if_pos e] at this
    cases this
theorem count_val {G : G6} {S : PS} (hi : Inv G S) (a : Tri) : S.l1.countP (fun x => decide (x.2 = a)) = if (mget a S.l2).isSome = true then 1 else 0 := by
  cases hx : mget a S.l2 with
  | none =>
    rw [if_neg (by simp)]
    refine count_none _ _ (fun x hm => decide_eq_false (fun e => ?_))
    have := (hi.bij _ _).1 (mem_get S.l1 hi.o1 x hm)
    rw [e, hx] at this
    cases this
  | some k =>
    have hk := (hi.bij k a).2 hx
    rw [if_pos (by simp), count_del _ k a S.l1 hk, if_pos (by simp), count_none]
    intro x hm
    refine decide_eq_false (fun e => ?_)
    have := mem_get _ (once_del k S.l1 hi.o1).1 x hm
    rw [mget_del _ _ _ hi.o1] at this
    split at this
    · cases this
    · rename_i hne
      have h2 := (hi.bij _ _).1 this
      rw [e, hx] at h2
      exact hne (Option.some.inj h2).symm
/-- Of the first sectors how many have a page. -/
def cnt1 (S : PS) : Nat → Nat
  | 0 => 0
  | i + 1 => if (mget (i : Int) S.l1).isSome = true then cnt1 S i + 1 else cnt1 S i
theorem cnt1_is {G : G6} {S : PS} (hi : Inv G S) : ∀ i : Nat, cnt1 S i = S.l1.countP (fun x => decide (x.1 < (i : Int)))
  | 0 => by
    rw [count_none]; rfl
    intro x hm
    have := hi.keys x.1 (List.mem_map_of_mem hm)
    unfold SecIn at this
    exact decide_eq_false (by omega)
  | i + 1 => by
    have h1 := count_split (fun x => x.1) (i : Int) S.l1
    have h2 := count_key hi (i : Int)
    have h3 := cnt1_is hi i
    have e : ((i + 1 : Nat) : Int) = (i : Int) + 1 := by omega
    rw [e, h1, h2, ← h3]
    show (if (mget (i : Int) S.l1).isSome = true then cnt1 S i + 1 else cnt1 S i) = _
    split <;> rfl
theorem cnt1_all {S : PS} (hi : Inv G0 S) : cnt1 S 4 = S.l1.length := by
  rw [cnt1_is hi, List.countP_eq_length]
  intro x hm
  have := hi.keys x.1 (List.mem_map_of_mem hm)
  unfold SecIn at this
  exact decide_eq_true this.2
theorem cnt1_le (S : PS) : ∀ i, cnt1 S i ≤ i
  | 0 => Nat.le_refl _
  | i + 1 => by have := cnt1_le S i; show (if (mget (i : Int) S.l1).isSome = true then cnt1 S i + 1 else cnt1 S i) ≤ _; split <;> omega
/-- Of the first blocks how many pages have a sector. -/
def sumB (S : PS) : Nat → Nat
  | 0 => 0
  | b + 1 => sumB S b + S.l1.countP (inB b)
theorem sumB_is {G : G6} {S : PS} (hi : Inv G S) : ∀ b : Nat, sumB S b = S.l1.countP (fun x => decide (x.2.1 < (b : Int)))
  | 0 => by
    rw [count_none]; rfl
    intro x hm
    have := (hi.dom _ _ (mem_get S.l1 hi.o1 x hm)).2
    unfold PageIn at this
    exact decide_eq_false (by omega)
  | b + 1 => by
    have h1 := count_split (fun x => x.2.1) (b : Int) S.l1
    have h3 := sumB_is hi b
    have e : ((b + 1 : Nat) : Int) = (b : Int) + 1 := by omega
    rw [e, h1, ← h3]; rfl
theorem sumB_all {G : G6} {S : PS} (hi : Inv G S) : sumB S G.b.toNat = S.l1.length := by
  rw [sumB_is hi, List.countP_eq_length]
  intro x hm
  have := (hi.dom _ _ (mem_get S.l1 hi.o1 x hm)).2
  unfold PageIn at this
  exact decide_eq_true (by omega)
/-- A page's place in its block. -/
abbrev plcOf (a : Tri) : Int := 3 * a.2.1 + a.2.2
theorem pg_count {G : G6} {S : PS} (hi : Inv G S) (b : Nat) : ∀ m : Nat, (pg S.l2 b m).length = S.l1.countP (fun x => decide (x.2.1 = (b : Int) ∧ plcOf x.2 < (m : Int)))
  | 0 => by
    rw [count_none]; rfl
    intro x hm
    have := (hi.dom _ _ (mem_get S.l1 hi.o1 x hm)).2
    unfold PageIn at this
    exact decide_eq_false (by unfold plcOf; omega)
  | m + 1 => by
    have h3 := pg_count hi b m
    have h2 := count_val hi (plc b m)
    have h4 : S.l1.countP (fun x => decide (x.2.1 = (b : Int) ∧ plcOf x.2 < ((m + 1 : Nat) : Int))) = S.l1.countP (fun x => decide (x.2.1 = (b : Int) ∧ plcOf x.2 < (m : Int))) + S.l1.countP (fun x => decide (x.2 = plc b m)) := by
      have hd : ∀ x ∈ S.l1, PageIn G x.2 := fun x hm => (hi.dom _ _ (mem_get S.l1 hi.o1 x hm)).2
      clear h2 h3
      generalize S.l1 = l at hd
      induction l with
      | nil => rfl
      | cons x l ih =>
        simp only [List.countP_cons, ih (fun y hy => hd y (List.mem_cons_of_mem _ hy)), decide_eq_true_eq]
        have hx := hd x List.mem_cons_self
        unfold PageIn at hx
        have hp : x.2 = plc b m ↔ x.2.1 = (b : Int) ∧ plcOf x.2 = (m : Int) := by
          obtain ⟨k, p, q, r⟩ := x
          simp only [plc, plcOf, Prod.mk.injEq] at hx ⊢
          omega
        by_cases e1 : x.2.1 = (b : Int) ∧ plcOf x.2 < (m : Int)
        · rw [if_pos ⟨e1.1, by omega⟩, if_pos e1, if_neg (fun h => by have := (hp.1 h).2; omega)]; omega
        · by_cases e2 : x.2 = plc b m
          · have := hp.1 e2
            rw [if_pos ⟨this.1, by omega⟩, if_neg e1, if_pos e2]; omega
          · rw [if_neg (fun h => e2 (hp.2 ⟨h.1, by omega⟩)), if_neg e1, if_neg e2]; omega
    rw [h4, ← h3, h2]
    show (if (mget (plc b m) S.l2).isSome = true then pg S.l2 b m ++ [ofTri (plc b m)] else pg S.l2 b m).length = _
    split
    · rw [List.length_append]; rfl
    · rfl
theorem pg_all {G : G6} {S : PS} (hi : Inv G S) (hok : G.Ok) (b : Nat) : (pg S.l2 b (3 * G.l.toNat)).length = S.l1.countP (inB b) := by
  have hs := hok.1
  unfold SizesOk at hs
  rw [pg_count hi]
  apply List.countP_congr
  intro x hm
  have := (hi.dom _ _ (mem_get S.l1 hi.o1 x hm)).2
  unfold PageIn at this
  simp only [inB, decide_eq_true_eq]
  constructor
  · exact fun h => h.1
  · exact fun h => ⟨h, by unfold plcOf; omega⟩
theorem pages_len {G : G6} {S : PS} (hi : Inv G S) (hok : G.Ok) (b : Nat) (hb : (b : Int) < G.b) : ((pagesP G S b).length : Int) = validP S G.b.toNat b ∧ (pagesP G S b).length = S.l1.countP (inB b) := by
  have hv : validP S G.b.toNat b = (S.l1.countP (inB b) : Nat) := by
    unfold validP
    rw [if_pos (by omega), Int.toNat_natCast]
    exact hi.cnt b (by have := hi.len; omega)
  have h2 := pg_all hi hok b
  unfold pagesP
  rw [hv]
  split
  · rename_i h; simp; omega
  · exact ⟨by rw [h2], h2⟩
theorem pg_mem (l2 : List (Tri × Int)) (b : Int) (x : S24) : ∀ m : Nat, x ∈ pg l2 b m → ∃ y z k : Int, x = ⟨b, y, z⟩ ∧ mget (b, y, z) l2 = some k
  | 0, h => by simp [pg] at h
  | m + 1, h => by
    unfold pg at h
    split at h
    · rename_i hs
      rcases List.mem_append.1 h with h | h
      · exact pg_mem l2 b x m h
      · obtain ⟨k, hk⟩ := Option.isSome_iff_exists.1 hs
        exact ⟨_, _, k, List.mem_singleton.1 h, hk⟩
    · exact pg_mem l2 b x m h
theorem pagesP_at {G : G6} {S : PS} (b : Int) (i : Nat) (h : i < (pagesP G S b).length) : ∃ y z k : Int, (pagesP G S b).getD i z24 = ⟨b, y, z⟩ ∧ mget (b, y, z) S.l2 = some k := by
  have hm : (pagesP G S b).getD i z24 ∈ pagesP G S b := by
    rw [List.getD_eq_getElem?_getD, List.getElem?_eq_getElem h]; exact List.getElem_mem h
  have h2 : ∀ x ∈ pagesP G S b, ∃ y z k : Int, x = ⟨b, y, z⟩ ∧ mget (b, y, z) S.l2 = some k := by
    unfold pagesP
    split
    · intro x hx; simp at hx
    · exact fun x hx => pg_mem S.l2 b x _ hx
  exact h2 _ hm
end Go.Proofs.Ytiblpienmkjmgaa.Pmap
