/- Package plan, by hand: Step. -/
import Derived.Test.YtcfonmbojkolfaaProg
import Derived.Below
import Derived.Carry
import Derived.Deep.Draws
import Derived.Deep.AppendLies
import Derived.Maps.AppendAt
import Derived.OwnWalk
import Derived.Laws.BytesArg
import Derived.Laws.MakeOwn
import Derived.Laws.OwnMore
import Derived.Deep.OwnRows
import Derived.Tactics
import Derived.Lib.ConvBytes
import Derived.Laws.Slices
import Derived.WalkKit
import Derived.KernelRfl
import Derived.RowKit3
import Derived.Deep.LoopGhost
import Derived.Deep.QuietTactic
import Derived.BigQuiet
import Derived.WideLaws
import Derived.Deep.DeepCutAuto
import Derived.Deep.CutBlock
import Derived.Deep.RegionHeld3
import Derived.Deep.RegionWith
import Derived.Laws.Rows
import Derived.Lib.AppendStr
import Derived.ArgAppend
import Derived.Laws.IdiomCopy
import Derived.OrdersHeld
import Derived.Laws.BitsLemmas
import Derived.Outline
import Derived.RegionTactic
import Derived.Lib.Hide
import Derived.StillTailTactics
import Derived.Deep.RegionWith
import Derived.OpenShut
import Derived.Test.YtcfonmbojkolfaaWWords
import Derived.Test.YtcfonmbojkolfaaPlanD
import Derived.Test.YtcfonmbojkolfaaPNx5
import Derived.Lib.BufferMore
import Derived.Lib.LazyBuf
set_option linter.unusedVariables false
set_option linter.unusedSimpArgs false
namespace Go.Proofs.Ytcfonmbojkolfaa.Plan
open Go.RowKit Go.Proofs.YtcfonmbojkolfaaW.PrintWords Go.Proofs.Ytcfonmbojkolfaa.Mem Go.Proofs.Ytcfonmbojkolfaa.Own Go.Proofs.Ytcfonmbojkolfaa.Maps Go.Proofs.Ytcfonmbojkolfaa.PN

/-- Source number i, or none. -/
def srcAt (l : List S27) (i : Int) : Tri := if i < l.length then tOf (rd_T27 l i) else (-1, 0, 0)
abbrev pg9 (a b c : Tri) : Obj := .cells #[.int .i64 a.1, .int .i64 a.2.1, .int .i64 a.2.2, .int .i64 b.1, .int .i64 b.2.1, .int .i64 b.2.2, .int .i64 c.1, .int .i64 c.2.1, .int .i64 c.2.2] 46
abbrev pgV (a b c : Tri) : Value := .agg #[.int .i64 a.1, .int .i64 a.2.1, .int .i64 a.2.2, .int .i64 b.1, .int .i64 b.2.1, .int .i64 b.2.2, .int .i64 c.1, .int .i64 c.2.1, .int .i64 c.2.2]
abbrev z3 : Tri := (0, 0, 0)
theorem cells9 {w : World} {g : Nat} {a b c : Tri} (h : w.heap[g]? = some (pg9 a b c)) :
    w.cell? ⟨g, 0, none⟩ = some (.int .i64 a.1) ∧ w.cell? ⟨g, 1, none⟩ = some (.int .i64 a.2.1) ∧ w.cell? ⟨g, 2, none⟩ = some (.int .i64 a.2.2) ∧ w.cell? ⟨g, 3, none⟩ = some (.int .i64 b.1) ∧ w.cell? ⟨g, 4, none⟩ = some (.int .i64 b.2.1) ∧ w.cell? ⟨g, 5, none⟩ = some (.int .i64 b.2.2) ∧ w.cell? ⟨g, 6, none⟩ = some (.int .i64 c.1) ∧ w.cell? ⟨g, 7, none⟩ = some (.int .i64 c.2.1) ∧ w.cell? ⟨g, 8, none⟩ = some (.int .i64 c.2.2) :=
  ⟨blk_cell h 0, blk_cell h 1, blk_cell h 2, blk_cell h 3, blk_cell h 4, blk_cell h 5, blk_cell h 6, blk_cell h 7, blk_cell h 8⟩
section
variable {w0 w : World} {L : List Asn} {g c r : Nat} {A : Option Addr} {S : PlS}
theorem own_part0 {B : Nat} {a b d : Tri} (h : Own w0 w (Pt B (pg9 a b d) :: L)) (x : Tri) : Own w0 (((w.setCell ⟨B, 0, none⟩ (.int .i64 x.1)).setCell ⟨B, 1, none⟩ (.int .i64 x.2.1)).setCell ⟨B, 2, none⟩ (.int .i64 x.2.2)) (Pt B (pg9 x b d) :: L) := ((h.set _).set _).set _
theorem own_part1 {B : Nat} {a b d : Tri} (h : Own w0 w (Pt B (pg9 a b d) :: L)) (x : Tri) : Own w0 (((w.setCell ⟨B, 3, none⟩ (.int .i64 x.1)).setCell ⟨B, 4, none⟩ (.int .i64 x.2.1)).setCell ⟨B, 5, none⟩ (.int .i64 x.2.2)) (Pt B (pg9 a x d) :: L) := ((h.set _).set _).set _
theorem own_part2 {B : Nat} {a b d : Tri} (h : Own w0 w (Pt B (pg9 a b d) :: L)) (x : Tri) : Own w0 (((w.setCell ⟨B, 6, none⟩ (.int .i64 x.1)).setCell ⟨B, 7, none⟩ (.int .i64 x.2.1)).setCell ⟨B, 8, none⟩ (.int .i64 x.2.2)) (Pt B (pg9 a b x) :: L) := ((h.set _).set _).set _
def pgj (j : Nat) (a b d : Tri) : Obj := pg9 (if 0 < j then a else z3) (if 1 < j then b else z3) (if 2 < j then d else z3)
theorem own_ne2 {g1 g2 : Nat} {o1 o2 : Obj} (h : Own w0 w (Pt g1 o1 :: Pt g2 o2 :: L)) : g1 ≠ g2 := by
  obtain ⟨b, S, ⟨S1, S2, h1, ⟨S3, S4, h3, _, _, i3, _⟩, d, _, _⟩, _⟩ := h
  exact fun e => d g1 h1.2 (i3 g1 (e ▸ h3.2))
set_option maxHeartbeats 8000000 in
set_option maxRecDepth 100000 in
theorem step_own (k r1 r3 : Int) (r2 : Bool) (h : order_At.f 8 S.ln k = some (r1, r2, r3)) (hb : r3 = 0 → 0 ≤ r1 ∧ r1 ≤ 1000) (HO : Own w0 w (PlO g A c r S L)) :
    Calls Try.prog 16 #[.pointer (some ⟨g, 0, none⟩), .int .i64 k] w fun e w' => (r3 ≠ 0 ∧ e = .returned (.tuple #[.agg #[.int .i64 0, .bool false], pgV z3 z3 z3, .int .i64 r3]) ∨ r3 = 0 ∧ e = .returned (.tuple #[.agg #[.int .i64 r1, .bool r2], pgV (srcAt S.src (3 * r1)) (srcAt S.src (3 * r1 + 1)) (srcAt S.src (3 * r1 + 2)), .int .i64 0])) ∧ Own w0 w' (PlO g A c r S L) := by
  have H := Lib.hid h
  obtain ⟨x0, _, _, _, _, _, _, _⟩ := cells4 HO.pt
  have hlt := blk_lt HO.pt
  have a1 : g < w.heap.size + 1 := by omega
  have a2 : g < w.heap.size + 1 + 1 := by omega
  have ha := ((HO.alloc (.cells #[.int .i64 0, .bool false] 45)).alloc (pg9 z3 z3 z3)).alloc (pg9 z3 z3 z3)
  simp only [World.size_alloc] at ha
  have HA := Aside0.mk ha
  obtain ⟨B4, hB4⟩ : ∃ B4, B4 = w.heap.size := ⟨_, rfl⟩
  have HB4 := Lib.hid hB4
  clear ha h HO hB4
  go_enter Try.func16, Try.ntmps16
  go_wp2_with fail
  refine (order_At.calls 8 S.ln k r1 r2 r3 _ H.out).mono ?_
  rintro e w1 ⟨rfl, hb1⟩
  have HB := Aside0.mk (HA.out.move hb1)
  clear hb1 HA H
  clear x0 hlt a1 a2
  by_cases h3 : r3 = 0
  · obtain ⟨b0, b1⟩ := hb h3
    subst h3
    clear hb
    have HC0 := HB.out.alloc (.cells #[.int .i64 r1, .bool r2] 45)
    obtain ⟨B8, hB8⟩ : ∃ B8, B8 = w1.heap.size := ⟨_, rfl⟩
    obtain ⟨B5, hB5⟩ : ∃ B5, B5 = w.heap.size + 1 := ⟨_, rfl⟩
    obtain ⟨B7, hB7⟩ : ∃ B7, B7 = w.heap.size + 1 + 1 := ⟨_, rfl⟩
    rw [← hB8, ← hB7, ← hB5, ← HB4.out] at HC0
    have HB8 := Lib.hid hB8
    have HB7 := Lib.hid hB7
    have HB5 := Lib.hid hB5
    have HC := Aside0.mk HC0.pull2
    obtain ⟨p0, hp0⟩ : ∃ p, p = srcAt S.src (3 * r1) := ⟨_, rfl⟩
    obtain ⟨p1, hp1⟩ : ∃ p, p = srcAt S.src (3 * r1 + 1) := ⟨_, rfl⟩
    obtain ⟨p2, hp2⟩ : ∃ p, p = srcAt S.src (3 * r1 + 2) := ⟨_, rfl⟩
    have HP0 := Lib.hid hp0
    have HP1 := Lib.hid hp1
    have HP2 := Lib.hid hp2
    clear HC0 HB hB8 hB5 hB7 hp0 hp1 hp2
    go_wp2_with fail
    rw [← HB8.out, ← HB7.out, ← HB5.out, ← HB4.out]
    go_loopw [26] (fun v26 wr => ∃ j : Nat, j ≤ 3 ∧ v26 = .int .i64 j ∧ Aside0 (Own w0 wr (Pt B7 (pgj j p0 p1 p2) :: Pt B8 (.cells #[.int .i64 r1, .bool r2] 45) :: Pt B5 (pg9 z3 z3 z3) :: Pt B4 (.cells #[.int .i64 0, .bool false] 45) :: PlO g A c r S L))) (fun v26 _ => 3 - (intOf v26).toNat)
    case atStart => exact ⟨0, by omega, rfl, HC⟩
    case round =>
      clear HC
      obtain ⟨j, hj, rfl, HC⟩ := hrel
      rcases (by omega : j = 0 ∨ j = 1 ∨ j = 2 ∨ j = 3) with rfl | rfl | rfl | rfl
      · have HCj := HC.out
        unfold pgj at HCj
        simp only [Nat.lt_irrefl, Nat.zero_lt_one, Nat.zero_lt_two, Nat.one_lt_two, Nat.not_lt_zero, if_true, if_false, reduceIte] at HCj
        have HD := Aside0.mk HCj
        clear HC HCj
        go_wp2_with fail
        refine (plan_none.calls (-1) 0 0 _ rfl).mono ?_
        rintro e w2 ⟨rfl, hb2⟩
        have HE := Aside0.mk (HD.out.move hb2)
        clear hb2 HD
        obtain ⟨c0, c1, c2, c3, c4, c5, c6, c7, c8⟩ := cells9 HE.out.pt
        have f0 := blk_frozen HE.out.pt 0
        have f1 := blk_frozen HE.out.pt 1
        have f2 := blk_frozen HE.out.pt 2
        go_upto_region 9 with (fail)
        have ho := own_part0 HE.out ((-1, 0, 0) : Tri)
        clear f0 f1 f2 c0 c1 c2 c3 c4 c5 c6 c7 c8 HE
        dsimp only at ho
        generalize hW : World.setCell (World.setCell (World.setCell w2 _ _) _ _) _ _ = w3 at ho ⊢
        clear hW
        have HF := Aside0.mk ho
        clear ho
        obtain ⟨c0, c1, c2, c3, c4, c5, c6, c7, c8⟩ := cells9 HF.out.pt
        have f0 := blk_frozen HF.out.pt 0
        have f1 := blk_frozen HF.out.pt 1
        have f2 := blk_frozen HF.out.pt 2
        have y0 := blk_cell HF.out.drop.pt 0
        obtain ⟨_, _, x2, _, _, _, _, _⟩ := cells4 HF.out.drop.drop.drop.drop.pt
        obtain ⟨A', c', e1, _, hC⟩ := HF.out.drop.drop.drop.drop.drop.drop.reads
        injection e1 with e1 e2 e3
        subst e1
        by_cases hin : 3 * r1 < S.src.length
        · have d4 : decide (3 * r1 < (S.src.length : Int)) = true := decide_eq_true hin
          have d5 : decide (3 * r1 + 0 < (S.src.length : Int)) = true := by simpa using d4
          have hsa : p0 = tOf (rd_T27 S.src (3 * r1)) := by rw [HP0.out, srcAt, if_pos hin]
          obtain ⟨ad, rfl, q0, q1, q2⟩ := at_T27 hC (3 * r1) (by omega) (by omega)
          have HSA := Lib.hid hsa
          clear hC hsa
          go_wp2_with fail
          refine ⟨⟨1, by omega, rfl, ⟨?_⟩⟩, by simp [intOf]⟩
          rw [show pgj 1 p0 p1 p2 = pg9 p0 z3 z3 from rfl, HSA.out]
          exact own_part0 HF.out (tOf _)
        · have d4 : decide (3 * r1 < (S.src.length : Int)) = false := decide_eq_false hin
          have d5 : decide (3 * r1 + 0 < (S.src.length : Int)) = false := by simpa using d4
          have hsa : p0 = (-1, 0, 0) := by rw [HP0.out, srcAt, if_neg hin]
          have HSA := Lib.hid hsa
          clear hC hsa
          go_wp2_with fail
          refine ⟨⟨1, by omega, rfl, ⟨?_⟩⟩, by simp [intOf]⟩
          rw [show pgj 1 p0 p1 p2 = pg9 p0 z3 z3 from rfl, HSA.out]
          exact HF.out
      · have HCj := HC.out
        unfold pgj at HCj
        simp only [Nat.lt_irrefl, Nat.zero_lt_one, Nat.zero_lt_two, Nat.one_lt_two, Nat.not_lt_zero, if_true, if_false, reduceIte] at HCj
        have HD := Aside0.mk HCj
        clear HC HCj
        go_wp2_with fail
        refine (plan_none.calls (-1) 0 0 _ rfl).mono ?_
        rintro e w2 ⟨rfl, hb2⟩
        have HE := Aside0.mk (HD.out.move hb2)
        clear hb2 HD
        obtain ⟨c0, c1, c2, c3, c4, c5, c6, c7, c8⟩ := cells9 HE.out.pt
        have f0 := blk_frozen HE.out.pt 3
        have f1 := blk_frozen HE.out.pt 4
        have f2 := blk_frozen HE.out.pt 5
        go_upto_region 9 with (fail)
        have ho := own_part1 HE.out ((-1, 0, 0) : Tri)
        clear f0 f1 f2 c0 c1 c2 c3 c4 c5 c6 c7 c8 HE
        dsimp only at ho
        generalize hW : World.setCell (World.setCell (World.setCell w2 _ _) _ _) _ _ = w3 at ho ⊢
        clear hW
        have HF := Aside0.mk ho
        clear ho
        obtain ⟨c0, c1, c2, c3, c4, c5, c6, c7, c8⟩ := cells9 HF.out.pt
        have f0 := blk_frozen HF.out.pt 3
        have f1 := blk_frozen HF.out.pt 4
        have f2 := blk_frozen HF.out.pt 5
        have y0 := blk_cell HF.out.drop.pt 0
        obtain ⟨_, _, x2, _, _, _, _, _⟩ := cells4 HF.out.drop.drop.drop.drop.pt
        obtain ⟨A', c', e1, _, hC⟩ := HF.out.drop.drop.drop.drop.drop.drop.reads
        injection e1 with e1 e2 e3
        subst e1
        by_cases hin : 3 * r1 + 1 < S.src.length
        · have d4 : decide (3 * r1 + 1 < (S.src.length : Int)) = true := decide_eq_true hin
          have hsa : p1 = tOf (rd_T27 S.src (3 * r1 + 1)) := by rw [HP1.out, srcAt, if_pos hin]
          obtain ⟨ad, rfl, q0, q1, q2⟩ := at_T27 hC (3 * r1 + 1) (by omega) (by omega)
          have HSA := Lib.hid hsa
          clear hC hsa
          go_wp2_with fail
          refine ⟨⟨2, by omega, rfl, ⟨?_⟩⟩, by simp [intOf]⟩
          rw [show pgj 2 p0 p1 p2 = pg9 p0 p1 z3 from rfl, HSA.out]
          exact own_part1 HF.out (tOf _)
        · have d4 : decide (3 * r1 + 1 < (S.src.length : Int)) = false := decide_eq_false hin
          have hsa : p1 = (-1, 0, 0) := by rw [HP1.out, srcAt, if_neg hin]
          have HSA := Lib.hid hsa
          clear hC hsa
          go_wp2_with fail
          refine ⟨⟨2, by omega, rfl, ⟨?_⟩⟩, by simp [intOf]⟩
          rw [show pgj 2 p0 p1 p2 = pg9 p0 p1 z3 from rfl, HSA.out]
          exact HF.out
      · have HCj := HC.out
        unfold pgj at HCj
        simp only [Nat.lt_irrefl, Nat.zero_lt_one, Nat.zero_lt_two, Nat.one_lt_two, Nat.not_lt_zero, if_true, if_false, reduceIte] at HCj
        have HD := Aside0.mk HCj
        clear HC HCj
        go_wp2_with fail
        refine (plan_none.calls (-1) 0 0 _ rfl).mono ?_
        rintro e w2 ⟨rfl, hb2⟩
        have HE := Aside0.mk (HD.out.move hb2)
        clear hb2 HD
        obtain ⟨c0, c1, c2, c3, c4, c5, c6, c7, c8⟩ := cells9 HE.out.pt
        have f0 := blk_frozen HE.out.pt 6
        have f1 := blk_frozen HE.out.pt 7
        have f2 := blk_frozen HE.out.pt 8
        go_upto_region 9 with (fail)
        have ho := own_part2 HE.out ((-1, 0, 0) : Tri)
        clear f0 f1 f2 c0 c1 c2 c3 c4 c5 c6 c7 c8 HE
        dsimp only at ho
        generalize hW : World.setCell (World.setCell (World.setCell w2 _ _) _ _) _ _ = w3 at ho ⊢
        clear hW
        have HF := Aside0.mk ho
        clear ho
        obtain ⟨c0, c1, c2, c3, c4, c5, c6, c7, c8⟩ := cells9 HF.out.pt
        have f0 := blk_frozen HF.out.pt 6
        have f1 := blk_frozen HF.out.pt 7
        have f2 := blk_frozen HF.out.pt 8
        have y0 := blk_cell HF.out.drop.pt 0
        obtain ⟨_, _, x2, _, _, _, _, _⟩ := cells4 HF.out.drop.drop.drop.drop.pt
        obtain ⟨A', c', e1, _, hC⟩ := HF.out.drop.drop.drop.drop.drop.drop.reads
        injection e1 with e1 e2 e3
        subst e1
        by_cases hin : 3 * r1 + 2 < S.src.length
        · have d4 : decide (3 * r1 + 2 < (S.src.length : Int)) = true := decide_eq_true hin
          have hsa : p2 = tOf (rd_T27 S.src (3 * r1 + 2)) := by rw [HP2.out, srcAt, if_pos hin]
          obtain ⟨ad, rfl, q0, q1, q2⟩ := at_T27 hC (3 * r1 + 2) (by omega) (by omega)
          have HSA := Lib.hid hsa
          clear hC hsa
          go_wp2_with fail
          refine ⟨⟨3, by omega, rfl, ⟨?_⟩⟩, by simp [intOf]⟩
          rw [show pgj 3 p0 p1 p2 = pg9 p0 p1 p2 from rfl, HSA.out]
          exact own_part2 HF.out (tOf _)
        · have d4 : decide (3 * r1 + 2 < (S.src.length : Int)) = false := decide_eq_false hin
          have hsa : p2 = (-1, 0, 0) := by rw [HP2.out, srcAt, if_neg hin]
          have HSA := Lib.hid hsa
          clear hC hsa
          go_wp2_with fail
          refine ⟨⟨3, by omega, rfl, ⟨?_⟩⟩, by simp [intOf]⟩
          rw [show pgj 3 p0 p1 p2 = pg9 p0 p1 p2 from rfl, HSA.out]
          exact HF.out
      · have HCj : Aside0 (Own w0 wr (Pt B7 (pg9 p0 p1 p2) :: Pt B8 (.cells #[.int .i64 r1, .bool r2] 45) :: Pt B5 (pg9 z3 z3 z3) :: Pt B4 (.cells #[.int .i64 0, .bool false] 45) :: PlO g A c r S L)) := ⟨HC.out⟩
        clear HC
        have hc7 := cells9 HCj.out.pt
        have hc5 := cells9 HCj.out.drop.drop.pt
        have f5 := blk_frozen HCj.out.drop.drop.pt
        have hp4 := HCj.out.drop.drop.drop.pt
        have y0 := blk_cell hp4 0
        have y1 := blk_cell hp4 1
        have z0 := blk_cell HCj.out.drop.pt 0
        have z1 := blk_cell HCj.out.drop.pt 1
        have g0 := blk_frozen hp4 0
        have g1 := blk_frozen hp4 1
        have f50 := f5 0
        have f51 := f5 1
        have f52 := f5 2
        have f53 := f5 3
        have f54 := f5 4
        have f55 := f5 5
        have f56 := f5 6
        have f57 := f5 7
        have f58 := f5 8
        obtain ⟨c0, c1, c2, c3, c4, c5, c6, c7, c8⟩ := hc7
        obtain ⟨e0, e1, e2, e3, e4, e5, e6, e7, e8⟩ := hc5
        have hne := own_ne2 HCj.out.drop.drop
        have hne2 := hne.symm
        have n1 := own_ne2 HCj.out.pull4
        have n2 := n1.symm
        have n3 := own_ne2 HCj.out.drop.pull3
        have n4 := n3.symm
        have n5 := own_ne2 HCj.out.pull3
        have n6 := n5.symm
        have n7 := own_ne2 HCj.out.drop.pull2
        have n8 := n7.symm
        clear f5 hp4
        go_wp2_with fail
        go_region
        all_goals clear c0 c1 c2 c3 c4 c5 c6 c7 c8 e0 e1 e2 e3 e4 e5 e6 e7 e8 f50 f51 f52 f53 f54 f55 f56 f57 f58 y0 y1 g0 g1 z0 z1
        all_goals go_wp2_with fail
        have HP := Aside0.mk (own_part2 (own_part1 (own_part0 (Own.pull4 (((HCj.out.pull4).set (i := 0) (.int .i64 r1)).set (i := 1) (.bool r2))) p0) p1) p2).drew
        clear HCj
        generalize hW : World.drew _ = W at HP ⊢
        obtain ⟨u0, u1, u2, u3, u4, u5, u6, u7, u8⟩ := cells9 HP.out.pt
        have v0 := blk_cell HP.out.drop.pt 0
        have v1 := blk_cell HP.out.drop.pt 1
        clear hW
        rw [← HP0.out, ← HP1.out, ← HP2.out]
        exact bodyPost_ret (v := .tuple #[.agg #[.int .i64 r1, .bool r2], pgV p0 p1 p2, .int .i64 0]) (by simp [results, Try.results16, go_sem, u0, u1, u2, u3, u4, u5, u6, u7, u8, v0, v1]) rfl ⟨rfl, HP.out.drop.drop.drop.drop⟩
  · have d3 : (r3 == 0) = false := by simpa using h3
    have HN3 := Aside0.mk h3
    have HBa := Aside0.mk (HB.out.alloc' (.cells #[.int .i64 r1, .bool r2] 45))
    clear HB
    have hc7 := cells9 HBa.out.pt
    have hc5 := cells9 HBa.out.drop.pt
    have f5 := blk_frozen HBa.out.drop.pt
    have hp4 := HBa.out.drop.drop.pt
    have y0 := blk_cell hp4 0
    have y1 := blk_cell hp4 1
    have g0 := blk_frozen hp4 0
    have g1 := blk_frozen hp4 1
    have f50 := f5 0
    have f51 := f5 1
    have f52 := f5 2
    have f53 := f5 3
    have f54 := f5 4
    have f55 := f5 5
    have f56 := f5 6
    have f57 := f5 7
    have f58 := f5 8
    obtain ⟨c0, c1, c2, c3, c4, c5, c6, c7, c8⟩ := hc7
    obtain ⟨e0, e1, e2, e3, e4, e5, e6, e7, e8⟩ := hc5
    clear h3 hb f5 hp4
    go_wp2_with fail
    go_region
    all_goals clear c0 c1 c2 c3 c4 c5 c6 c7 c8 e0 e1 e2 e3 e4 e5 e6 e7 e8 f50 f51 f52 f53 f54 f55 f56 f57 f58 y0 y1 g0 g1
    all_goals go_wp2_with fail
    have HP := Aside0.mk (own_part2 (own_part1 (own_part0 (Own.pull3 (((HBa.out.pull3).set (i := 0) (.int .i64 0)).set (i := 1) (.bool false))) z3) z3) z3).drew
    clear HBa
    generalize hW : World.drew _ = W at HP ⊢
    obtain ⟨u0, u1, u2, u3, u4, u5, u6, u7, u8⟩ := cells9 HP.out.pt
    have v0 := blk_cell HP.out.drop.pt 0
    have v1 := blk_cell HP.out.drop.pt 1
    clear hW
    exact bodyPost_ret (v := .tuple #[.agg #[.int .i64 0, .bool false], pgV z3 z3 z3, .int .i64 r3]) (by simp [results, Try.results16, go_sem, u0, u1, u2, u3, u4, u5, u6, u7, u8, v0, v1]) rfl ⟨.inl ⟨HN3.out, rfl⟩, HP.out.drop.drop.drop⟩
end
end Go.Proofs.Ytcfonmbojkolfaa.Plan
