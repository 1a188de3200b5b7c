/- The document's answer for what is durable, by what a walk owns. -/
import Derived.Test.YtiblpienmkjmgaaProg
import Derived.Below
import Derived.Deep.Draws
import Derived.Deep.AppendLies
import Derived.Maps.AppendAt
import Derived.OwnWalk
import Derived.Laws.BytesArg
import Derived.Laws.MakeOwn
import Derived.Laws.OwnMore
import Derived.Deep.OwnRows
import Derived.Tactics
import Derived.Lib.ConvBytes
import Derived.Laws.Slices
import Derived.WalkKit
import Derived.KernelRfl
import Derived.RowKit3
import Derived.Deep.LoopGhost
import Derived.Deep.QuietTactic
import Derived.BigQuiet
import Derived.WideLaws
import Derived.Deep.DeepCutAuto
import Derived.Deep.CutBlock
import Derived.Deep.RegionHeld3
import Derived.Deep.RegionWith
import Derived.Laws.Rows
import Derived.Lib.AppendStr
import Derived.ArgAppend
import Derived.Laws.IdiomCopy
import Derived.OrdersHeld
import Derived.Laws.BitsLemmas
import Derived.Outline
import Derived.RegionTactic
import Derived.Lib.Hide
import Derived.StillTailTactics
import Derived.Deep.RegionWith
import Derived.OpenShut
import Derived.Test.YtiblpienmkjmgaaWWords
import Derived.Test.YtiblpienmkjmgaaStateN
import Derived.Test.YtiblpienmkjmgaaStateK
import Derived.Test.YtiblpienmkjmgaaPSx28
import Derived.Test.YtiblpienmkjmgaaStateD
import Derived.Test.YtiblpienmkjmgaaPSx32
import Derived.Test.YtiblpienmkjmgaaPSGeomRefCheck
set_option linter.unusedVariables false
namespace Go.Proofs.Ytiblpienmkjmgaa.StateA
open Go.RowKit Go.Proofs.YtiblpienmkjmgaaW.PrintWords Go.Proofs.Ytiblpienmkjmgaa.Mem Go.Proofs.Ytiblpienmkjmgaa.PS Go.Proofs.Ytiblpienmkjmgaa.Own

/-- A row at an address. -/
abbrev J (A : Option Addr) (c : Nat) (xs : List Int) : Asn := I (.slice A xs.length c) xs
/-- A state's value. -/
abbrev stV (K : Kp) (A1 A2 A3 A4 : Option Addr) (c1 c2 c3 c4 : Nat) : Value := .agg #[.slice A1 K.F.length c1, .slice A2 K.C.length c2, .slice A3 K.S.length c3, .slice A4 K.T.length c4]
abbrev stC (K : Kp) (A1 A2 A3 A4 : Option Addr) (c1 c2 c3 c4 : Nat) : Obj := .cells #[.slice A1 K.F.length c1, .slice A2 K.C.length c2, .slice A3 K.S.length c3, .slice A4 K.T.length c4] 69 (0, 0)
section
variable {w0 w : World} {L : List Asn} {l : Loc} {K : Kp}
theorem st_forms {u1 u2 u3 u4 : Value} (h : Own w0 w (I u1 K.F :: I u2 K.C :: I u3 K.S :: I u4 K.T :: L)) : ∃ A1 A2 A3 A4 c1 c2 c3 c4, Value.agg #[u1, u2, u3, u4] = stV K A1 A2 A3 A4 c1 c2 c3 c4 ∧ Own w0 w (J A1 c1 K.F :: J A2 c2 K.C :: J A3 c3 K.S :: J A4 c4 K.T :: L) := by
  obtain ⟨A1, c1, rfl, _⟩ := h.reads
  obtain ⟨A2, c2, rfl, _⟩ := h.drop.reads
  obtain ⟨A3, c3, rfl, _⟩ := h.drop.drop.reads
  obtain ⟨A4, c4, rfl, _⟩ := h.drop.drop.drop.reads
  exact ⟨A1, A2, A3, A4, c1, c2, c3, c4, rfl, h⟩
theorem refApply_own (A1 A2 A3 A4 : Option Addr) (c1 c2 c3 c4 : Nat) (kd a b : Int) (HO : Own w0 w (J A1 c1 K.F :: J A2 c2 K.C :: J A3 c3 K.S :: J A4 c4 K.T :: L)) (fine : K.Fine) :
    Calls Try.prog 40 #[stV K A1 A2 A3 A4 c1 c2 c3 c4, recV kd a b] w fun e w' => ∃ A1 A2 A3 A4 c1 c2 c3 c4, e = .returned (.tuple #[stV (applyK K kd a b).1 A1 A2 A3 A4 c1 c2 c3 c4, .int .i64 (applyK K kd a b).2]) ∧
      Own w0 w' (J A1 c1 (applyK K kd a b).1.F :: J A2 c2 (applyK K kd a b).1.C :: J A3 c3 (applyK K kd a b).1.S :: J A4 c4 (applyK K kd a b).1.T :: L) := by
  obtain ⟨P1, P2, P3, P4, ⟨h1, h2, h3, h4⟩, ⟨d12, d13, d14, d23, d24, d34⟩, hb, f⟩ := HO.head4
  refine (deckleref14_Apply.calls 1000002 P1 _ K.F P2 _ K.C P3 _ K.S P4 _ K.T kd a b _ _ _ _ _ w0 w HO.below h1 d12 d13 d14 h2 (fun k x y => d12 k y x) d23 d24 h3 (fun k x y => d13 k y x) (fun k x y => d23 k y x) d34 h4 (fun k x y => d14 k y x) (fun k x y => d24 k y x) (fun k x y => d34 k y x) (ref_apply K kd a b fine 1000002 (Nat.le_refl _))).mono ?_
  rintro e w' ⟨u1, u2, u3, u4, rfl, r1, r2, r3, r4, hbel, hk⟩
  obtain ⟨A1, A2, A3, A4, c1, c2, c3, c4, hv, ho⟩ := st_forms (f w' [_, _, _, _] (mod_of HO.below hbel hk) (ints4 r1 r2 r3 r4))
  exact ⟨A1, A2, A3, A4, c1, c2, c3, c4, by rw [hv], ho⟩
theorem own3 (w : World) (o1 o2 o3 : Obj) : Own w (((w.alloc o1).alloc o2).alloc o3) [Pt (w.heap.size + 2) o3, Pt (w.heap.size + 1) o2, Pt w.heap.size o1] := by
  have h := (((Own.new w).alloc o1).alloc o2).alloc o3
  rw [World.size_alloc, World.size_alloc] at h
  exact h
theorem cells3' {g : Nat} {a b c : Value} {T : TypeId} (k : w.heap[g]? = some (.cells #[a, b, c] T (0, 0))) : w.cell? ⟨g, 0, none⟩ = some a ∧ w.cell? ⟨g, 1, none⟩ = some b ∧ w.cell? ⟨g, 2, none⟩ = some c := ⟨blk_cell k 0, blk_cell k 1, blk_cell k 2⟩
set_option maxHeartbeats 2000000 in
theorem refApply_no (A1 A2 A3 A4 : Option Addr) (c1 c2 c3 c4 : Nat) (kd a b : Int) (K : Kp) (w : World) (fine : K.Fine) (hno : (applyK K kd a b).2 ≠ 0) :
    Calls Try.prog 40 #[stV K A1 A2 A3 A4 c1 c2 c3 c4, recV kd a b] w fun e w' => e = .returned (.tuple #[stV K A1 A2 A3 A4 c1 c2 c3 c4, .int .i64 (applyK K kd a b).2]) ∧ Below w.heap.size w w' := by
  have HO := Aside0.mk (own3 w (stC K A1 A2 A3 A4 c1 c2 c3 c4) (.cells #[.int .i64 kd, .int .i64 a, .int .i64 b] 73) (.cells #[.slice none 0 0, .slice none 0 0, .slice none 0 0, .slice none 0 0] 69))
  have hc : (applyK K kd a b).2 = 110 := by
    unfold applyK at hno ⊢
    split
    · rfl
    · split
      · rfl
      · rename_i h1 h2
        rw [if_neg h1, if_neg h2] at hno
        split at hno
        · exact absurd rfl hno
        · split at hno
          · split at hno <;> exact absurd rfl hno
          · exact absurd rfl hno
  have hcase : ¬ MayRec kd a b ∨ (MayRec kd a b ∧ kd ≤ 2 ∧ (K.F.length : Int) ≤ a) ∨ (MayRec kd a b ∧ ¬ kd ≤ 2 ∧ (K.C.length : Int) ≤ a) := by
    by_cases hm : MayRec kd a b
    · have hk : kd = 1 ∨ kd = 2 ∨ kd = 3 ∨ kd = 4 := by unfold MayRec at hm; omega
      have hr : roomK K kd ≤ a := by
        apply Classical.byContradiction
        intro hr
        unfold applyK at hc
        rw [if_neg (not_not_intro hm), if_neg hr] at hc
        split at hc
        · simp at hc
        · split at hc
          · split at hc <;> simp at hc
          · simp at hc
      unfold roomK at hr
      by_cases h2 : kd = 1 ∨ kd = 2
      · rw [if_pos h2] at hr; exact .inr (.inl ⟨hm, by omega, hr⟩)
      · rw [if_neg h2] at hr; exact .inr (.inr ⟨hm, by omega, hr⟩)
    · exact .inl hm
  rw [hc]
  have f1 := fine.f1
  have f2 := fine.c1
  clear hno hc
  rcases hcase with hm | ⟨hm, h2, hr⟩ | ⟨hm, h2, hr⟩
  all_goals
    have hf := ref_may kd a b 2 (Nat.le_refl _)
    first | rw [decide_eq_false hm] at hf | rw [decide_eq_true hm] at hf
    have HF := Lib.hid hf
    clear hf
    go_enter Try.func40, Try.ntmps40
    go_wp2_with fail
    refine (deckleref11_May.calls 2 kd a b _ _ HF.out).mono ?_
    rintro e w1 ⟨rfl, hb⟩
    have HO := Aside0.mk (HO.out.move hb)
    obtain ⟨x0, x1, x2, x3, z0, z1, z2, z3⟩ := cells4 HO.out.pt
    obtain ⟨y0, y1, y2⟩ := cells3' HO.out.drop.pt
    obtain ⟨u0, u1, u2, u3, t0, t1, t2, t3⟩ := cells4 HO.out.drop.drop.pt
    have g1 := blk_lt HO.out.pt
    clear hb
    go_wp2_with fail
    have hfin := HO.out.set4 (.slice A1 K.F.length c1) (.slice A2 K.C.length c2) (.slice A3 K.S.length c3) (.slice A4 K.T.length c4)
    obtain ⟨q0, q1, q2, q3, _, _, _, _⟩ := cells4 hfin.pt
    exact bodyPost_ret (v := .tuple #[stV K A1 A2 A3 A4 c1 c2 c3 c4, .int .i64 110]) (by simp [results, Try.results40, go_sem, q0, q1, q2, q3]) rfl ⟨rfl, hfin.below⟩
theorem made_own (h : Own w0 w L) (n : Nat) (hn : n ≤ 1000000) : Own w0 (w.alloc (.cells (madeCells #[.int .i64 0] n) 3)) (I (.slice (some ⟨w.heap.size, 0, none⟩) n n) (zeros n) :: L) := by
  have hr := row_made w n hn
  have hz : (zeros n).length = n := zeros_len n
  have := h.fresh (R := [Ints w.heap.size n (zeros n)]) (below_alloc (Below.refl _ _) _) (Hold.one (ints_of hr (Nat.le_refl _) (Nat.le_refl _)))
  unfold Ints at this
  rw [hz] at this
  exact this
theorem keep10 {w : World} {g h : Nat} {a b c d e f x y z u : Value} {T T2 : TypeId} (k : w.heap[g]? = some (.cells #[a, b, c, d, e, f] T (0, 0))) (k2 : w.heap[h]? = some (.cells #[x, y, z, u] T2 (0, 0))) :
    (w.cell? ⟨g, 0, none⟩ = some a ∧ w.cell? ⟨g, 3, none⟩ = some d) ∧ w.cell? ⟨h, 0, none⟩ = some x ∧ w.cell? ⟨h, 1, none⟩ = some y ∧ w.cell? ⟨h, 2, none⟩ = some z ∧ w.cell? ⟨h, 3, none⟩ = some u ∧
    w.frozen? ⟨h, 0, none⟩ = false ∧ w.frozen? ⟨h, 1, none⟩ = false ∧ w.frozen? ⟨h, 2, none⟩ = false ∧ w.frozen? ⟨h, 3, none⟩ = false := ⟨⟨blk_cell k 0, blk_cell k 3⟩, cells4 k2⟩
theorem own2 (h : Own w0 w L) (o1 o2 : Obj) : Own w0 ((w.alloc o1).alloc o2) (Pt (w.heap.size + 1) o2 :: Pt w.heap.size o1 :: L) := by
  have h := (h.alloc o1).alloc o2
  rw [World.size_alloc] at h
  exact h
theorem size_set (w : World) (a : Addr) (v : Value) : (w.setCell a v).heap.size = w.heap.size := by simp [World.setCell]
theorem new_out {W : World} {b s x1 x2 x3 x4 : Nat} (h : Own w0 W (I (.slice (some ⟨x1, 0, none⟩) s s) (zeros s) :: I (.slice (some ⟨x2, 0, none⟩) b b) (zeros b) :: I (.slice (some ⟨x3, 0, none⟩) b b) (zeros b) :: I (.slice (some ⟨x4, 0, none⟩) b b) (zeros b) :: L)) :
    ∃ A1 A2 A3 A4 c1 c2 c3 c4, Ending.returned (.tuple #[.agg #[.slice (some ⟨x1, 0, none⟩) s s, .slice (some ⟨x2, 0, none⟩) b b, .slice (some ⟨x3, 0, none⟩) b b, .slice (some ⟨x4, 0, none⟩) b b], .int .i64 0]) = .returned (.tuple #[stV (newK b s) A1 A2 A3 A4 c1 c2 c3 c4, .int .i64 0]) ∧
      Own w0 W (J A1 c1 (newK b s).F :: J A2 c2 (newK b s).C :: J A3 c3 (newK b s).S :: J A4 c4 (newK b s).T :: L) := by
  refine ⟨some ⟨x1, 0, none⟩, some ⟨x2, 0, none⟩, some ⟨x3, 0, none⟩, some ⟨x4, 0, none⟩, s, b, b, b, ?_, ?_⟩
  · simp only [stV, newK, zeros_len]
  · simp only [J, newK, zeros_len]
    exact h
set_option maxHeartbeats 4000000 in
set_option maxRecDepth 100000 in
theorem refNew_ok (b s : Nat) (ln y p we : Int) (HO : Own w0 w L) (hln : (Lit.int .i64 ln).wf = true) (hg : GeoOk b ln y s p we) :
    Calls Try.prog 39 #[.agg #[.int .i64 b, .int .i64 ln, .int .i64 y, .int .i64 s, .int .i64 p, .int .i64 we]] w fun e w' => ∃ A1 A2 A3 A4 c1 c2 c3 c4, e = .returned (.tuple #[stV (newK b s) A1 A2 A3 A4 c1 c2 c3 c4, .int .i64 0]) ∧
      Own w0 w' (J A1 c1 (newK b s).F :: J A2 c2 (newK b s).C :: J A3 c3 (newK b s).S :: J A4 c4 (newK b s).T :: L) := by
  have hs := hg.1
  unfold SizesOk at hs
  have hc := ref_check b ln y s p we (WalkArith.wf_i64 (by omega)) hln 26002 (Nat.le_refl _)
  rw [if_pos hg] at hc
  have hmb := print_make (P := Try.prog) 40 3 .i64 8 Try.underlying40 info3 (by decide) b (by omega)
  have hms := print_make (P := Try.prog) 40 3 .i64 8 Try.underlying40 info3 (by decide) s (by omega)
  have HC := Lib.hid hc
  have HO1 := Aside0.mk (own2 HO (.cells #[.int .i64 b, .int .i64 ln, .int .i64 y, .int .i64 s, .int .i64 p, .int .i64 we] 37) (.cells #[.slice none 0 0, .slice none 0 0, .slice none 0 0, .slice none 0 0] 69))
  have bb : b ≤ 1000 := by omega
  have bs : s ≤ 100000 := by omega
  clear hc hs hg hln
  go_enter Try.func39, Try.ntmps39
  go_wp2_with fail
  refine (deckleref06_Check.calls 26002 b ln y s p we 0 _ HC.out).mono ?_
  rintro e w1 ⟨rfl, hb⟩
  have HN := Aside0.mk (HO1.out.move hb)
  have kk := Aside0.mk HN.out.drop.pt
  obtain ⟨u0, u1, u2, u3, u4, u5⟩ := cells6 (kk.out)
  have g1 := blk_lt HN.out.pt
  obtain ⟨v0, v1, v2, v3, z0, z1, z2, z3⟩ := cells4 HN.out.pt
  clear hb
  go_wp2_with fail
  have g0 := blk_lt HN.out.drop.pt
  clear kk
  have a1 : w.heap.size < w1.heap.size + 1 := by omega
  have a2 : w.heap.size < w1.heap.size + 1 + 1 := by omega
  have a3 : w.heap.size < w1.heap.size + 1 + 1 + 1 := by omega
  have b1 : w.heap.size + 1 < w1.heap.size + 1 := by omega
  have b2 : w.heap.size + 1 < w1.heap.size + 1 + 1 := by omega
  have b3 : w.heap.size + 1 < w1.heap.size + 1 + 1 + 1 := by omega
  go_region
  all_goals go_wp2
  all_goals clear u0 u1 u2 u3 u4 u5 v0 v1 v2 v3 z0 z1 z2 z3 g0 g1 a1 a2 a3 b1 b2 b3
  · have h4 := made_own (made_own (made_own (made_own (HN.out.set4 (.slice (some ⟨w1.heap.size, 0, none⟩) s s) (.slice (some ⟨w1.heap.size + 1, 0, none⟩) b b) (.slice (some ⟨w1.heap.size + 1 + 1, 0, none⟩) b b) (.slice (some ⟨w1.heap.size + 1 + 1 + 1, 0, none⟩) b b)) s (by omega)) b (by omega)) b (by omega)) b (by omega)
    simp only [World.size_alloc, size_set] at h4
    obtain ⟨r0, r1, r2, r3, _, _, _, _⟩ := cells4 h4.drew.pull5.pt
    exact bodyPost_ret (v := .tuple #[.agg #[(.slice (some ⟨w1.heap.size, 0, none⟩) s s), (.slice (some ⟨w1.heap.size + 1, 0, none⟩) b b), (.slice (some ⟨w1.heap.size + 1 + 1, 0, none⟩) b b), (.slice (some ⟨w1.heap.size + 1 + 1 + 1, 0, none⟩) b b)], .int .i64 0]) (by simp [results, Try.results39, go_sem, r0, r1, r2, r3]) rfl (new_out h4.drew.pull2.pull3.pull4.pull5.drop.pull5.drop)
  · have h4 := made_own (made_own (made_own (made_own (HN.out.set4 (.slice (some ⟨w1.heap.size, 0, none⟩) s s) (.slice (some ⟨w1.heap.size + 1, 0, none⟩) b b) (.slice (some ⟨w1.heap.size + 1 + 1 + 1, 0, none⟩) b b) (.slice (some ⟨w1.heap.size + 1 + 1, 0, none⟩) b b)) s (by omega)) b (by omega)) b (by omega)) b (by omega)
    simp only [World.size_alloc, size_set] at h4
    obtain ⟨r0, r1, r2, r3, _, _, _, _⟩ := cells4 h4.drew.pull5.pt
    exact bodyPost_ret (v := .tuple #[.agg #[(.slice (some ⟨w1.heap.size, 0, none⟩) s s), (.slice (some ⟨w1.heap.size + 1, 0, none⟩) b b), (.slice (some ⟨w1.heap.size + 1 + 1 + 1, 0, none⟩) b b), (.slice (some ⟨w1.heap.size + 1 + 1, 0, none⟩) b b)], .int .i64 0]) (by simp [results, Try.results39, go_sem, r0, r1, r2, r3]) rfl (new_out h4.drew.pull2.pull2.pull3.pull4.pull5.drop.pull5.drop)
  · have h4 := made_own (made_own (made_own (made_own (HN.out.set4 (.slice (some ⟨w1.heap.size, 0, none⟩) s s) (.slice (some ⟨w1.heap.size + 1 + 1, 0, none⟩) b b) (.slice (some ⟨w1.heap.size + 1, 0, none⟩) b b) (.slice (some ⟨w1.heap.size + 1 + 1 + 1, 0, none⟩) b b)) s (by omega)) b (by omega)) b (by omega)) b (by omega)
    simp only [World.size_alloc, size_set] at h4
    obtain ⟨r0, r1, r2, r3, _, _, _, _⟩ := cells4 h4.drew.pull5.pt
    exact bodyPost_ret (v := .tuple #[.agg #[(.slice (some ⟨w1.heap.size, 0, none⟩) s s), (.slice (some ⟨w1.heap.size + 1 + 1, 0, none⟩) b b), (.slice (some ⟨w1.heap.size + 1, 0, none⟩) b b), (.slice (some ⟨w1.heap.size + 1 + 1 + 1, 0, none⟩) b b)], .int .i64 0]) (by simp [results, Try.results39, go_sem, r0, r1, r2, r3]) rfl (new_out h4.drew.pull3.pull3.pull4.pull5.drop.pull5.drop)
  · have h4 := made_own (made_own (made_own (made_own (HN.out.set4 (.slice (some ⟨w1.heap.size, 0, none⟩) s s) (.slice (some ⟨w1.heap.size + 1 + 1 + 1, 0, none⟩) b b) (.slice (some ⟨w1.heap.size + 1, 0, none⟩) b b) (.slice (some ⟨w1.heap.size + 1 + 1, 0, none⟩) b b)) s (by omega)) b (by omega)) b (by omega)) b (by omega)
    simp only [World.size_alloc, size_set] at h4
    obtain ⟨r0, r1, r2, r3, _, _, _, _⟩ := cells4 h4.drew.pull5.pt
    exact bodyPost_ret (v := .tuple #[.agg #[(.slice (some ⟨w1.heap.size, 0, none⟩) s s), (.slice (some ⟨w1.heap.size + 1 + 1 + 1, 0, none⟩) b b), (.slice (some ⟨w1.heap.size + 1, 0, none⟩) b b), (.slice (some ⟨w1.heap.size + 1 + 1, 0, none⟩) b b)], .int .i64 0]) (by simp [results, Try.results39, go_sem, r0, r1, r2, r3]) rfl (new_out h4.drew.pull2.pull3.pull3.pull4.pull5.drop.pull5.drop)
  · have h4 := made_own (made_own (made_own (made_own (HN.out.set4 (.slice (some ⟨w1.heap.size, 0, none⟩) s s) (.slice (some ⟨w1.heap.size + 1 + 1, 0, none⟩) b b) (.slice (some ⟨w1.heap.size + 1 + 1 + 1, 0, none⟩) b b) (.slice (some ⟨w1.heap.size + 1, 0, none⟩) b b)) s (by omega)) b (by omega)) b (by omega)) b (by omega)
    simp only [World.size_alloc, size_set] at h4
    obtain ⟨r0, r1, r2, r3, _, _, _, _⟩ := cells4 h4.drew.pull5.pt
    exact bodyPost_ret (v := .tuple #[.agg #[(.slice (some ⟨w1.heap.size, 0, none⟩) s s), (.slice (some ⟨w1.heap.size + 1 + 1, 0, none⟩) b b), (.slice (some ⟨w1.heap.size + 1 + 1 + 1, 0, none⟩) b b), (.slice (some ⟨w1.heap.size + 1, 0, none⟩) b b)], .int .i64 0]) (by simp [results, Try.results39, go_sem, r0, r1, r2, r3]) rfl (new_out h4.drew.pull3.pull2.pull3.pull4.pull5.drop.pull5.drop)
  · have h4 := made_own (made_own (made_own (made_own (HN.out.set4 (.slice (some ⟨w1.heap.size, 0, none⟩) s s) (.slice (some ⟨w1.heap.size + 1 + 1 + 1, 0, none⟩) b b) (.slice (some ⟨w1.heap.size + 1 + 1, 0, none⟩) b b) (.slice (some ⟨w1.heap.size + 1, 0, none⟩) b b)) s (by omega)) b (by omega)) b (by omega)) b (by omega)
    simp only [World.size_alloc, size_set] at h4
    obtain ⟨r0, r1, r2, r3, _, _, _, _⟩ := cells4 h4.drew.pull5.pt
    exact bodyPost_ret (v := .tuple #[.agg #[(.slice (some ⟨w1.heap.size, 0, none⟩) s s), (.slice (some ⟨w1.heap.size + 1 + 1 + 1, 0, none⟩) b b), (.slice (some ⟨w1.heap.size + 1 + 1, 0, none⟩) b b), (.slice (some ⟨w1.heap.size + 1, 0, none⟩) b b)], .int .i64 0]) (by simp [results, Try.results39, go_sem, r0, r1, r2, r3]) rfl (new_out h4.drew.pull3.pull3.pull3.pull4.pull5.drop.pull5.drop)
  · have h4 := made_own (made_own (made_own (made_own (HN.out.set4 (.slice (some ⟨w1.heap.size + 1, 0, none⟩) s s) (.slice (some ⟨w1.heap.size, 0, none⟩) b b) (.slice (some ⟨w1.heap.size + 1 + 1, 0, none⟩) b b) (.slice (some ⟨w1.heap.size + 1 + 1 + 1, 0, none⟩) b b)) b (by omega)) s (by omega)) b (by omega)) b (by omega)
    simp only [World.size_alloc, size_set] at h4
    obtain ⟨r0, r1, r2, r3, _, _, _, _⟩ := cells4 h4.drew.pull5.pt
    exact bodyPost_ret (v := .tuple #[.agg #[(.slice (some ⟨w1.heap.size + 1, 0, none⟩) s s), (.slice (some ⟨w1.heap.size, 0, none⟩) b b), (.slice (some ⟨w1.heap.size + 1 + 1, 0, none⟩) b b), (.slice (some ⟨w1.heap.size + 1 + 1 + 1, 0, none⟩) b b)], .int .i64 0]) (by simp [results, Try.results39, go_sem, r0, r1, r2, r3]) rfl (new_out h4.drew.pull2.pull4.pull4.pull5.drop.pull5.drop)
  · have h4 := made_own (made_own (made_own (made_own (HN.out.set4 (.slice (some ⟨w1.heap.size + 1, 0, none⟩) s s) (.slice (some ⟨w1.heap.size, 0, none⟩) b b) (.slice (some ⟨w1.heap.size + 1 + 1 + 1, 0, none⟩) b b) (.slice (some ⟨w1.heap.size + 1 + 1, 0, none⟩) b b)) b (by omega)) s (by omega)) b (by omega)) b (by omega)
    simp only [World.size_alloc, size_set] at h4
    obtain ⟨r0, r1, r2, r3, _, _, _, _⟩ := cells4 h4.drew.pull5.pt
    exact bodyPost_ret (v := .tuple #[.agg #[(.slice (some ⟨w1.heap.size + 1, 0, none⟩) s s), (.slice (some ⟨w1.heap.size, 0, none⟩) b b), (.slice (some ⟨w1.heap.size + 1 + 1 + 1, 0, none⟩) b b), (.slice (some ⟨w1.heap.size + 1 + 1, 0, none⟩) b b)], .int .i64 0]) (by simp [results, Try.results39, go_sem, r0, r1, r2, r3]) rfl (new_out h4.drew.pull2.pull2.pull4.pull4.pull5.drop.pull5.drop)
  · have h4 := made_own (made_own (made_own (made_own (HN.out.set4 (.slice (some ⟨w1.heap.size + 1 + 1, 0, none⟩) s s) (.slice (some ⟨w1.heap.size, 0, none⟩) b b) (.slice (some ⟨w1.heap.size + 1, 0, none⟩) b b) (.slice (some ⟨w1.heap.size + 1 + 1 + 1, 0, none⟩) b b)) b (by omega)) b (by omega)) s (by omega)) b (by omega)
    simp only [World.size_alloc, size_set] at h4
    obtain ⟨r0, r1, r2, r3, _, _, _, _⟩ := cells4 h4.drew.pull5.pt
    exact bodyPost_ret (v := .tuple #[.agg #[(.slice (some ⟨w1.heap.size + 1 + 1, 0, none⟩) s s), (.slice (some ⟨w1.heap.size, 0, none⟩) b b), (.slice (some ⟨w1.heap.size + 1, 0, none⟩) b b), (.slice (some ⟨w1.heap.size + 1 + 1 + 1, 0, none⟩) b b)], .int .i64 0]) (by simp [results, Try.results39, go_sem, r0, r1, r2, r3]) rfl (new_out h4.drew.pull3.pull4.pull4.pull5.drop.pull5.drop)
  · have h4 := made_own (made_own (made_own (made_own (HN.out.set4 (.slice (some ⟨w1.heap.size + 1 + 1 + 1, 0, none⟩) s s) (.slice (some ⟨w1.heap.size, 0, none⟩) b b) (.slice (some ⟨w1.heap.size + 1, 0, none⟩) b b) (.slice (some ⟨w1.heap.size + 1 + 1, 0, none⟩) b b)) b (by omega)) b (by omega)) b (by omega)) s (by omega)
    simp only [World.size_alloc, size_set] at h4
    obtain ⟨r0, r1, r2, r3, _, _, _, _⟩ := cells4 h4.drew.pull5.pt
    exact bodyPost_ret (v := .tuple #[.agg #[(.slice (some ⟨w1.heap.size + 1 + 1 + 1, 0, none⟩) s s), (.slice (some ⟨w1.heap.size, 0, none⟩) b b), (.slice (some ⟨w1.heap.size + 1, 0, none⟩) b b), (.slice (some ⟨w1.heap.size + 1 + 1, 0, none⟩) b b)], .int .i64 0]) (by simp [results, Try.results39, go_sem, r0, r1, r2, r3]) rfl (new_out h4.drew.pull2.pull3.pull4.pull4.pull5.drop.pull5.drop)
  · have h4 := made_own (made_own (made_own (made_own (HN.out.set4 (.slice (some ⟨w1.heap.size + 1 + 1, 0, none⟩) s s) (.slice (some ⟨w1.heap.size, 0, none⟩) b b) (.slice (some ⟨w1.heap.size + 1 + 1 + 1, 0, none⟩) b b) (.slice (some ⟨w1.heap.size + 1, 0, none⟩) b b)) b (by omega)) b (by omega)) s (by omega)) b (by omega)
    simp only [World.size_alloc, size_set] at h4
    obtain ⟨r0, r1, r2, r3, _, _, _, _⟩ := cells4 h4.drew.pull5.pt
    exact bodyPost_ret (v := .tuple #[.agg #[(.slice (some ⟨w1.heap.size + 1 + 1, 0, none⟩) s s), (.slice (some ⟨w1.heap.size, 0, none⟩) b b), (.slice (some ⟨w1.heap.size + 1 + 1 + 1, 0, none⟩) b b), (.slice (some ⟨w1.heap.size + 1, 0, none⟩) b b)], .int .i64 0]) (by simp [results, Try.results39, go_sem, r0, r1, r2, r3]) rfl (new_out h4.drew.pull3.pull2.pull4.pull4.pull5.drop.pull5.drop)
  · have h4 := made_own (made_own (made_own (made_own (HN.out.set4 (.slice (some ⟨w1.heap.size + 1 + 1 + 1, 0, none⟩) s s) (.slice (some ⟨w1.heap.size, 0, none⟩) b b) (.slice (some ⟨w1.heap.size + 1 + 1, 0, none⟩) b b) (.slice (some ⟨w1.heap.size + 1, 0, none⟩) b b)) b (by omega)) b (by omega)) b (by omega)) s (by omega)
    simp only [World.size_alloc, size_set] at h4
    obtain ⟨r0, r1, r2, r3, _, _, _, _⟩ := cells4 h4.drew.pull5.pt
    exact bodyPost_ret (v := .tuple #[.agg #[(.slice (some ⟨w1.heap.size + 1 + 1 + 1, 0, none⟩) s s), (.slice (some ⟨w1.heap.size, 0, none⟩) b b), (.slice (some ⟨w1.heap.size + 1 + 1, 0, none⟩) b b), (.slice (some ⟨w1.heap.size + 1, 0, none⟩) b b)], .int .i64 0]) (by simp [results, Try.results39, go_sem, r0, r1, r2, r3]) rfl (new_out h4.drew.pull3.pull3.pull4.pull4.pull5.drop.pull5.drop)
  · have h4 := made_own (made_own (made_own (made_own (HN.out.set4 (.slice (some ⟨w1.heap.size + 1, 0, none⟩) s s) (.slice (some ⟨w1.heap.size + 1 + 1, 0, none⟩) b b) (.slice (some ⟨w1.heap.size, 0, none⟩) b b) (.slice (some ⟨w1.heap.size + 1 + 1 + 1, 0, none⟩) b b)) b (by omega)) s (by omega)) b (by omega)) b (by omega)
    simp only [World.size_alloc, size_set] at h4
    obtain ⟨r0, r1, r2, r3, _, _, _, _⟩ := cells4 h4.drew.pull5.pt
    exact bodyPost_ret (v := .tuple #[.agg #[(.slice (some ⟨w1.heap.size + 1, 0, none⟩) s s), (.slice (some ⟨w1.heap.size + 1 + 1, 0, none⟩) b b), (.slice (some ⟨w1.heap.size, 0, none⟩) b b), (.slice (some ⟨w1.heap.size + 1 + 1 + 1, 0, none⟩) b b)], .int .i64 0]) (by simp [results, Try.results39, go_sem, r0, r1, r2, r3]) rfl (new_out h4.drew.pull4.pull3.pull4.pull5.drop.pull5.drop)
  · have h4 := made_own (made_own (made_own (made_own (HN.out.set4 (.slice (some ⟨w1.heap.size + 1, 0, none⟩) s s) (.slice (some ⟨w1.heap.size + 1 + 1 + 1, 0, none⟩) b b) (.slice (some ⟨w1.heap.size, 0, none⟩) b b) (.slice (some ⟨w1.heap.size + 1 + 1, 0, none⟩) b b)) b (by omega)) s (by omega)) b (by omega)) b (by omega)
    simp only [World.size_alloc, size_set] at h4
    obtain ⟨r0, r1, r2, r3, _, _, _, _⟩ := cells4 h4.drew.pull5.pt
    exact bodyPost_ret (v := .tuple #[.agg #[(.slice (some ⟨w1.heap.size + 1, 0, none⟩) s s), (.slice (some ⟨w1.heap.size + 1 + 1 + 1, 0, none⟩) b b), (.slice (some ⟨w1.heap.size, 0, none⟩) b b), (.slice (some ⟨w1.heap.size + 1 + 1, 0, none⟩) b b)], .int .i64 0]) (by simp [results, Try.results39, go_sem, r0, r1, r2, r3]) rfl (new_out h4.drew.pull2.pull4.pull3.pull4.pull5.drop.pull5.drop)
  · have h4 := made_own (made_own (made_own (made_own (HN.out.set4 (.slice (some ⟨w1.heap.size + 1 + 1, 0, none⟩) s s) (.slice (some ⟨w1.heap.size + 1, 0, none⟩) b b) (.slice (some ⟨w1.heap.size, 0, none⟩) b b) (.slice (some ⟨w1.heap.size + 1 + 1 + 1, 0, none⟩) b b)) b (by omega)) b (by omega)) s (by omega)) b (by omega)
    simp only [World.size_alloc, size_set] at h4
    obtain ⟨r0, r1, r2, r3, _, _, _, _⟩ := cells4 h4.drew.pull5.pt
    exact bodyPost_ret (v := .tuple #[.agg #[(.slice (some ⟨w1.heap.size + 1 + 1, 0, none⟩) s s), (.slice (some ⟨w1.heap.size + 1, 0, none⟩) b b), (.slice (some ⟨w1.heap.size, 0, none⟩) b b), (.slice (some ⟨w1.heap.size + 1 + 1 + 1, 0, none⟩) b b)], .int .i64 0]) (by simp [results, Try.results39, go_sem, r0, r1, r2, r3]) rfl (new_out h4.drew.pull4.pull4.pull4.pull5.drop.pull5.drop)
  · have h4 := made_own (made_own (made_own (made_own (HN.out.set4 (.slice (some ⟨w1.heap.size + 1 + 1 + 1, 0, none⟩) s s) (.slice (some ⟨w1.heap.size + 1, 0, none⟩) b b) (.slice (some ⟨w1.heap.size, 0, none⟩) b b) (.slice (some ⟨w1.heap.size + 1 + 1, 0, none⟩) b b)) b (by omega)) b (by omega)) b (by omega)) s (by omega)
    simp only [World.size_alloc, size_set] at h4
    obtain ⟨r0, r1, r2, r3, _, _, _, _⟩ := cells4 h4.drew.pull5.pt
    exact bodyPost_ret (v := .tuple #[.agg #[(.slice (some ⟨w1.heap.size + 1 + 1 + 1, 0, none⟩) s s), (.slice (some ⟨w1.heap.size + 1, 0, none⟩) b b), (.slice (some ⟨w1.heap.size, 0, none⟩) b b), (.slice (some ⟨w1.heap.size + 1 + 1, 0, none⟩) b b)], .int .i64 0]) (by simp [results, Try.results39, go_sem, r0, r1, r2, r3]) rfl (new_out h4.drew.pull2.pull4.pull4.pull4.pull5.drop.pull5.drop)
  · have h4 := made_own (made_own (made_own (made_own (HN.out.set4 (.slice (some ⟨w1.heap.size + 1 + 1, 0, none⟩) s s) (.slice (some ⟨w1.heap.size + 1 + 1 + 1, 0, none⟩) b b) (.slice (some ⟨w1.heap.size, 0, none⟩) b b) (.slice (some ⟨w1.heap.size + 1, 0, none⟩) b b)) b (by omega)) b (by omega)) s (by omega)) b (by omega)
    simp only [World.size_alloc, size_set] at h4
    obtain ⟨r0, r1, r2, r3, _, _, _, _⟩ := cells4 h4.drew.pull5.pt
    exact bodyPost_ret (v := .tuple #[.agg #[(.slice (some ⟨w1.heap.size + 1 + 1, 0, none⟩) s s), (.slice (some ⟨w1.heap.size + 1 + 1 + 1, 0, none⟩) b b), (.slice (some ⟨w1.heap.size, 0, none⟩) b b), (.slice (some ⟨w1.heap.size + 1, 0, none⟩) b b)], .int .i64 0]) (by simp [results, Try.results39, go_sem, r0, r1, r2, r3]) rfl (new_out h4.drew.pull3.pull4.pull3.pull4.pull5.drop.pull5.drop)
  · have h4 := made_own (made_own (made_own (made_own (HN.out.set4 (.slice (some ⟨w1.heap.size + 1 + 1 + 1, 0, none⟩) s s) (.slice (some ⟨w1.heap.size + 1 + 1, 0, none⟩) b b) (.slice (some ⟨w1.heap.size, 0, none⟩) b b) (.slice (some ⟨w1.heap.size + 1, 0, none⟩) b b)) b (by omega)) b (by omega)) b (by omega)) s (by omega)
    simp only [World.size_alloc, size_set] at h4
    obtain ⟨r0, r1, r2, r3, _, _, _, _⟩ := cells4 h4.drew.pull5.pt
    exact bodyPost_ret (v := .tuple #[.agg #[(.slice (some ⟨w1.heap.size + 1 + 1 + 1, 0, none⟩) s s), (.slice (some ⟨w1.heap.size + 1 + 1, 0, none⟩) b b), (.slice (some ⟨w1.heap.size, 0, none⟩) b b), (.slice (some ⟨w1.heap.size + 1, 0, none⟩) b b)], .int .i64 0]) (by simp [results, Try.results39, go_sem, r0, r1, r2, r3]) rfl (new_out h4.drew.pull3.pull4.pull4.pull4.pull5.drop.pull5.drop)
  · have h4 := made_own (made_own (made_own (made_own (HN.out.set4 (.slice (some ⟨w1.heap.size + 1, 0, none⟩) s s) (.slice (some ⟨w1.heap.size + 1 + 1, 0, none⟩) b b) (.slice (some ⟨w1.heap.size + 1 + 1 + 1, 0, none⟩) b b) (.slice (some ⟨w1.heap.size, 0, none⟩) b b)) b (by omega)) s (by omega)) b (by omega)) b (by omega)
    simp only [World.size_alloc, size_set] at h4
    obtain ⟨r0, r1, r2, r3, _, _, _, _⟩ := cells4 h4.drew.pull5.pt
    exact bodyPost_ret (v := .tuple #[.agg #[(.slice (some ⟨w1.heap.size + 1, 0, none⟩) s s), (.slice (some ⟨w1.heap.size + 1 + 1, 0, none⟩) b b), (.slice (some ⟨w1.heap.size + 1 + 1 + 1, 0, none⟩) b b), (.slice (some ⟨w1.heap.size, 0, none⟩) b b)], .int .i64 0]) (by simp [results, Try.results39, go_sem, r0, r1, r2, r3]) rfl (new_out h4.drew.pull4.pull2.pull3.pull4.pull5.drop.pull5.drop)
  · have h4 := made_own (made_own (made_own (made_own (HN.out.set4 (.slice (some ⟨w1.heap.size + 1, 0, none⟩) s s) (.slice (some ⟨w1.heap.size + 1 + 1 + 1, 0, none⟩) b b) (.slice (some ⟨w1.heap.size + 1 + 1, 0, none⟩) b b) (.slice (some ⟨w1.heap.size, 0, none⟩) b b)) b (by omega)) s (by omega)) b (by omega)) b (by omega)
    simp only [World.size_alloc, size_set] at h4
    obtain ⟨r0, r1, r2, r3, _, _, _, _⟩ := cells4 h4.drew.pull5.pt
    exact bodyPost_ret (v := .tuple #[.agg #[(.slice (some ⟨w1.heap.size + 1, 0, none⟩) s s), (.slice (some ⟨w1.heap.size + 1 + 1 + 1, 0, none⟩) b b), (.slice (some ⟨w1.heap.size + 1 + 1, 0, none⟩) b b), (.slice (some ⟨w1.heap.size, 0, none⟩) b b)], .int .i64 0]) (by simp [results, Try.results39, go_sem, r0, r1, r2, r3]) rfl (new_out h4.drew.pull4.pull3.pull3.pull4.pull5.drop.pull5.drop)
  · have h4 := made_own (made_own (made_own (made_own (HN.out.set4 (.slice (some ⟨w1.heap.size + 1 + 1, 0, none⟩) s s) (.slice (some ⟨w1.heap.size + 1, 0, none⟩) b b) (.slice (some ⟨w1.heap.size + 1 + 1 + 1, 0, none⟩) b b) (.slice (some ⟨w1.heap.size, 0, none⟩) b b)) b (by omega)) b (by omega)) s (by omega)) b (by omega)
    simp only [World.size_alloc, size_set] at h4
    obtain ⟨r0, r1, r2, r3, _, _, _, _⟩ := cells4 h4.drew.pull5.pt
    exact bodyPost_ret (v := .tuple #[.agg #[(.slice (some ⟨w1.heap.size + 1 + 1, 0, none⟩) s s), (.slice (some ⟨w1.heap.size + 1, 0, none⟩) b b), (.slice (some ⟨w1.heap.size + 1 + 1 + 1, 0, none⟩) b b), (.slice (some ⟨w1.heap.size, 0, none⟩) b b)], .int .i64 0]) (by simp [results, Try.results39, go_sem, r0, r1, r2, r3]) rfl (new_out h4.drew.pull4.pull2.pull4.pull4.pull5.drop.pull5.drop)
  · have h4 := made_own (made_own (made_own (made_own (HN.out.set4 (.slice (some ⟨w1.heap.size + 1 + 1 + 1, 0, none⟩) s s) (.slice (some ⟨w1.heap.size + 1, 0, none⟩) b b) (.slice (some ⟨w1.heap.size + 1 + 1, 0, none⟩) b b) (.slice (some ⟨w1.heap.size, 0, none⟩) b b)) b (by omega)) b (by omega)) b (by omega)) s (by omega)
    simp only [World.size_alloc, size_set] at h4
    obtain ⟨r0, r1, r2, r3, _, _, _, _⟩ := cells4 h4.drew.pull5.pt
    exact bodyPost_ret (v := .tuple #[.agg #[(.slice (some ⟨w1.heap.size + 1 + 1 + 1, 0, none⟩) s s), (.slice (some ⟨w1.heap.size + 1, 0, none⟩) b b), (.slice (some ⟨w1.heap.size + 1 + 1, 0, none⟩) b b), (.slice (some ⟨w1.heap.size, 0, none⟩) b b)], .int .i64 0]) (by simp [results, Try.results39, go_sem, r0, r1, r2, r3]) rfl (new_out h4.drew.pull4.pull3.pull4.pull4.pull5.drop.pull5.drop)
  · have h4 := made_own (made_own (made_own (made_own (HN.out.set4 (.slice (some ⟨w1.heap.size + 1 + 1, 0, none⟩) s s) (.slice (some ⟨w1.heap.size + 1 + 1 + 1, 0, none⟩) b b) (.slice (some ⟨w1.heap.size + 1, 0, none⟩) b b) (.slice (some ⟨w1.heap.size, 0, none⟩) b b)) b (by omega)) b (by omega)) s (by omega)) b (by omega)
    simp only [World.size_alloc, size_set] at h4
    obtain ⟨r0, r1, r2, r3, _, _, _, _⟩ := cells4 h4.drew.pull5.pt
    exact bodyPost_ret (v := .tuple #[.agg #[(.slice (some ⟨w1.heap.size + 1 + 1, 0, none⟩) s s), (.slice (some ⟨w1.heap.size + 1 + 1 + 1, 0, none⟩) b b), (.slice (some ⟨w1.heap.size + 1, 0, none⟩) b b), (.slice (some ⟨w1.heap.size, 0, none⟩) b b)], .int .i64 0]) (by simp [results, Try.results39, go_sem, r0, r1, r2, r3]) rfl (new_out h4.drew.pull4.pull4.pull3.pull4.pull5.drop.pull5.drop)
  · have h4 := made_own (made_own (made_own (made_own (HN.out.set4 (.slice (some ⟨w1.heap.size + 1 + 1 + 1, 0, none⟩) s s) (.slice (some ⟨w1.heap.size + 1 + 1, 0, none⟩) b b) (.slice (some ⟨w1.heap.size + 1, 0, none⟩) b b) (.slice (some ⟨w1.heap.size, 0, none⟩) b b)) b (by omega)) b (by omega)) b (by omega)) s (by omega)
    simp only [World.size_alloc, size_set] at h4
    obtain ⟨r0, r1, r2, r3, _, _, _, _⟩ := cells4 h4.drew.pull5.pt
    exact bodyPost_ret (v := .tuple #[.agg #[(.slice (some ⟨w1.heap.size + 1 + 1 + 1, 0, none⟩) s s), (.slice (some ⟨w1.heap.size + 1 + 1, 0, none⟩) b b), (.slice (some ⟨w1.heap.size + 1, 0, none⟩) b b), (.slice (some ⟨w1.heap.size, 0, none⟩) b b)], .int .i64 0]) (by simp [results, Try.results39, go_sem, r0, r1, r2, r3]) rfl (new_out h4.drew.pull4.pull4.pull4.pull4.pull5.drop.pull5.drop)
set_option maxHeartbeats 1000000 in
theorem refNew_bad (b ln y s p we : Int) (hb : (Lit.int .i64 b).wf = true) (hln : (Lit.int .i64 ln).wf = true) (hg : ¬ GeoOk b ln y s p we) (w : World) :
    Calls Try.prog 39 #[.agg #[.int .i64 b, .int .i64 ln, .int .i64 y, .int .i64 s, .int .i64 p, .int .i64 we]] w fun e w' => ∃ A1 A2 A3 A4 c1 c2 c3 c4, e = .returned (.tuple #[.agg #[.slice A1 0 c1, .slice A2 0 c2, .slice A3 0 c3, .slice A4 0 c4], .int .i64 60]) ∧ Below w.heap.size w w' := by
  have hc := ref_check b ln y s p we hb hln 26002 (Nat.le_refl _)
  rw [if_neg hg] at hc
  have HC := Lib.hid hc
  have HO1 := Aside0.mk (own2 (Own.new w) (.cells #[.int .i64 b, .int .i64 ln, .int .i64 y, .int .i64 s, .int .i64 p, .int .i64 we] 37) (.cells #[.slice none 0 0, .slice none 0 0, .slice none 0 0, .slice none 0 0] 69))
  clear hc hg hb hln
  go_enter Try.func39, Try.ntmps39
  go_wp2_with fail
  refine (deckleref06_Check.calls 26002 b ln y s p we 60 _ HC.out).mono ?_
  rintro e w1 ⟨rfl, hb⟩
  have HN := Aside0.mk (HO1.out.move hb)
  obtain ⟨v0, v1, v2, v3, z0, z1, z2, z3⟩ := cells4 HN.out.pt
  clear hb
  go_wp2_with fail
  have h5 := HN.out.set4 (.slice none 0 0) (.slice none 0 0) (.slice none 0 0) (.slice none 0 0)
  obtain ⟨r0, r1, r2, r3, _, _, _, _⟩ := cells4 h5.pt
  exact bodyPost_ret (v := .tuple #[.agg #[.slice none 0 0, .slice none 0 0, .slice none 0 0, .slice none 0 0], .int .i64 60]) (by simp [results, Try.results39, go_sem, r0, r1, r2, r3]) rfl ⟨none, none, none, none, 0, 0, 0, 0, rfl, h5.below⟩
set_option maxHeartbeats 1000000 in
theorem new_bad (b ln y s p we : Int) (hb : (Lit.int .i64 b).wf = true) (hln : (Lit.int .i64 ln).wf = true) (hg : ¬ GeoOk b ln y s p we) (w : World) :
    Calls Try.prog 32 #[.agg #[.int .i64 b, .int .i64 ln, .int .i64 y, .int .i64 s, .int .i64 p, .int .i64 we]] w fun e w' => e = .returned (.tuple #[.pointer none, .int .i64 60]) ∧ Below w.heap.size w w' := by
  have hc := check_some b ln y s p we hb hln 8 (by omega)
  rw [if_neg hg] at hc
  have HC := Lib.hid hc
  clear hc
  go_enter Try.func32, Try.ntmps32
  go_wp2_with fail
  refine (geom_Check.calls 8 b ln y s p we 60 _ HC.out).mono ?_
  rintro e w1 ⟨rfl, hb⟩
  have HB := Aside0.mk (Below.trans ((below_alloc (Below.refl w.heap.size w) (.cells #[.int .i64 b, .int .i64 ln, .int .i64 y, .int .i64 s, .int .i64 p, .int .i64 we] 37))) (hb.mono (by rw [World.size_alloc]; omega)))
  clear hb
  go_wp2_with fail
  go_ret2
  exact ⟨rfl, HB.out⟩
end
end Go.Proofs.Ytiblpienmkjmgaa.StateA
