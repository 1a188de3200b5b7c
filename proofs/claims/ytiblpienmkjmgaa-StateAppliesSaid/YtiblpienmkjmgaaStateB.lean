/- Contracts of package state's methods, by hand: clones. -/
import Derived.Test.YtiblpienmkjmgaaProg
import Derived.Below
import Derived.Deep.Draws
import Derived.Deep.AppendLies
import Derived.Maps.AppendAt
import Derived.OwnWalk
import Derived.Laws.BytesArg
import Derived.Laws.MakeOwn
import Derived.Laws.OwnMore
import Derived.Deep.OwnRows
import Derived.Tactics
import Derived.Lib.ConvBytes
import Derived.Laws.Slices
import Derived.WalkKit
import Derived.KernelRfl
import Derived.RowKit3
import Derived.Deep.LoopGhost
import Derived.Deep.QuietTactic
import Derived.BigQuiet
import Derived.WideLaws
import Derived.Deep.DeepCutAuto
import Derived.Deep.CutBlock
import Derived.Deep.RegionHeld3
import Derived.Deep.RegionWith
import Derived.Laws.Rows
import Derived.Lib.AppendStr
import Derived.ArgAppend
import Derived.Laws.IdiomCopy
import Derived.OrdersHeld
import Derived.Laws.BitsLemmas
import Derived.Outline
import Derived.RegionTactic
import Derived.Lib.Hide
import Derived.StillTailTactics
import Derived.Deep.RegionWith
import Derived.OpenShut
import Derived.Test.YtiblpienmkjmgaaWWords
import Derived.Test.YtiblpienmkjmgaaWKept
import Derived.Test.YtiblpienmkjmgaaStateA
import Derived.WalkSpells
import Derived.Deep.RegionHeld3
import Derived.Lib.BufferMore
set_option linter.unusedVariables false
namespace Go.Proofs.Ytiblpienmkjmgaa.StateA
open Go.RowKit Go.Proofs.YtiblpienmkjmgaaW.PrintWords Go.Proofs.Ytiblpienmkjmgaa.Mem

theorem info3 : (Try.prog.info? 3).map (fun i => (i.zero, i.size, i.bytes)) = some (some (.int .i64 0), 1, 8) := by kernel_rfl

/-- A clone of a row: a new row that holds the same. -/
def NewRow (w : World) (xs : List Int) (e : Ending) (w' : World) : Prop :=
  ∃ a c, e = .returned (.slice (some ⟨a, 0, none⟩) xs.length c) ∧ RowAt w' a c xs ∧ w.heap.size ≤ a ∧ Below w.heap.size w w'

set_option maxHeartbeats 1000000 in
theorem clone1_any (a0 c0 : Nat) (xs : List Int) (w : World) (h : RowAt w a0 c0 xs) (hn : 0 < xs.length) (hl : xs.length ≤ 1000000) :
    Calls Try.prog 79 #[.slice (some ⟨a0, 0, none⟩) xs.length c0] w (NewRow w xs) := by
  have hR : ReadsInt w .i64 (some ⟨a0, 0, none⟩) xs.length xs := by
    obtain ⟨A, c, he, hr⟩ := own_reads h
    injection he with h1 h2 h3
    subst h1
    exact hr
  have HR := Aside0.mk hR
  clear hR h
  have kn := fun (W : World) => Lib.run_eql_slice_some_nil (P := Try.prog) W ⟨a0, 0, none⟩ xs.length c0 Try.underlying40
  go_enter Try.func79, Try.ntmps79
  have HO := Aside0.mk (own_lit w w.heap.size 3 .i64 [] (Nat.le_refl _) (by simp))
  have HB := Aside0.mk (below_alloc (Below.refl w.heap.size w) (.cells #[] 3))
  go_wp2_with (at_builtin; refine print_append_row (w0 := w) w.heap.size rfl _ _ 40 3 .i64 8 rfl Try.underlying40 info3 (by decide) _ [] xs (some ⟨a0, 0, none⟩) xs.length c0 rfl rfl (by exact HO.out) (by exact HR.out.below (below_alloc (Below.refl _ _) _)) (by exact HB.out) (by simp) (by simp; omega) ?_; intro v1 w1 hown hb1 hg1 hat; have HW := Aside0.mk hown; have HB1 := Aside0.mk hb1; have HAT := Aside0.mk hat; clear hown hb1 hg1 hat)
  obtain ⟨g, cap, rfl, _, _⟩ := HW.out.form (by simpa using hn)
  have hg : w.heap.size ≤ g := own_base HW.out g rfl
  have hr : RowAt w1 g cap xs := own_weaken (by simpa using HW.out) (Nat.zero_le _)
  go_ret
  exact ⟨g, cap, rfl, hr, hg, HB1.out⟩

/-- What is durable, once more: four new rows. -/
structure Rows4 (w w' : World) (K : Kp) (b1 b2 b3 b4 d1 d2 d3 d4 : Nat) : Prop where
  s1 : RowAt w' b1 d1 K.F
  s2 : RowAt w' b2 d2 K.C
  s3 : RowAt w' b3 d3 K.S
  s4 : RowAt w' b4 d4 K.T
  n1 : w.heap.size ≤ b1
  n2 : w.heap.size ≤ b2
  n3 : w.heap.size ≤ b3
  n4 : w.heap.size ≤ b4
  ne : (b1 ≠ b2 ∧ b1 ≠ b3 ∧ b1 ≠ b4) ∧ (b2 ≠ b3 ∧ b2 ≠ b4) ∧ b3 ≠ b4
  below : Below w.heap.size w w'
abbrev stateV (K : Kp) (b1 b2 b3 b4 d1 d2 d3 d4 : Nat) : Value := .agg #[.slice (some ⟨b1, 0, none⟩) K.F.length d1, .slice (some ⟨b2, 0, none⟩) K.C.length d2, .slice (some ⟨b3, 0, none⟩) K.S.length d3, .slice (some ⟨b4, 0, none⟩) K.T.length d4]
def NewState (w : World) (K : Kp) (e : Ending) (w' : World) : Prop := ∃ b1 b2 b3 b4 d1 d2 d3 d4, e = .returned (stateV K b1 b2 b3 b4 d1 d2 d3 d4) ∧ Rows4 w w' K b1 b2 b3 b4 d1 d2 d3 d4
structure Kp.Ok (K : Kp) : Prop where
  f0 : 0 < K.F.length
  c0 : 0 < K.C.length
  s0 : 0 < K.S.length
  t0 : 0 < K.T.length
  f1 : K.F.length ≤ 1000000
  c1 : K.C.length ≤ 1000000
  s1 : K.S.length ≤ 1000000
  t1 : K.T.length ≤ 1000000

set_option maxHeartbeats 4000000 in
theorem clone_any (K : Kp) (b1 b2 b3 b4 d1 d2 d3 d4 : Nat) (w : World) (h1 : RowAt w b1 d1 K.F) (h2 : RowAt w b2 d2 K.C) (h3 : RowAt w b3 d3 K.S) (h4 : RowAt w b4 d4 K.T) (ok : K.Ok) :
    Calls Try.prog 60 #[stateV K b1 b2 b3 b4 d1 d2 d3 d4] w (NewState w K) := by
  have H1 := Aside0.mk h1
  have H2 := Aside0.mk h2
  have H3 := Aside0.mk h3
  have H4 := Aside0.mk h4
  have OK := Aside0.mk ok
  clear h1 h2 h3 h4 ok
  have HB := Aside0.mk (below_alloc (below_alloc (Below.refl w.heap.size w) (.cells #[.slice (some ⟨b1, 0, none⟩) K.F.length d1, .slice (some ⟨b2, 0, none⟩) K.C.length d2, .slice (some ⟨b3, 0, none⟩) K.S.length d3, .slice (some ⟨b4, 0, none⟩) K.T.length d4] 69)) (.cells #[.slice none 0 0, .slice none 0 0, .slice none 0 0, .slice none 0 0] 69))
  have kk := Aside0.mk (blk_alloc (blk_new w (.cells #[.slice (some ⟨b1, 0, none⟩) K.F.length d1, .slice (some ⟨b2, 0, none⟩) K.C.length d2, .slice (some ⟨b3, 0, none⟩) K.S.length d3, .slice (some ⟨b4, 0, none⟩) K.T.length d4] 69)) (.cells #[.slice none 0 0, .slice none 0 0, .slice none 0 0, .slice none 0 0] 69))
  have kr := Aside0.mk (blk_new (w.alloc (.cells #[.slice (some ⟨b1, 0, none⟩) K.F.length d1, .slice (some ⟨b2, 0, none⟩) K.C.length d2, .slice (some ⟨b3, 0, none⟩) K.S.length d3, .slice (some ⟨b4, 0, none⟩) K.T.length d4] 69)) (.cells #[.slice none 0 0, .slice none 0 0, .slice none 0 0, .slice none 0 0] 69))
  rw [World.size_alloc] at kr
  have t1 : True := trivial
  have t2 : True := trivial
  have t3 : True := trivial
  have t4 : True := trivial
  go_enter Try.func60, Try.ntmps60
  go_wp2
  go_region_held3 (fun w' => w'.cell? ⟨w.heap.size, 0, none⟩ = some (.slice (some ⟨b1, 0, none⟩) K.F.length d1) ∧ w'.cell? ⟨w.heap.size, 1, none⟩ = some (.slice (some ⟨b2, 0, none⟩) K.C.length d2) ∧ w'.cell? ⟨w.heap.size, 2, none⟩ = some (.slice (some ⟨b3, 0, none⟩) K.S.length d3) ∧ w'.cell? ⟨w.heap.size, 3, none⟩ = some (.slice (some ⟨b4, 0, none⟩) K.T.length d4))
    (first | go_keep | exact ⟨blk_cell kk.out 0, blk_cell kk.out 1, blk_cell kk.out 2, blk_cell kk.out 3⟩)
    (first | (go_at_call 79; have _t := t1; refine (clone1_any b1 d1 K.F _ (by exact H1.out.move (HB.out.block _ H1.out.lt)) OK.out.f0 OK.out.f1).mono ?_; rintro e v1 ⟨a1, c1, rfl, hr1, hg1, hb⟩; clear t1 _t; have lt1 := hr1.lt; have HB' := Aside0.mk (HB.out.drew.trans (hb.mono (by exact HB.out.size))); have kk' := Aside0.mk (blk_below (by exact kk.out) hb); have kr' := Aside0.mk (blk_below (by exact kr.out) hb); have hs1 := HB.out.size; clear HB kk kr; have HB := HB'; have kk := kk'; have kr := kr'; clear HB' kk' kr'; clear hb) | (go_at_call 79; have _t := t2; refine (clone1_any b2 d2 K.C _ (by exact H2.out.move (HB.out.block _ H2.out.lt)) OK.out.c0 OK.out.c1).mono ?_; rintro e v2 ⟨a2, c2, rfl, hr2, hg2, hb⟩; clear t2 _t; have lt2 := hr2.lt; have hr1' := hr1.move (hb.block _ hr1.lt); clear hr1; have hr1 := hr1'; clear hr1'; have HB' := Aside0.mk (HB.out.trans (hb.mono (by exact HB.out.size))); have kk' := Aside0.mk (blk_below (by exact kk.out) hb); have kr' := Aside0.mk (blk_below (by exact kr.out) hb); have hs2 := HB.out.size; clear HB kk kr; have HB := HB'; have kk := kk'; have kr := kr'; clear HB' kk' kr'; clear hb) | (go_at_call 79; have _t := t3; refine (clone1_any b3 d3 K.S _ (by exact H3.out.move (HB.out.block _ H3.out.lt)) OK.out.s0 OK.out.s1).mono ?_; rintro e v3 ⟨a3, c3, rfl, hr3, hg3, hb⟩; clear t3 _t; have lt3 := hr3.lt; have hr1' := hr1.move (hb.block _ hr1.lt); clear hr1; have hr1 := hr1'; clear hr1'; have hr2' := hr2.move (hb.block _ hr2.lt); clear hr2; have hr2 := hr2'; clear hr2'; have HB' := Aside0.mk (HB.out.trans (hb.mono (by exact HB.out.size))); have kk' := Aside0.mk (blk_below (by exact kk.out) hb); have kr' := Aside0.mk (blk_below (by exact kr.out) hb); have hs3 := HB.out.size; clear HB kk kr; have HB := HB'; have kk := kk'; have kr := kr'; clear HB' kk' kr'; clear hb) | (go_at_call 79; have _t := t4; refine (clone1_any b4 d4 K.T _ (by exact H4.out.move (HB.out.block _ H4.out.lt)) OK.out.t0 OK.out.t1).mono ?_; rintro e v4 ⟨a4, c4, rfl, hr4, hg4, hb⟩; clear t4 _t; have lt4 := hr4.lt; have hr1' := hr1.move (hb.block _ hr1.lt); clear hr1; have hr1 := hr1'; clear hr1'; have hr2' := hr2.move (hb.block _ hr2.lt); clear hr2; have hr2 := hr2'; clear hr2'; have hr3' := hr3.move (hb.block _ hr3.lt); clear hr3; have hr3 := hr3'; clear hr3'; have HB' := Aside0.mk (HB.out.trans (hb.mono (by exact HB.out.size))); have kk' := Aside0.mk (blk_below (by exact kk.out) hb); have kr' := Aside0.mk (blk_below (by exact kr.out) hb); have hs4 := HB.out.size; clear HB kk kr; have HB := HB'; have kk := kk'; have kr := kr'; clear HB' kk' kr'; clear hb; obtain ⟨u0, u1, u2, u3, f0, f1, f2, f3⟩ := cells4 kr.out; have z1 := blk_lt kr.out))
  go_wp2
  simp only [World.size_drew, World.size_alloc] at hg1
  have far : ∀ k, k ≠ w.heap.size + 1 → ∀ x1 x2 x3 x4, ((((v4.setCell ⟨w.heap.size + 1, 0, none⟩ x1).setCell ⟨w.heap.size + 1, 1, none⟩ x2).setCell ⟨w.heap.size + 1, 2, none⟩ x3).setCell ⟨w.heap.size + 1, 3, none⟩ x4).heap[k]? = v4.heap[k]? := fun k hk x1 x2 x3 x4 => by
    rw [Below.heap_setCell _ _ _ k hk, Below.heap_setCell _ _ _ k hk, Below.heap_setCell _ _ _ k hk, Below.heap_setCell _ _ _ k hk]
  refine bodyPost_ret (v := stateV K a1 a2 a3 a4 c1 c2 c3 c4) (by simp [results, Try.results60, go_sem, u0, u1, u2, u3]) rfl ⟨a1, a2, a3, a4, c1, c2, c3, c4, rfl, ?_⟩
  exact ⟨hr1.move (far _ (by omega) _ _ _ _), hr2.move (far _ (by omega) _ _ _ _), hr3.move (far _ (by omega) _ _ _ _), hr4.move (far _ (by omega) _ _ _ _), by omega, by omega, by omega, by omega, ⟨⟨by omega, by omega, by omega⟩, ⟨by omega, by omega⟩, by omega⟩, (((HB.out.setCell (p := ⟨w.heap.size + 1, 0, none⟩) (by simp) _).setCell (p := ⟨w.heap.size + 1, 1, none⟩) (by simp) _).setCell (p := ⟨w.heap.size + 1, 2, none⟩) (by simp) _).setCell (p := ⟨w.heap.size + 1, 3, none⟩) (by simp) _⟩
end Go.Proofs.Ytiblpienmkjmgaa.StateA
