/- Contracts of package load, by hand: NewSource, New. -/
import Derived.Test.YtcfonmbojkolfaaLoadD
import Derived.Test.YtcfonmbojkolfaaPLGeomLemmas
set_option linter.unusedVariables false
namespace Go.Proofs.Ytcfonmbojkolfaa.LoadA
open Go.RowKit Go.Proofs.YtcfonmbojkolfaaW.PrintWords Go.Proofs.Ytcfonmbojkolfaa.Mem Go.Proofs.Ytcfonmbojkolfaa.PL

theorem cells6 {w : World} {g : Nat} {a b c d e f : Value} {T : TypeId} (k : w.heap[g]? = some (.cells #[a, b, c, d, e, f] T (0, 0))) : w.cell? ⟨g, 0, none⟩ = some a ∧ w.cell? ⟨g, 1, none⟩ = some b ∧ w.cell? ⟨g, 2, none⟩ = some c ∧ w.cell? ⟨g, 3, none⟩ = some d ∧ w.cell? ⟨g, 4, none⟩ = some e ∧ w.cell? ⟨g, 5, none⟩ = some f :=
  ⟨blk_cell k 0, blk_cell k 1, blk_cell k 2, blk_cell k 3, blk_cell k 4, blk_cell k 5⟩

def NewSrc (w : World) (x : Int) (e : Ending) (w' : World) : Prop := e = .returned (.pointer (some ⟨w.heap.size, 0, none⟩)) ∧ w' = w.alloc (.cells #[.int .u64 x] 93)

theorem newsource_any (x : Int) (w : World) (hx : 0 ≤ x) : Calls Try.prog 23 #[.int .u64 x] w (NewSrc w (if x < 1 then 1 else x)) := by
  by_cases h : x < 1
  · go_enter Try.func23, Try.ntmps23
    go_wp2
    go_ret
    exact ⟨rfl, rfl⟩
  · go_enter Try.func23, Try.ntmps23
    go_wp2
    go_ret
    exact ⟨rfl, rfl⟩

def startOf (b l y s p t kind seed : Int) : Ld := ⟨b, l, y, s, p, t, kind, if seed < 1 then 1 else seed, 0, 0⟩
def NewLoad (w : World) (L : Ld) (e : Ending) (w' : World) : Prop :=
  ∃ gl gs, e = .returned (.tuple #[.pointer (some ⟨gl, 0, none⟩), .int .i64 0]) ∧ LoadAt w' gl gs L ∧ gl ≠ gs ∧ w.heap.size ≤ gl ∧ w.heap.size ≤ gs ∧ Below w.heap.size w w'

theorem new_ok (b l y s p t kind seed : Int) (w : World) (hb : (Lit.int .i64 b).wf = true) (hl : (Lit.int .i64 l).wf = true) (hg : GeoOk b l y s p t) (hk : 0 ≤ kind) (hk2 : kind ≤ 3) (hs : 0 ≤ seed) :
    Calls Try.prog 31 #[.agg #[.int .i64 b, .int .i64 l, .int .i64 y, .int .i64 s, .int .i64 p, .int .i64 t], .int .i64 kind, .int .u64 seed] w (NewLoad w (startOf b l y s p t kind seed)) := by
  have hc := check_some b l y s p t hb hl 8 (by omega)
  rw [if_pos hg] at hc
  have HC := Lib.hid hc
  clear hc hg hb hl
  obtain ⟨x, hx⟩ : ∃ x, x = (if seed < 1 then 1 else seed) := ⟨_, rfl⟩
  have HX := Lib.hid hx
  have hns := newsource_any seed
  rw [← hx] at hns
  clear hx
  go_enter Try.func31, Try.ntmps31
  go_wp2_with (go_at_call 30; refine (geom_Check.calls 8 b l y s p t 0 _ HC.out).mono ?_; rintro e w' ⟨rfl, hb⟩; obtain ⟨u0, u1, u2, u3, u4, u5⟩ := cells6 (blk_below (blk_new w _) hb); have hz := hb.size; simp only [World.size_alloc] at hz; have hz0 : w.heap.size < w'.heap.size := (by omega); have hz1 : ¬ w.heap.size = w'.heap.size := (by omega); have HB := Aside0.mk hb; clear hb)
  go_region_with (go_at_call 23; refine (hns _ hs).mono ?_; rintro e w2 ⟨rfl, rfl⟩)
  all_goals go_wp2
  all_goals
    go_ret2
    refine ⟨w'.heap.size + 1, w'.heap.size, rfl, ⟨?_, ?_⟩, by omega, by omega, by omega, ?_⟩
    · have e := blk_new (w'.alloc (.cells #[.int .u64 x] 93)) (.cells #[.int .i64 b, .int .i64 l, .int .i64 y, .int .i64 s, .int .i64 p, .int .i64 t, .int .i64 kind, .pointer (some ⟨w'.heap.size, 0, none⟩), .int .i64 0, .int .i64 0] 101)
      rw [World.size_alloc] at e
      exact e
    · have e := blk_alloc (blk_new w' (.cells #[.int .u64 x] 93)) (.cells #[.int .i64 b, .int .i64 l, .int .i64 y, .int .i64 s, .int .i64 p, .int .i64 t, .int .i64 kind, .pointer (some ⟨w'.heap.size, 0, none⟩), .int .i64 0, .int .i64 0] 101)
      have hx := HX.out
      unfold SrcAt startOf
      dsimp only
      rw [← hx]
      exact e
    · exact (below_alloc (below_alloc ((below_alloc (Below.refl _ w) _).trans (HB.out.mono (B' := w.heap.size) (by simp))) _) _).drew
end Go.Proofs.Ytcfonmbojkolfaa.LoadA
