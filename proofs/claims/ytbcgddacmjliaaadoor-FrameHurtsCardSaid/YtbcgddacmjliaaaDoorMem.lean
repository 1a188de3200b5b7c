/- My own words for contracts of methods: what a call may have changed (Mod). -/
import Derived.Below
import Derived.Test.YtbcgddacmjliaaaDoorWWords
import Derived.Test.YtbcgddacmjliaaaDoorWKept
namespace Go.Proofs.YtbcgddacmjliaaaDoor.Mem
open Go.RowKit Go.Proofs.YtbcgddacmjliaaaDoorW.PrintWords

/-- Below B nothing changed, and of the blocks that were there only those of S. -/
structure Mod (B : Nat) (S : Nat → Prop) (w w' : World) : Prop where
  below : Below B w w'
  kept : Kept w w' S
section
variable {B : Nat} {S S2 : Nat → Prop} {w w1 w2 : World}
theorem Mod.refl (B : Nat) (S : Nat → Prop) (w : World) : Mod B S w w := ⟨Below.refl _ _, Kept.refl _ _⟩
theorem Mod.size (h : Mod B S w w1) : w.heap.size ≤ w1.heap.size := h.below.size
theorem Mod.trans (h : Mod B S w w1) (k : Mod B S2 w1 w2) (hs : ∀ k, S2 k → S k ∨ w.heap.size ≤ k) : Mod B S w w2 := ⟨h.below.trans k.below, h.kept.then_ k.kept hs⟩
theorem Mod.then_ (h : Mod B S w w1) (k : Mod B S w1 w2) : Mod B S w w2 := h.trans k (fun _ hk => .inl hk)
theorem Mod.below' (h : Mod B S w w1) (k : Below w1.heap.size w1 w2) (hB : B ≤ w.heap.size) : Mod B S w w2 := ⟨h.below.trans (k.mono (Nat.le_trans hB h.size)), h.kept.below k⟩
theorem Mod.of_below (k : Below w.heap.size w w1) (hB : B ≤ w.heap.size) (S : Nat → Prop) : Mod B S w w1 := ⟨k.mono hB, Kept.of_below k S⟩
theorem Mod.mono (h : Mod B S w w1) (hs : ∀ k, S k → S2 k) : Mod B S2 w w1 := ⟨h.below, h.kept.mono hs⟩
theorem Mod.alloc (h : Mod B S w w1) (hB : B ≤ w.heap.size) (o : Obj) : Mod B S w (w1.alloc o) := h.below' (below_alloc (Below.refl _ _) o) hB
theorem Mod.drew (h : Mod B S w w1) : Mod B S w w1.drew := ⟨h.below.drew, h.kept.drew⟩
theorem Mod.drewN (h : Mod B S w w1) (n : Nat) : Mod B S w (w1.drewN n) := ⟨⟨h.below.os, h.below.tape, h.below.output, h.below.size, h.below.block⟩, h.kept.drewN n⟩
theorem Mod.setCell (h : Mod B S w w1) {p : Addr} (hB : B ≤ p.block) (hp : S p.block ∨ w.heap.size ≤ p.block) (u : Value) : Mod B S w (w1.setCell p u) := ⟨h.below.setCell hB u, h.kept.setCell hp u⟩
/-- A block that may not have changed. -/
theorem Mod.blk (h : Mod B S w w1) {g : Nat} {o : Obj} (hg : w.heap[g]? = some o) (hn : ¬ S g) : w1.heap[g]? = some o := (h.kept.2 g (blk_lt hg) hn).trans hg
/-- What a call with nothing of its own to change leaves. -/
theorem Mod.all (h : Mod w.heap.size S w w1) : Below w.heap.size w w1 := h.below
end
theorem bcell {W w1 : World} (hb : Below W.heap.size W w1) : (∀ b o, b < W.heap.size → w1.cell? ⟨b, o, none⟩ = W.cell? ⟨b, o, none⟩) ∧ (∀ b o, b < W.heap.size → w1.frozen? ⟨b, o, none⟩ = W.frozen? ⟨b, o, none⟩) :=
  ⟨fun b o h => hb.cell (p := ⟨b, o, none⟩) h, fun b o h => hb.frozen (p := ⟨b, o, none⟩) h⟩
/-- Cells of blocks that a call may not have changed. -/
theorem mcell {B : Nat} {S : Nat → Prop} {W w1 : World} (h : Mod B S W w1) : (∀ b o, b < W.heap.size → ¬ S b → w1.cell? ⟨b, o, none⟩ = W.cell? ⟨b, o, none⟩) ∧ (∀ b o, b < W.heap.size → ¬ S b → w1.frozen? ⟨b, o, none⟩ = W.frozen? ⟨b, o, none⟩) :=
  ⟨fun b o hb hn => World.cell?_of_block (w := W) (a := ⟨b, o, none⟩) (h.kept.2 b hb hn), fun b o hb hn => World.frozen?_of_block (w := W) (a := ⟨b, o, none⟩) (h.kept.2 b hb hn)⟩
theorem mcell1 {B g : Nat} {W w1 : World} (h : Mod B (fun k => k = g) W w1) : (∀ b o, b < W.heap.size → b ≠ g → w1.cell? ⟨b, o, none⟩ = W.cell? ⟨b, o, none⟩) ∧ (∀ b o, b < W.heap.size → b ≠ g → w1.frozen? ⟨b, o, none⟩ = W.frozen? ⟨b, o, none⟩) := mcell h
/-- A block's cells, all at once. -/
theorem obj_cells {w : World} {g : Nat} {cs : Array Value} {T : TypeId} (k : w.heap[g]? = some (.cells cs T (0, 0))) : (∀ o, w.cell? ⟨g, o, none⟩ = cs[o]?) ∧ (∀ o, w.frozen? ⟨g, o, none⟩ = false) := ⟨fun o => blk_cell k o, fun o => blk_frozen k o⟩
theorem cells4 {w : World} {g : Nat} {a b c d : Value} {T : TypeId} (k : w.heap[g]? = some (.cells #[a, b, c, d] T (0, 0))) : w.cell? ⟨g, 0, none⟩ = some a ∧ w.cell? ⟨g, 1, none⟩ = some b ∧ w.cell? ⟨g, 2, none⟩ = some c ∧ w.cell? ⟨g, 3, none⟩ = some d ∧
    w.frozen? ⟨g, 0, none⟩ = false ∧ w.frozen? ⟨g, 1, none⟩ = false ∧ w.frozen? ⟨g, 2, none⟩ = false ∧ w.frozen? ⟨g, 3, none⟩ = false := ⟨blk_cell k 0, blk_cell k 1, blk_cell k 2, blk_cell k 3, blk_frozen k 0, blk_frozen k 1, blk_frozen k 2, blk_frozen k 3⟩
theorem cells6 {w : World} {g : Nat} {a b c d e f : Value} {T : TypeId} (k : w.heap[g]? = some (.cells #[a, b, c, d, e, f] T (0, 0))) : w.cell? ⟨g, 0, none⟩ = some a ∧ w.cell? ⟨g, 1, none⟩ = some b ∧ w.cell? ⟨g, 2, none⟩ = some c ∧ w.cell? ⟨g, 3, none⟩ = some d ∧ w.cell? ⟨g, 4, none⟩ = some e ∧ w.cell? ⟨g, 5, none⟩ = some f :=
  ⟨blk_cell k 0, blk_cell k 1, blk_cell k 2, blk_cell k 3, blk_cell k 4, blk_cell k 5⟩
/-- A store into another block. -/
theorem set_far {W : World} {g R i : Nat} {o : Obj} {u : Value} (h : W.heap[g]? = some o) (hne : g ≠ R) : (W.setCell ⟨R, i, none⟩ u).heap[g]? = some o := (Below.heap_setCell W ⟨R, i, none⟩ u g hne).trans h
theorem set_far4 {W : World} {g R i j k l : Nat} {o : Obj} {a b c d : Value} (h : W.heap[g]? = some o) (hne : g ≠ R) : ((((W.setCell ⟨R, i, none⟩ a).setCell ⟨R, j, none⟩ b).setCell ⟨R, k, none⟩ c).setCell ⟨R, l, none⟩ d).heap[g]? = some o := set_far (set_far (set_far (set_far h hne) hne) hne) hne
theorem Mod.far {B : Nat} {S : Nat → Prop} {w W : World} {R i : Nat} {u : Value} (h : Mod B S w W) (hB : B ≤ R) (hR : w.heap.size ≤ R) : Mod B S w (W.setCell ⟨R, i, none⟩ u) := h.setCell hB (.inr hR) u
theorem Mod.far4 {B : Nat} {S : Nat → Prop} {w W : World} {R i j k l : Nat} {a b c d : Value} (h : Mod B S w W) (hB : B ≤ R) (hR : w.heap.size ≤ R) : Mod B S w ((((W.setCell ⟨R, i, none⟩ a).setCell ⟨R, j, none⟩ b).setCell ⟨R, k, none⟩ c).setCell ⟨R, l, none⟩ d) := (((h.far hB hR).far hB hR).far hB hR).far hB hR
theorem ret_int {k : IntKind} {a b : Int} (h : a = b) : Ending.returned (.int k a) = .returned (.int k b) := by rw [h]
end Go.Proofs.YtbcgddacmjliaaaDoor.Mem
