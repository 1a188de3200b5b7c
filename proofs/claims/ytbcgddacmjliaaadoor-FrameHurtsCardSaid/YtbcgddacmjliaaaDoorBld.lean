/- strings.Builder, as the walks meet it: it holds a string. -/
import Derived.ArgAppend
import Derived.Below
import Derived.BigQuiet
import Derived.Carry
import Derived.Deep.AppendLies
import Derived.Deep.CutBlock
import Derived.Deep.DeepCutAuto
import Derived.Deep.Draws
import Derived.Deep.LoopGhost
import Derived.Deep.OwnRows
import Derived.Deep.QuietTactic
import Derived.Deep.RegionHeld3
import Derived.Deep.RegionWith
import Derived.KernelRfl
import Derived.Laws.BitsLemmas
import Derived.Laws.BytesArg
import Derived.Laws.IdiomCopy
import Derived.Laws.MakeOwn
import Derived.Laws.OwnMore
import Derived.Laws.Rows
import Derived.Laws.Slices
import Derived.Lib.AppendStr
import Derived.Lib.BufferMore
import Derived.Lib.ConvBytes
import Derived.Lib.Hide
import Derived.Lib.LazyBuf
import Derived.Maps.AppendAt
import Derived.OpenShut
import Derived.OrdersHeld
import Derived.Outline
import Derived.OwnWalk
import Derived.OwnWalkIn
import Derived.RegionTactic
import Derived.RowKit3
import Derived.StillTailTactics
import Derived.Tactics
import Derived.WalkKit
import Derived.WideLaws
import Derived.Test.YtbcgddacmjliaaaDoorWWords
import Derived.Test.YtbcgddacmjliaaaDoorShelf
import Derived.Test.YtbcgddacmjliaaaDoorLaid
import Derived.Test.YtbcgddacmjliaaaDoorMem
set_option linter.unusedVariables false
set_option linter.unusedSimpArgs false
namespace Go.Proofs.YtbcgddacmjliaaaDoor.Hw
open Go.RowKit Go.Shelf Go.Proofs.YtbcgddacmjliaaaDoorW.PrintWords Go.Proofs.YtbcgddacmjliaaaDoor.Mem

/-- A Builder that the call has made holds s. -/
def Bld (B b : Nat) (s : ByteArray) (w : World) : Prop := Lib.IsBuilder 48 5 B b (Lib.strCells s) w ∧ B ≤ w.heap.size
theorem ownsRow_below {w w1 : World} {B : Nat} {e : TypeId} {v : Value} {n : Nat} {xs : List Value} (h : w.ownsRow B e 1 v n xs) (hb : Below w.heap.size w w1) : w1.ownsRow B e 1 v n xs := by
  obtain ⟨h1, h2⟩ := h
  refine ⟨h1, ?_⟩
  rcases h2 with h2 | ⟨g, cap, cur, r1, r2, r3, r⟩
  · exact .inl h2
  · refine .inr ⟨g, cap, cur, r1, r2, ?_, r⟩
    exact (hb.block g (blk_lt r3)).trans r3
theorem at_below {w w1 : World} {T e : TypeId} {B b : Nat} {p : Value} {bs : List Value} (h : Lib.BuilderAt T e B b p bs w) (hb : Below w.heap.size w w1) : Lib.BuilderAt T e B b p bs w1 := by
  have hl := h.lt
  obtain ⟨h1, v, h2, h3, h4⟩ := h
  exact ⟨h1, v, (hb.block b hl).trans h2, ownsRow_below h3 hb, h4⟩
theorem Bld.below {B b : Nat} {s : ByteArray} {w w1 : World} (h : Bld B b s w) (hb : Below w.heap.size w w1) : Bld B b s w1 :=
  ⟨h.1.elim (fun k => .inl (at_below k hb)) (fun k => .inr (at_below k hb)), Nat.le_trans h.2 hb.size⟩
theorem Bld.new {B : Nat} {w : World} (hB : B ≤ w.heap.size) : Bld B w.heap.size ⟨#[]⟩ (w.alloc (.cells #[.pointer none, .slice none 0 0] 48)) := by
  refine ⟨.inl ?_, by rw [World.size_alloc]; omega⟩
  exact ⟨hB, .slice none 0 0, Go.heap_alloc_new w _, World.ownsRow_nil _ _ _ _, by simp [Value.ownBlock]⟩
theorem Bld.drew {B b : Nat} {s : ByteArray} {w : World} (h : Bld B b s w) : Bld B b s w.drew := h.below ⟨rfl, rfl, rfl, Nat.le_refl _, fun _ _ => rfl⟩
theorem strCells_push (s : ByteArray) (c : UInt8) : Lib.strCells (s.push c) = Lib.strCells s ++ [.int .u8 (c.toNat : Int)] := by
  simp [Lib.strCells, ByteArray.push]
theorem strCells_append (s t : ByteArray) : Lib.strCells (s ++ t) = Lib.strCells s ++ Lib.strCells t := by
  simp [Lib.strCells]
theorem bld_str {B b : Nat} {s t : ByteArray} {w : World} (h : Bld B b s w) (hl : s.size + t.size ≤ 140737488355328) :
    Calls Tryd.prog 24 #[.pointer (some ⟨b, 0, none⟩), .string t] w fun e w' => e = .returned (.tuple #[.int .i64 t.size, .nilIface]) ∧ Bld B b (s ++ t) w' ∧ Below B w w' := by
  refine (Any.Builder_WriteString lays166 extra166 B b (Lib.strCells s) t w h.1 (by rw [Lib.strCells_length]; exact hl) h.2).mono ?_
  rintro e w' ⟨h1, h2, h3⟩
  exact ⟨h1, ⟨.inr (by rw [strCells_append]; exact h2), Nat.le_trans h.2 h3.size⟩, h3⟩
theorem bld_byte {B b : Nat} {s : ByteArray} {w : World} (h : Bld B b s w) (c : UInt8) (hl : s.size + 1 ≤ 140737488355328) :
    Calls Tryd.prog 85 #[.pointer (some ⟨b, 0, none⟩), .int .u8 (c.toNat : Int)] w fun e w' => e = .returned .nilIface ∧ Bld B b (s.push c) w' ∧ Below B w w' := by
  refine (Any.Builder_WriteByte lays167 extra167 B b (Lib.strCells s) (c.toNat : Int) w h.1 (by rw [Lib.strCells_length]; exact hl) h.2).mono ?_
  rintro e w' ⟨h1, h2, h3⟩
  exact ⟨h1, ⟨.inr (by rw [strCells_push]; exact h2), Nat.le_trans h.2 h3.size⟩, h3⟩
theorem bld_string {B b : Nat} {s : ByteArray} {w : World} (h : Bld B b s w) :
    Calls Tryd.prog 25 #[.pointer (some ⟨b, 0, none⟩)] w fun e w' => e = .returned (.string s) ∧ Below B w w' := by
  refine (Any.Builder_String_any lays169 extra169 B b s.data.toList w h.1 h.2).mono ?_
  rintro e w' ⟨h1, h2⟩
  exact ⟨h1, h2⟩
end Go.Proofs.YtbcgddacmjliaaaDoor.Hw
