/- The package-level tables that the program reads, as they lie in a world. -/
import Derived.ArgAppend
import Derived.Below
import Derived.BigQuiet
import Derived.Carry
import Derived.Deep.AppendLies
import Derived.Deep.CutBlock
import Derived.Deep.DeepCutAuto
import Derived.Deep.Draws
import Derived.Deep.LoopGhost
import Derived.Deep.OwnRows
import Derived.Deep.QuietTactic
import Derived.Deep.RegionHeld3
import Derived.Deep.RegionWith
import Derived.KernelRfl
import Derived.Laws.BitsLemmas
import Derived.Laws.BytesArg
import Derived.Laws.IdiomCopy
import Derived.Laws.MakeOwn
import Derived.Laws.OwnMore
import Derived.Laws.Rows
import Derived.Laws.Slices
import Derived.Lib.AppendStr
import Derived.Lib.BufferMore
import Derived.Lib.ConvBytes
import Derived.Lib.Hide
import Derived.Lib.LazyBuf
import Derived.Maps.AppendAt
import Derived.OpenShut
import Derived.OrdersHeld
import Derived.Outline
import Derived.OwnWalk
import Derived.OwnWalkIn
import Derived.RegionTactic
import Derived.RowKit3
import Derived.StillTailTactics
import Derived.Tactics
import Derived.WalkKit
import Derived.WideLaws
import Derived.Test.YtbcgddacmjliaaaDoorWWords
set_option linter.unusedVariables false
set_option linter.unusedSimpArgs false
namespace Go.Proofs.YtbcgddacmjliaaaDoor.Hw
open Go.RowKit Go.Proofs.YtbcgddacmjliaaaDoorW.PrintWords

/-- A table of whole numbers: block g reads as xs. -/
def Tbl (g : Nat) (k : IntKind) (xs : List Int) (w : World) : Prop := ∀ i : Nat, i < xs.length → w.cell? ⟨g, i, none⟩ = some (.int k (xs.getD i 0))
theorem Tbl.below {g : Nat} {k : IntKind} {xs : List Int} {w w1 : World} {B : Nat} (h : Tbl g k xs w) (hb : Below B w w1) (hB : w.heap.size ≤ B) : Tbl g k xs w1 := fun i hi =>
  (hb.cell (p := ⟨g, i, none⟩) (Nat.lt_of_lt_of_le (World.block_lt_of_cell? w _ (h i hi)) hB)).trans (h i hi)
def crcT : List Int := [0, 498536548, 997073096, 651767980, 1994146192, 1802195444, 1303535960, 1342533948, 3988292384, 4027552580, 3604390888, 3412177804, 2607071920, 2262029012, 2685067896, 3183342108]
def plcT : List Int := [3, 5, 6, 7, 9, 10, 11, 12, 13, 14, 15, 17, 18, 19, 20, 21, 22, 23, 24, 25, 26, 27, 28, 29, 30, 31, 33, 34, 35, 36, 37, 38, 39, 40, 41, 42, 43, 44, 45, 46, 47, 48, 49, 50, 51, 52, 53, 54, 55, 56, 57, 58, 59, 60, 61, 62, 63, 65, 66, 67, 68, 69, 70, 71]
def clrT : List Int := [4, 3, 3, 2, 3, 2, 2, 1, 3, 2, 2, 1, 2, 1, 1, 0]
/-- All of them. -/
structure Laid (w : World) : Prop where
  crc : Tbl 2 .u32 crcT w
  plc : Tbl 0 .u8 plcT w
  clr : Tbl 1 .i64 clrT w
theorem Laid.below {w w1 : World} {B : Nat} (h : Laid w) (hb : Below B w w1) (hB : w.heap.size ≤ B) : Laid w1 := ⟨h.crc.below hb hB, h.plc.below hb hB, h.clr.below hb hB⟩
theorem laid_at {w w1 : World} (h : Aside0 (Laid w)) (hb : Below w.heap.size w w1) : Aside0 (Laid w1) := ⟨h.out.below hb (Nat.le_refl _)⟩
theorem test_auto {w : World} (n : Nat) (HL : Aside0 (Laid w) := by first | exact HL | exact Hw.laid_at HL (by first | exact HB.out | exact (Below.refl _ _).alloc (Nat.le_refl _) _)) : n = n := rfl
theorem test_auto2 {w : World} (HL : Aside0 (Laid w)) : (3 : Nat) = 3 := by
  with_reducible refine (test_auto (w := w) _)
theorem test_auto3 {w w1 : World} (HL : Aside0 (Laid w)) (HB : Aside0 (Below w.heap.size w w1)) : (3 : Nat) = 3 := by
  with_reducible refine (test_auto (w := w1) _)
end Go.Proofs.YtbcgddacmjliaaaDoor.Hw
