/- The law's proof: words, contracts of the functions that it reaches, plain lemmas. -/
import Derived.ArgAppend
import Derived.Below
import Derived.BigQuiet
import Derived.Carry
import Derived.Deep.AppendLies
import Derived.Deep.CutBlock
import Derived.Deep.DeepCutAuto
import Derived.Deep.Draws
import Derived.Deep.LoopGhost
import Derived.Deep.OwnRows
import Derived.Deep.QuietTactic
import Derived.Deep.RegionHeld3
import Derived.Deep.RegionWith
import Derived.KernelRfl
import Derived.Laws.BitsLemmas
import Derived.Laws.BytesArg
import Derived.Laws.IdiomCopy
import Derived.Laws.MakeOwn
import Derived.Laws.OwnMore
import Derived.Laws.Rows
import Derived.Laws.Slices
import Derived.Lib.AppendStr
import Derived.Lib.BufferMore
import Derived.Lib.ConvBytes
import Derived.Lib.Hide
import Derived.Lib.LazyBuf
import Derived.Maps.AppendAt
import Derived.OpenShut
import Derived.OrdersHeld
import Derived.Outline
import Derived.OwnWalk
import Derived.OwnWalkIn
import Derived.RegionTactic
import Derived.RowKit3
import Derived.StillTailTactics
import Derived.Tactics
import Derived.WalkKit
import Derived.WideLaws
import Derived.Test.YtdohaocbhcniaaaDoorSu5
section
/- The package-level tables that the program reads, as they lie in a world. -/
set_option linter.unusedVariables false
set_option linter.unusedSimpArgs false
namespace Go.Proofs.YtdohaocbhcniaaaDoor.Hw
open Go.RowKit Go.Proofs.YtdohaocbhcniaaaDoorW.PrintWords

/-- A table of whole numbers: block g reads as xs. -/
def Tbl (g : Nat) (k : IntKind) (xs : List Int) (w : World) : Prop := ∀ i : Nat, i < xs.length → w.cell? ⟨g, i, none⟩ = some (.int k (xs.getD i 0))
theorem Tbl.below {g : Nat} {k : IntKind} {xs : List Int} {w w1 : World} {B : Nat} (h : Tbl g k xs w) (hb : Below B w w1) (hB : w.heap.size ≤ B) : Tbl g k xs w1 := fun i hi =>
  (hb.cell (p := ⟨g, i, none⟩) (Nat.lt_of_lt_of_le (World.block_lt_of_cell? w _ (h i hi)) hB)).trans (h i hi)
def crcT : List Int := [0, 498536548, 997073096, 651767980, 1994146192, 1802195444, 1303535960, 1342533948, 3988292384, 4027552580, 3604390888, 3412177804, 2607071920, 2262029012, 2685067896, 3183342108]
/-- All of them. -/
structure Laid (w : World) : Prop where
  crc : Tbl 0 .u32 crcT w
theorem Laid.below {w w1 : World} {B : Nat} (h : Laid w) (hb : Below B w w1) (hB : w.heap.size ≤ B) : Laid w1 := ⟨h.crc.below hb hB⟩
end Go.Proofs.YtdohaocbhcniaaaDoor.Hw
end
