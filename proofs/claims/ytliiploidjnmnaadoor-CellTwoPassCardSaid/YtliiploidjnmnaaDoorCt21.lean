/- The law's proof: words, contracts of the functions that it reaches, plain lemmas. -/
import Derived.ArgAppend
import Derived.Below
import Derived.BigQuiet
import Derived.Carry
import Derived.Deep.AppendLies
import Derived.Deep.CutBlock
import Derived.Deep.DeepCutAuto
import Derived.Deep.Draws
import Derived.Deep.LoopGhost
import Derived.Deep.OwnRows
import Derived.Deep.QuietTactic
import Derived.Deep.RegionHeld3
import Derived.Deep.RegionWith
import Derived.KernelRfl
import Derived.Laws.BitsLemmas
import Derived.Laws.BytesArg
import Derived.Laws.IdiomCopy
import Derived.Laws.MakeOwn
import Derived.Laws.OwnMore
import Derived.Laws.Rows
import Derived.Laws.Slices
import Derived.Lib.AppendStr
import Derived.Lib.BufferMore
import Derived.Lib.ConvBytes
import Derived.Lib.Hide
import Derived.Lib.LazyBuf
import Derived.Maps.AppendAt
import Derived.OpenShut
import Derived.OrdersHeld
import Derived.Outline
import Derived.OwnWalk
import Derived.OwnWalkIn
import Derived.RegionTactic
import Derived.RowKit3
import Derived.StillTailTactics
import Derived.Tactics
import Derived.WalkKit
import Derived.WideLaws
import Derived.Lib.SliceRun
import Derived.Test.YtliiploidjnmnaaDoorCt18
section
/- clear of a row of lines. -/
set_option linter.unusedVariables false
set_option linter.unusedSimpArgs false
namespace Go.Proofs.YtliiploidjnmnaaDoor.PF
open Go.RowKit Go.Shelf Go.Proofs.YtliiploidjnmnaaDoorW.PrintWords Go.Proofs.YtliiploidjnmnaaDoor.Mem Go.Proofs.YtliiploidjnmnaaDoor.Own Go.Proofs.YtliiploidjnmnaaDoor.Hw

def setAllL (cs : List Value) (o : Nat) : List Value → List Value
  | [] => cs
  | v :: l => setAllL (cs.set o v) (o + 1) l
section
variable {w0 : World} {L : List Asn} {lb : Nat}
end
end Go.Proofs.YtliiploidjnmnaaDoor.PF
end

section
/- Package cell, by hand: Erase. -/
set_option linter.unusedVariables false
set_option linter.unusedSimpArgs false
namespace Go.Proofs.YtliiploidjnmnaaDoor.PF
open Go.RowKit Go.Shelf Go.Proofs.YtliiploidjnmnaaDoorW.PrintWords Go.Proofs.YtliiploidjnmnaaDoor.Mem Go.Proofs.YtliiploidjnmnaaDoor.Own Go.Proofs.YtliiploidjnmnaaDoor.Hw

def erase1 (S : CellS) : CellS := if S.mode = 2 then { S with tlc := S.tlc + 1 } else { S with slc := S.slc + 1 }
def erased (S : CellS) : CellS := { S with lines := List.replicate S.lines.length line0, mode := 0, done := 0, torn := false }
def eraseS (S : CellS) (k fa fb : Int) : CellS := if S.bad = true then S else if k = 1 ∨ k = 2 then endsS k (erase1 S) (spoiled (erase1 S) fa fb) else erased (erase1 S)
def eraseC (S : CellS) (k : Int) : Int := if S.bad = true then 80 else endsC k
section
variable {w0 w : World} {L : List Asn} {g lb : Nat} {S : CellS}
end
end Go.Proofs.YtliiploidjnmnaaDoor.PF
end
