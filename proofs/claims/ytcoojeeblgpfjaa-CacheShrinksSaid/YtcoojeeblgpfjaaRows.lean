/-
  No cell of these rows narrows 'for every input' (looked for: loops, veiled, ifaces, maps, wideKeys, modest, calm, conditions, laid).
  DERIVED. THE GIVEN ROWS OF THIS SEAT. 8 by the template 'for every input the law returns true; each argument reads behind the call as it read before'; 0 by the template 'total and deterministic' (their statements: YtcoojeeblgpfjaaTotals.lean).
  GIVEN WITH THE SEED: the statements are not yours to turn. If you find one false, say at which input.
  Laid BY PROGRAM, IN A SANDBOX (cutbox-rows.mjs): the forced cells as the released guide's own fill.sh prints them over the translation 92a83efa53c703e3… (all of the seat's roots in one cut). By AI agents, Wed Nov 11 2026. No macro, syntax, notation, axiom, sorry.
-/
import Derived.Test.YtcoojeeblgpfjaaChecked
import GoSem.Claim
import GoSem.ClaimJoined
import GoSem.ClaimMapViews
import Derived.JoinedTies
import Derived.KernelRfl
namespace Go.Proofs.Ytcoojeeblgpfjaa
/- THE CELL 'sum', in the pinned program and in every row, IS THE sha256 OF THE DUMP (.gsa) THAT YtcoojeeblgpfjaaProg.lean LOADS. Nothing in Lean hashes anything: it is a label: what it is worth is what the hold of that sum in a sandbox is worth. -/
noncomputable def Try.pinned : Pinned := { name := "ytcoojeeblgpfjaa", sum := "92a83efa53c703e399d5fc69a549d132ea5e7b022274b9f1180685aab56cf8c7", checked := Try.checked }
namespace Rows
def none {H : Type} : Left H := { results := [], args := [] }

/-- 'decklelaw06.GeomRoom': WHATEVER THE INPUT: true; the input reads as it did. -/
def geomRoomSpec : ChangeSpec := { name := "geomRoom", fn := fun _ => fun
  | [d1, d2] => { results := [.lit (.bool true)], args := [d1, d2] }
  | _ => none }
def geomRoomRow : OpenClaim := { program := "ytcoojeeblgpfjaa", sum := "92a83efa53c703e399d5fc69a549d132ea5e7b022274b9f1180685aab56cf8c7", func := "deckle/decklelaw06.GeomRoom", spec := "geomRoom", apart := false }
def GeomRoomSaid : Prop := geomRoomRow.holds Try.pinned (OpenSpec.ofChange geomRoomSpec)

/-- ITS FALSE NEIGHBOUR: 'it returns false'. Refute it at one input. -/
def geomRoomWrong : ChangeSpec := { name := "geomRoom", fn := fun _ => fun
  | [d1, d2] => { results := [.lit (.bool false)], args := [d1, d2] }
  | _ => none }
def GeomRoomWrongFalsely : Prop := geomRoomRow.holds Try.pinned (OpenSpec.ofChange geomRoomWrong)

/-- 'decklelaw06.GeomChecks': WHATEVER THE INPUT: true; the input reads as it did. -/
def geomChecksSpec : ChangeSpec := { name := "geomChecks", fn := fun _ => fun
  | [d] => { results := [.lit (.bool true)], args := [d] }
  | _ => none }
def geomChecksRow : OpenClaim := { program := "ytcoojeeblgpfjaa", sum := "92a83efa53c703e399d5fc69a549d132ea5e7b022274b9f1180685aab56cf8c7", func := "deckle/decklelaw06.GeomChecks", spec := "geomChecks", apart := false }
def GeomChecksSaid : Prop := geomChecksRow.holds Try.pinned (OpenSpec.ofChange geomChecksSpec)

/-- ITS FALSE NEIGHBOUR: 'it returns false'. Refute it at one input. -/
def geomChecksWrong : ChangeSpec := { name := "geomChecks", fn := fun _ => fun
  | [d] => { results := [.lit (.bool false)], args := [d] }
  | _ => none }
def GeomChecksWrongFalsely : Prop := geomChecksRow.holds Try.pinned (OpenSpec.ofChange geomChecksWrong)

/-- 'decklelaw06.GeomLeft': WHATEVER THE INPUT: true; the input reads as it did. -/
def geomLeftSpec : ChangeSpec := { name := "geomLeft", fn := fun _ => fun
  | [d] => { results := [.lit (.bool true)], args := [d] }
  | _ => none }
def geomLeftRow : OpenClaim := { program := "ytcoojeeblgpfjaa", sum := "92a83efa53c703e399d5fc69a549d132ea5e7b022274b9f1180685aab56cf8c7", func := "deckle/decklelaw06.GeomLeft", spec := "geomLeft", apart := false }
def GeomLeftSaid : Prop := geomLeftRow.holds Try.pinned (OpenSpec.ofChange geomLeftSpec)

/-- ITS FALSE NEIGHBOUR: 'it returns false'. Refute it at one input. -/
def geomLeftWrong : ChangeSpec := { name := "geomLeft", fn := fun _ => fun
  | [d] => { results := [.lit (.bool false)], args := [d] }
  | _ => none }
def GeomLeftWrongFalsely : Prop := geomLeftRow.holds Try.pinned (OpenSpec.ofChange geomLeftWrong)

/-- 'decklelaw23.CacheTells': WHATEVER THE INPUT: true; the input reads as it did. -/
def cacheTellsSpec : ChangeSpec := { name := "cacheTells", fn := fun _ => fun
  | [d1, d2] => { results := [.lit (.bool true)], args := [d1, d2] }
  | _ => none }
def cacheTellsRow : OpenClaim := { program := "ytcoojeeblgpfjaa", sum := "92a83efa53c703e399d5fc69a549d132ea5e7b022274b9f1180685aab56cf8c7", func := "deckle/decklelaw23.CacheTells", spec := "cacheTells", apart := false }
def CacheTellsSaid : Prop := cacheTellsRow.holds Try.pinned (OpenSpec.ofChange cacheTellsSpec)

/-- ITS FALSE NEIGHBOUR: 'it returns false'. Refute it at one input. -/
def cacheTellsWrong : ChangeSpec := { name := "cacheTells", fn := fun _ => fun
  | [d1, d2] => { results := [.lit (.bool false)], args := [d1, d2] }
  | _ => none }
def CacheTellsWrongFalsely : Prop := cacheTellsRow.holds Try.pinned (OpenSpec.ofChange cacheTellsWrong)

/-- 'decklelaw23.CacheShrinks': WHATEVER THE INPUT: true; the input reads as it did. -/
def cacheShrinksSpec : ChangeSpec := { name := "cacheShrinks", fn := fun _ => fun
  | [d1, d2, d3] => { results := [.lit (.bool true)], args := [d1, d2, d3] }
  | _ => none }
def cacheShrinksRow : OpenClaim := { program := "ytcoojeeblgpfjaa", sum := "92a83efa53c703e399d5fc69a549d132ea5e7b022274b9f1180685aab56cf8c7", func := "deckle/decklelaw23.CacheShrinks", spec := "cacheShrinks", apart := false }
def CacheShrinksSaid : Prop := cacheShrinksRow.holds Try.pinned (OpenSpec.ofChange cacheShrinksSpec)

/-- ITS FALSE NEIGHBOUR: 'it returns false'. Refute it at one input. -/
def cacheShrinksWrong : ChangeSpec := { name := "cacheShrinks", fn := fun _ => fun
  | [d1, d2, d3] => { results := [.lit (.bool false)], args := [d1, d2, d3] }
  | _ => none }
def CacheShrinksWrongFalsely : Prop := cacheShrinksRow.holds Try.pinned (OpenSpec.ofChange cacheShrinksWrong)

/-- 'decklelaw23.CacheNeeds': WHATEVER THE INPUT: true; the input reads as it did. -/
def cacheNeedsSpec : ChangeSpec := { name := "cacheNeeds", fn := fun _ => fun
  | [d1, d2] => { results := [.lit (.bool true)], args := [d1, d2] }
  | _ => none }
def cacheNeedsRow : OpenClaim := { program := "ytcoojeeblgpfjaa", sum := "92a83efa53c703e399d5fc69a549d132ea5e7b022274b9f1180685aab56cf8c7", func := "deckle/decklelaw23.CacheNeeds", spec := "cacheNeeds", apart := false }
def CacheNeedsSaid : Prop := cacheNeedsRow.holds Try.pinned (OpenSpec.ofChange cacheNeedsSpec)

/-- ITS FALSE NEIGHBOUR: 'it returns false'. Refute it at one input. -/
def cacheNeedsWrong : ChangeSpec := { name := "cacheNeeds", fn := fun _ => fun
  | [d1, d2] => { results := [.lit (.bool false)], args := [d1, d2] }
  | _ => none }
def CacheNeedsWrongFalsely : Prop := cacheNeedsRow.holds Try.pinned (OpenSpec.ofChange cacheNeedsWrong)

/-- 'decklelaw06.GeomNumbers': WHATEVER THE INPUT: true; the input reads as it did. -/
def geomNumbersSpec : ChangeSpec := { name := "geomNumbers", fn := fun _ => fun
  | [d1, d2, d3] => { results := [.lit (.bool true)], args := [d1, d2, d3] }
  | _ => none }
def geomNumbersRow : OpenClaim := { program := "ytcoojeeblgpfjaa", sum := "92a83efa53c703e399d5fc69a549d132ea5e7b022274b9f1180685aab56cf8c7", func := "deckle/decklelaw06.GeomNumbers", spec := "geomNumbers", apart := false }
def GeomNumbersSaid : Prop := geomNumbersRow.holds Try.pinned (OpenSpec.ofChange geomNumbersSpec)

/-- ITS FALSE NEIGHBOUR: 'it returns false'. Refute it at one input. -/
def geomNumbersWrong : ChangeSpec := { name := "geomNumbers", fn := fun _ => fun
  | [d1, d2, d3] => { results := [.lit (.bool false)], args := [d1, d2, d3] }
  | _ => none }
def GeomNumbersWrongFalsely : Prop := geomNumbersRow.holds Try.pinned (OpenSpec.ofChange geomNumbersWrong)

/-- 'decklelaw06.GeomBack': WHATEVER THE INPUT: true; the input reads as it did. -/
def geomBackSpec : ChangeSpec := { name := "geomBack", fn := fun _ => fun
  | [d1, d2, d3] => { results := [.lit (.bool true)], args := [d1, d2, d3] }
  | _ => none }
def geomBackRow : OpenClaim := { program := "ytcoojeeblgpfjaa", sum := "92a83efa53c703e399d5fc69a549d132ea5e7b022274b9f1180685aab56cf8c7", func := "deckle/decklelaw06.GeomBack", spec := "geomBack", apart := false }
def GeomBackSaid : Prop := geomBackRow.holds Try.pinned (OpenSpec.ofChange geomBackSpec)

/-- ITS FALSE NEIGHBOUR: 'it returns false'. Refute it at one input. -/
def geomBackWrong : ChangeSpec := { name := "geomBack", fn := fun _ => fun
  | [d1, d2, d3] => { results := [.lit (.bool false)], args := [d1, d2, d3] }
  | _ => none }
def GeomBackWrongFalsely : Prop := geomBackRow.holds Try.pinned (OpenSpec.ofChange geomBackWrong)

/- THE SECOND FORM. 'bulk': how many values and letters a reading holds, each counted each time it is reached (what is shared counts as often as it is met; a slice's spare places count too). A statement '..UptoSaid' is the law's where the arguments, and the package variables that the reading takes, are together of bulk at most 1048576: NARROWER than '..Said'. Prove '..Said' where nothing that the law and all that it calls make is longer than what came in: it says more and counts as full. Else prove '..UptoSaid'. A law counts once. -/
mutual
def uptoBulk {H : Type} : DataW H → Nat
  | .lit (.string bytes) => bytes.length + 1
  | .lit _ => 1
  | .nil => 1
  | .ptr d => uptoBulk d + 1
  | .slice elems spare => uptoBulkAll elems + uptoBulkAll spare + 1
  | .agg parts => uptoBulkAll parts + 1
  | .iface _ d => uptoBulk d + 1
  | .map entries => uptoBulkEntries entries + 1
  | .held _ => 1
def uptoBulkAll {H : Type} : List (DataW H) → Nat
  | [] => 0
  | d :: r => uptoBulk d + uptoBulkAll r
def uptoBulkEntries {H : Type} : List (Lit × DataW H) → Nat
  | [] => 0
  | x :: r => uptoBulkEntry x + uptoBulkEntries r
def uptoBulkEntry {H : Type} : Lit × DataW H → Nat
  | (.string bytes, d) => bytes.length + uptoBulk d + 1
  | (_, d) => uptoBulk d + 1
 end
def uptoSmall : (H : Type) → List (DataW H) → Bool := fun _ ds => decide (uptoBulkAll ds ≤ 1048576)
def OpenSpec.upto (s : _root_.Go.ChangeSpec) : _root_.Go.OpenSpec := { _root_.Go.OpenSpec.ofChange s with cond := some uptoSmall }

/-- 'decklelaw06.GeomRoom', WHERE WHAT IT READS IS OF BULK AT MOST 1048576: true; the input reads as it did. -/
def geomRoomUptoRow : OpenClaim := { program := "ytcoojeeblgpfjaa", sum := "92a83efa53c703e399d5fc69a549d132ea5e7b022274b9f1180685aab56cf8c7", func := "deckle/decklelaw06.GeomRoom", spec := "geomRoom", apart := false, narrowed := true }
def GeomRoomUptoSaid : Prop := geomRoomUptoRow.holds Try.pinned (OpenSpec.upto geomRoomSpec)

/-- 'decklelaw06.GeomChecks', WHERE WHAT IT READS IS OF BULK AT MOST 1048576: true; the input reads as it did. -/
def geomChecksUptoRow : OpenClaim := { program := "ytcoojeeblgpfjaa", sum := "92a83efa53c703e399d5fc69a549d132ea5e7b022274b9f1180685aab56cf8c7", func := "deckle/decklelaw06.GeomChecks", spec := "geomChecks", apart := false, narrowed := true }
def GeomChecksUptoSaid : Prop := geomChecksUptoRow.holds Try.pinned (OpenSpec.upto geomChecksSpec)

/-- 'decklelaw06.GeomLeft', WHERE WHAT IT READS IS OF BULK AT MOST 1048576: true; the input reads as it did. -/
def geomLeftUptoRow : OpenClaim := { program := "ytcoojeeblgpfjaa", sum := "92a83efa53c703e399d5fc69a549d132ea5e7b022274b9f1180685aab56cf8c7", func := "deckle/decklelaw06.GeomLeft", spec := "geomLeft", apart := false, narrowed := true }
def GeomLeftUptoSaid : Prop := geomLeftUptoRow.holds Try.pinned (OpenSpec.upto geomLeftSpec)

/-- 'decklelaw23.CacheTells', WHERE WHAT IT READS IS OF BULK AT MOST 1048576: true; the input reads as it did. -/
def cacheTellsUptoRow : OpenClaim := { program := "ytcoojeeblgpfjaa", sum := "92a83efa53c703e399d5fc69a549d132ea5e7b022274b9f1180685aab56cf8c7", func := "deckle/decklelaw23.CacheTells", spec := "cacheTells", apart := false, narrowed := true }
def CacheTellsUptoSaid : Prop := cacheTellsUptoRow.holds Try.pinned (OpenSpec.upto cacheTellsSpec)

/-- 'decklelaw23.CacheShrinks', WHERE WHAT IT READS IS OF BULK AT MOST 1048576: true; the input reads as it did. -/
def cacheShrinksUptoRow : OpenClaim := { program := "ytcoojeeblgpfjaa", sum := "92a83efa53c703e399d5fc69a549d132ea5e7b022274b9f1180685aab56cf8c7", func := "deckle/decklelaw23.CacheShrinks", spec := "cacheShrinks", apart := false, narrowed := true }
def CacheShrinksUptoSaid : Prop := cacheShrinksUptoRow.holds Try.pinned (OpenSpec.upto cacheShrinksSpec)

/-- 'decklelaw23.CacheNeeds', WHERE WHAT IT READS IS OF BULK AT MOST 1048576: true; the input reads as it did. -/
def cacheNeedsUptoRow : OpenClaim := { program := "ytcoojeeblgpfjaa", sum := "92a83efa53c703e399d5fc69a549d132ea5e7b022274b9f1180685aab56cf8c7", func := "deckle/decklelaw23.CacheNeeds", spec := "cacheNeeds", apart := false, narrowed := true }
def CacheNeedsUptoSaid : Prop := cacheNeedsUptoRow.holds Try.pinned (OpenSpec.upto cacheNeedsSpec)

/-- 'decklelaw06.GeomNumbers', WHERE WHAT IT READS IS OF BULK AT MOST 1048576: true; the input reads as it did. -/
def geomNumbersUptoRow : OpenClaim := { program := "ytcoojeeblgpfjaa", sum := "92a83efa53c703e399d5fc69a549d132ea5e7b022274b9f1180685aab56cf8c7", func := "deckle/decklelaw06.GeomNumbers", spec := "geomNumbers", apart := false, narrowed := true }
def GeomNumbersUptoSaid : Prop := geomNumbersUptoRow.holds Try.pinned (OpenSpec.upto geomNumbersSpec)

/-- 'decklelaw06.GeomBack', WHERE WHAT IT READS IS OF BULK AT MOST 1048576: true; the input reads as it did. -/
def geomBackUptoRow : OpenClaim := { program := "ytcoojeeblgpfjaa", sum := "92a83efa53c703e399d5fc69a549d132ea5e7b022274b9f1180685aab56cf8c7", func := "deckle/decklelaw06.GeomBack", spec := "geomBack", apart := false, narrowed := true }
def GeomBackUptoSaid : Prop := geomBackUptoRow.holds Try.pinned (OpenSpec.upto geomBackSpec)

end Rows
end Go.Proofs.Ytcoojeeblgpfjaa
