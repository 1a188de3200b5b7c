/-
  No cell of these rows narrows 'for every input' (looked for: loops, veiled, ifaces, maps, wideKeys, modest, calm, conditions, laid).
  DERIVED. THE GIVEN ROWS OF THIS SEAT. 7 by the template 'for every input the law returns true; each argument reads behind the call as it read before'; 0 by the template 'total and deterministic' (their statements: YtiblpienmkjmgaaTotals.lean).
  GIVEN WITH THE SEED: the statements are not yours to turn. If you find one false, say at which input.
  Laid BY PROGRAM, IN A SANDBOX (cutbox-rows.mjs): the forced cells as the released guide's own fill.sh prints them over the translation 19c3ec000058c705… (all of the seat's roots in one cut). By AI agents, Wed Nov 11 2026. No macro, syntax, notation, axiom, sorry.
-/
import Derived.Test.YtiblpienmkjmgaaChecked
import GoSem.Claim
import GoSem.ClaimJoined
import GoSem.ClaimMapViews
import Derived.JoinedTies
import Derived.KernelRfl
namespace Go.Proofs.Ytiblpienmkjmgaa
/- THE CELL 'sum', in the pinned program and in every row, IS THE sha256 OF THE DUMP (.gsa) THAT YtiblpienmkjmgaaProg.lean LOADS. Nothing in Lean hashes anything: it is a label: what it is worth is what the hold of that sum in a sandbox is worth. -/
noncomputable def Try.pinned : Pinned := { name := "ytiblpienmkjmgaa", sum := "19c3ec000058c705af48c903f12e237ea163da6d02c50872b8becdd3267b061d", checked := Try.checked }
namespace Rows
def none {H : Type} : Left H := { results := [], args := [] }

/-- 'decklelaw19.PmapMoves': WHATEVER THE INPUT: true; the input reads as it did. -/
def pmapMovesSpec : ChangeSpec := { name := "pmapMoves", fn := fun _ => fun
  | [d1, d2] => { results := [.lit (.bool true)], args := [d1, d2] }
  | _ => none }
def pmapMovesRow : OpenClaim := { program := "ytiblpienmkjmgaa", sum := "19c3ec000058c705af48c903f12e237ea163da6d02c50872b8becdd3267b061d", func := "deckle/decklelaw19.PmapMoves", spec := "pmapMoves", plainKeys := false, apart := false }
def PmapMovesSaid : Prop := pmapMovesRow.holds Try.pinned (OpenSpec.ofChange pmapMovesSpec)

/-- ITS FALSE NEIGHBOUR: 'it returns false'. Refute it at one input. -/
def pmapMovesWrong : ChangeSpec := { name := "pmapMoves", fn := fun _ => fun
  | [d1, d2] => { results := [.lit (.bool false)], args := [d1, d2] }
  | _ => none }
def PmapMovesWrongFalsely : Prop := pmapMovesRow.holds Try.pinned (OpenSpec.ofChange pmapMovesWrong)

/-- 'decklelaw19.PmapPlays': WHATEVER THE INPUT: true; the input reads as it did. -/
def pmapPlaysSpec : ChangeSpec := { name := "pmapPlays", fn := fun _ => fun
  | [d1, d2] => { results := [.lit (.bool true)], args := [d1, d2] }
  | _ => none }
def pmapPlaysRow : OpenClaim := { program := "ytiblpienmkjmgaa", sum := "19c3ec000058c705af48c903f12e237ea163da6d02c50872b8becdd3267b061d", func := "deckle/decklelaw19.PmapPlays", spec := "pmapPlays", plainKeys := false, apart := false }
def PmapPlaysSaid : Prop := pmapPlaysRow.holds Try.pinned (OpenSpec.ofChange pmapPlaysSpec)

/-- ITS FALSE NEIGHBOUR: 'it returns false'. Refute it at one input. -/
def pmapPlaysWrong : ChangeSpec := { name := "pmapPlays", fn := fun _ => fun
  | [d1, d2] => { results := [.lit (.bool false)], args := [d1, d2] }
  | _ => none }
def PmapPlaysWrongFalsely : Prop := pmapPlaysRow.holds Try.pinned (OpenSpec.ofChange pmapPlaysWrong)

/-- 'decklelaw19.PmapBack': WHATEVER THE INPUT: true; the input reads as it did. -/
def pmapBackSpec : ChangeSpec := { name := "pmapBack", fn := fun _ => fun
  | [d] => { results := [.lit (.bool true)], args := [d] }
  | _ => none }
def pmapBackRow : OpenClaim := { program := "ytiblpienmkjmgaa", sum := "19c3ec000058c705af48c903f12e237ea163da6d02c50872b8becdd3267b061d", func := "deckle/decklelaw19.PmapBack", spec := "pmapBack", plainKeys := false, apart := false }
def PmapBackSaid : Prop := pmapBackRow.holds Try.pinned (OpenSpec.ofChange pmapBackSpec)

/-- ITS FALSE NEIGHBOUR: 'it returns false'. Refute it at one input. -/
def pmapBackWrong : ChangeSpec := { name := "pmapBack", fn := fun _ => fun
  | [d] => { results := [.lit (.bool false)], args := [d] }
  | _ => none }
def PmapBackWrongFalsely : Prop := pmapBackRow.holds Try.pinned (OpenSpec.ofChange pmapBackWrong)

/-- 'decklelaw14.StateRises': WHATEVER THE INPUT: true; the input reads as it did. -/
def stateRisesSpec : ChangeSpec := { name := "stateRises", fn := fun _ => fun
  | [d] => { results := [.lit (.bool true)], args := [d] }
  | _ => none }
def stateRisesRow : OpenClaim := { program := "ytiblpienmkjmgaa", sum := "19c3ec000058c705af48c903f12e237ea163da6d02c50872b8becdd3267b061d", func := "deckle/decklelaw14.StateRises", spec := "stateRises", plainKeys := false, apart := false }
def StateRisesSaid : Prop := stateRisesRow.holds Try.pinned (OpenSpec.ofChange stateRisesSpec)

/-- ITS FALSE NEIGHBOUR: 'it returns false'. Refute it at one input. -/
def stateRisesWrong : ChangeSpec := { name := "stateRises", fn := fun _ => fun
  | [d] => { results := [.lit (.bool false)], args := [d] }
  | _ => none }
def StateRisesWrongFalsely : Prop := stateRisesRow.holds Try.pinned (OpenSpec.ofChange stateRisesWrong)

/-- 'decklelaw14.StateOrder': WHATEVER THE INPUT: true; the input reads as it did. -/
def stateOrderSpec : ChangeSpec := { name := "stateOrder", fn := fun _ => fun
  | [d1, d2] => { results := [.lit (.bool true)], args := [d1, d2] }
  | _ => none }
def stateOrderRow : OpenClaim := { program := "ytiblpienmkjmgaa", sum := "19c3ec000058c705af48c903f12e237ea163da6d02c50872b8becdd3267b061d", func := "deckle/decklelaw14.StateOrder", spec := "stateOrder", plainKeys := false, apart := false }
def StateOrderSaid : Prop := stateOrderRow.holds Try.pinned (OpenSpec.ofChange stateOrderSpec)

/-- ITS FALSE NEIGHBOUR: 'it returns false'. Refute it at one input. -/
def stateOrderWrong : ChangeSpec := { name := "stateOrder", fn := fun _ => fun
  | [d1, d2] => { results := [.lit (.bool false)], args := [d1, d2] }
  | _ => none }
def StateOrderWrongFalsely : Prop := stateOrderRow.holds Try.pinned (OpenSpec.ofChange stateOrderWrong)

/-- 'decklelaw14.StateApplies': WHATEVER THE INPUT: true; the input reads as it did. -/
def stateAppliesSpec : ChangeSpec := { name := "stateApplies", fn := fun _ => fun
  | [d1, d2, d3] => { results := [.lit (.bool true)], args := [d1, d2, d3] }
  | _ => none }
def stateAppliesRow : OpenClaim := { program := "ytiblpienmkjmgaa", sum := "19c3ec000058c705af48c903f12e237ea163da6d02c50872b8becdd3267b061d", func := "deckle/decklelaw14.StateApplies", spec := "stateApplies", plainKeys := false, apart := false }
def StateAppliesSaid : Prop := stateAppliesRow.holds Try.pinned (OpenSpec.ofChange stateAppliesSpec)

/-- ITS FALSE NEIGHBOUR: 'it returns false'. Refute it at one input. -/
def stateAppliesWrong : ChangeSpec := { name := "stateApplies", fn := fun _ => fun
  | [d1, d2, d3] => { results := [.lit (.bool false)], args := [d1, d2, d3] }
  | _ => none }
def StateAppliesWrongFalsely : Prop := stateAppliesRow.holds Try.pinned (OpenSpec.ofChange stateAppliesWrong)

/-- 'decklelaw14.StateOf': WHATEVER THE INPUT: true; the input reads as it did. -/
def stateOfSpec : ChangeSpec := { name := "stateOf", fn := fun _ => fun
  | [d1, d2, d3] => { results := [.lit (.bool true)], args := [d1, d2, d3] }
  | _ => none }
def stateOfRow : OpenClaim := { program := "ytiblpienmkjmgaa", sum := "19c3ec000058c705af48c903f12e237ea163da6d02c50872b8becdd3267b061d", func := "deckle/decklelaw14.StateOf", spec := "stateOf", plainKeys := false, apart := false }
def StateOfSaid : Prop := stateOfRow.holds Try.pinned (OpenSpec.ofChange stateOfSpec)

/-- ITS FALSE NEIGHBOUR: 'it returns false'. Refute it at one input. -/
def stateOfWrong : ChangeSpec := { name := "stateOf", fn := fun _ => fun
  | [d1, d2, d3] => { results := [.lit (.bool false)], args := [d1, d2, d3] }
  | _ => none }
def StateOfWrongFalsely : Prop := stateOfRow.holds Try.pinned (OpenSpec.ofChange stateOfWrong)

/- THE SECOND FORM. 'bulk': how many values and letters a reading holds, each counted each time it is reached (what is shared counts as often as it is met; a slice's spare places count too). A statement '..UptoSaid' is the law's where the arguments, and the package variables that the reading takes, are together of bulk at most 1048576: NARROWER than '..Said'. Prove '..Said' where nothing that the law and all that it calls make is longer than what came in: it says more and counts as full. Else prove '..UptoSaid'. A law counts once. -/
mutual
def uptoBulk {H : Type} : DataW H → Nat
  | .lit (.string bytes) => bytes.length + 1
  | .lit _ => 1
  | .nil => 1
  | .ptr d => uptoBulk d + 1
  | .slice elems spare => uptoBulkAll elems + uptoBulkAll spare + 1
  | .agg parts => uptoBulkAll parts + 1
  | .iface _ d => uptoBulk d + 1
  | .map entries => uptoBulkEntries entries + 1
  | .held _ => 1
def uptoBulkAll {H : Type} : List (DataW H) → Nat
  | [] => 0
  | d :: r => uptoBulk d + uptoBulkAll r
def uptoBulkEntries {H : Type} : List (Lit × DataW H) → Nat
  | [] => 0
  | x :: r => uptoBulkEntry x + uptoBulkEntries r
def uptoBulkEntry {H : Type} : Lit × DataW H → Nat
  | (.string bytes, d) => bytes.length + uptoBulk d + 1
  | (_, d) => uptoBulk d + 1
 end
def uptoSmall : (H : Type) → List (DataW H) → Bool := fun _ ds => decide (uptoBulkAll ds ≤ 1048576)
def OpenSpec.upto (s : _root_.Go.ChangeSpec) : _root_.Go.OpenSpec := { _root_.Go.OpenSpec.ofChange s with cond := some uptoSmall }

/-- 'decklelaw19.PmapMoves', WHERE WHAT IT READS IS OF BULK AT MOST 1048576: true; the input reads as it did. -/
def pmapMovesUptoRow : OpenClaim := { program := "ytiblpienmkjmgaa", sum := "19c3ec000058c705af48c903f12e237ea163da6d02c50872b8becdd3267b061d", func := "deckle/decklelaw19.PmapMoves", spec := "pmapMoves", plainKeys := false, apart := false, narrowed := true }
def PmapMovesUptoSaid : Prop := pmapMovesUptoRow.holds Try.pinned (OpenSpec.upto pmapMovesSpec)

/-- 'decklelaw19.PmapPlays', WHERE WHAT IT READS IS OF BULK AT MOST 1048576: true; the input reads as it did. -/
def pmapPlaysUptoRow : OpenClaim := { program := "ytiblpienmkjmgaa", sum := "19c3ec000058c705af48c903f12e237ea163da6d02c50872b8becdd3267b061d", func := "deckle/decklelaw19.PmapPlays", spec := "pmapPlays", plainKeys := false, apart := false, narrowed := true }
def PmapPlaysUptoSaid : Prop := pmapPlaysUptoRow.holds Try.pinned (OpenSpec.upto pmapPlaysSpec)

/-- 'decklelaw19.PmapBack', WHERE WHAT IT READS IS OF BULK AT MOST 1048576: true; the input reads as it did. -/
def pmapBackUptoRow : OpenClaim := { program := "ytiblpienmkjmgaa", sum := "19c3ec000058c705af48c903f12e237ea163da6d02c50872b8becdd3267b061d", func := "deckle/decklelaw19.PmapBack", spec := "pmapBack", plainKeys := false, apart := false, narrowed := true }
def PmapBackUptoSaid : Prop := pmapBackUptoRow.holds Try.pinned (OpenSpec.upto pmapBackSpec)

/-- 'decklelaw14.StateRises', WHERE WHAT IT READS IS OF BULK AT MOST 1048576: true; the input reads as it did. -/
def stateRisesUptoRow : OpenClaim := { program := "ytiblpienmkjmgaa", sum := "19c3ec000058c705af48c903f12e237ea163da6d02c50872b8becdd3267b061d", func := "deckle/decklelaw14.StateRises", spec := "stateRises", plainKeys := false, apart := false, narrowed := true }
def StateRisesUptoSaid : Prop := stateRisesUptoRow.holds Try.pinned (OpenSpec.upto stateRisesSpec)

/-- 'decklelaw14.StateOrder', WHERE WHAT IT READS IS OF BULK AT MOST 1048576: true; the input reads as it did. -/
def stateOrderUptoRow : OpenClaim := { program := "ytiblpienmkjmgaa", sum := "19c3ec000058c705af48c903f12e237ea163da6d02c50872b8becdd3267b061d", func := "deckle/decklelaw14.StateOrder", spec := "stateOrder", plainKeys := false, apart := false, narrowed := true }
def StateOrderUptoSaid : Prop := stateOrderUptoRow.holds Try.pinned (OpenSpec.upto stateOrderSpec)

/-- 'decklelaw14.StateApplies', WHERE WHAT IT READS IS OF BULK AT MOST 1048576: true; the input reads as it did. -/
def stateAppliesUptoRow : OpenClaim := { program := "ytiblpienmkjmgaa", sum := "19c3ec000058c705af48c903f12e237ea163da6d02c50872b8becdd3267b061d", func := "deckle/decklelaw14.StateApplies", spec := "stateApplies", plainKeys := false, apart := false, narrowed := true }
def StateAppliesUptoSaid : Prop := stateAppliesUptoRow.holds Try.pinned (OpenSpec.upto stateAppliesSpec)

/-- 'decklelaw14.StateOf', WHERE WHAT IT READS IS OF BULK AT MOST 1048576: true; the input reads as it did. -/
def stateOfUptoRow : OpenClaim := { program := "ytiblpienmkjmgaa", sum := "19c3ec000058c705af48c903f12e237ea163da6d02c50872b8becdd3267b061d", func := "deckle/decklelaw14.StateOf", spec := "stateOf", plainKeys := false, apart := false, narrowed := true }
def StateOfUptoSaid : Prop := stateOfUptoRow.holds Try.pinned (OpenSpec.upto stateOfSpec)

end Rows
end Go.Proofs.Ytiblpienmkjmgaa
