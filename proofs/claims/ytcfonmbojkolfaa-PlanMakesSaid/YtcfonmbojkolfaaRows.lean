/-
  No cell of these rows narrows 'for every input' (looked for: loops, veiled, ifaces, maps, wideKeys, modest, calm, conditions, laid).
  DERIVED. THE GIVEN ROWS OF THIS SEAT. 6 by the template 'for every input the law returns true; each argument reads behind the call as it read before'; 0 by the template 'total and deterministic' (their statements: YtcfonmbojkolfaaTotals.lean).
  GIVEN WITH THE SEED: the statements are not yours to turn. If you find one false, say at which input.
  Laid BY PROGRAM, IN A SANDBOX (cutbox-rows.mjs): the forced cells as the released guide's own fill.sh prints them over the translation 6c3fba58219f5ccd… (all of the seat's roots in one cut). By AI agents, Wed Nov 11 2026. No macro, syntax, notation, axiom, sorry.
-/
import Derived.Test.YtcfonmbojkolfaaChecked
import GoSem.Claim
import GoSem.ClaimJoined
import GoSem.ClaimMapViews
import Derived.JoinedTies
import Derived.KernelRfl
namespace Go.Proofs.Ytcfonmbojkolfaa
/- THE CELL 'sum', in the pinned program and in every row, IS THE sha256 OF THE DUMP (.gsa) THAT YtcfonmbojkolfaaProg.lean LOADS. Nothing in Lean hashes anything: it is a label: what it is worth is what the hold of that sum in a sandbox is worth. -/
noncomputable def Try.pinned : Pinned := { name := "ytcfonmbojkolfaa", sum := "6c3fba58219f5ccd2851416d73d5983b07c556820308cc67330f2acbdc7a59e2", checked := Try.checked }
namespace Rows
def none {H : Type} : Left H := { results := [], args := [] }

/-- 'decklelaw25.PlanFits': WHATEVER THE INPUT: true; the input reads as it did. -/
def planFitsSpec : ChangeSpec := { name := "planFits", fn := fun _ => fun
  | [d1, d2] => { results := [.lit (.bool true)], args := [d1, d2] }
  | _ => none }
def planFitsRow : OpenClaim := { program := "ytcfonmbojkolfaa", sum := "6c3fba58219f5ccd2851416d73d5983b07c556820308cc67330f2acbdc7a59e2", func := "deckle/decklelaw25.PlanFits", spec := "planFits", unfollowed := true, recurses := true, plainKeys := false, apart := false }
def PlanFitsSaid : Prop := planFitsRow.holds Try.pinned (OpenSpec.ofChange planFitsSpec)

/-- ITS FALSE NEIGHBOUR: 'it returns false'. Refute it at one input. -/
def planFitsWrong : ChangeSpec := { name := "planFits", fn := fun _ => fun
  | [d1, d2] => { results := [.lit (.bool false)], args := [d1, d2] }
  | _ => none }
def PlanFitsWrongFalsely : Prop := planFitsRow.holds Try.pinned (OpenSpec.ofChange planFitsWrong)

/-- 'decklelaw25.PlanOnce': WHATEVER THE INPUT: true; the input reads as it did. -/
def planOnceSpec : ChangeSpec := { name := "planOnce", fn := fun _ => fun
  | [d1, d2] => { results := [.lit (.bool true)], args := [d1, d2] }
  | _ => none }
def planOnceRow : OpenClaim := { program := "ytcfonmbojkolfaa", sum := "6c3fba58219f5ccd2851416d73d5983b07c556820308cc67330f2acbdc7a59e2", func := "deckle/decklelaw25.PlanOnce", spec := "planOnce", unfollowed := true, recurses := true, plainKeys := false, apart := false }
def PlanOnceSaid : Prop := planOnceRow.holds Try.pinned (OpenSpec.ofChange planOnceSpec)

/-- ITS FALSE NEIGHBOUR: 'it returns false'. Refute it at one input. -/
def planOnceWrong : ChangeSpec := { name := "planOnce", fn := fun _ => fun
  | [d1, d2] => { results := [.lit (.bool false)], args := [d1, d2] }
  | _ => none }
def PlanOnceWrongFalsely : Prop := planOnceRow.holds Try.pinned (OpenSpec.ofChange planOnceWrong)

/-- 'decklelaw25.PlanMakes': WHATEVER THE INPUT: true; the input reads as it did. -/
def planMakesSpec : ChangeSpec := { name := "planMakes", fn := fun _ => fun
  | [d1, d2, d3] => { results := [.lit (.bool true)], args := [d1, d2, d3] }
  | _ => none }
def planMakesRow : OpenClaim := { program := "ytcfonmbojkolfaa", sum := "6c3fba58219f5ccd2851416d73d5983b07c556820308cc67330f2acbdc7a59e2", func := "deckle/decklelaw25.PlanMakes", spec := "planMakes", unfollowed := true, recurses := true, plainKeys := false, apart := false }
def PlanMakesSaid : Prop := planMakesRow.holds Try.pinned (OpenSpec.ofChange planMakesSpec)

/-- ITS FALSE NEIGHBOUR: 'it returns false'. Refute it at one input. -/
def planMakesWrong : ChangeSpec := { name := "planMakes", fn := fun _ => fun
  | [d1, d2, d3] => { results := [.lit (.bool false)], args := [d1, d2, d3] }
  | _ => none }
def PlanMakesWrongFalsely : Prop := planMakesRow.holds Try.pinned (OpenSpec.ofChange planMakesWrong)

/-- 'decklelaw41.LoadNumbers': WHATEVER THE INPUT: true; the input reads as it did. -/
def loadNumbersSpec : ChangeSpec := { name := "loadNumbers", fn := fun _ => fun
  | [d1, d2] => { results := [.lit (.bool true)], args := [d1, d2] }
  | _ => none }
def loadNumbersRow : OpenClaim := { program := "ytcfonmbojkolfaa", sum := "6c3fba58219f5ccd2851416d73d5983b07c556820308cc67330f2acbdc7a59e2", func := "deckle/decklelaw41.LoadNumbers", spec := "loadNumbers", plainKeys := false, apart := false }
def LoadNumbersSaid : Prop := loadNumbersRow.holds Try.pinned (OpenSpec.ofChange loadNumbersSpec)

/-- ITS FALSE NEIGHBOUR: 'it returns false'. Refute it at one input. -/
def loadNumbersWrong : ChangeSpec := { name := "loadNumbers", fn := fun _ => fun
  | [d1, d2] => { results := [.lit (.bool false)], args := [d1, d2] }
  | _ => none }
def LoadNumbersWrongFalsely : Prop := loadNumbersRow.holds Try.pinned (OpenSpec.ofChange loadNumbersWrong)

/-- 'decklelaw41.LoadMay': WHATEVER THE INPUT: true; the input reads as it did. -/
def loadMaySpec : ChangeSpec := { name := "loadMay", fn := fun _ => fun
  | [d1, d2, d3] => { results := [.lit (.bool true)], args := [d1, d2, d3] }
  | _ => none }
def loadMayRow : OpenClaim := { program := "ytcfonmbojkolfaa", sum := "6c3fba58219f5ccd2851416d73d5983b07c556820308cc67330f2acbdc7a59e2", func := "deckle/decklelaw41.LoadMay", spec := "loadMay", plainKeys := false, apart := false }
def LoadMaySaid : Prop := loadMayRow.holds Try.pinned (OpenSpec.ofChange loadMaySpec)

/-- ITS FALSE NEIGHBOUR: 'it returns false'. Refute it at one input. -/
def loadMayWrong : ChangeSpec := { name := "loadMay", fn := fun _ => fun
  | [d1, d2, d3] => { results := [.lit (.bool false)], args := [d1, d2, d3] }
  | _ => none }
def LoadMayWrongFalsely : Prop := loadMayRow.holds Try.pinned (OpenSpec.ofChange loadMayWrong)

/-- 'decklelaw41.LoadSame': WHATEVER THE INPUT: true; the input reads as it did. -/
def loadSameSpec : ChangeSpec := { name := "loadSame", fn := fun _ => fun
  | [d1, d2, d3] => { results := [.lit (.bool true)], args := [d1, d2, d3] }
  | _ => none }
def loadSameRow : OpenClaim := { program := "ytcfonmbojkolfaa", sum := "6c3fba58219f5ccd2851416d73d5983b07c556820308cc67330f2acbdc7a59e2", func := "deckle/decklelaw41.LoadSame", spec := "loadSame", unfollowed := true, recurses := true, plainKeys := false, apart := false }
def LoadSameSaid : Prop := loadSameRow.holds Try.pinned (OpenSpec.ofChange loadSameSpec)

/-- ITS FALSE NEIGHBOUR: 'it returns false'. Refute it at one input. -/
def loadSameWrong : ChangeSpec := { name := "loadSame", fn := fun _ => fun
  | [d1, d2, d3] => { results := [.lit (.bool false)], args := [d1, d2, d3] }
  | _ => none }
def LoadSameWrongFalsely : Prop := loadSameRow.holds Try.pinned (OpenSpec.ofChange loadSameWrong)

/- THE SECOND FORM. 'bulk': how many values and letters a reading holds, each counted each time it is reached (what is shared counts as often as it is met; a slice's spare places count too). A statement '..UptoSaid' is the law's where the arguments, and the package variables that the reading takes, are together of bulk at most 1048576: NARROWER than '..Said'. Prove '..Said' where nothing that the law and all that it calls make is longer than what came in: it says more and counts as full. Else prove '..UptoSaid'. A law counts once. -/
mutual
def uptoBulk {H : Type} : DataW H → Nat
  | .lit (.string bytes) => bytes.length + 1
  | .lit _ => 1
  | .nil => 1
  | .ptr d => uptoBulk d + 1
  | .slice elems spare => uptoBulkAll elems + uptoBulkAll spare + 1
  | .agg parts => uptoBulkAll parts + 1
  | .iface _ d => uptoBulk d + 1
  | .map entries => uptoBulkEntries entries + 1
  | .held _ => 1
def uptoBulkAll {H : Type} : List (DataW H) → Nat
  | [] => 0
  | d :: r => uptoBulk d + uptoBulkAll r
def uptoBulkEntries {H : Type} : List (Lit × DataW H) → Nat
  | [] => 0
  | x :: r => uptoBulkEntry x + uptoBulkEntries r
def uptoBulkEntry {H : Type} : Lit × DataW H → Nat
  | (.string bytes, d) => bytes.length + uptoBulk d + 1
  | (_, d) => uptoBulk d + 1
 end
def uptoSmall : (H : Type) → List (DataW H) → Bool := fun _ ds => decide (uptoBulkAll ds ≤ 1048576)
def OpenSpec.upto (s : _root_.Go.ChangeSpec) : _root_.Go.OpenSpec := { _root_.Go.OpenSpec.ofChange s with cond := some uptoSmall }

/-- 'decklelaw25.PlanFits', WHERE WHAT IT READS IS OF BULK AT MOST 1048576: true; the input reads as it did. -/
def planFitsUptoRow : OpenClaim := { program := "ytcfonmbojkolfaa", sum := "6c3fba58219f5ccd2851416d73d5983b07c556820308cc67330f2acbdc7a59e2", func := "deckle/decklelaw25.PlanFits", spec := "planFits", unfollowed := true, recurses := true, plainKeys := false, apart := false, narrowed := true }
def PlanFitsUptoSaid : Prop := planFitsUptoRow.holds Try.pinned (OpenSpec.upto planFitsSpec)

/-- 'decklelaw25.PlanOnce', WHERE WHAT IT READS IS OF BULK AT MOST 1048576: true; the input reads as it did. -/
def planOnceUptoRow : OpenClaim := { program := "ytcfonmbojkolfaa", sum := "6c3fba58219f5ccd2851416d73d5983b07c556820308cc67330f2acbdc7a59e2", func := "deckle/decklelaw25.PlanOnce", spec := "planOnce", unfollowed := true, recurses := true, plainKeys := false, apart := false, narrowed := true }
def PlanOnceUptoSaid : Prop := planOnceUptoRow.holds Try.pinned (OpenSpec.upto planOnceSpec)

/-- 'decklelaw25.PlanMakes', WHERE WHAT IT READS IS OF BULK AT MOST 1048576: true; the input reads as it did. -/
def planMakesUptoRow : OpenClaim := { program := "ytcfonmbojkolfaa", sum := "6c3fba58219f5ccd2851416d73d5983b07c556820308cc67330f2acbdc7a59e2", func := "deckle/decklelaw25.PlanMakes", spec := "planMakes", unfollowed := true, recurses := true, plainKeys := false, apart := false, narrowed := true }
def PlanMakesUptoSaid : Prop := planMakesUptoRow.holds Try.pinned (OpenSpec.upto planMakesSpec)

/-- 'decklelaw41.LoadNumbers', WHERE WHAT IT READS IS OF BULK AT MOST 1048576: true; the input reads as it did. -/
def loadNumbersUptoRow : OpenClaim := { program := "ytcfonmbojkolfaa", sum := "6c3fba58219f5ccd2851416d73d5983b07c556820308cc67330f2acbdc7a59e2", func := "deckle/decklelaw41.LoadNumbers", spec := "loadNumbers", plainKeys := false, apart := false, narrowed := true }
def LoadNumbersUptoSaid : Prop := loadNumbersUptoRow.holds Try.pinned (OpenSpec.upto loadNumbersSpec)

/-- 'decklelaw41.LoadMay', WHERE WHAT IT READS IS OF BULK AT MOST 1048576: true; the input reads as it did. -/
def loadMayUptoRow : OpenClaim := { program := "ytcfonmbojkolfaa", sum := "6c3fba58219f5ccd2851416d73d5983b07c556820308cc67330f2acbdc7a59e2", func := "deckle/decklelaw41.LoadMay", spec := "loadMay", plainKeys := false, apart := false, narrowed := true }
def LoadMayUptoSaid : Prop := loadMayUptoRow.holds Try.pinned (OpenSpec.upto loadMaySpec)

/-- 'decklelaw41.LoadSame', WHERE WHAT IT READS IS OF BULK AT MOST 1048576: true; the input reads as it did. -/
def loadSameUptoRow : OpenClaim := { program := "ytcfonmbojkolfaa", sum := "6c3fba58219f5ccd2851416d73d5983b07c556820308cc67330f2acbdc7a59e2", func := "deckle/decklelaw41.LoadSame", spec := "loadSame", unfollowed := true, recurses := true, plainKeys := false, apart := false, narrowed := true }
def LoadSameUptoSaid : Prop := loadSameUptoRow.holds Try.pinned (OpenSpec.upto loadSameSpec)

end Rows
end Go.Proofs.Ytcfonmbojkolfaa
