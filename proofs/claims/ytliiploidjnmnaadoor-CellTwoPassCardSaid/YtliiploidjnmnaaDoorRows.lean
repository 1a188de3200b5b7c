/-
  NARROWER THAN 'FOR EVERY INPUT', by the rows' own cells (each row's printed sentence says how): CellPlays: laid · CellCopies: laid · CellTwoPass: laid · CellErases: laid · CellKeeps: laid.
  DERIVED. THE GIVEN ROWS OF THIS SEAT. 5 by the template 'for every input the law returns true; each argument reads behind the call as it read before'; 0 by the template 'total and deterministic' (their statements: YtliiploidjnmnaaDoorTotals.lean).
  GIVEN WITH THE SEED: the statements are not yours to turn. If you find one false, say at which input.
  Laid BY PROGRAM, IN A SANDBOX (cutbox-rows.mjs): the forced cells as the released guide's own fill.sh prints them over the translation ecc0e3f51e36ca9c… (all of the seat's roots in one cut). By AI agents, Wed Nov 11 2026. No macro, syntax, notation, axiom, sorry.
-/
import Derived.Test.YtliiploidjnmnaaDoorChecked
import GoSem.Claim
import GoSem.ClaimJoined
import GoSem.ClaimMapViews
import Derived.JoinedTies
import Derived.KernelRfl
namespace Go.Proofs.YtliiploidjnmnaaDoor
/- THE CELL 'sum', in the pinned program and in every row, IS THE sha256 OF THE DUMP (.gsa) THAT YtliiploidjnmnaaDoorProg.lean LOADS. Nothing in Lean hashes anything: it is a label: what it is worth is what the hold of that sum in a sandbox is worth. -/
noncomputable def Tryd.pinned : Pinned := { name := "ytliiploidjnmnaadoor", sum := "ecc0e3f51e36ca9cb0f9e71212bcdeb7bb296ceed2c73cce7f340faee84521d2", checked := Tryd.checked }
namespace Rows
def none {H : Type} : Left H := { results := [], args := [] }

/- WHAT THE LISTED PACKAGE-LEVEL VARIABLES READ AS WHEN THE CALL BEGINS. Each datum BY PROGRAM (the guide's laid-datum.mjs) off the statement by which the dump's own 'gosem.cut.vars' lays the variable. In a bare row this is a premise. The card (YtliiploidjnmnaaDoorCards.lean) ties it to the program's text. -/
def laid_deckle_crc_table {H : Type} : DataW H := .agg [.lit (.int .u32 0), .lit (.int .u32 498536548), .lit (.int .u32 997073096), .lit (.int .u32 651767980), .lit (.int .u32 1994146192), .lit (.int .u32 1802195444), .lit (.int .u32 1303535960), .lit (.int .u32 1342533948), .lit (.int .u32 3988292384), .lit (.int .u32 4027552580), .lit (.int .u32 3604390888), .lit (.int .u32 3412177804), .lit (.int .u32 2607071920), .lit (.int .u32 2262029012), .lit (.int .u32 2685067896), .lit (.int .u32 3183342108)]
def laid_deckle_ham_places {H : Type} : DataW H := .agg [.lit (.int .u8 3), .lit (.int .u8 5), .lit (.int .u8 6), .lit (.int .u8 7), .lit (.int .u8 9), .lit (.int .u8 10), .lit (.int .u8 11), .lit (.int .u8 12), .lit (.int .u8 13), .lit (.int .u8 14), .lit (.int .u8 15), .lit (.int .u8 17), .lit (.int .u8 18), .lit (.int .u8 19), .lit (.int .u8 20), .lit (.int .u8 21), .lit (.int .u8 22), .lit (.int .u8 23), .lit (.int .u8 24), .lit (.int .u8 25), .lit (.int .u8 26), .lit (.int .u8 27), .lit (.int .u8 28), .lit (.int .u8 29), .lit (.int .u8 30), .lit (.int .u8 31), .lit (.int .u8 33), .lit (.int .u8 34), .lit (.int .u8 35), .lit (.int .u8 36), .lit (.int .u8 37), .lit (.int .u8 38), .lit (.int .u8 39), .lit (.int .u8 40), .lit (.int .u8 41), .lit (.int .u8 42), .lit (.int .u8 43), .lit (.int .u8 44), .lit (.int .u8 45), .lit (.int .u8 46), .lit (.int .u8 47), .lit (.int .u8 48), .lit (.int .u8 49), .lit (.int .u8 50), .lit (.int .u8 51), .lit (.int .u8 52), .lit (.int .u8 53), .lit (.int .u8 54), .lit (.int .u8 55), .lit (.int .u8 56), .lit (.int .u8 57), .lit (.int .u8 58), .lit (.int .u8 59), .lit (.int .u8 60), .lit (.int .u8 61), .lit (.int .u8 62), .lit (.int .u8 63), .lit (.int .u8 65), .lit (.int .u8 66), .lit (.int .u8 67), .lit (.int .u8 68), .lit (.int .u8 69), .lit (.int .u8 70), .lit (.int .u8 71)]
def laid_deckle_bits_clear {H : Type} : DataW H := .agg [.lit (.int .i64 4), .lit (.int .i64 3), .lit (.int .i64 3), .lit (.int .i64 2), .lit (.int .i64 3), .lit (.int .i64 2), .lit (.int .i64 2), .lit (.int .i64 1), .lit (.int .i64 3), .lit (.int .i64 2), .lit (.int .i64 2), .lit (.int .i64 1), .lit (.int .i64 2), .lit (.int .i64 1), .lit (.int .i64 1), .lit (.int .i64 0)]

/-- 'decklelaw08.CellPlays': WHATEVER THE INPUT: true; the input reads as it did. -/
def cellPlaysSpec : ChangeSpec := { name := "cellPlays", fn := fun _ => fun
  | [d1, d2, d3] => { results := [.lit (.bool true)], args := [d1, d2, d3] }
  | _ => none }
def cellPlaysRow : OpenClaim := { program := "ytliiploidjnmnaadoor", sum := "ecc0e3f51e36ca9cb0f9e71212bcdeb7bb296ceed2c73cce7f340faee84521d2", func := "deckle/decklelaw08.CellPlays", spec := "cellPlays", inPlace := ["internal/abi.NoEscape", "internal/bytealg.MakeNoZero"], unfollowed := true, recurses := true, named := ["deckle/crc.table", "deckle/ham.places"], apart := false, laid := [("deckle/crc.table", laid_deckle_crc_table), ("deckle/ham.places", laid_deckle_ham_places)] }
def CellPlaysSaid : Prop := cellPlaysRow.holds Tryd.pinned (OpenSpec.ofChange cellPlaysSpec)

/-- ITS FALSE NEIGHBOUR: 'it returns false'. Refute it at one input. -/
def cellPlaysWrong : ChangeSpec := { name := "cellPlays", fn := fun _ => fun
  | [d1, d2, d3] => { results := [.lit (.bool false)], args := [d1, d2, d3] }
  | _ => none }
def CellPlaysWrongFalsely : Prop := cellPlaysRow.holds Tryd.pinned (OpenSpec.ofChange cellPlaysWrong)

/-- 'decklelaw08.CellCopies': WHATEVER THE INPUT: true; the input reads as it did. -/
def cellCopiesSpec : ChangeSpec := { name := "cellCopies", fn := fun _ => fun
  | [d1, d2, d3] => { results := [.lit (.bool true)], args := [d1, d2, d3] }
  | _ => none }
def cellCopiesRow : OpenClaim := { program := "ytliiploidjnmnaadoor", sum := "ecc0e3f51e36ca9cb0f9e71212bcdeb7bb296ceed2c73cce7f340faee84521d2", func := "deckle/decklelaw08.CellCopies", spec := "cellCopies", inPlace := ["internal/abi.NoEscape", "internal/bytealg.MakeNoZero"], unfollowed := true, recurses := true, named := ["deckle/crc.table", "deckle/ham.places"], apart := false, laid := [("deckle/crc.table", laid_deckle_crc_table), ("deckle/ham.places", laid_deckle_ham_places)] }
def CellCopiesSaid : Prop := cellCopiesRow.holds Tryd.pinned (OpenSpec.ofChange cellCopiesSpec)

/-- ITS FALSE NEIGHBOUR: 'it returns false'. Refute it at one input. -/
def cellCopiesWrong : ChangeSpec := { name := "cellCopies", fn := fun _ => fun
  | [d1, d2, d3] => { results := [.lit (.bool false)], args := [d1, d2, d3] }
  | _ => none }
def CellCopiesWrongFalsely : Prop := cellCopiesRow.holds Tryd.pinned (OpenSpec.ofChange cellCopiesWrong)

/-- 'decklelaw08.CellTwoPass': WHATEVER THE INPUT: true; the input reads as it did. -/
def cellTwoPassSpec : ChangeSpec := { name := "cellTwoPass", fn := fun _ => fun
  | [d1, d2, d3] => { results := [.lit (.bool true)], args := [d1, d2, d3] }
  | _ => none }
def cellTwoPassRow : OpenClaim := { program := "ytliiploidjnmnaadoor", sum := "ecc0e3f51e36ca9cb0f9e71212bcdeb7bb296ceed2c73cce7f340faee84521d2", func := "deckle/decklelaw08.CellTwoPass", spec := "cellTwoPass", inPlace := ["internal/abi.NoEscape", "internal/bytealg.MakeNoZero"], unfollowed := true, recurses := true, named := ["deckle/crc.table", "deckle/ham.places", "deckle/bits.clear"], apart := false, laid := [("deckle/crc.table", laid_deckle_crc_table), ("deckle/ham.places", laid_deckle_ham_places), ("deckle/bits.clear", laid_deckle_bits_clear)] }
def CellTwoPassSaid : Prop := cellTwoPassRow.holds Tryd.pinned (OpenSpec.ofChange cellTwoPassSpec)

/-- ITS FALSE NEIGHBOUR: 'it returns false'. Refute it at one input. -/
def cellTwoPassWrong : ChangeSpec := { name := "cellTwoPass", fn := fun _ => fun
  | [d1, d2, d3] => { results := [.lit (.bool false)], args := [d1, d2, d3] }
  | _ => none }
def CellTwoPassWrongFalsely : Prop := cellTwoPassRow.holds Tryd.pinned (OpenSpec.ofChange cellTwoPassWrong)

/-- 'decklelaw08.CellErases': WHATEVER THE INPUT: true; the input reads as it did. -/
def cellErasesSpec : ChangeSpec := { name := "cellErases", fn := fun _ => fun
  | [d1, d2, d3] => { results := [.lit (.bool true)], args := [d1, d2, d3] }
  | _ => none }
def cellErasesRow : OpenClaim := { program := "ytliiploidjnmnaadoor", sum := "ecc0e3f51e36ca9cb0f9e71212bcdeb7bb296ceed2c73cce7f340faee84521d2", func := "deckle/decklelaw08.CellErases", spec := "cellErases", inPlace := ["internal/abi.NoEscape", "internal/bytealg.MakeNoZero"], unfollowed := true, recurses := true, named := ["deckle/crc.table", "deckle/ham.places", "deckle/bits.clear"], apart := false, laid := [("deckle/crc.table", laid_deckle_crc_table), ("deckle/ham.places", laid_deckle_ham_places), ("deckle/bits.clear", laid_deckle_bits_clear)] }
def CellErasesSaid : Prop := cellErasesRow.holds Tryd.pinned (OpenSpec.ofChange cellErasesSpec)

/-- ITS FALSE NEIGHBOUR: 'it returns false'. Refute it at one input. -/
def cellErasesWrong : ChangeSpec := { name := "cellErases", fn := fun _ => fun
  | [d1, d2, d3] => { results := [.lit (.bool false)], args := [d1, d2, d3] }
  | _ => none }
def CellErasesWrongFalsely : Prop := cellErasesRow.holds Tryd.pinned (OpenSpec.ofChange cellErasesWrong)

/-- 'decklelaw08.CellKeeps': WHATEVER THE INPUT: true; the input reads as it did. -/
def cellKeepsSpec : ChangeSpec := { name := "cellKeeps", fn := fun _ => fun
  | [d1, d2, d3] => { results := [.lit (.bool true)], args := [d1, d2, d3] }
  | _ => none }
def cellKeepsRow : OpenClaim := { program := "ytliiploidjnmnaadoor", sum := "ecc0e3f51e36ca9cb0f9e71212bcdeb7bb296ceed2c73cce7f340faee84521d2", func := "deckle/decklelaw08.CellKeeps", spec := "cellKeeps", inPlace := ["internal/abi.NoEscape", "internal/bytealg.MakeNoZero"], unfollowed := true, recurses := true, named := ["deckle/crc.table", "deckle/ham.places", "deckle/bits.clear"], apart := false, laid := [("deckle/crc.table", laid_deckle_crc_table), ("deckle/ham.places", laid_deckle_ham_places), ("deckle/bits.clear", laid_deckle_bits_clear)] }
def CellKeepsSaid : Prop := cellKeepsRow.holds Tryd.pinned (OpenSpec.ofChange cellKeepsSpec)

/-- ITS FALSE NEIGHBOUR: 'it returns false'. Refute it at one input. -/
def cellKeepsWrong : ChangeSpec := { name := "cellKeeps", fn := fun _ => fun
  | [d1, d2, d3] => { results := [.lit (.bool false)], args := [d1, d2, d3] }
  | _ => none }
def CellKeepsWrongFalsely : Prop := cellKeepsRow.holds Tryd.pinned (OpenSpec.ofChange cellKeepsWrong)

/- THE SECOND FORM. 'bulk': how many values and letters a reading holds, each counted each time it is reached (what is shared counts as often as it is met; a slice's spare places count too). A statement '..UptoSaid' is the law's where the arguments, and the package variables that the reading takes, are together of bulk at most 1048576: NARROWER than '..Said'. Prove '..Said' where nothing that the law and all that it calls make is longer than what came in: it says more and counts as full. Else prove '..UptoSaid'. A law counts once. -/
mutual
def uptoBulk {H : Type} : DataW H → Nat
  | .lit (.string bytes) => bytes.length + 1
  | .lit _ => 1
  | .nil => 1
  | .ptr d => uptoBulk d + 1
  | .slice elems spare => uptoBulkAll elems + uptoBulkAll spare + 1
  | .agg parts => uptoBulkAll parts + 1
  | .iface _ d => uptoBulk d + 1
  | .map entries => uptoBulkEntries entries + 1
  | .held _ => 1
def uptoBulkAll {H : Type} : List (DataW H) → Nat
  | [] => 0
  | d :: r => uptoBulk d + uptoBulkAll r
def uptoBulkEntries {H : Type} : List (Lit × DataW H) → Nat
  | [] => 0
  | x :: r => uptoBulkEntry x + uptoBulkEntries r
def uptoBulkEntry {H : Type} : Lit × DataW H → Nat
  | (.string bytes, d) => bytes.length + uptoBulk d + 1
  | (_, d) => uptoBulk d + 1
 end
def uptoSmall : (H : Type) → List (DataW H) → Bool := fun _ ds => decide (uptoBulkAll ds ≤ 1048576)
def OpenSpec.upto (s : _root_.Go.ChangeSpec) : _root_.Go.OpenSpec := { _root_.Go.OpenSpec.ofChange s with cond := some uptoSmall }

/-- 'decklelaw08.CellPlays', WHERE WHAT IT READS IS OF BULK AT MOST 1048576: true; the input reads as it did. -/
def cellPlaysUptoRow : OpenClaim := { program := "ytliiploidjnmnaadoor", sum := "ecc0e3f51e36ca9cb0f9e71212bcdeb7bb296ceed2c73cce7f340faee84521d2", func := "deckle/decklelaw08.CellPlays", spec := "cellPlays", inPlace := ["internal/abi.NoEscape", "internal/bytealg.MakeNoZero"], unfollowed := true, recurses := true, named := ["deckle/crc.table", "deckle/ham.places"], apart := false, laid := [("deckle/crc.table", laid_deckle_crc_table), ("deckle/ham.places", laid_deckle_ham_places)], narrowed := true }
def CellPlaysUptoSaid : Prop := cellPlaysUptoRow.holds Tryd.pinned (OpenSpec.upto cellPlaysSpec)

/-- 'decklelaw08.CellCopies', WHERE WHAT IT READS IS OF BULK AT MOST 1048576: true; the input reads as it did. -/
def cellCopiesUptoRow : OpenClaim := { program := "ytliiploidjnmnaadoor", sum := "ecc0e3f51e36ca9cb0f9e71212bcdeb7bb296ceed2c73cce7f340faee84521d2", func := "deckle/decklelaw08.CellCopies", spec := "cellCopies", inPlace := ["internal/abi.NoEscape", "internal/bytealg.MakeNoZero"], unfollowed := true, recurses := true, named := ["deckle/crc.table", "deckle/ham.places"], apart := false, laid := [("deckle/crc.table", laid_deckle_crc_table), ("deckle/ham.places", laid_deckle_ham_places)], narrowed := true }
def CellCopiesUptoSaid : Prop := cellCopiesUptoRow.holds Tryd.pinned (OpenSpec.upto cellCopiesSpec)

/-- 'decklelaw08.CellTwoPass', WHERE WHAT IT READS IS OF BULK AT MOST 1048576: true; the input reads as it did. -/
def cellTwoPassUptoRow : OpenClaim := { program := "ytliiploidjnmnaadoor", sum := "ecc0e3f51e36ca9cb0f9e71212bcdeb7bb296ceed2c73cce7f340faee84521d2", func := "deckle/decklelaw08.CellTwoPass", spec := "cellTwoPass", inPlace := ["internal/abi.NoEscape", "internal/bytealg.MakeNoZero"], unfollowed := true, recurses := true, named := ["deckle/crc.table", "deckle/ham.places", "deckle/bits.clear"], apart := false, laid := [("deckle/crc.table", laid_deckle_crc_table), ("deckle/ham.places", laid_deckle_ham_places), ("deckle/bits.clear", laid_deckle_bits_clear)], narrowed := true }
def CellTwoPassUptoSaid : Prop := cellTwoPassUptoRow.holds Tryd.pinned (OpenSpec.upto cellTwoPassSpec)

/-- 'decklelaw08.CellErases', WHERE WHAT IT READS IS OF BULK AT MOST 1048576: true; the input reads as it did. -/
def cellErasesUptoRow : OpenClaim := { program := "ytliiploidjnmnaadoor", sum := "ecc0e3f51e36ca9cb0f9e71212bcdeb7bb296ceed2c73cce7f340faee84521d2", func := "deckle/decklelaw08.CellErases", spec := "cellErases", inPlace := ["internal/abi.NoEscape", "internal/bytealg.MakeNoZero"], unfollowed := true, recurses := true, named := ["deckle/crc.table", "deckle/ham.places", "deckle/bits.clear"], apart := false, laid := [("deckle/crc.table", laid_deckle_crc_table), ("deckle/ham.places", laid_deckle_ham_places), ("deckle/bits.clear", laid_deckle_bits_clear)], narrowed := true }
def CellErasesUptoSaid : Prop := cellErasesUptoRow.holds Tryd.pinned (OpenSpec.upto cellErasesSpec)

/-- 'decklelaw08.CellKeeps', WHERE WHAT IT READS IS OF BULK AT MOST 1048576: true; the input reads as it did. -/
def cellKeepsUptoRow : OpenClaim := { program := "ytliiploidjnmnaadoor", sum := "ecc0e3f51e36ca9cb0f9e71212bcdeb7bb296ceed2c73cce7f340faee84521d2", func := "deckle/decklelaw08.CellKeeps", spec := "cellKeeps", inPlace := ["internal/abi.NoEscape", "internal/bytealg.MakeNoZero"], unfollowed := true, recurses := true, named := ["deckle/crc.table", "deckle/ham.places", "deckle/bits.clear"], apart := false, laid := [("deckle/crc.table", laid_deckle_crc_table), ("deckle/ham.places", laid_deckle_ham_places), ("deckle/bits.clear", laid_deckle_bits_clear)], narrowed := true }
def CellKeepsUptoSaid : Prop := cellKeepsUptoRow.holds Tryd.pinned (OpenSpec.upto cellKeepsSpec)

end Rows
end Go.Proofs.YtliiploidjnmnaaDoor
