/-
  NARROWER THAN 'FOR EVERY INPUT', by the rows' own cells (each row's printed sentence says how): FrameEncodes: laid · FrameDecodes: laid · FrameHurts: laid · FrameBack: laid · FrameFixes: laid · FrameTells: laid.
  DERIVED. THE GIVEN ROWS OF THIS SEAT. 6 by the template 'for every input the law returns true; each argument reads behind the call as it read before'; 0 by the template 'total and deterministic' (their statements: YtbcgddacmjliaaaDoorTotals.lean).
  GIVEN WITH THE SEED: the statements are not yours to turn. If you find one false, say at which input.
  Laid BY PROGRAM, IN A SANDBOX (cutbox-rows.mjs): the forced cells as the released guide's own fill.sh prints them over the translation c0e08ac82649ffbd… (all of the seat's roots in one cut). By AI agents, Wed Nov 11 2026. No macro, syntax, notation, axiom, sorry.
-/
import Derived.Test.YtbcgddacmjliaaaDoorChecked
import GoSem.Claim
import GoSem.ClaimJoined
import GoSem.ClaimMapViews
import Derived.JoinedTies
import Derived.KernelRfl
namespace Go.Proofs.YtbcgddacmjliaaaDoor
/- THE CELL 'sum', in the pinned program and in every row, IS THE sha256 OF THE DUMP (.gsa) THAT YtbcgddacmjliaaaDoorProg.lean LOADS. Nothing in Lean hashes anything: it is a label: what it is worth is what the hold of that sum in a sandbox is worth. -/
noncomputable def Tryd.pinned : Pinned := { name := "ytbcgddacmjliaaadoor", sum := "c0e08ac82649ffbd4c3535bb0fde95b35a3ae245fa0d477e8a2328681965521f", checked := Tryd.checked }
namespace Rows
def none {H : Type} : Left H := { results := [], args := [] }

/- WHAT THE LISTED PACKAGE-LEVEL VARIABLES READ AS WHEN THE CALL BEGINS. Each datum BY PROGRAM (the guide's laid-datum.mjs) off the statement by which the dump's own 'gosem.cut.vars' lays the variable. In a bare row this is a premise. The card (YtbcgddacmjliaaaDoorCards.lean) ties it to the program's text. -/
def laid_deckle_crc_table {H : Type} : DataW H := .agg [.lit (.int .u32 0), .lit (.int .u32 498536548), .lit (.int .u32 997073096), .lit (.int .u32 651767980), .lit (.int .u32 1994146192), .lit (.int .u32 1802195444), .lit (.int .u32 1303535960), .lit (.int .u32 1342533948), .lit (.int .u32 3988292384), .lit (.int .u32 4027552580), .lit (.int .u32 3604390888), .lit (.int .u32 3412177804), .lit (.int .u32 2607071920), .lit (.int .u32 2262029012), .lit (.int .u32 2685067896), .lit (.int .u32 3183342108)]
def laid_deckle_ham_places {H : Type} : DataW H := .agg [.lit (.int .u8 3), .lit (.int .u8 5), .lit (.int .u8 6), .lit (.int .u8 7), .lit (.int .u8 9), .lit (.int .u8 10), .lit (.int .u8 11), .lit (.int .u8 12), .lit (.int .u8 13), .lit (.int .u8 14), .lit (.int .u8 15), .lit (.int .u8 17), .lit (.int .u8 18), .lit (.int .u8 19), .lit (.int .u8 20), .lit (.int .u8 21), .lit (.int .u8 22), .lit (.int .u8 23), .lit (.int .u8 24), .lit (.int .u8 25), .lit (.int .u8 26), .lit (.int .u8 27), .lit (.int .u8 28), .lit (.int .u8 29), .lit (.int .u8 30), .lit (.int .u8 31), .lit (.int .u8 33), .lit (.int .u8 34), .lit (.int .u8 35), .lit (.int .u8 36), .lit (.int .u8 37), .lit (.int .u8 38), .lit (.int .u8 39), .lit (.int .u8 40), .lit (.int .u8 41), .lit (.int .u8 42), .lit (.int .u8 43), .lit (.int .u8 44), .lit (.int .u8 45), .lit (.int .u8 46), .lit (.int .u8 47), .lit (.int .u8 48), .lit (.int .u8 49), .lit (.int .u8 50), .lit (.int .u8 51), .lit (.int .u8 52), .lit (.int .u8 53), .lit (.int .u8 54), .lit (.int .u8 55), .lit (.int .u8 56), .lit (.int .u8 57), .lit (.int .u8 58), .lit (.int .u8 59), .lit (.int .u8 60), .lit (.int .u8 61), .lit (.int .u8 62), .lit (.int .u8 63), .lit (.int .u8 65), .lit (.int .u8 66), .lit (.int .u8 67), .lit (.int .u8 68), .lit (.int .u8 69), .lit (.int .u8 70), .lit (.int .u8 71)]
def laid_deckle_bits_clear {H : Type} : DataW H := .agg [.lit (.int .i64 4), .lit (.int .i64 3), .lit (.int .i64 3), .lit (.int .i64 2), .lit (.int .i64 3), .lit (.int .i64 2), .lit (.int .i64 2), .lit (.int .i64 1), .lit (.int .i64 3), .lit (.int .i64 2), .lit (.int .i64 2), .lit (.int .i64 1), .lit (.int .i64 2), .lit (.int .i64 1), .lit (.int .i64 1), .lit (.int .i64 0)]

/-- 'decklelaw05.FrameEncodes': WHATEVER THE INPUT: true; the input reads as it did. -/
def frameEncodesSpec : ChangeSpec := { name := "frameEncodes", fn := fun _ => fun
  | [d1, d2] => { results := [.lit (.bool true)], args := [d1, d2] }
  | _ => none }
def frameEncodesRow : OpenClaim := { program := "ytbcgddacmjliaaadoor", sum := "c0e08ac82649ffbd4c3535bb0fde95b35a3ae245fa0d477e8a2328681965521f", func := "deckle/decklelaw05.FrameEncodes", spec := "frameEncodes", inPlace := ["internal/abi.NoEscape", "internal/bytealg.MakeNoZero"], unfollowed := true, recurses := true, named := ["deckle/crc.table", "deckle/ham.places", "deckle/bits.clear"], apart := false, laid := [("deckle/crc.table", laid_deckle_crc_table), ("deckle/ham.places", laid_deckle_ham_places), ("deckle/bits.clear", laid_deckle_bits_clear)] }
def FrameEncodesSaid : Prop := frameEncodesRow.holds Tryd.pinned (OpenSpec.ofChange frameEncodesSpec)

/-- ITS FALSE NEIGHBOUR: 'it returns false'. Refute it at one input. -/
def frameEncodesWrong : ChangeSpec := { name := "frameEncodes", fn := fun _ => fun
  | [d1, d2] => { results := [.lit (.bool false)], args := [d1, d2] }
  | _ => none }
def FrameEncodesWrongFalsely : Prop := frameEncodesRow.holds Tryd.pinned (OpenSpec.ofChange frameEncodesWrong)

/-- 'decklelaw05.FrameDecodes': WHATEVER THE INPUT: true; the input reads as it did. -/
def frameDecodesSpec : ChangeSpec := { name := "frameDecodes", fn := fun _ => fun
  | [d] => { results := [.lit (.bool true)], args := [d] }
  | _ => none }
def frameDecodesRow : OpenClaim := { program := "ytbcgddacmjliaaadoor", sum := "c0e08ac82649ffbd4c3535bb0fde95b35a3ae245fa0d477e8a2328681965521f", func := "deckle/decklelaw05.FrameDecodes", spec := "frameDecodes", inPlace := ["internal/abi.NoEscape", "internal/bytealg.MakeNoZero"], unfollowed := true, recurses := true, named := ["deckle/crc.table", "deckle/ham.places", "deckle/bits.clear"], apart := false, laid := [("deckle/crc.table", laid_deckle_crc_table), ("deckle/ham.places", laid_deckle_ham_places), ("deckle/bits.clear", laid_deckle_bits_clear)] }
def FrameDecodesSaid : Prop := frameDecodesRow.holds Tryd.pinned (OpenSpec.ofChange frameDecodesSpec)

/-- ITS FALSE NEIGHBOUR: 'it returns false'. Refute it at one input. -/
def frameDecodesWrong : ChangeSpec := { name := "frameDecodes", fn := fun _ => fun
  | [d] => { results := [.lit (.bool false)], args := [d] }
  | _ => none }
def FrameDecodesWrongFalsely : Prop := frameDecodesRow.holds Tryd.pinned (OpenSpec.ofChange frameDecodesWrong)

/-- 'decklelaw05.FrameHurts': WHATEVER THE INPUT: true; the input reads as it did. -/
def frameHurtsSpec : ChangeSpec := { name := "frameHurts", fn := fun _ => fun
  | [d1, d2, d3] => { results := [.lit (.bool true)], args := [d1, d2, d3] }
  | _ => none }
def frameHurtsRow : OpenClaim := { program := "ytbcgddacmjliaaadoor", sum := "c0e08ac82649ffbd4c3535bb0fde95b35a3ae245fa0d477e8a2328681965521f", func := "deckle/decklelaw05.FrameHurts", spec := "frameHurts", inPlace := ["internal/abi.NoEscape", "internal/bytealg.MakeNoZero"], unfollowed := true, recurses := true, named := ["deckle/crc.table", "deckle/ham.places", "deckle/bits.clear"], apart := false, laid := [("deckle/crc.table", laid_deckle_crc_table), ("deckle/ham.places", laid_deckle_ham_places), ("deckle/bits.clear", laid_deckle_bits_clear)] }
def FrameHurtsSaid : Prop := frameHurtsRow.holds Tryd.pinned (OpenSpec.ofChange frameHurtsSpec)

/-- ITS FALSE NEIGHBOUR: 'it returns false'. Refute it at one input. -/
def frameHurtsWrong : ChangeSpec := { name := "frameHurts", fn := fun _ => fun
  | [d1, d2, d3] => { results := [.lit (.bool false)], args := [d1, d2, d3] }
  | _ => none }
def FrameHurtsWrongFalsely : Prop := frameHurtsRow.holds Tryd.pinned (OpenSpec.ofChange frameHurtsWrong)

/-- 'decklelaw05.FrameBack': WHATEVER THE INPUT: true; the input reads as it did. -/
def frameBackSpec : ChangeSpec := { name := "frameBack", fn := fun _ => fun
  | [d1, d2] => { results := [.lit (.bool true)], args := [d1, d2] }
  | _ => none }
def frameBackRow : OpenClaim := { program := "ytbcgddacmjliaaadoor", sum := "c0e08ac82649ffbd4c3535bb0fde95b35a3ae245fa0d477e8a2328681965521f", func := "deckle/decklelaw05.FrameBack", spec := "frameBack", inPlace := ["internal/abi.NoEscape", "internal/bytealg.MakeNoZero"], unfollowed := true, recurses := true, named := ["deckle/crc.table", "deckle/ham.places", "deckle/bits.clear"], apart := false, laid := [("deckle/crc.table", laid_deckle_crc_table), ("deckle/ham.places", laid_deckle_ham_places), ("deckle/bits.clear", laid_deckle_bits_clear)] }
def FrameBackSaid : Prop := frameBackRow.holds Tryd.pinned (OpenSpec.ofChange frameBackSpec)

/-- ITS FALSE NEIGHBOUR: 'it returns false'. Refute it at one input. -/
def frameBackWrong : ChangeSpec := { name := "frameBack", fn := fun _ => fun
  | [d1, d2] => { results := [.lit (.bool false)], args := [d1, d2] }
  | _ => none }
def FrameBackWrongFalsely : Prop := frameBackRow.holds Tryd.pinned (OpenSpec.ofChange frameBackWrong)

/-- 'decklelaw05.FrameFixes': WHATEVER THE INPUT: true; the input reads as it did. -/
def frameFixesSpec : ChangeSpec := { name := "frameFixes", fn := fun _ => fun
  | [d1, d2, d3] => { results := [.lit (.bool true)], args := [d1, d2, d3] }
  | _ => none }
def frameFixesRow : OpenClaim := { program := "ytbcgddacmjliaaadoor", sum := "c0e08ac82649ffbd4c3535bb0fde95b35a3ae245fa0d477e8a2328681965521f", func := "deckle/decklelaw05.FrameFixes", spec := "frameFixes", inPlace := ["internal/abi.NoEscape", "internal/bytealg.MakeNoZero"], unfollowed := true, recurses := true, named := ["deckle/crc.table", "deckle/ham.places", "deckle/bits.clear"], apart := false, laid := [("deckle/crc.table", laid_deckle_crc_table), ("deckle/ham.places", laid_deckle_ham_places), ("deckle/bits.clear", laid_deckle_bits_clear)] }
def FrameFixesSaid : Prop := frameFixesRow.holds Tryd.pinned (OpenSpec.ofChange frameFixesSpec)

/-- ITS FALSE NEIGHBOUR: 'it returns false'. Refute it at one input. -/
def frameFixesWrong : ChangeSpec := { name := "frameFixes", fn := fun _ => fun
  | [d1, d2, d3] => { results := [.lit (.bool false)], args := [d1, d2, d3] }
  | _ => none }
def FrameFixesWrongFalsely : Prop := frameFixesRow.holds Tryd.pinned (OpenSpec.ofChange frameFixesWrong)

/-- 'decklelaw05.FrameTells': WHATEVER THE INPUT: true; the input reads as it did. -/
def frameTellsSpec : ChangeSpec := { name := "frameTells", fn := fun _ => fun
  | [d1, d2, d3] => { results := [.lit (.bool true)], args := [d1, d2, d3] }
  | _ => none }
def frameTellsRow : OpenClaim := { program := "ytbcgddacmjliaaadoor", sum := "c0e08ac82649ffbd4c3535bb0fde95b35a3ae245fa0d477e8a2328681965521f", func := "deckle/decklelaw05.FrameTells", spec := "frameTells", inPlace := ["internal/abi.NoEscape", "internal/bytealg.MakeNoZero"], unfollowed := true, recurses := true, named := ["deckle/crc.table", "deckle/ham.places", "deckle/bits.clear"], apart := false, laid := [("deckle/crc.table", laid_deckle_crc_table), ("deckle/ham.places", laid_deckle_ham_places), ("deckle/bits.clear", laid_deckle_bits_clear)] }
def FrameTellsSaid : Prop := frameTellsRow.holds Tryd.pinned (OpenSpec.ofChange frameTellsSpec)

/-- ITS FALSE NEIGHBOUR: 'it returns false'. Refute it at one input. -/
def frameTellsWrong : ChangeSpec := { name := "frameTells", fn := fun _ => fun
  | [d1, d2, d3] => { results := [.lit (.bool false)], args := [d1, d2, d3] }
  | _ => none }
def FrameTellsWrongFalsely : Prop := frameTellsRow.holds Tryd.pinned (OpenSpec.ofChange frameTellsWrong)

/- THE SECOND FORM. 'bulk': how many values and letters a reading holds, each counted each time it is reached (what is shared counts as often as it is met; a slice's spare places count too). A statement '..UptoSaid' is the law's where the arguments, and the package variables that the reading takes, are together of bulk at most 1048576: NARROWER than '..Said'. Prove '..Said' where nothing that the law and all that it calls make is longer than what came in: it says more and counts as full. Else prove '..UptoSaid'. A law counts once. -/
mutual
def uptoBulk {H : Type} : DataW H → Nat
  | .lit (.string bytes) => bytes.length + 1
  | .lit _ => 1
  | .nil => 1
  | .ptr d => uptoBulk d + 1
  | .slice elems spare => uptoBulkAll elems + uptoBulkAll spare + 1
  | .agg parts => uptoBulkAll parts + 1
  | .iface _ d => uptoBulk d + 1
  | .map entries => uptoBulkEntries entries + 1
  | .held _ => 1
def uptoBulkAll {H : Type} : List (DataW H) → Nat
  | [] => 0
  | d :: r => uptoBulk d + uptoBulkAll r
def uptoBulkEntries {H : Type} : List (Lit × DataW H) → Nat
  | [] => 0
  | x :: r => uptoBulkEntry x + uptoBulkEntries r
def uptoBulkEntry {H : Type} : Lit × DataW H → Nat
  | (.string bytes, d) => bytes.length + uptoBulk d + 1
  | (_, d) => uptoBulk d + 1
 end
def uptoSmall : (H : Type) → List (DataW H) → Bool := fun _ ds => decide (uptoBulkAll ds ≤ 1048576)
def OpenSpec.upto (s : _root_.Go.ChangeSpec) : _root_.Go.OpenSpec := { _root_.Go.OpenSpec.ofChange s with cond := some uptoSmall }

/-- 'decklelaw05.FrameEncodes', WHERE WHAT IT READS IS OF BULK AT MOST 1048576: true; the input reads as it did. -/
def frameEncodesUptoRow : OpenClaim := { program := "ytbcgddacmjliaaadoor", sum := "c0e08ac82649ffbd4c3535bb0fde95b35a3ae245fa0d477e8a2328681965521f", func := "deckle/decklelaw05.FrameEncodes", spec := "frameEncodes", inPlace := ["internal/abi.NoEscape", "internal/bytealg.MakeNoZero"], unfollowed := true, recurses := true, named := ["deckle/crc.table", "deckle/ham.places", "deckle/bits.clear"], apart := false, laid := [("deckle/crc.table", laid_deckle_crc_table), ("deckle/ham.places", laid_deckle_ham_places), ("deckle/bits.clear", laid_deckle_bits_clear)], narrowed := true }
def FrameEncodesUptoSaid : Prop := frameEncodesUptoRow.holds Tryd.pinned (OpenSpec.upto frameEncodesSpec)

/-- 'decklelaw05.FrameDecodes', WHERE WHAT IT READS IS OF BULK AT MOST 1048576: true; the input reads as it did. -/
def frameDecodesUptoRow : OpenClaim := { program := "ytbcgddacmjliaaadoor", sum := "c0e08ac82649ffbd4c3535bb0fde95b35a3ae245fa0d477e8a2328681965521f", func := "deckle/decklelaw05.FrameDecodes", spec := "frameDecodes", inPlace := ["internal/abi.NoEscape", "internal/bytealg.MakeNoZero"], unfollowed := true, recurses := true, named := ["deckle/crc.table", "deckle/ham.places", "deckle/bits.clear"], apart := false, laid := [("deckle/crc.table", laid_deckle_crc_table), ("deckle/ham.places", laid_deckle_ham_places), ("deckle/bits.clear", laid_deckle_bits_clear)], narrowed := true }
def FrameDecodesUptoSaid : Prop := frameDecodesUptoRow.holds Tryd.pinned (OpenSpec.upto frameDecodesSpec)

/-- 'decklelaw05.FrameHurts', WHERE WHAT IT READS IS OF BULK AT MOST 1048576: true; the input reads as it did. -/
def frameHurtsUptoRow : OpenClaim := { program := "ytbcgddacmjliaaadoor", sum := "c0e08ac82649ffbd4c3535bb0fde95b35a3ae245fa0d477e8a2328681965521f", func := "deckle/decklelaw05.FrameHurts", spec := "frameHurts", inPlace := ["internal/abi.NoEscape", "internal/bytealg.MakeNoZero"], unfollowed := true, recurses := true, named := ["deckle/crc.table", "deckle/ham.places", "deckle/bits.clear"], apart := false, laid := [("deckle/crc.table", laid_deckle_crc_table), ("deckle/ham.places", laid_deckle_ham_places), ("deckle/bits.clear", laid_deckle_bits_clear)], narrowed := true }
def FrameHurtsUptoSaid : Prop := frameHurtsUptoRow.holds Tryd.pinned (OpenSpec.upto frameHurtsSpec)

/-- 'decklelaw05.FrameBack', WHERE WHAT IT READS IS OF BULK AT MOST 1048576: true; the input reads as it did. -/
def frameBackUptoRow : OpenClaim := { program := "ytbcgddacmjliaaadoor", sum := "c0e08ac82649ffbd4c3535bb0fde95b35a3ae245fa0d477e8a2328681965521f", func := "deckle/decklelaw05.FrameBack", spec := "frameBack", inPlace := ["internal/abi.NoEscape", "internal/bytealg.MakeNoZero"], unfollowed := true, recurses := true, named := ["deckle/crc.table", "deckle/ham.places", "deckle/bits.clear"], apart := false, laid := [("deckle/crc.table", laid_deckle_crc_table), ("deckle/ham.places", laid_deckle_ham_places), ("deckle/bits.clear", laid_deckle_bits_clear)], narrowed := true }
def FrameBackUptoSaid : Prop := frameBackUptoRow.holds Tryd.pinned (OpenSpec.upto frameBackSpec)

/-- 'decklelaw05.FrameFixes', WHERE WHAT IT READS IS OF BULK AT MOST 1048576: true; the input reads as it did. -/
def frameFixesUptoRow : OpenClaim := { program := "ytbcgddacmjliaaadoor", sum := "c0e08ac82649ffbd4c3535bb0fde95b35a3ae245fa0d477e8a2328681965521f", func := "deckle/decklelaw05.FrameFixes", spec := "frameFixes", inPlace := ["internal/abi.NoEscape", "internal/bytealg.MakeNoZero"], unfollowed := true, recurses := true, named := ["deckle/crc.table", "deckle/ham.places", "deckle/bits.clear"], apart := false, laid := [("deckle/crc.table", laid_deckle_crc_table), ("deckle/ham.places", laid_deckle_ham_places), ("deckle/bits.clear", laid_deckle_bits_clear)], narrowed := true }
def FrameFixesUptoSaid : Prop := frameFixesUptoRow.holds Tryd.pinned (OpenSpec.upto frameFixesSpec)

/-- 'decklelaw05.FrameTells', WHERE WHAT IT READS IS OF BULK AT MOST 1048576: true; the input reads as it did. -/
def frameTellsUptoRow : OpenClaim := { program := "ytbcgddacmjliaaadoor", sum := "c0e08ac82649ffbd4c3535bb0fde95b35a3ae245fa0d477e8a2328681965521f", func := "deckle/decklelaw05.FrameTells", spec := "frameTells", inPlace := ["internal/abi.NoEscape", "internal/bytealg.MakeNoZero"], unfollowed := true, recurses := true, named := ["deckle/crc.table", "deckle/ham.places", "deckle/bits.clear"], apart := false, laid := [("deckle/crc.table", laid_deckle_crc_table), ("deckle/ham.places", laid_deckle_ham_places), ("deckle/bits.clear", laid_deckle_bits_clear)], narrowed := true }
def FrameTellsUptoSaid : Prop := frameTellsUptoRow.holds Tryd.pinned (OpenSpec.upto frameTellsSpec)

end Rows
end Go.Proofs.YtbcgddacmjliaaaDoor
