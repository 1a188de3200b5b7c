/-
  DERIVED. GIVEN WITH THE SEED: THE CARDS: each row of YtbcgddacmjliaaaDoorRows.lean that lists a variable, with what it lists TIED to the program's text (the seventh form; the later family's looks); each row that meets fmt, with fmt's text TOLD by the authors' own Lean function (tested against real Go, not proved from fmt's source: count such statements apart). THE CARD IS WHAT COUNTS. Prove the row's statement (the work); the ties are given (YtbcgddacmjliaaaDoorTie.lean); close each card by the builder's one call (the guide's Derived/Test/ToyasCard.lean, 'card_holds'). Laid BY PROGRAM, IN A SANDBOX (cutbox-door.mjs). By AI agents, Wed Nov 11 2026. No macro, syntax, notation, axiom, sorry.
-/
import Derived.Test.YtbcgddacmjliaaaDoorRows
import GoSem.ClaimSeven
namespace Go.Proofs.YtbcgddacmjliaaaDoor
namespace Rows

/-- THE TIED CARD OF 'decklelaw05.FrameEncodes'. -/
def frameEncodesCard : Claim7 := { stood := { row := frameEncodesRow, standIns := [], harness := (true, "d5d15fffa2677740ffe5e88534e8acf693d945f014b0680ab715d17b0637b9b7"), looks := false }, kinds := [], alts := [], laidByText := true, laidKinds := [.data, .data, .data], laidTests := true, laidLooks := .later }
def FrameEncodesCardSaid : Prop := Claim7.holds Tryd.pinned (.plain (OpenSpec.ofChange frameEncodesSpec)) frameEncodesCard

/-- THE TIED CARD OF 'decklelaw05.FrameDecodes'. -/
def frameDecodesCard : Claim7 := { stood := { row := frameDecodesRow, standIns := [], harness := (true, "d5d15fffa2677740ffe5e88534e8acf693d945f014b0680ab715d17b0637b9b7"), looks := false }, kinds := [], alts := [], laidByText := true, laidKinds := [.data, .data, .data], laidTests := true, laidLooks := .later }
def FrameDecodesCardSaid : Prop := Claim7.holds Tryd.pinned (.plain (OpenSpec.ofChange frameDecodesSpec)) frameDecodesCard

/-- THE TIED CARD OF 'decklelaw05.FrameHurts'. -/
def frameHurtsCard : Claim7 := { stood := { row := frameHurtsRow, standIns := [], harness := (true, "d5d15fffa2677740ffe5e88534e8acf693d945f014b0680ab715d17b0637b9b7"), looks := false }, kinds := [], alts := [], laidByText := true, laidKinds := [.data, .data, .data], laidTests := true, laidLooks := .later }
def FrameHurtsCardSaid : Prop := Claim7.holds Tryd.pinned (.plain (OpenSpec.ofChange frameHurtsSpec)) frameHurtsCard

/-- THE TIED CARD OF 'decklelaw05.FrameBack'. -/
def frameBackCard : Claim7 := { stood := { row := frameBackRow, standIns := [], harness := (true, "d5d15fffa2677740ffe5e88534e8acf693d945f014b0680ab715d17b0637b9b7"), looks := false }, kinds := [], alts := [], laidByText := true, laidKinds := [.data, .data, .data], laidTests := true, laidLooks := .later }
def FrameBackCardSaid : Prop := Claim7.holds Tryd.pinned (.plain (OpenSpec.ofChange frameBackSpec)) frameBackCard

/-- THE TIED CARD OF 'decklelaw05.FrameFixes'. -/
def frameFixesCard : Claim7 := { stood := { row := frameFixesRow, standIns := [], harness := (true, "d5d15fffa2677740ffe5e88534e8acf693d945f014b0680ab715d17b0637b9b7"), looks := false }, kinds := [], alts := [], laidByText := true, laidKinds := [.data, .data, .data], laidTests := true, laidLooks := .later }
def FrameFixesCardSaid : Prop := Claim7.holds Tryd.pinned (.plain (OpenSpec.ofChange frameFixesSpec)) frameFixesCard

/-- THE TIED CARD OF 'decklelaw05.FrameTells'. -/
def frameTellsCard : Claim7 := { stood := { row := frameTellsRow, standIns := [], harness := (true, "d5d15fffa2677740ffe5e88534e8acf693d945f014b0680ab715d17b0637b9b7"), looks := false }, kinds := [], alts := [], laidByText := true, laidKinds := [.data, .data, .data], laidTests := true, laidLooks := .later }
def FrameTellsCardSaid : Prop := Claim7.holds Tryd.pinned (.plain (OpenSpec.ofChange frameTellsSpec)) frameTellsCard

/-- THE SECOND FORM's CARD OF 'decklelaw05.FrameEncodes'. -/
def frameEncodesUptoCard : Claim7 := { stood := { row := frameEncodesUptoRow, standIns := [], harness := (true, "d5d15fffa2677740ffe5e88534e8acf693d945f014b0680ab715d17b0637b9b7"), looks := false }, kinds := [], alts := [], laidByText := true, laidKinds := [.data, .data, .data], laidTests := true, laidLooks := .later }
def FrameEncodesUptoCardSaid : Prop := Claim7.holds Tryd.pinned (.plain (OpenSpec.upto frameEncodesSpec)) frameEncodesUptoCard

/-- THE SECOND FORM's CARD OF 'decklelaw05.FrameDecodes'. -/
def frameDecodesUptoCard : Claim7 := { stood := { row := frameDecodesUptoRow, standIns := [], harness := (true, "d5d15fffa2677740ffe5e88534e8acf693d945f014b0680ab715d17b0637b9b7"), looks := false }, kinds := [], alts := [], laidByText := true, laidKinds := [.data, .data, .data], laidTests := true, laidLooks := .later }
def FrameDecodesUptoCardSaid : Prop := Claim7.holds Tryd.pinned (.plain (OpenSpec.upto frameDecodesSpec)) frameDecodesUptoCard

/-- THE SECOND FORM's CARD OF 'decklelaw05.FrameHurts'. -/
def frameHurtsUptoCard : Claim7 := { stood := { row := frameHurtsUptoRow, standIns := [], harness := (true, "d5d15fffa2677740ffe5e88534e8acf693d945f014b0680ab715d17b0637b9b7"), looks := false }, kinds := [], alts := [], laidByText := true, laidKinds := [.data, .data, .data], laidTests := true, laidLooks := .later }
def FrameHurtsUptoCardSaid : Prop := Claim7.holds Tryd.pinned (.plain (OpenSpec.upto frameHurtsSpec)) frameHurtsUptoCard

/-- THE SECOND FORM's CARD OF 'decklelaw05.FrameBack'. -/
def frameBackUptoCard : Claim7 := { stood := { row := frameBackUptoRow, standIns := [], harness := (true, "d5d15fffa2677740ffe5e88534e8acf693d945f014b0680ab715d17b0637b9b7"), looks := false }, kinds := [], alts := [], laidByText := true, laidKinds := [.data, .data, .data], laidTests := true, laidLooks := .later }
def FrameBackUptoCardSaid : Prop := Claim7.holds Tryd.pinned (.plain (OpenSpec.upto frameBackSpec)) frameBackUptoCard

/-- THE SECOND FORM's CARD OF 'decklelaw05.FrameFixes'. -/
def frameFixesUptoCard : Claim7 := { stood := { row := frameFixesUptoRow, standIns := [], harness := (true, "d5d15fffa2677740ffe5e88534e8acf693d945f014b0680ab715d17b0637b9b7"), looks := false }, kinds := [], alts := [], laidByText := true, laidKinds := [.data, .data, .data], laidTests := true, laidLooks := .later }
def FrameFixesUptoCardSaid : Prop := Claim7.holds Tryd.pinned (.plain (OpenSpec.upto frameFixesSpec)) frameFixesUptoCard

/-- THE SECOND FORM's CARD OF 'decklelaw05.FrameTells'. -/
def frameTellsUptoCard : Claim7 := { stood := { row := frameTellsUptoRow, standIns := [], harness := (true, "d5d15fffa2677740ffe5e88534e8acf693d945f014b0680ab715d17b0637b9b7"), looks := false }, kinds := [], alts := [], laidByText := true, laidKinds := [.data, .data, .data], laidTests := true, laidLooks := .later }
def FrameTellsUptoCardSaid : Prop := Claim7.holds Tryd.pinned (.plain (OpenSpec.upto frameTellsSpec)) frameTellsUptoCard
end Rows
end Go.Proofs.YtbcgddacmjliaaaDoor
