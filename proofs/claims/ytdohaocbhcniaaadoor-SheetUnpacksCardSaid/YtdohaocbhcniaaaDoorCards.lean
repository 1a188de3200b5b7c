/-
  DERIVED. GIVEN WITH THE SEED: THE CARDS: each row of YtdohaocbhcniaaaDoorRows.lean that lists a variable, with what it lists TIED to the program's text (the seventh form; the later family's looks); each row that meets fmt, with fmt's text TOLD by the authors' own Lean function (tested against real Go, not proved from fmt's source: count such statements apart). THE CARD IS WHAT COUNTS. Prove the row's statement (the work); the ties are given (YtdohaocbhcniaaaDoorTie.lean); close each card by the builder's one call (the guide's Derived/Test/ToyasCard.lean, 'card_holds'). Laid BY PROGRAM, IN A SANDBOX (cutbox-door.mjs). By AI agents, Wed Nov 11 2026. No macro, syntax, notation, axiom, sorry.
-/
import Derived.Test.YtdohaocbhcniaaaDoorRows
import GoSem.ClaimSeven
namespace Go.Proofs.YtdohaocbhcniaaaDoor
namespace Rows

/-- THE TIED CARD OF 'decklelaw12.SheetBack'. -/
def sheetBackCard : Claim7 := { stood := { row := sheetBackRow, standIns := [], harness := (true, "4cf374feabd38b967ac499c6ca028ae64795173c188522d2ccb59f1216b8dc95"), looks := true }, kinds := [], alts := [], laidByText := true, laidKinds := [.data, .pinned], laidTests := true, laidLooks := .later }
def SheetBackCardSaid : Prop := Claim7.holds Tryd.pinned (.plain (OpenSpec.ofChange sheetBackSpec)) sheetBackCard

/-- THE TIED CARD OF 'decklelaw12.SheetAgain'. -/
def sheetAgainCard : Claim7 := { stood := { row := sheetAgainRow, standIns := [], harness := (true, "4cf374feabd38b967ac499c6ca028ae64795173c188522d2ccb59f1216b8dc95"), looks := true }, kinds := [], alts := [], laidByText := true, laidKinds := [.data, .pinned], laidTests := true, laidLooks := .later }
def SheetAgainCardSaid : Prop := Claim7.holds Tryd.pinned (.plain (OpenSpec.ofChange sheetAgainSpec)) sheetAgainCard

/-- THE TIED CARD OF 'decklelaw12.SheetUnpacks'. -/
def sheetUnpacksCard : Claim7 := { stood := { row := sheetUnpacksRow, standIns := [], harness := (true, "4cf374feabd38b967ac499c6ca028ae64795173c188522d2ccb59f1216b8dc95"), looks := true }, kinds := [], alts := [], laidByText := true, laidKinds := [.data, .pinned], laidTests := true, laidLooks := .later }
def SheetUnpacksCardSaid : Prop := Claim7.holds Tryd.pinned (.plain (OpenSpec.ofChange sheetUnpacksSpec)) sheetUnpacksCard

/-- THE TIED CARD OF 'decklelaw43.ImagePuts'. -/
def imagePutsCard : Claim7 := { stood := { row := imagePutsRow, standIns := [], harness := (true, "4cf374feabd38b967ac499c6ca028ae64795173c188522d2ccb59f1216b8dc95"), looks := true }, kinds := [], alts := [], laidByText := true, laidKinds := [.data], laidTests := true, laidLooks := .later }
def ImagePutsCardSaid : Prop := Claim7.holds Tryd.pinned (.plain (OpenSpec.ofChange imagePutsSpec)) imagePutsCard

/-- THE TIED CARD OF 'decklelaw43.ImageBack'. -/
def imageBackCard : Claim7 := { stood := { row := imageBackRow, standIns := [], harness := (true, "4cf374feabd38b967ac499c6ca028ae64795173c188522d2ccb59f1216b8dc95"), looks := true }, kinds := [], alts := [], laidByText := true, laidKinds := [.data], laidTests := true, laidLooks := .later }
def ImageBackCardSaid : Prop := Claim7.holds Tryd.pinned (.plain (OpenSpec.ofChange imageBackSpec)) imageBackCard

/-- THE SECOND FORM's CARD OF 'decklelaw12.SheetBack'. -/
def sheetBackUptoCard : Claim7 := { stood := { row := sheetBackUptoRow, standIns := [], harness := (true, "4cf374feabd38b967ac499c6ca028ae64795173c188522d2ccb59f1216b8dc95"), looks := true }, kinds := [], alts := [], laidByText := true, laidKinds := [.data, .pinned], laidTests := true, laidLooks := .later }
def SheetBackUptoCardSaid : Prop := Claim7.holds Tryd.pinned (.plain (OpenSpec.upto sheetBackSpec)) sheetBackUptoCard

/-- THE SECOND FORM's CARD OF 'decklelaw12.SheetAgain'. -/
def sheetAgainUptoCard : Claim7 := { stood := { row := sheetAgainUptoRow, standIns := [], harness := (true, "4cf374feabd38b967ac499c6ca028ae64795173c188522d2ccb59f1216b8dc95"), looks := true }, kinds := [], alts := [], laidByText := true, laidKinds := [.data, .pinned], laidTests := true, laidLooks := .later }
def SheetAgainUptoCardSaid : Prop := Claim7.holds Tryd.pinned (.plain (OpenSpec.upto sheetAgainSpec)) sheetAgainUptoCard

/-- THE SECOND FORM's CARD OF 'decklelaw12.SheetUnpacks'. -/
def sheetUnpacksUptoCard : Claim7 := { stood := { row := sheetUnpacksUptoRow, standIns := [], harness := (true, "4cf374feabd38b967ac499c6ca028ae64795173c188522d2ccb59f1216b8dc95"), looks := true }, kinds := [], alts := [], laidByText := true, laidKinds := [.data, .pinned], laidTests := true, laidLooks := .later }
def SheetUnpacksUptoCardSaid : Prop := Claim7.holds Tryd.pinned (.plain (OpenSpec.upto sheetUnpacksSpec)) sheetUnpacksUptoCard

/-- THE SECOND FORM's CARD OF 'decklelaw43.ImagePuts'. -/
def imagePutsUptoCard : Claim7 := { stood := { row := imagePutsUptoRow, standIns := [], harness := (true, "4cf374feabd38b967ac499c6ca028ae64795173c188522d2ccb59f1216b8dc95"), looks := true }, kinds := [], alts := [], laidByText := true, laidKinds := [.data], laidTests := true, laidLooks := .later }
def ImagePutsUptoCardSaid : Prop := Claim7.holds Tryd.pinned (.plain (OpenSpec.upto imagePutsSpec)) imagePutsUptoCard

/-- THE SECOND FORM's CARD OF 'decklelaw43.ImageBack'. -/
def imageBackUptoCard : Claim7 := { stood := { row := imageBackUptoRow, standIns := [], harness := (true, "4cf374feabd38b967ac499c6ca028ae64795173c188522d2ccb59f1216b8dc95"), looks := true }, kinds := [], alts := [], laidByText := true, laidKinds := [.data], laidTests := true, laidLooks := .later }
def ImageBackUptoCardSaid : Prop := Claim7.holds Tryd.pinned (.plain (OpenSpec.upto imageBackSpec)) imageBackUptoCard
end Rows
end Go.Proofs.YtdohaocbhcniaaaDoor
