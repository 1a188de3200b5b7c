/-
  DERIVED. GIVEN WITH THE SEED: THE CARDS: each row of YtliiploidjnmnaaDoorRows.lean that lists a variable, with what it lists TIED to the program's text (the seventh form; the later family's looks); each row that meets fmt, with fmt's text TOLD by the authors' own Lean function (tested against real Go, not proved from fmt's source: count such statements apart). THE CARD IS WHAT COUNTS. Prove the row's statement (the work); the ties are given (YtliiploidjnmnaaDoorTie.lean); close each card by the builder's one call (the guide's Derived/Test/ToyasCard.lean, 'card_holds'). Laid BY PROGRAM, IN A SANDBOX (cutbox-door.mjs). By AI agents, Wed Nov 11 2026. No macro, syntax, notation, axiom, sorry.
-/
import Derived.Test.YtliiploidjnmnaaDoorRows
import GoSem.ClaimSeven
namespace Go.Proofs.YtliiploidjnmnaaDoor
namespace Rows

/-- THE TIED CARD OF 'decklelaw08.CellPlays'. -/
def cellPlaysCard : Claim7 := { stood := { row := cellPlaysRow, standIns := [], harness := (true, "be9f1abb176a4d2872744abdea4354d2d612ab7e893cc38e825a6f0d7703e1f2"), looks := false }, kinds := [], alts := [], laidByText := true, laidKinds := [.data, .data], laidTests := true, laidLooks := .later }
def CellPlaysCardSaid : Prop := Claim7.holds Tryd.pinned (.plain (OpenSpec.ofChange cellPlaysSpec)) cellPlaysCard

/-- THE TIED CARD OF 'decklelaw08.CellCopies'. -/
def cellCopiesCard : Claim7 := { stood := { row := cellCopiesRow, standIns := [], harness := (true, "be9f1abb176a4d2872744abdea4354d2d612ab7e893cc38e825a6f0d7703e1f2"), looks := false }, kinds := [], alts := [], laidByText := true, laidKinds := [.data, .data], laidTests := true, laidLooks := .later }
def CellCopiesCardSaid : Prop := Claim7.holds Tryd.pinned (.plain (OpenSpec.ofChange cellCopiesSpec)) cellCopiesCard

/-- THE TIED CARD OF 'decklelaw08.CellTwoPass'. -/
def cellTwoPassCard : Claim7 := { stood := { row := cellTwoPassRow, standIns := [], harness := (true, "be9f1abb176a4d2872744abdea4354d2d612ab7e893cc38e825a6f0d7703e1f2"), looks := false }, kinds := [], alts := [], laidByText := true, laidKinds := [.data, .data, .data], laidTests := true, laidLooks := .later }
def CellTwoPassCardSaid : Prop := Claim7.holds Tryd.pinned (.plain (OpenSpec.ofChange cellTwoPassSpec)) cellTwoPassCard

/-- THE TIED CARD OF 'decklelaw08.CellErases'. -/
def cellErasesCard : Claim7 := { stood := { row := cellErasesRow, standIns := [], harness := (true, "be9f1abb176a4d2872744abdea4354d2d612ab7e893cc38e825a6f0d7703e1f2"), looks := false }, kinds := [], alts := [], laidByText := true, laidKinds := [.data, .data, .data], laidTests := true, laidLooks := .later }
def CellErasesCardSaid : Prop := Claim7.holds Tryd.pinned (.plain (OpenSpec.ofChange cellErasesSpec)) cellErasesCard

/-- THE TIED CARD OF 'decklelaw08.CellKeeps'. -/
def cellKeepsCard : Claim7 := { stood := { row := cellKeepsRow, standIns := [], harness := (true, "be9f1abb176a4d2872744abdea4354d2d612ab7e893cc38e825a6f0d7703e1f2"), looks := false }, kinds := [], alts := [], laidByText := true, laidKinds := [.data, .data, .data], laidTests := true, laidLooks := .later }
def CellKeepsCardSaid : Prop := Claim7.holds Tryd.pinned (.plain (OpenSpec.ofChange cellKeepsSpec)) cellKeepsCard

/-- THE SECOND FORM's CARD OF 'decklelaw08.CellPlays'. -/
def cellPlaysUptoCard : Claim7 := { stood := { row := cellPlaysUptoRow, standIns := [], harness := (true, "be9f1abb176a4d2872744abdea4354d2d612ab7e893cc38e825a6f0d7703e1f2"), looks := false }, kinds := [], alts := [], laidByText := true, laidKinds := [.data, .data], laidTests := true, laidLooks := .later }
def CellPlaysUptoCardSaid : Prop := Claim7.holds Tryd.pinned (.plain (OpenSpec.upto cellPlaysSpec)) cellPlaysUptoCard

/-- THE SECOND FORM's CARD OF 'decklelaw08.CellCopies'. -/
def cellCopiesUptoCard : Claim7 := { stood := { row := cellCopiesUptoRow, standIns := [], harness := (true, "be9f1abb176a4d2872744abdea4354d2d612ab7e893cc38e825a6f0d7703e1f2"), looks := false }, kinds := [], alts := [], laidByText := true, laidKinds := [.data, .data], laidTests := true, laidLooks := .later }
def CellCopiesUptoCardSaid : Prop := Claim7.holds Tryd.pinned (.plain (OpenSpec.upto cellCopiesSpec)) cellCopiesUptoCard

/-- THE SECOND FORM's CARD OF 'decklelaw08.CellTwoPass'. -/
def cellTwoPassUptoCard : Claim7 := { stood := { row := cellTwoPassUptoRow, standIns := [], harness := (true, "be9f1abb176a4d2872744abdea4354d2d612ab7e893cc38e825a6f0d7703e1f2"), looks := false }, kinds := [], alts := [], laidByText := true, laidKinds := [.data, .data, .data], laidTests := true, laidLooks := .later }
def CellTwoPassUptoCardSaid : Prop := Claim7.holds Tryd.pinned (.plain (OpenSpec.upto cellTwoPassSpec)) cellTwoPassUptoCard

/-- THE SECOND FORM's CARD OF 'decklelaw08.CellErases'. -/
def cellErasesUptoCard : Claim7 := { stood := { row := cellErasesUptoRow, standIns := [], harness := (true, "be9f1abb176a4d2872744abdea4354d2d612ab7e893cc38e825a6f0d7703e1f2"), looks := false }, kinds := [], alts := [], laidByText := true, laidKinds := [.data, .data, .data], laidTests := true, laidLooks := .later }
def CellErasesUptoCardSaid : Prop := Claim7.holds Tryd.pinned (.plain (OpenSpec.upto cellErasesSpec)) cellErasesUptoCard

/-- THE SECOND FORM's CARD OF 'decklelaw08.CellKeeps'. -/
def cellKeepsUptoCard : Claim7 := { stood := { row := cellKeepsUptoRow, standIns := [], harness := (true, "be9f1abb176a4d2872744abdea4354d2d612ab7e893cc38e825a6f0d7703e1f2"), looks := false }, kinds := [], alts := [], laidByText := true, laidKinds := [.data, .data, .data], laidTests := true, laidLooks := .later }
def CellKeepsUptoCardSaid : Prop := Claim7.holds Tryd.pinned (.plain (OpenSpec.upto cellKeepsSpec)) cellKeepsUptoCard
end Rows
end Go.Proofs.YtliiploidjnmnaaDoor
