/-
  DERIVED. GIVEN WITH THE SEED: THE CARDS: each row of YteofihmeiikhbaaDoorRows.lean that lists a variable, with what it lists TIED to the program's text (the seventh form; the later family's looks); each row that meets fmt, with fmt's text TOLD by the authors' own Lean function (tested against real Go, not proved from fmt's source: count such statements apart). THE CARD IS WHAT COUNTS. Prove the row's statement (the work); the ties are given (YteofihmeiikhbaaDoorTie.lean); close each card by the builder's one call (the guide's Derived/Test/ToyasCard.lean, 'card_holds'). Laid BY PROGRAM, IN A SANDBOX (cutbox-door.mjs). By AI agents, Wed Nov 11 2026. No macro, syntax, notation, axiom, sorry.
-/
import Derived.Test.YteofihmeiikhbaaDoorRows
import GoSem.ClaimSeven
namespace Go.Proofs.YteofihmeiikhbaaDoor
namespace Rows

/-- THE TIED CARD OF 'decklelaw13.SnapPuts'. -/
def snapPutsCard : Claim7 := { stood := { row := snapPutsRow, standIns := [], harness := (true, "7926a29ee201a268c4ca83e079d47443decb07c8bf274bef41f4a86fd0376715"), looks := true }, kinds := [], alts := [], laidByText := true, laidKinds := [.data, .pinned], laidTests := true, laidLooks := .later }
def SnapPutsCardSaid : Prop := Claim7.holds Tryd.pinned (.plain (OpenSpec.ofChange snapPutsSpec)) snapPutsCard

/-- THE TIED CARD OF 'decklelaw13.SnapBack'. -/
def snapBackCard : Claim7 := { stood := { row := snapBackRow, standIns := [], harness := (true, "7926a29ee201a268c4ca83e079d47443decb07c8bf274bef41f4a86fd0376715"), looks := true }, kinds := [], alts := [], laidByText := true, laidKinds := [.data, .pinned], laidTests := true, laidLooks := .later }
def SnapBackCardSaid : Prop := Claim7.holds Tryd.pinned (.plain (OpenSpec.ofChange snapBackSpec)) snapBackCard

/-- THE TIED CARD OF 'decklelaw13.SnapOne'. -/
def snapOneCard : Claim7 := { stood := { row := snapOneRow, standIns := [], harness := (true, "7926a29ee201a268c4ca83e079d47443decb07c8bf274bef41f4a86fd0376715"), looks := true }, kinds := [], alts := [], laidByText := true, laidKinds := [.data, .pinned], laidTests := true, laidLooks := .later }
def SnapOneCardSaid : Prop := Claim7.holds Tryd.pinned (.plain (OpenSpec.ofChange snapOneSpec)) snapOneCard

/-- THE SECOND FORM's CARD OF 'decklelaw13.SnapPuts'. -/
def snapPutsUptoCard : Claim7 := { stood := { row := snapPutsUptoRow, standIns := [], harness := (true, "7926a29ee201a268c4ca83e079d47443decb07c8bf274bef41f4a86fd0376715"), looks := true }, kinds := [], alts := [], laidByText := true, laidKinds := [.data, .pinned], laidTests := true, laidLooks := .later }
def SnapPutsUptoCardSaid : Prop := Claim7.holds Tryd.pinned (.plain (OpenSpec.upto snapPutsSpec)) snapPutsUptoCard

/-- THE SECOND FORM's CARD OF 'decklelaw13.SnapBack'. -/
def snapBackUptoCard : Claim7 := { stood := { row := snapBackUptoRow, standIns := [], harness := (true, "7926a29ee201a268c4ca83e079d47443decb07c8bf274bef41f4a86fd0376715"), looks := true }, kinds := [], alts := [], laidByText := true, laidKinds := [.data, .pinned], laidTests := true, laidLooks := .later }
def SnapBackUptoCardSaid : Prop := Claim7.holds Tryd.pinned (.plain (OpenSpec.upto snapBackSpec)) snapBackUptoCard

/-- THE SECOND FORM's CARD OF 'decklelaw13.SnapOne'. -/
def snapOneUptoCard : Claim7 := { stood := { row := snapOneUptoRow, standIns := [], harness := (true, "7926a29ee201a268c4ca83e079d47443decb07c8bf274bef41f4a86fd0376715"), looks := true }, kinds := [], alts := [], laidByText := true, laidKinds := [.data, .pinned], laidTests := true, laidLooks := .later }
def SnapOneUptoCardSaid : Prop := Claim7.holds Tryd.pinned (.plain (OpenSpec.upto snapOneSpec)) snapOneUptoCard
end Rows
end Go.Proofs.YteofihmeiikhbaaDoor
