/-
  DERIVED. GIVEN WITH THE SEED: THE PROGRAM's TIES (one call each: nine closed facts by the kernel) AND EACH ROW's TIE, after the 31st guide's Derived/Test/Toyas{Tie, Card}.lean. No idea stands in it: it is a product of the set-up. Laid BY PROGRAM, IN A SANDBOX (cutbox-door.mjs). By AI agents, Wed Nov 11 2026. No macro, syntax, notation, axiom, sorry.
-/
import Derived.Test.YtliiploidjnmnaaDoorRows
import Derived.LaidByTextLater
import Derived.SevenTiedAt
import Derived.LaidSub
import Derived.LaidOnce
namespace Go.Proofs.YtliiploidjnmnaaDoor
open Go
set_option maxRecDepth 100000
theorem seatTie1 : Tryd.prog.laidByTextLater [("deckle/crc.table", Rows.laid_deckle_crc_table), ("deckle/ham.places", Rows.laid_deckle_ham_places), ("deckle/bits.clear", Rows.laid_deckle_bits_clear)] [.data, .data, .data] true :=
  Program.laidByTextLater_by_one 24 8 65 (by kernel_rfl) (by kernel_rfl) (by kernel_rfl) (by kernel_rfl) (by kernel_rfl) (by kernel_rfl) (fun _ _ => by kernel_rfl)
theorem noOwnUnsafe : Tryd.pinned.checked.prog.headLifts.contains "ownunsafe" = false := by kernel_rfl
theorem tie : Tryd.prog.laidByTextLater [("deckle/crc.table", Rows.laid_deckle_crc_table), ("deckle/ham.places", Rows.laid_deckle_ham_places)] [.data, .data] true :=
  Program.laidByTextLater.sub seatTie1 ["deckle/crc.table", "deckle/ham.places"] (by kernel_rfl) (by kernel_rfl)
theorem cellPlays_row_tie : Rows.cellPlaysRow.laidByTextAt .later Tryd.pinned [.data, .data] true :=
  OpenClaim.laidByTextAt_later rfl rfl tie noOwnUnsafe
theorem cellCopies_row_tie : Rows.cellCopiesRow.laidByTextAt .later Tryd.pinned [.data, .data] true :=
  OpenClaim.laidByTextAt_later rfl rfl tie noOwnUnsafe
theorem tie2 : Tryd.prog.laidByTextLater [("deckle/crc.table", Rows.laid_deckle_crc_table), ("deckle/ham.places", Rows.laid_deckle_ham_places), ("deckle/bits.clear", Rows.laid_deckle_bits_clear)] [.data, .data, .data] true :=
  Program.laidByTextLater.sub seatTie1 ["deckle/crc.table", "deckle/ham.places", "deckle/bits.clear"] (by kernel_rfl) (by kernel_rfl)
theorem cellTwoPass_row_tie : Rows.cellTwoPassRow.laidByTextAt .later Tryd.pinned [.data, .data, .data] true :=
  OpenClaim.laidByTextAt_later rfl rfl tie2 noOwnUnsafe
theorem cellErases_row_tie : Rows.cellErasesRow.laidByTextAt .later Tryd.pinned [.data, .data, .data] true :=
  OpenClaim.laidByTextAt_later rfl rfl tie2 noOwnUnsafe
theorem cellKeeps_row_tie : Rows.cellKeepsRow.laidByTextAt .later Tryd.pinned [.data, .data, .data] true :=
  OpenClaim.laidByTextAt_later rfl rfl tie2 noOwnUnsafe
theorem cellPlaysUpto_row_tie : Rows.cellPlaysUptoRow.laidByTextAt .later Tryd.pinned [.data, .data] true :=
  OpenClaim.laidByTextAt_later rfl rfl tie noOwnUnsafe
theorem cellCopiesUpto_row_tie : Rows.cellCopiesUptoRow.laidByTextAt .later Tryd.pinned [.data, .data] true :=
  OpenClaim.laidByTextAt_later rfl rfl tie noOwnUnsafe
theorem cellTwoPassUpto_row_tie : Rows.cellTwoPassUptoRow.laidByTextAt .later Tryd.pinned [.data, .data, .data] true :=
  OpenClaim.laidByTextAt_later rfl rfl tie2 noOwnUnsafe
theorem cellErasesUpto_row_tie : Rows.cellErasesUptoRow.laidByTextAt .later Tryd.pinned [.data, .data, .data] true :=
  OpenClaim.laidByTextAt_later rfl rfl tie2 noOwnUnsafe
theorem cellKeepsUpto_row_tie : Rows.cellKeepsUptoRow.laidByTextAt .later Tryd.pinned [.data, .data, .data] true :=
  OpenClaim.laidByTextAt_later rfl rfl tie2 noOwnUnsafe
end Go.Proofs.YtliiploidjnmnaaDoor
