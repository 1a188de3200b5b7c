/- works of chapter 41, for the printed texts. -/
import Derived.Test.YtcfonmbojkolfaaLoadF
namespace Go.Proofs.Ytcfonmbojkolfaa.PL
open Go.RowKit Go.Proofs.YtcfonmbojkolfaaW.PrintWords
def decklelaw41_works.f : Option (Bool) := some true
theorem decklelaw41_works.calls (r : Bool) (w : World) (h : decklelaw41_works.f = some r) : Calls Try.prog 29 #[] w fun e w' => e = .returned (.bool r) ∧ Below w.heap.size w w' := by
  obtain rfl := Option.some.inj h
  exact LoadA.works_any w
end Go.Proofs.Ytcfonmbojkolfaa.PL
