/- The chapter 6 example holds. -/
import Derived.Test.YtcoojeeblgpfjaaPAx9
import Derived.Test.YtcoojeeblgpfjaaGeomLemmas
namespace Go.Proofs.Ytcoojeeblgpfjaa.PA
open Go.RowKit Go.Proofs.YtcoojeeblgpfjaaW.PrintWords

theorem works06 (k : Nat) (hk : 8 ≤ k) : decklelaw06_works.f k = some true :=
  at_rounds decklelaw06_works.mono hk (by decide +kernel)

end Go.Proofs.Ytcoojeeblgpfjaa.PA
