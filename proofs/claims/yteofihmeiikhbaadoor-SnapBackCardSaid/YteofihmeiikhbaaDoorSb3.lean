/- The law's proof: words, contracts of the functions that it reaches, plain lemmas. -/
import Derived.Test.YteofihmeiikhbaaDoorRows
import Derived.ProofKit
import Derived.LaidMore
import Derived.OpenShut
import Derived.Stop.Joined
import Derived.MakeChecks
section
/- The rows' tables (Go's own, for runes): no walk reads them; the door's own heap meets them. -/
set_option linter.unusedVariables false
namespace Go.Proofs.YteofihmeiikhbaaDoor.Hu
open Go.ChangeShapes Go.WideShapes Go.ChangeAt Go.WideMaps Go.WideElems Go.RowKit

/-- Nothing is asked of them. -/
def Laid (w : World) : Prop := True
def laid3 : List (String × DataW Unit) := [("unicode/utf8.acceptRanges", Rows.laid_unicode_utf8_acceptRanges), ("unicode/utf8.first", Rows.laid_unicode_utf8_first)]
theorem of_laid {W : World} (h : laidMetH Tryd.prog laid3 W) : Laid W := trivial
end Go.Proofs.YteofihmeiikhbaaDoor.Hu
end
