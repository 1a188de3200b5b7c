-- Words of the kit's print.sh, those that this claim names (struck by wip/bin/prune.py).
import Derived.Test.YtiblpienmkjmgaaWInv
import Derived.Test.YtiblpienmkjmgaaWFootNe
namespace Go.Proofs.YtiblpienmkjmgaaW.PrintWords
open Go.RowKit
end Go.Proofs.YtiblpienmkjmgaaW.PrintWords
namespace Go.Proofs.YtiblpienmkjmgaaW.PrintLast
section
variable {ops : Array Oper} {a : Act} {o og : Oper} {g : Nat} {t : Tmp} {u : Bool}
end
end Go.Proofs.YtiblpienmkjmgaaW.PrintLast
