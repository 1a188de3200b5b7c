/- The law's proof: words, contracts of the functions that it reaches, plain lemmas. -/
import Derived.Test.YteofihmeiikhbaaDoorSb4
import Derived.Laws.StructEq
section
/-! ### 53. '==' of structs as_ one Bool -/
namespace Go.Proofs.YteofihmeiikhbaaDoorW.PrintWords
open Go.RowKit
section
variable {P : Program} {d : Nat} {xs ys : Array Value} {f : Field} {fs : List Field} {a b : Value} {r s : Bool} {w : World}
end
end Go.Proofs.YteofihmeiikhbaaDoorW.PrintWords
end
