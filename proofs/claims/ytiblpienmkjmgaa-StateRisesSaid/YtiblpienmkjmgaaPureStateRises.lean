/- StateRises: its contract speaks of every list of records. -/
import Derived.Test.YtiblpienmkjmgaaStmStateRises
namespace Go.Proofs.Ytiblpienmkjmgaa.stateRises
open Go.RowKit Go.Proofs.YtiblpienmkjmgaaW.PrintWords Go.Proofs.Ytiblpienmkjmgaa.StateA Go.Proofs.Ytiblpienmkjmgaa.PS

theorem pure : Pure := fun _ _ => rfl

end Go.Proofs.Ytiblpienmkjmgaa.stateRises
