/- StateOrder: its contract speaks of every input. -/
import Derived.Test.YtiblpienmkjmgaaStmStateOrder
namespace Go.Proofs.Ytiblpienmkjmgaa.stateOrder
open Go.RowKit Go.Proofs.YtiblpienmkjmgaaW.PrintWords Go.Proofs.Ytiblpienmkjmgaa.StateA Go.Proofs.Ytiblpienmkjmgaa.PS

theorem pure : Pure := by
  unfold Pure; intros; rfl

end Go.Proofs.Ytiblpienmkjmgaa.stateOrder
