/- StateApplies: its contract speaks of every geometry and all records. -/
import Derived.Test.YtiblpienmkjmgaaStmStateApplies
namespace Go.Proofs.Ytiblpienmkjmgaa.stateApplies
open Go.RowKit Go.Proofs.YtiblpienmkjmgaaW.PrintWords Go.Proofs.Ytiblpienmkjmgaa.StateA Go.Proofs.Ytiblpienmkjmgaa.PS

theorem pure : Pure := by
  unfold Pure
  intros
  unfold decklelaw14_StateApplies.f
  exact if_pos ⟨by assumption, by assumption⟩

end Go.Proofs.Ytiblpienmkjmgaa.stateApplies
