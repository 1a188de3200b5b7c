/- PlanOnce: its contract speaks of every input. -/
import Derived.Test.YtcfonmbojkolfaaStmPlanOnce
namespace Go.Proofs.Ytcfonmbojkolfaa.planOnce
open Go.RowKit Go.Proofs.YtcfonmbojkolfaaW.PrintWords Go.Proofs.Ytcfonmbojkolfaa.Plan Go.Proofs.Ytcfonmbojkolfaa.PN

theorem pure : Pure := by
  unfold Pure; intros; rfl

end Go.Proofs.Ytcfonmbojkolfaa.planOnce
