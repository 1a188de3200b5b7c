/- PmapBack: its contract speaks of every input. -/
import Derived.Test.YtiblpienmkjmgaaStmPmapBack
namespace Go.Proofs.Ytiblpienmkjmgaa.pmapBack
open Go.RowKit Go.Proofs.YtiblpienmkjmgaaW.PrintWords Go.Proofs.Ytiblpienmkjmgaa.Pmap Go.Proofs.Ytiblpienmkjmgaa.PM

theorem pure : Pure := by
  unfold Pure; intros; rfl

end Go.Proofs.Ytiblpienmkjmgaa.pmapBack
