/- PmapMoves: its contract speaks of every input. -/
import Derived.Test.YtiblpienmkjmgaaStmPmapMoves
namespace Go.Proofs.Ytiblpienmkjmgaa.pmapMoves
open Go.RowKit Go.Proofs.YtiblpienmkjmgaaW.PrintWords Go.Proofs.Ytiblpienmkjmgaa.Pmap Go.Proofs.Ytiblpienmkjmgaa.PM

theorem pure : Pure := by
  unfold Pure; intros; rfl

end Go.Proofs.Ytiblpienmkjmgaa.pmapMoves
