/- PmapPlays: its contract speaks of every geometry and all acts. -/
import Derived.Test.YtiblpienmkjmgaaStmPmapPlays
namespace Go.Proofs.Ytiblpienmkjmgaa.pmapPlays
open Go.RowKit Go.Proofs.YtiblpienmkjmgaaW.PrintWords Go.Proofs.Ytiblpienmkjmgaa.Pmap Go.Proofs.Ytiblpienmkjmgaa.PM

theorem pure : Pure := by
  unfold Pure
  intros
  unfold decklelaw19_PmapPlays.f
  exact if_pos ⟨by assumption, by assumption⟩

end Go.Proofs.Ytiblpienmkjmgaa.pmapPlays
