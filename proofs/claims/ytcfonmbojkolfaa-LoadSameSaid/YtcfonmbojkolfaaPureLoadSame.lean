/- LoadSame: its contract speaks of every seed, kind and number. -/
import Derived.Test.YtcfonmbojkolfaaStmLoadSame
namespace Go.Proofs.Ytcfonmbojkolfaa.loadSame
open Go.RowKit Go.Proofs.YtcfonmbojkolfaaW.PrintWords Go.Proofs.Ytcfonmbojkolfaa.LoadA Go.Proofs.Ytcfonmbojkolfaa.PL

theorem pure : Pure := by
  unfold Pure
  intros
  unfold decklelaw41_LoadSame.f
  exact if_pos (by assumption)

end Go.Proofs.Ytcfonmbojkolfaa.loadSame
