/- LoadMay: its contract speaks of all numbers of their kinds. -/
import Derived.Test.YtcfonmbojkolfaaStmLoadMay
namespace Go.Proofs.Ytcfonmbojkolfaa.loadMay
open Go.RowKit Go.Proofs.YtcfonmbojkolfaaW.PrintWords Go.Proofs.Ytcfonmbojkolfaa.LoadA

theorem pure : Pure := by
  intro b l y s p t kind seed hb hl _ _ _ _ _ hs
  unfold decklelaw41_LoadMay.f
  rw [if_pos ⟨hb, hl, hs⟩]

end Go.Proofs.Ytcfonmbojkolfaa.loadMay
