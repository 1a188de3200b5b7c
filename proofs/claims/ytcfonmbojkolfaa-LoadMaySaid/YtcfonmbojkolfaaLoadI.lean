/- The contract of LoadMay. -/
import Derived.Test.YtcfonmbojkolfaaLoadH
import Derived.OpenShut
namespace Go.Proofs.Ytcfonmbojkolfaa.LoadA
open Go.RowKit Go.Proofs.YtcfonmbojkolfaaW.PrintWords Go.Proofs.Ytcfonmbojkolfaa.Mem Go.Proofs.Ytcfonmbojkolfaa.PL

def decklelaw41_LoadMay.f (a0_0 : Int) (a0_1 : Int) (_a0_2 : Int) (_a0_3 : Int) (_a0_4 : Int) (_a0_5 : Int) (_a1 : Int) (a2 : Int) : Option (Bool) := if (Lit.int .i64 a0_0).wf = true ∧ (Lit.int .i64 a0_1).wf = true ∧ (Lit.int .u64 a2).wf = true then some true else none

theorem decklelaw41_LoadMay.calls (a0_0 : Int) (a0_1 : Int) (a0_2 : Int) (a0_3 : Int) (a0_4 : Int) (a0_5 : Int) (a1 : Int) (a2 : Int) (r : Bool) (w : World) (h : decklelaw41_LoadMay.f a0_0 a0_1 a0_2 a0_3 a0_4 a0_5 a1 a2 = some r) :
    Calls Try.prog 7 #[.agg #[.int .i64 a0_0, .int .i64 a0_1, .int .i64 a0_2, .int .i64 a0_3, .int .i64 a0_4, .int .i64 a0_5], .int .i64 a1, .int .u64 a2] w fun e w' => e = .returned (.bool r) ∧ Below w.heap.size w w' := by
  unfold decklelaw41_LoadMay.f at h
  by_cases c : (Lit.int .i64 a0_0).wf = true ∧ (Lit.int .i64 a0_1).wf = true ∧ (Lit.int .u64 a2).wf = true
  · rw [if_pos c] at h
    obtain rfl := Option.some.inj h
    obtain ⟨c0, c1, c2⟩ := c
    have hs := Go.bounds_u64 c2
    by_cases g : GeoOk a0_0 a0_1 a0_2 a0_3 a0_4 a0_5 ∧ 0 ≤ a1 ∧ a1 ≤ 3
    · exact may_in _ _ _ _ _ _ _ _ w c0 c1 g.1 g.2.1 g.2.2 hs.1
    · exact may_out _ _ _ _ _ _ _ _ w c0 c1 g
  · rw [if_neg c] at h
    cases h
end Go.Proofs.Ytcfonmbojkolfaa.LoadA
