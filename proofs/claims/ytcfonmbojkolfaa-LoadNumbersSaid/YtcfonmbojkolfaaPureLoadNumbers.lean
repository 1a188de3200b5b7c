/- The numbers of any seed, over numbers alone. -/
import Derived.Test.YtcfonmbojkolfaaPLx24
import Derived.Test.YtcfonmbojkolfaaLoadBits
import Derived.OpenShut
namespace Go.Proofs.Ytcfonmbojkolfaa.Pure
open Go.RowKit Go.Proofs.Ytcfonmbojkolfaa.PL Go.Proofs.YtcfonmbojkolfaaW.PrintWords

theorem src_next (x : Int) : load_Source_Next.f x = some (LoadA.nextNum x, LoadA.nextNum x) := rfl

theorem below_two (x n : Int) (h0 : 0 ≤ x) (h1 : x ≤ 18446744073709551615) (hn : (Lit.int .i64 n).wf = true) (k : Nat) (hk : 130 ≤ k) :
    ∃ r y, deckleref41_Below.f k x n = some (y, r) ∧ load_Source_Below.f x n = some (r, y) ∧ 0 ≤ y ∧ y ≤ 18446744073709551615 := by
  have hb := bounds_i64 hn
  unfold deckleref41_Below.f load_Source_Below.f
  by_cases c : n < 1
  · rw [if_pos c, if_pos c]
    exact ⟨0, x, rfl, rfl, h0, h1⟩
  · rw [if_neg c, if_neg c, ref_next x h0 h1 k hk, src_next]
    have hr := LoadA.nextNum_range x
    have hz : ¬ IntKind.u64.wrap n = 0 := by rw [IntKind.wrap_u64]; omega
    simp only [Option.bind_some]
    rw [if_neg hz, if_neg hz]
    exact ⟨_, _, rfl, rfl, hr.1, hr.2⟩

theorem numbers_l0 (l : List Int) (hw : ∀ n ∈ l, (Lit.int .i64 n).wf = true) : ∀ (d k i : Nat) (x : Int), 60 - i = d → i ≤ 60 → i ≤ l.length → 0 ≤ x → x ≤ 18446744073709551615 → 2 * d + 140 ≤ k → decklelaw41_LoadNumbers.l0 k l x i x = some true := by
  intro d
  induction d with
  | zero =>
    intro k i x hd hi hil h0 h1 hk
    obtain ⟨k, rfl⟩ : ∃ m, k = m + 2 := ⟨k - 2, by omega⟩
    obtain rfl : i = 60 := by omega
    rw [decklelaw41_LoadNumbers.l0]
    have : ∀ b, b = false → decklelaw41_LoadNumbers.j1 (k + 1) l x (60 : Nat) b x = some true := by
      rintro b rfl
      rw [decklelaw41_LoadNumbers.j1]
      rw [if_neg (by decide), ref_next x h0 h1 k (by omega), src_next]
      simp [decklelaw41_works.f]
    by_cases c : ((60 : Nat) : Int) < (l.length : Int)
    · rw [if_pos c]; exact this _ (by simp)
    · rw [if_neg c]; exact this _ rfl
  | succ d ih =>
    intro k i x hd hi hil h0 h1 hk
    obtain ⟨k, rfl⟩ : ∃ m, k = m + 2 := ⟨k - 2, by omega⟩
    rw [decklelaw41_LoadNumbers.l0]
    by_cases c : (i : Int) < (l.length : Int)
    · have hlt : i < l.length := by omega
      have hrd : rd l (i : Int) = l[i] := by simp [rd, List.getD_eq_getElem?_getD, hlt]
      obtain ⟨r, y, e1, e2, y0, y1⟩ := below_two x l[i] h0 h1 (hw _ (List.getElem_mem hlt)) k (by omega)
      rw [if_pos c, decklelaw41_LoadNumbers.j1]
      rw [if_pos (by simp; omega), if_pos (by omega), if_pos c, hrd, e1, e2]
      simp only [Option.bind_some, if_true]
      rw [show wrap64 ((i : Int) + 1) = (i : Int) + 1 by (unfold wrap64; omega), show (i : Int) + 1 = ((i + 1 : Nat) : Int) by omega]
      exact ih k (i + 1) y (by omega) (by omega) (by omega) y0 y1 (by omega)
    · rw [if_neg c, decklelaw41_LoadNumbers.j1]
      rw [if_neg (by decide), ref_next x h0 h1 k (by omega), src_next]
      simp [decklelaw41_works.f]

theorem LoadNumbers : decklelaw41_LoadNumbers.Pure := by
  intro seed l hs _ _ hw
  refine ⟨300, ?_⟩
  have hb := bounds_u64 hs
  unfold decklelaw41_LoadNumbers.f load_NewSource.f deckleref41_Begin.f
  have e : mx seed 1 = (if seed = 0 then 1 else seed) := by
    unfold mx
    by_cases c : seed = 0
    · rw [if_pos c, if_pos (by omega)]
    · rw [if_neg c]; by_cases c2 : seed < 1
      · omega
      · rw [if_neg c2]
  rw [e]
  by_cases c : seed = 0
  · rw [if_pos c, if_pos c]
    simp only [Option.bind_some]
    exact numbers_l0 l hw 60 300 0 1 (by omega) (by omega) (by omega) (by omega) (by omega) (by omega)
  · rw [if_neg c, if_neg c]
    simp only [Option.bind_some]
    exact numbers_l0 l hw 60 300 0 seed (by omega) (by omega) (by omega) (by omega) (by omega) (by omega)
end Go.Proofs.Ytcfonmbojkolfaa.Pure
