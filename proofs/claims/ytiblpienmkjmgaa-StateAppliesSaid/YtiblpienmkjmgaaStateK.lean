/- The keeper's contracts, by what a walk owns. -/
import Derived.Test.YtiblpienmkjmgaaProg
import Derived.Below
import Derived.Deep.Draws
import Derived.Deep.AppendLies
import Derived.Maps.AppendAt
import Derived.OwnWalk
import Derived.Laws.BytesArg
import Derived.Laws.MakeOwn
import Derived.Laws.OwnMore
import Derived.Deep.OwnRows
import Derived.Tactics
import Derived.Lib.ConvBytes
import Derived.Laws.Slices
import Derived.WalkKit
import Derived.KernelRfl
import Derived.RowKit3
import Derived.Deep.LoopGhost
import Derived.Deep.QuietTactic
import Derived.BigQuiet
import Derived.WideLaws
import Derived.Deep.DeepCutAuto
import Derived.Deep.CutBlock
import Derived.Deep.RegionHeld3
import Derived.Deep.RegionWith
import Derived.Laws.Rows
import Derived.Lib.AppendStr
import Derived.ArgAppend
import Derived.Laws.IdiomCopy
import Derived.OrdersHeld
import Derived.Laws.BitsLemmas
import Derived.Outline
import Derived.RegionTactic
import Derived.Lib.Hide
import Derived.StillTailTactics
import Derived.Deep.RegionWith
import Derived.OpenShut
import Derived.Test.YtiblpienmkjmgaaWWords
import Derived.Test.YtiblpienmkjmgaaStateEH
import Derived.Test.YtiblpienmkjmgaaOwn
import Derived.Test.YtiblpienmkjmgaaPSy2
set_option linter.unusedVariables false
namespace Go.Proofs.Ytiblpienmkjmgaa.StateA
open Go.RowKit Go.Proofs.YtiblpienmkjmgaaW.PrintWords Go.Proofs.Ytiblpienmkjmgaa.Mem Go.Proofs.Ytiblpienmkjmgaa.PS Go.Proofs.Ytiblpienmkjmgaa.Own

/-- A keeper, as a thing that a walk owns. -/
def Keep (l : Loc) (K : Kp) : Asn where
  P w _ S := KeepAt w l K ∧ l.Apart ∧ S l.g ∧ ∀ k, l.Of k → S k
  move h hm := ⟨h.1.move (fun k hk ho => hm k (ho.elim (fun e => e ▸ h.2.2.1) (h.2.2.2 k)) hk), h.2⟩
  cut h := ⟨h.1, h.2.1, ⟨h.2.2.1, blk_lt h.1.blk⟩, fun k ho => ⟨h.2.2.2 k ho, by
    rcases ho with rfl | rfl | rfl | rfl
    · exact h.1.r1.lt
    · exact h.1.r2.lt
    · exact h.1.r3.lt
    · exact h.1.r4.lt⟩⟩
  mono h hs := ⟨h.1, h.2.1, hs _ h.2.2.1, fun k ho => hs k (h.2.2.2 k ho)⟩
  lower h _ := h
section
variable {w0 w : World} {L : List Asn} {l : Loc} {K : Kp}
theorem keepOf (h : Own w0 w (Keep l K :: L)) : KeepAt w l K := let ⟨_, hs, _⟩ := h.head; hs.1
theorem new_own (b s : Nat) (ln y p we : Int) (HO : Own w0 w L) (hc : geom_Check.f 8 b ln y s p we = some 0) (hb : b ≤ 1000) (hs : s ≤ 100000) :
    Calls Try.prog 32 #[.agg #[.int .i64 b, .int .i64 ln, .int .i64 y, .int .i64 s, .int .i64 p, .int .i64 we]] w fun e w' => ∃ l : Loc, e = .returned (.tuple #[.pointer (some ⟨l.g, 0, none⟩), .int .i64 0]) ∧ Own w0 w' (Keep l (newK b s) :: L) := by
  refine (new_ok b s ln y p we w hc hb hs).mono ?_
  rintro e w' ⟨l, rfl, hk, hl, ⟨f0, f1, f2, f3, f4⟩, hbel⟩
  exact ⟨l, rfl, HO.fresh (R := [Keep l (newK b s)]) hbel (Hold.one ⟨hk, hl, f0, fun k ho => by rcases ho with rfl | rfl | rfl | rfl <;> assumption⟩)⟩
theorem apply_own {K' : Kp} (c k a b : Int) (HO : Own w0 w (Keep l K :: L)) (ha : applyK K k a b = (K', c)) (fine : K.Fine) :
    Calls Try.prog 36 #[.pointer (some ⟨l.g, 0, none⟩), recV k a b] w fun e w' => e = .returned (.int .i64 c) ∧ Own w0 w' (Keep l K' :: L) := by
  obtain ⟨S, ⟨hk, hl, hg, hof⟩, hb, f⟩ := HO.head
  refine (apply_to l w0.heap.size K K' c k a b w ha hk hl ⟨(hb _ hg).1, (hb _ (hof _ (.inl rfl))).1, (hb _ (hof _ (.inr (.inl rfl)))).1, (hb _ (hof _ (.inr (.inr (.inl rfl))))).1, (hb _ (hof _ (.inr (.inr (.inr rfl))))).1⟩ fine).mono ?_
  rintro e w' ⟨rfl, hk', hm⟩
  exact ⟨rfl, f w' [Keep l K'] (hm.mono hof) (Hold.one ⟨hk', hl, .inl hg, fun k h => .inl (hof k h)⟩)⟩
/-- A row of whole numbers. -/
abbrev Ints (b d : Nat) (xs : List Int) : Asn := Row (Kd.int .i64) 3 (.slice (some ⟨b, 0, none⟩) xs.length d) xs
theorem ints_of {B b d : Nat} {S : Nat → Prop} {xs : List Int} (h : RowAt w b d xs) (hb : B ≤ b) (hs : S b) : (Ints b d xs).P w B S := by
  refine Kd.R_of_own ?_ (fun k hk => by injection hk with hk; subst hk; exact hs)
  have hm : encs (Value.int .i64) xs = nums .i64 xs := rfl
  rw [hm]
  rcases h.2 with ⟨h', _⟩ | ⟨g', cap', cur, h', r⟩
  · cases h'
  · injection h' with e1 e2 e3
    injection e1 with e1
    injection e1 with e1
    subst e1 e3
    exact ⟨h.1, .inr ⟨_, _, cur, rfl, hb, r.2⟩⟩
theorem state_own (HO : Own w0 w (Keep l K :: L)) (ok : K.Ok) :
    Calls Try.prog 34 #[.pointer (some ⟨l.g, 0, none⟩)] w fun e w' => ∃ b1 b2 b3 b4 d1 d2 d3 d4, e = .returned (stateV K b1 b2 b3 b4 d1 d2 d3 d4) ∧ Own w0 w' (Ints b1 d1 K.F :: Ints b2 d2 K.C :: Ints b3 d3 K.S :: Ints b4 d4 K.T :: Keep l K :: L) := by
  refine (state_any l K w (keepOf HO) ok).mono ?_
  rintro e w' ⟨b1, b2, b3, b4, d1, d2, d3, d4, rfl, hr⟩
  obtain ⟨⟨n12, n13, n14⟩, ⟨n23, n24⟩, n34⟩ := hr.ne
  refine ⟨b1, b2, b3, b4, d1, d2, d3, d4, rfl, HO.fresh (R := [Ints b1 d1 K.F, Ints b2 d2 K.C, Ints b3 d3 K.S, Ints b4 d4 K.T]) hr.below ?_⟩
  refine ⟨fun k => k = b1, fun k => k = b2 ∨ k = b3 ∨ k = b4, ints_of hr.s1 hr.n1 rfl, ⟨fun k => k = b2, fun k => k = b3 ∨ k = b4, ints_of hr.s2 hr.n2 rfl, ⟨fun k => k = b3, fun k => k = b4, ints_of hr.s3 hr.n3 rfl, Hold.one (ints_of hr.s4 hr.n4 rfl), ?_, ?_, ?_⟩, ?_, ?_, ?_⟩, ?_, ?_, ?_⟩
  all_goals intro k hk
  all_goals have m1 := hr.n1
  all_goals have m2 := hr.n2
  all_goals have m3 := hr.n3
  all_goals have m4 := hr.n4
  all_goals omega
theorem same_self (xs : List Int) (hm : xs.length ≤ 1000000) (d : Nat) : ∀ (k : Nat) (i : Int), 0 ≤ i → i ≤ xs.length → (xs.length : Int) - i = d → d < k → decklebook_SameInts.l0 k xs xs true i = some true := by
  induction d with
  | zero =>
    intro k i h0 h1 hd hk
    obtain ⟨k, rfl⟩ : ∃ m, k = m + 1 := ⟨k - 1, by omega⟩
    simp only [decklebook_SameInts.l0]
    rw [if_pos trivial, if_neg (by omega)]
  | succ d ih =>
    intro k i h0 h1 hd hk
    obtain ⟨k, rfl⟩ : ∃ m, k = m + 1 := ⟨k - 1, by omega⟩
    simp only [decklebook_SameInts.l0]
    rw [if_pos trivial, if_pos (by omega), if_pos h0, if_pos (by omega), beq_self_eq_true, show wrap64 (i + 1) = i + 1 by unfold wrap64; omega]
    exact ih k (i + 1) (by omega) (by omega) (by omega) (by omega)
theorem sameInts_self (xs : List Int) (k : Nat) (hk : xs.length < k) (hm : xs.length ≤ 1000000) : decklebook_SameInts.f k xs xs = some true := by
  unfold decklebook_SameInts.f
  simp only [beq_self_eq_true]
  exact same_self xs hm xs.length k 0 (by omega) (by omega) (by omega) hk
theorem sameState_self (K : Kp) (ok : K.Ok) : decklebook_SameState.f 1000001 K.F K.C K.S K.T K.F K.C K.S K.T = some true := by
  unfold decklebook_SameState.f
  rw [sameInts_self _ _ (by have := ok.f1; omega) ok.f1, sameInts_self _ _ (by have := ok.c1; omega) ok.c1, sameInts_self _ _ (by have := ok.s1; omega) ok.s1, sameInts_self _ _ (by have := ok.t1; omega) ok.t1]
  rfl
end
end Go.Proofs.Ytiblpienmkjmgaa.StateA
