/- Package pmap, by hand: sectors, pages, a sector's page set. -/
import Derived.Test.YtiblpienmkjmgaaProg
import Derived.Below
import Derived.Deep.Draws
import Derived.Deep.AppendLies
import Derived.Maps.AppendAt
import Derived.OwnWalk
import Derived.Laws.BytesArg
import Derived.Laws.MakeOwn
import Derived.Laws.OwnMore
import Derived.Deep.OwnRows
import Derived.Tactics
import Derived.Lib.ConvBytes
import Derived.Laws.Slices
import Derived.WalkKit
import Derived.KernelRfl
import Derived.RowKit3
import Derived.Deep.LoopGhost
import Derived.Deep.QuietTactic
import Derived.BigQuiet
import Derived.WideLaws
import Derived.Deep.DeepCutAuto
import Derived.Deep.CutBlock
import Derived.Deep.RegionHeld3
import Derived.Deep.RegionWith
import Derived.Laws.Rows
import Derived.Lib.AppendStr
import Derived.ArgAppend
import Derived.Laws.IdiomCopy
import Derived.OrdersHeld
import Derived.Laws.BitsLemmas
import Derived.Outline
import Derived.RegionTactic
import Derived.Lib.Hide
import Derived.StillTailTactics
import Derived.Deep.RegionWith
import Derived.OpenShut
import Derived.Test.YtiblpienmkjmgaaWWords
import Derived.Test.YtiblpienmkjmgaaPmapB
import Derived.Test.YtiblpienmkjmgaaPMx5
import Derived.Test.YtiblpienmkjmgaaPMGeomLemmas
set_option linter.unusedVariables false
namespace Go.Proofs.Ytiblpienmkjmgaa.Pmap
open Go.RowKit Go.Proofs.YtiblpienmkjmgaaW.PrintWords Go.Proofs.Ytiblpienmkjmgaa.Mem Go.Proofs.Ytiblpienmkjmgaa.Own Go.Proofs.Ytiblpienmkjmgaa.Maps Go.Proofs.Ytiblpienmkjmgaa.PM

def G6.Ok (G : G6) : Prop := GeoOk G.b G.l G.y G.s G.p G.w
/-- A page of a geometry. -/
def PageIn (G : G6) (a : Tri) : Prop := (0 ≤ a.1 ∧ a.1 < G.b) ∧ (0 ≤ a.2.1 ∧ a.2.1 < G.l) ∧ (0 ≤ a.2.2 ∧ a.2.2 < 3)
instance (G : G6) (a : Tri) : Decidable (PageIn G a) := by unfold PageIn; infer_instance
def SecIn (G : G6) (k : Int) : Prop := 0 ≤ k ∧ k < G.s
instance (G : G6) (k : Int) : Decidable (SecIn G k) := by unfold SecIn; infer_instance
def numOf (G : G6) (a : Tri) : Int := (a.1 * G.l + a.2.1) * 3 + a.2.2
theorem number_is {G : G6} (hok : G.Ok) (a : Tri) : geom_Number.f 8 G.b G.l G.y G.s G.p G.w a.1 a.2.1 a.2.2 = some (if PageIn G a then (numOf G a, 0) else (0, 1)) := by
  have hs := hok.1
  unfold SizesOk at hs
  have hb : (Lit.int .i64 G.b).wf = true := WalkArith.wf_i64 (by omega)
  have hl : (Lit.int .i64 G.l).wf = true := WalkArith.wf_i64 (by omega)
  unfold geom_Number.f
  rw [check_some _ _ _ _ _ _ hb hl 8 (Nat.le_refl _), if_pos (show GeoOk G.b G.l G.y G.s G.p G.w from hok)]
  simp only [Option.bind_some, if_true, within_some]
  rw [all_some 8 _ (by simp) (by simp)]
  simp only [Option.bind_some]
  rw [w64 (x := G.b - 1) (by omega) (by omega), w64 (x := G.l - 1) (by omega) (by omega)]
  by_cases h : PageIn G a
  · have h' := h
    obtain ⟨⟨h1, h2⟩, ⟨h3, h4⟩, h5, h6⟩ := h'
    rw [if_pos h, if_pos (by simp; omega)]
    have m1 : a.1 * G.l ≤ 64 * 64 := Int.mul_le_mul (by omega) (by omega) (by omega) (by omega)
    have m0 : 0 ≤ a.1 * G.l := Int.mul_nonneg h1 (by omega)
    unfold numOf
    rw [w64 (x := a.1 * G.l) (by omega) (by omega), w64 (x := a.1 * G.l + a.2.1) (by omega) (by omega), w64 (x := (a.1 * G.l + a.2.1) * 3) (by omega) (by omega), w64 (by omega) (by omega)]
  · rw [if_neg h, if_neg]
    intro hc
    apply h
    simp at hc
    unfold PageIn
    omega
section
variable {w0 w : World} {L : List Asn} {G : G6} {g m1 m2 v c n : Nat} {L1 : List (Int × Tri)} {L2 : List (Tri × Int)}
set_option maxHeartbeats 1000000 in
set_option maxRecDepth 100000 in
theorem sector_own (k : Int) (HO : Own w0 w (Pt g (pmC G m1 m2 v c n) :: L)) :
    Calls Try.prog 52 #[.pointer (some ⟨g, 0, none⟩), .int .i64 k] w fun e w' => e = .returned (.bool (decide (SecIn G k))) ∧ w' = w := by
  obtain ⟨x0, x1, x2, x3, x4, x5, x6, x7, x8⟩ := cells9 HO.pt
  clear HO
  by_cases h0 : 0 ≤ k
  · have d0 : decide (0 ≤ k) = true := decide_eq_true h0
    by_cases h1 : k < G.s
    · have d1 : decide (k < G.s) = true := decide_eq_true h1
      have e : decide (SecIn G k) = true := decide_eq_true ⟨h0, h1⟩
      rw [e]
      go_enter Try.func52, Try.ntmps52
      go_wp2_with fail
      go_ret
      exact ⟨rfl, rfl⟩
    · have d1 : decide (k < G.s) = false := decide_eq_false h1
      have e : decide (SecIn G k) = false := decide_eq_false (fun h => h1 h.2)
      rw [e]
      go_enter Try.func52, Try.ntmps52
      go_wp2_with fail
      go_ret
      exact ⟨rfl, rfl⟩
  · have d0 : decide (0 ≤ k) = false := decide_eq_false h0
    have e : decide (SecIn G k) = false := decide_eq_false (fun h => h0 h.1)
    rw [e]
    go_enter Try.func52, Try.ntmps52
    go_wp2_with fail
    go_ret
    exact ⟨rfl, rfl⟩
set_option maxHeartbeats 1000000 in
set_option maxRecDepth 100000 in
theorem page_own (a : Tri) (hok : G.Ok) (HO : Own w0 w (Pt g (pmC G m1 m2 v c n) :: L)) :
    Calls Try.prog 53 #[.pointer (some ⟨g, 0, none⟩), tri a] w fun e w' => e = .returned (.bool (decide (PageIn G a))) ∧ Own w0 w' (Pt g (pmC G m1 m2 v c n) :: L) := by
  have hlt := blk_lt HO.pt
  have hn := number_is hok a
  obtain ⟨x0, x1, x2, x3, x4, x5, x6, x7, x8⟩ := cells9 HO.pt
  have HO' := Aside0.mk HO
  obtain ⟨a0, a1, a2⟩ := a
  clear HO hok
  by_cases hp : PageIn G (a0, a1, a2)
  all_goals
    first | rw [if_pos hp] at hn | rw [if_neg hp] at hn
    first | rw [decide_eq_true hp] | rw [decide_eq_false hp]
    have HN := Lib.hid hn
    clear hn hp
    go_enter Try.func53, Try.ntmps53
    go_wp2_with fail
    go_region_with (go_at_call 77; refine (geom_Number.calls 8 G.b G.l G.y G.s G.p G.w a0 a1 a2 _ _ _ HN.out).mono ?_; rintro e w1 ⟨rfl, hb⟩; have HB := Aside0.mk ((HO'.out.alloc' _).drew.move hb); clear hb)
    all_goals go_wp2_with fail
    all_goals (go_ret; exact ⟨rfl, HB.out⟩)
end
end Go.Proofs.Ytiblpienmkjmgaa.Pmap
