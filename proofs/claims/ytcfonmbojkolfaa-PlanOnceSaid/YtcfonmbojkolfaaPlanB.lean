/- Package plan, by hand: what a plan tells. -/
import Derived.Test.YtcfonmbojkolfaaProg
import Derived.Below
import Derived.Carry
import Derived.Deep.Draws
import Derived.Deep.AppendLies
import Derived.Maps.AppendAt
import Derived.OwnWalk
import Derived.Laws.BytesArg
import Derived.Laws.MakeOwn
import Derived.Laws.OwnMore
import Derived.Deep.OwnRows
import Derived.Tactics
import Derived.Lib.ConvBytes
import Derived.Laws.Slices
import Derived.WalkKit
import Derived.KernelRfl
import Derived.RowKit3
import Derived.Deep.LoopGhost
import Derived.Deep.QuietTactic
import Derived.BigQuiet
import Derived.WideLaws
import Derived.Deep.DeepCutAuto
import Derived.Deep.CutBlock
import Derived.Deep.RegionHeld3
import Derived.Deep.RegionWith
import Derived.Laws.Rows
import Derived.Lib.AppendStr
import Derived.ArgAppend
import Derived.Laws.IdiomCopy
import Derived.OrdersHeld
import Derived.Laws.BitsLemmas
import Derived.Outline
import Derived.RegionTactic
import Derived.Lib.Hide
import Derived.StillTailTactics
import Derived.Deep.RegionWith
import Derived.OpenShut
import Derived.Test.YtcfonmbojkolfaaWWords
import Derived.Test.YtcfonmbojkolfaaPlanA
import Derived.Lib.BufferMore
import Derived.Lib.LazyBuf
set_option linter.unusedVariables false
namespace Go.Proofs.Ytcfonmbojkolfaa.Plan
open Go.RowKit Go.Proofs.YtcfonmbojkolfaaW.PrintWords Go.Proofs.Ytcfonmbojkolfaa.Mem Go.Proofs.Ytcfonmbojkolfaa.Own Go.Proofs.Ytcfonmbojkolfaa.Maps Go.Proofs.Ytcfonmbojkolfaa.PN

/-- A plan: lines, target, sources, where each stands. -/
structure PlS where
  ln : Int
  tg : Int
  src : List S27
  m : List (Tri × Int)
abbrev plC (S : PlS) (A : Option Addr) (c r : Nat) : Obj := .cells #[.int .i64 S.ln, .int .i64 S.tg, .slice A S.src.length c, .map (some r)] 85 (0, 0)
abbrev PlM (r : Nat) (l : List (Tri × Int)) : Asn := Mp r tri (Value.int .i64) l
abbrev PlO (g : Nat) (A : Option Addr) (c r : Nat) (S : PlS) (L : List Asn) : List Asn := Pt g (plC S A c r) :: PlM r S.m :: Ads (.slice A S.src.length c) S.src :: L
abbrev plcAt (tg : Int) (i : Int) : Tri := (tg, i / 3, i % 3)
section
variable {w0 w : World} {L : List Asn} {g c r : Nat} {A : Option Addr} {S : PlS}
set_option maxHeartbeats 2000000 in
set_option maxRecDepth 100000 in
theorem at_own (i : Int) (h0 : 0 ≤ i) (h1 : i ≤ 1000000) (HO : Own w0 w (PlO g A c r S L)) :
    Calls Try.prog 40 #[.pointer (some ⟨g, 0, none⟩), .int .i64 i] w fun e w' => e = .returned (tri (S.tg, i / 3, i % 3)) ∧ Own w0 w' (PlO g A c r S L) := by
  have hlt := blk_lt HO.pt
  obtain ⟨_, x1, _, _, _, _, _, _⟩ := cells4 HO.pt
  have HA := Aside0.mk (HO.alloc' (.cells #[.int .i64 S.tg, .int .i64 (i / 3), .int .i64 (i % 3)] 27))
  clear HO
  go_enter Try.func40, Try.ntmps40
  go_wp2_with fail
  exact bodyPost_ret (v := tri (plcAt S.tg i)) (by simp [results, Try.results40, go_sem]) rfl ⟨rfl, HA.out⟩
set_option maxHeartbeats 2000000 in
set_option maxRecDepth 100000 in
theorem steps_own (h0 : 0 ≤ S.ln) (h1 : S.ln ≤ 1000) (HO : Own w0 w (PlO g A c r S L)) :
    Calls Try.prog 15 #[.pointer (some ⟨g, 0, none⟩)] w fun e w' => e = .returned (.int .i64 (2 * S.ln)) ∧ w' = w := by
  obtain ⟨x0, _, _, _, _, _, _, _⟩ := cells4 HO.pt
  clear HO
  go_enter Try.func15, Try.ntmps15
  go_wp2_with fail
  go_ret
  exact ⟨rfl, rfl⟩
set_option maxHeartbeats 2000000 in
set_option maxRecDepth 100000 in
theorem target_own (HO : Own w0 w (PlO g A c r S L)) :
    Calls Try.prog 21 #[.pointer (some ⟨g, 0, none⟩)] w fun e w' => e = .returned (.int .i64 S.tg) ∧ w' = w := by
  obtain ⟨_, x1, _, _, _, _, _, _⟩ := cells4 HO.pt
  clear HO
  go_enter Try.func21, Try.ntmps21
  go_wp2_with fail
  go_ret
  exact ⟨rfl, rfl⟩
def toP (S : PlS) (a : Tri) : Tri × Bool := match mget a S.m with
  | none => ((0, 0, 0), false)
  | some i => (plcAt S.tg i, true)
set_option maxHeartbeats 4000000 in
set_option maxRecDepth 100000 in
theorem to_own (a : Tri) (hb : ∀ i, mget a S.m = some i → 0 ≤ i ∧ i ≤ 1000000) (HO : Own w0 w (PlO g A c r S L)) :
    Calls Try.prog 14 #[.pointer (some ⟨g, 0, none⟩), tri a] w fun e w' => e = .returned (.tuple #[tri (toP S a).1, .bool (toP S a).2]) ∧ Own w0 w' (PlO g A c r S L) := by
  have hlt := blk_lt HO.pt
  obtain ⟨a0, a1, a2⟩ := a
  have ha := (HO.alloc' (.cells #[.int .i64 a0, .int .i64 a1, .int .i64 a2] 27)).alloc (.cells #[.int .i64 0, .int .i64 0, .int .i64 0] 27)
  rw [World.size_alloc] at ha
  have HA := Aside0.mk (own_swap [_] [_, _, _] ha).drew
  have h1 := own_lookup keyT Try.underlying36 HA.out.pull2 (a0, a1, a2) zero3
  obtain ⟨_, _, _, x3, _, _, _, _⟩ := cells4 HO.pt
  unfold toP
  cases hx : mget (a0, a1, a2) S.m with
  | none =>
    rw [hx] at h1
    simp only [Option.map_none, Option.getD_none, Option.isSome_none] at h1
    have HN := Aside0.mk (ha.drop.drew)
    clear hx HO hb ha HA
    go_enter Try.func14, Try.ntmps14
    go_wp2_with fail
    go_region
    all_goals go_wp2_with fail
    all_goals exact bodyPost_ret (v := .tuple #[tri (0, 0, 0), .bool false]) (by simp [results, Try.results14, go_sem]) rfl ⟨rfl, HN.out⟩
  | some i =>
    obtain ⟨hi0, hi1⟩ := hb i hx
    rw [hx] at h1
    simp only [Option.map_some, Option.getD_some, Option.isSome_some] at h1
    clear hx HO hb ha
    go_enter Try.func14, Try.ntmps14
    go_wp2_with fail
    go_region
    all_goals go_wp2_with fail
    all_goals
      refine (at_own i hi0 hi1 HA.out).mono ?_
      rintro e w1 ⟨rfl, ho⟩
      have hp := ho.drop.drop.drop.pt
      obtain ⟨y0, y1, y2⟩ := cells3 hp
      have f0 := blk_frozen hp 0
      have f1 := blk_frozen hp 1
      have f2 := blk_frozen hp 2
      have HB := Aside0.mk ((own_swap [_, _, _] [_] ho).set3 (.int .i64 S.tg) (.int .i64 (i / 3)) (.int .i64 (i % 3)))
      obtain ⟨z0, z1, z2⟩ := cells3 HB.out.pt
      clear ho hp
      go_wp2_with fail
      exact bodyPost_ret (v := .tuple #[tri (S.tg, i / 3, i % 3), .bool true]) (by simp [results, Try.results14, go_sem, z0, z1, z2]) rfl ⟨rfl, HB.out.drop⟩
end
end Go.Proofs.Ytcfonmbojkolfaa.Plan
