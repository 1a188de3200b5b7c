/- Package plan: the law's own fixed runs (works). -/
import Derived.Test.YtcfonmbojkolfaaProg
import Derived.Below
import Derived.Carry
import Derived.Deep.Draws
import Derived.Deep.AppendLies
import Derived.Maps.AppendAt
import Derived.OwnWalk
import Derived.Laws.BytesArg
import Derived.Laws.MakeOwn
import Derived.Laws.OwnMore
import Derived.Deep.OwnRows
import Derived.Tactics
import Derived.Lib.ConvBytes
import Derived.Laws.Slices
import Derived.WalkKit
import Derived.KernelRfl
import Derived.RowKit3
import Derived.Deep.LoopGhost
import Derived.Deep.QuietTactic
import Derived.BigQuiet
import Derived.WideLaws
import Derived.Deep.DeepCutAuto
import Derived.Deep.CutBlock
import Derived.Deep.RegionHeld3
import Derived.Deep.RegionWith
import Derived.Laws.Rows
import Derived.Lib.AppendStr
import Derived.ArgAppend
import Derived.Laws.IdiomCopy
import Derived.OrdersHeld
import Derived.Laws.BitsLemmas
import Derived.Outline
import Derived.RegionTactic
import Derived.Lib.Hide
import Derived.StillTailTactics
import Derived.Deep.RegionWith
import Derived.OpenShut
import Derived.Test.YtcfonmbojkolfaaWWords
import Derived.Test.YtcfonmbojkolfaaPlanC
import Derived.Test.YtcfonmbojkolfaaPNx5
import Derived.Lib.BufferMore
import Derived.Lib.LazyBuf
set_option linter.unusedVariables false
namespace Go.Proofs.Ytcfonmbojkolfaa.Plan
open Go.RowKit Go.Proofs.YtcfonmbojkolfaaW.PrintWords Go.Proofs.Ytcfonmbojkolfaa.Mem Go.Proofs.Ytcfonmbojkolfaa.Own Go.Proofs.Ytcfonmbojkolfaa.Maps Go.Proofs.Ytcfonmbojkolfaa.PN

theorem eqA27 (d : Nat) (w : World) (x0 y0 : Int) (x1 y1 : Int) (x2 y2 : Int) :
    (Op.equalIn (d + 2) 27 (.agg #[.int .i64 x0, .int .i64 x1, .int .i64 x2]) (.agg #[.int .i64 y0, .int .i64 y1, .int .i64 y2])).run Try.prog w = .ok (x0 == y0 && (x1 == y1 && (x2 == y2))) w := by
  refine eqA_of Try.underlying27 (by kernel_rfl) ?_
  refine eqf_cons (by rfl) (by go_simp; rfl) (by go_simp; rfl) (by go_simp) ?_
  refine eqf_cons (by rfl) (by go_simp; rfl) (by go_simp; rfl) (by go_simp) ?_
  exact eqf_last (by rfl) (by go_simp; rfl) (by go_simp; rfl) (by go_simp)
attribute [local go_sem high] eqA27
abbrev G0 : G6 := ⟨8, 6, 64, 4, 0, 4⟩
theorem g0_ok : G0.Ok := by
  unfold G6.Ok GeoOk SizesOk
  decide
abbrev fl27 (xs : List S27) : List Value := xs.flatMap fun x => [.int .i64 x.f0, .int .i64 x.f1, .int .i64 x.f2]
theorem reps_fl (W : World) (base : Nat) (ok : Nat → Prop) (xs : List S27) : Reps (k27.M W base ok) 3 xs (fl27 xs) := by
  have aux : ∀ (ys xs : List S27) (cs : List Value), Reps (k27.M W base ok) 3 xs cs → Reps (k27.M W base ok) 3 (xs ++ ys) (cs ++ fl27 ys) := by
    intro ys
    induction ys with
    | nil => intro xs cs h; simpa [fl27] using h
    | cons y ys ih =>
      intro xs cs h
      have := ih (xs ++ [y]) (cs ++ [.int .i64 y.f0, .int .i64 y.f1, .int .i64 y.f2]) (h.snoc (k27_mkM W base ok y) rfl)
      simpa [fl27] using this
  simpa using aux xs [] [] (Reps.none _ _)
section
variable {w0 w : World} {L : List Asn}
theorem lit_row (xs : List S27) (hn : xs.length ≤ 1000) (HO : Own w0 w L) : Own w0 (w.alloc (.cells (fl27 xs).toArray 27)) (Ads (.slice (some ⟨w.heap.size, 0, none⟩) xs.length xs.length) xs :: L) := by
  refine HO.fresh (R := [Ads (.slice (some ⟨w.heap.size, 0, none⟩) xs.length xs.length) xs]) (below_alloc (Below.refl _ _) _) (Hold.one ⟨fun k hk => by simp [Value.ownBlock] at hk; omega, fl27 xs, ?_, reps_fl _ _ _ xs⟩)
  have h := World.ownsRow_lit (base := w.heap.size) (e := 27) (size := 3) w (fl27 xs).toArray xs.length (Nat.le_refl _) (by simp [maxLen]; omega) (by have := (reps_fl w 0 (fun _ => True) xs).1; simpa using this)
  exact h
theorem own_then {w1 : World} {R : List Asn} (h : Own w0 w L) (h2 : Own w w1 R) : Own w0 w1 (R ++ L) := let ⟨b, _, hs, hk⟩ := h2; h.fresh b (hs.mono (fun k hk' => (hk k hk').1))
theorem make_any (G : G6) (tg : Int) (A0 : Option Addr) (c0 : Nat) (l : List S27) (hok : G.Ok) (hl : l.length ≤ 100000) (hc0 : l.length ≤ c0) (hr : Kd.C k27 w A0 l.length l) (HO : Own w0 w L) :
    Calls Try.prog 11 #[geoV G, .int .i64 tg, .slice A0 l.length c0] w (MakeEnd w0 G tg l L) := by
  refine (make_own (w0 := w) (L := []) G tg A0 c0 l hok hl hc0 hr (Own.new w)).mono ?_
  rintro e w' (⟨h1, rfl, h2⟩ | ⟨h1, g, A, c, r, rfl, h2⟩)
  · exact .inl ⟨h1, rfl, own_then HO h2⟩
  · exact .inr ⟨h1, g, A, c, r, rfl, own_then HO h2⟩
abbrev ws : List S27 := [⟨1, 0, 0⟩, ⟨1, 1, 0⟩, ⟨1, 2, 0⟩, ⟨2, 0, 0⟩]
theorem ws5 : makeC G0 5 ws = 0 := by decide
theorem ws1 : makeC G0 1 ws = 5 := by decide
theorem wsp : mget (2, 0, 0) (planOf G0 5 ws).m = some 3 := by decide
set_option maxHeartbeats 8000000 in
set_option maxRecDepth 100000 in
theorem works_own (HO : Own w0 w L) : Calls Try.prog 9 #[] w fun e w' => e = .returned (.bool true) ∧ Own w0 w' L := by
  have HL := Aside0.mk (lit_row ws (by decide) HO)
  clear HO
  go_enter Try.func9, Try.ntmps9
  go_wp2_with fail
  refine (decklelaw25_geo.calls 8 6 64 4 0 4 _ rfl).mono ?_
  rintro e w1 ⟨rfl, hb⟩
  have HB := Aside0.mk (HL.out.move hb)
  clear hb HL
  go_wp2_with fail
  refine (make_any G0 5 (some ⟨w.heap.size, 0, none⟩) 4 ws g0_ok (by decide) (by decide) (by obtain ⟨A, c, e1, _, h⟩ := HB.out.reads; injection e1 with e1; subst e1; exact h) HB.out).mono ?_
  rintro e w2 (⟨h1, _⟩ | ⟨_, g, A, c, r, rfl, ho⟩)
  · exact absurd ws5 h1
  have HP := Aside0.mk ho
  clear ho HB
  go_wp2_with fail
  refine (to_own (2, 0, 0) (fun i h => by rw [wsp] at h; obtain rfl := Option.some.inj h; omega) HP.out).mono ?_
  rintro e w3 ⟨rfl, ho⟩
  have htp : toP (planOf G0 5 ws) (2, 0, 0) = ((5, 1, 0), true) := by unfold toP; rw [wsp]; rfl
  rw [htp]
  have HT := Aside0.mk (ho.alloc (.cells #[.int .i64 5, .int .i64 1, .int .i64 0] 27))
  obtain ⟨B4, hB4⟩ : ∃ B4, B4 = w3.heap.size := ⟨_, rfl⟩
  have HB4 := Lib.hid hB4
  clear ho HP htp hB4
  go_wp2_with fail
  refine (decklelaw25_geo.calls 8 6 64 4 0 4 _ rfl).mono ?_
  rintro e w4 ⟨rfl, hb⟩
  have HU := Aside0.mk (own_swap [_, _, _, _] [_] (HT.out.move hb))
  clear hb HT
  go_wp2_with fail
  refine (make_any G0 1 (some ⟨w.heap.size, 0, none⟩) 4 ws g0_ok (by decide) (by decide) (by obtain ⟨A, c, e1, _, h⟩ := HU.out.reads; injection e1 with e1; subst e1; exact h) HU.out).mono ?_
  rintro e w5 (⟨h1, rfl, ho⟩ | ⟨h1, _⟩)
  rotate_left
  · rw [ws1] at h1; exact absurd h1 (by decide)
  clear h1 HU
  rw [ws1]
  obtain ⟨x0, x1, x2⟩ := cells3 ho.drop.pt
  have HV := Aside0.mk ho
  have hst := steps_own (S := planOf G0 5 ws) (by decide) (by decide) ho.drop.drop
  have HS := Aside0.mk hst
  clear ho hst
  go_wp2_with (go_at_call 15; refine HS.out.mono ?_; rintro e w6 ⟨rfl, rfl⟩)
  exact bodyPost_ret (v := .bool true) (by simp [results, Try.results9, go_sem, planOf]) rfl ⟨rfl, HV.out.drop.drop.drop.drop.drop⟩
end
end Go.Proofs.Ytcfonmbojkolfaa.Plan
