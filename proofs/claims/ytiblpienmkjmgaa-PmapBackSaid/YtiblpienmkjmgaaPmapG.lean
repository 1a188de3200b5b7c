/- Package pmap, by hand: Move, New. -/
import Derived.Test.YtiblpienmkjmgaaProg
import Derived.Below
import Derived.Carry
import Derived.Deep.Draws
import Derived.Deep.AppendLies
import Derived.Maps.AppendAt
import Derived.OwnWalk
import Derived.Laws.BytesArg
import Derived.Laws.MakeOwn
import Derived.Laws.OwnMore
import Derived.Deep.OwnRows
import Derived.Tactics
import Derived.Lib.ConvBytes
import Derived.Laws.Slices
import Derived.WalkKit
import Derived.KernelRfl
import Derived.RowKit3
import Derived.Deep.LoopGhost
import Derived.Deep.QuietTactic
import Derived.BigQuiet
import Derived.WideLaws
import Derived.Deep.DeepCutAuto
import Derived.Deep.CutBlock
import Derived.Deep.RegionHeld3
import Derived.Deep.RegionWith
import Derived.Laws.Rows
import Derived.Lib.AppendStr
import Derived.ArgAppend
import Derived.Laws.IdiomCopy
import Derived.OrdersHeld
import Derived.Laws.BitsLemmas
import Derived.Outline
import Derived.RegionTactic
import Derived.Lib.Hide
import Derived.StillTailTactics
import Derived.Deep.RegionWith
import Derived.OpenShut
import Derived.Test.YtiblpienmkjmgaaWWords
import Derived.Test.YtiblpienmkjmgaaPmapF
set_option linter.unusedVariables false
namespace Go.Proofs.Ytiblpienmkjmgaa.Pmap
open Go.RowKit Go.Proofs.YtiblpienmkjmgaaW.PrintWords Go.Proofs.Ytiblpienmkjmgaa.Mem Go.Proofs.Ytiblpienmkjmgaa.Own Go.Proofs.Ytiblpienmkjmgaa.Maps Go.Proofs.Ytiblpienmkjmgaa.PM

section
variable {w0 w : World} {L : List Asn} {G : G6} {g m1 m2 v c : Nat} {S : PS}
set_option maxHeartbeats 2000000 in
set_option maxRecDepth 100000 in
theorem move_any (a b : Tri) (hok : G.Ok) (hi : Inv G S) (HO : Own w0 w (PMs G g m1 m2 v c G.b.toNat S L)) :
    Calls Try.prog 14 #[.pointer (some ⟨g, 0, none⟩), tri a, tri b] w fun e w' => e = .returned (.int .i64 (moveR G S a b).2) ∧ Own w0 w' (PMs G g m1 m2 v c G.b.toNat (moveR G S a b).1 L) := by
  have hlt := blk_lt HO.pt
  obtain ⟨a0, a1, a2⟩ := a
  obtain ⟨b0, b1, b2⟩ := b
  have HA := Aside0.mk (((HO.alloc' (.cells #[.int .i64 a0, .int .i64 a1, .int .i64 a2] 24)).alloc' (.cells #[.int .i64 b0, .int .i64 b1, .int .i64 b2] 24)).drew)
  have h1 := own_lookup keyT Try.underlying94 HA.out.pull3 (a0, a1, a2) zero3
  obtain ⟨_, _, _, _, _, _, _, x7, _⟩ := cells9 HO.pt
  unfold moveR
  cases hx : mget (a0, a1, a2) S.l2 with
  | none =>
    rw [hx] at h1
    simp only [Option.map_none, Option.getD_none, Option.isSome_none] at h1
    clear hx HO hok hi
    go_enter Try.func14, Try.ntmps14
    go_wp2_with fail
    go_region
    all_goals go_wp2_with fail
    all_goals (go_ret; exact ⟨rfl, HA.out⟩)
  | some k =>
    rw [hx] at h1
    simp only [Option.map_some, Option.getD_some, Option.isSome_some] at h1
    have HS := Aside0.mk (set_any k (b0, b1, b2) hok hi HA.out)
    dsimp only
    obtain ⟨S', c', hS⟩ : ∃ S' c', setR G S k (b0, b1, b2) = (S', c') := ⟨_, _, rfl⟩
    rw [hS] at HS ⊢
    clear hx HO hok hi hS
    go_enter Try.func14, Try.ntmps14
    go_wp2_with fail
    go_region
    all_goals go_wp2_with fail
    all_goals
      refine HS.out.mono ?_
      rintro e w2 ⟨rfl, ho⟩
      have HB := Aside0.mk ho
      clear ho
      go_wp2_with fail
      go_ret
      exact ⟨rfl, HB.out⟩
theorem int_row {w : World} {B b d : Nat} {S : Nat → Prop} {xs : List Int} (h : w.ownsRow 0 3 1 (.slice (some ⟨b, 0, none⟩) xs.length d) xs.length (nums .i64 xs)) (hb : B ≤ b) (hs : S b) : (I (.slice (some ⟨b, 0, none⟩) xs.length d) xs).P w B S := by
  refine Kd.R_of_own ?_ (fun k hk => by injection hk with hk; subst hk; exact hs)
  have hm : encs (Value.int .i64) xs = nums .i64 xs := rfl
  rw [hm]
  rcases h.2 with ⟨h', _⟩ | ⟨g', cap', cur, h', r⟩
  · cases h'
  · injection h' with e1 e2 e3
    injection e1 with e1
    injection e1 with e1
    subst e1 e3
    exact ⟨h.1, .inr ⟨_, _, cur, rfl, hb, r.2⟩⟩
theorem made_own {w0 w : World} {L : List Asn} (h : Own w0 w L) (n : Nat) (hn : n ≤ 1000000) : Own w0 (w.alloc (.cells (madeCells #[.int .i64 0] n) 3)) (I (.slice (some ⟨w.heap.size, 0, none⟩) n n) (List.replicate n 0) :: L) := by
  have hr := own_made' w 0 3 .i64 n (Nat.zero_le _) (by omega)
  have hz : (List.replicate n (0 : Int)).length = n := List.length_replicate
  have hr2 := int_row (w := w.alloc (.cells (madeCells #[.int .i64 0] n) 3)) (B := w.heap.size) (S := fun k => w.heap.size ≤ k) (b := w.heap.size) (d := n) (xs := List.replicate n 0) (by rw [hz]; rw [hz] at hr; exact hr) (Nat.le_refl _) (Nat.le_refl _)
  rw [hz] at hr2
  exact h.fresh (R := [I (.slice (some ⟨w.heap.size, 0, none⟩) n n) (List.replicate n 0)]) (below_alloc (Below.refl _ _) _) (Hold.one hr2)
def newP (G : G6) : PS := ⟨[], [], List.replicate G.b.toNat 0⟩
theorem newP_inv (G : G6) (hok : G.Ok) : Inv G (newP G) := by
  have hs := hok.1
  unfold SizesOk at hs
  refine ⟨List.nodup_nil, List.nodup_nil, fun k a => by simp [newP, mget], fun k a h => by simp [newP, mget] at h, by show ((List.replicate _ _).length : Int) = _; rw [List.length_replicate]; omega, fun b hb => ?_⟩
  show (List.replicate G.b.toNat (0 : Int)).getD b 0 = 0
  rw [List.getD_eq_getElem?_getD, List.getElem?_replicate]
  split <;> rfl
set_option maxHeartbeats 2000000 in
set_option maxRecDepth 100000 in
theorem new_no (hok : ¬ G.Ok) (hb : (Lit.int .i64 G.b).wf = true) (hl : (Lit.int .i64 G.l).wf = true) (HO : Own w0 w L) :
    Calls Try.prog 16 #[.agg #[.int .i64 G.b, .int .i64 G.l, .int .i64 G.y, .int .i64 G.s, .int .i64 G.p, .int .i64 G.w]] w fun e w' => e = .returned (.tuple #[.pointer none, .int .i64 60]) ∧ Own w0 w' L := by
  have hc := check_some G.b G.l G.y G.s G.p G.w hb hl 8 (Nat.le_refl _)
  rw [if_neg (show ¬ GeoOk G.b G.l G.y G.s G.p G.w from hok)] at hc
  have HC := Lib.hid hc
  have HA := Aside0.mk (HO.alloc' (.cells #[.int .i64 G.b, .int .i64 G.l, .int .i64 G.y, .int .i64 G.s, .int .i64 G.p, .int .i64 G.w] 37))
  clear hc HO hok hb hl
  go_enter Try.func16, Try.ntmps16
  go_wp2_with fail
  refine (geom_Check.calls 8 _ _ _ _ _ _ 60 _ HC.out).mono ?_
  rintro e w1 ⟨rfl, hb⟩
  have HB := Aside0.mk (HA.out.move hb)
  clear hb
  go_wp2_with fail
  go_ret2
  exact ⟨rfl, HB.out⟩
set_option maxHeartbeats 2000000 in
set_option maxRecDepth 100000 in
theorem new_yes (hok : G.Ok) (HO : Own w0 w L) :
    Calls Try.prog 16 #[.agg #[.int .i64 G.b, .int .i64 G.l, .int .i64 G.y, .int .i64 G.s, .int .i64 G.p, .int .i64 G.w]] w fun e w' => ∃ g m1 m2 v c, e = .returned (.tuple #[.pointer (some ⟨g, 0, none⟩), .int .i64 0]) ∧ Own w0 w' (PMs G g m1 m2 v c G.b.toNat (newP G) L) := by
  have hs := hok.1
  unfold SizesOk at hs
  have hc := check_some G.b G.l G.y G.s G.p G.w (WalkArith.wf_i64 (by omega)) (WalkArith.wf_i64 (by omega)) 8 (Nat.le_refl _)
  rw [if_pos (show GeoOk G.b G.l G.y G.s G.p G.w from hok)] at hc
  have hmb := print_make (P := Try.prog) 40 3 .i64 8 Try.underlying40 info3 (by decide) G.b.toNat (by omega)
  rw [Int.toNat_of_nonneg (by omega)] at hmb
  have hbig : G.b.toNat ≤ 1000000 := by omega
  have HC := Lib.hid hc
  have HA := Aside0.mk (HO.alloc (.cells #[.int .i64 G.b, .int .i64 G.l, .int .i64 G.y, .int .i64 G.s, .int .i64 G.p, .int .i64 G.w] 37))
  clear hc HO hok hs
  go_enter Try.func16, Try.ntmps16
  go_wp2_with fail
  refine (geom_Check.calls 8 _ _ _ _ _ _ 0 _ HC.out).mono ?_
  rintro e w1 ⟨rfl, hb⟩
  have HB := Aside0.mk (HA.out.move hb)
  clear hb
  have kk := Aside0.mk HB.out.pt
  obtain ⟨u0, u1, u2, u3, u4, u5⟩ := cells6 (kk.out)
  have g1 := blk_lt HB.out.pt
  go_wp2_with fail
  clear kk
  have a1 : w.heap.size < w1.heap.size + 1 := by omega
  have a2 : w.heap.size < w1.heap.size + 1 + 1 := by omega
  have a3 : w.heap.size < w1.heap.size + 1 + 1 + 1 := by omega
  have a4 : w.heap.size < w1.heap.size + 1 + 1 + 1 + 1 := by omega
  have hm1 := fun W => run_makeMap (P := Try.prog) 93 W
  have hm2 := fun W => run_makeMap (P := Try.prog) 94 W
  go_region
  all_goals go_wp2
  all_goals clear u0 u1 u2 u3 u4 u5 a1 a2 a3 a4 g1 hm1 hm2 hmb
  all_goals first
    | (have h4 := Own.alloc (made_own (mp_new tri (.int .i64) (mp_new (.int .i64) tri HB.out.drop 0) 0) G.b.toNat hbig) (pmC G (w1.heap.size) (w1.heap.size + 1) (w1.heap.size + 1 + 1) G.b.toNat G.b.toNat)
       simp only [World.size_alloc] at h4
       exact bodyPost_ret (v := .tuple #[.pointer (some ⟨w1.heap.size + 1 + 1 + 1, 0, none⟩), .int .i64 0]) (by simp [results, Try.results16, go_sem]) rfl ⟨_, (w1.heap.size), (w1.heap.size + 1), (w1.heap.size + 1 + 1), _, rfl, h4.drew.pull2.pull3.pull4.pull4⟩)
    | (have h4 := Own.alloc (mp_new tri (.int .i64) (made_own (mp_new (.int .i64) tri HB.out.drop 0) G.b.toNat hbig) 0) (pmC G (w1.heap.size) (w1.heap.size + 1 + 1) (w1.heap.size + 1) G.b.toNat G.b.toNat)
       simp only [World.size_alloc] at h4
       exact bodyPost_ret (v := .tuple #[.pointer (some ⟨w1.heap.size + 1 + 1 + 1, 0, none⟩), .int .i64 0]) (by simp [results, Try.results16, go_sem]) rfl ⟨_, (w1.heap.size), (w1.heap.size + 1 + 1), (w1.heap.size + 1), _, rfl, h4.drew.pull3.pull3.pull4.pull4⟩)
    | (have h4 := Own.alloc (made_own (mp_new (.int .i64) tri (mp_new tri (.int .i64) HB.out.drop 0) 0) G.b.toNat hbig) (pmC G (w1.heap.size + 1) (w1.heap.size) (w1.heap.size + 1 + 1) G.b.toNat G.b.toNat)
       simp only [World.size_alloc] at h4
       exact bodyPost_ret (v := .tuple #[.pointer (some ⟨w1.heap.size + 1 + 1 + 1, 0, none⟩), .int .i64 0]) (by simp [results, Try.results16, go_sem]) rfl ⟨_, (w1.heap.size + 1), (w1.heap.size), (w1.heap.size + 1 + 1), _, rfl, h4.drew.pull2.pull4.pull4.pull4⟩)
    | (have h4 := Own.alloc (mp_new (.int .i64) tri (made_own (mp_new tri (.int .i64) HB.out.drop 0) G.b.toNat hbig) 0) (pmC G (w1.heap.size + 1 + 1) (w1.heap.size) (w1.heap.size + 1) G.b.toNat G.b.toNat)
       simp only [World.size_alloc] at h4
       exact bodyPost_ret (v := .tuple #[.pointer (some ⟨w1.heap.size + 1 + 1 + 1, 0, none⟩), .int .i64 0]) (by simp [results, Try.results16, go_sem]) rfl ⟨_, (w1.heap.size + 1 + 1), (w1.heap.size), (w1.heap.size + 1), _, rfl, h4.drew.pull3.pull4.pull4.pull4⟩)
    | (have h4 := Own.alloc (mp_new tri (.int .i64) (mp_new (.int .i64) tri (made_own HB.out.drop G.b.toNat hbig) 0) 0) (pmC G (w1.heap.size + 1) (w1.heap.size + 1 + 1) (w1.heap.size) G.b.toNat G.b.toNat)
       simp only [World.size_alloc] at h4
       exact bodyPost_ret (v := .tuple #[.pointer (some ⟨w1.heap.size + 1 + 1 + 1, 0, none⟩), .int .i64 0]) (by simp [results, Try.results16, go_sem]) rfl ⟨_, (w1.heap.size + 1), (w1.heap.size + 1 + 1), (w1.heap.size), _, rfl, h4.drew.pull4.pull3.pull4.pull4⟩)
    | (have h4 := Own.alloc (mp_new (.int .i64) tri (mp_new tri (.int .i64) (made_own HB.out.drop G.b.toNat hbig) 0) 0) (pmC G (w1.heap.size + 1 + 1) (w1.heap.size + 1) (w1.heap.size) G.b.toNat G.b.toNat)
       simp only [World.size_alloc] at h4
       exact bodyPost_ret (v := .tuple #[.pointer (some ⟨w1.heap.size + 1 + 1 + 1, 0, none⟩), .int .i64 0]) (by simp [results, Try.results16, go_sem]) rfl ⟨_, (w1.heap.size + 1 + 1), (w1.heap.size + 1), (w1.heap.size), _, rfl, h4.drew.pull4.pull4.pull4.pull4⟩)
end
end Go.Proofs.Ytiblpienmkjmgaa.Pmap
