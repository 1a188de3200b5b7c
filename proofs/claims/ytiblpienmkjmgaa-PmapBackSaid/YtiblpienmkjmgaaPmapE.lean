/- Package pmap, by hand: what is refused; Clear, Move, Valid. -/
import Derived.Test.YtiblpienmkjmgaaProg
import Derived.Below
import Derived.Deep.Draws
import Derived.Deep.AppendLies
import Derived.Maps.AppendAt
import Derived.OwnWalk
import Derived.Laws.BytesArg
import Derived.Laws.MakeOwn
import Derived.Laws.OwnMore
import Derived.Deep.OwnRows
import Derived.Tactics
import Derived.Lib.ConvBytes
import Derived.Laws.Slices
import Derived.WalkKit
import Derived.KernelRfl
import Derived.RowKit3
import Derived.Deep.LoopGhost
import Derived.Deep.QuietTactic
import Derived.BigQuiet
import Derived.WideLaws
import Derived.Deep.DeepCutAuto
import Derived.Deep.CutBlock
import Derived.Deep.RegionHeld3
import Derived.Deep.RegionWith
import Derived.Laws.Rows
import Derived.Lib.AppendStr
import Derived.ArgAppend
import Derived.Laws.IdiomCopy
import Derived.OrdersHeld
import Derived.Laws.BitsLemmas
import Derived.Outline
import Derived.RegionTactic
import Derived.Lib.Hide
import Derived.StillTailTactics
import Derived.Deep.RegionWith
import Derived.OpenShut
import Derived.Test.YtiblpienmkjmgaaWWords
import Derived.Test.YtiblpienmkjmgaaPmapD
set_option linter.unusedVariables false
namespace Go.Proofs.Ytiblpienmkjmgaa.Pmap
open Go.RowKit Go.Proofs.YtiblpienmkjmgaaW.PrintWords Go.Proofs.Ytiblpienmkjmgaa.Mem Go.Proofs.Ytiblpienmkjmgaa.Own Go.Proofs.Ytiblpienmkjmgaa.Maps Go.Proofs.Ytiblpienmkjmgaa.PM

section
variable {w0 w : World} {L : List Asn} {G : G6} {g m1 m2 v c n : Nat} {S : PS}
set_option maxHeartbeats 2000000 in
set_option maxRecDepth 100000 in
theorem set_range (k : Int) (a : Tri) (hok : G.Ok) (HO : Own w0 w (PMs G g m1 m2 v c n S L)) (hno : ¬ SecIn G k ∨ ¬ PageIn G a) :
    Calls Try.prog 18 #[.pointer (some ⟨g, 0, none⟩), .int .i64 k, tri a] w fun e w' => e = .returned (.int .i64 1) ∧ Own w0 w' (PMs G g m1 m2 v c n S L) := by
  obtain ⟨a0, x, y⟩ := a
  have HA := Aside0.mk ((HO.alloc (.cells #[.int .i64 a0, .int .i64 x, .int .i64 y] 24)).pull2)
  have HOK := Lib.hid hok
  by_cases hk : SecIn G k
  · have hp : ¬ PageIn G (a0, x, y) := hno.resolve_left (not_not_intro hk)
    have HKS := Lib.hid (decide_eq_true hk : decide (SecIn G k) = true)
    have HPS := Lib.hid (decide_eq_false hp : decide (PageIn G (a0, x, y)) = false)
    clear hok hk hp HO hno
    go_enter Try.func18, Try.ntmps18
    go_wp2_with fail
    refine (sector_own k HA.out).mono ?_
    rintro e w1 ⟨rfl, rfl⟩
    rw [HKS.out]
    go_wp2_with fail
    refine (page_own (a0, x, y) HOK.out HA.out).mono ?_
    rintro e w2 ⟨rfl, ho⟩
    rw [HPS.out]
    have HB := Aside0.mk ho.pull2.drop
    clear ho
    go_wp2_with fail
    go_ret
    exact ⟨rfl, HB.out⟩
  · have HKS := Lib.hid (decide_eq_false hk : decide (SecIn G k) = false)
    clear hok hk HO hno
    go_enter Try.func18, Try.ntmps18
    go_wp2_with fail
    refine (sector_own k HA.out).mono ?_
    rintro e w1 ⟨rfl, rfl⟩
    rw [HKS.out]
    go_wp2_with fail
    go_ret
    exact ⟨rfl, HA.out.pull2.drop⟩
set_option maxHeartbeats 2000000 in
set_option maxRecDepth 100000 in
theorem set_taken (k o : Int) (a : Tri) (hok : G.Ok) (HO : Own w0 w (PMs G g m1 m2 v c n S L)) (hk : SecIn G k) (hp : PageIn G a) (hx : mget a S.l2 = some o) (hne : o ≠ k) :
    Calls Try.prog 18 #[.pointer (some ⟨g, 0, none⟩), .int .i64 k, tri a] w fun e w' => e = .returned (.int .i64 5) ∧ Own w0 w' (PMs G g m1 m2 v c n S L) := by
  have hlt := blk_lt HO.pt
  obtain ⟨a0, x, y⟩ := a
  have HA := Aside0.mk ((HO.alloc (.cells #[.int .i64 a0, .int .i64 x, .int .i64 y] 24)).pull2)
  have HOK := Lib.hid hok
  have HKS := Lib.hid (decide_eq_true hk : decide (SecIn G k) = true)
  have HPS := Lib.hid (decide_eq_true hp : decide (PageIn G (a0, x, y)) = true)
  have hb : (o != k) = true := by simpa using hne
  have HX := Lib.hid hx
  clear hok hk hp HO hx
  go_enter Try.func18, Try.ntmps18
  go_wp2_with fail
  refine (sector_own k HA.out).mono ?_
  rintro e w1 ⟨rfl, rfl⟩
  rw [HKS.out]
  go_wp2_with fail
  refine (page_own (a0, x, y) HOK.out HA.out).mono ?_
  rintro e w2 ⟨rfl, ho⟩
  rw [HPS.out]
  have h1 := own_lookup keyT Try.underlying94 ho.drew.pull4 (a0, x, y) zero3
  rw [HX.out] at h1
  simp only [Option.map_some, Option.getD_some, Option.isSome_some] at h1
  obtain ⟨_, _, _, _, _, _, _, x7, _⟩ := cells9 ho.pt
  obtain ⟨p0, p1, p2⟩ := cells3 ho.drop.pt
  have HB := Aside0.mk (ho.drew.pull2.drop)
  clear ho HA
  go_wp2_with fail
  go_region
  all_goals go_wp2_with fail
  all_goals (go_ret; exact ⟨rfl, HB.out⟩)
set_option maxHeartbeats 2000000 in
set_option maxRecDepth 100000 in
theorem clear_range (k : Int) (HO : Own w0 w (PMs G g m1 m2 v c n S L)) (hk : ¬ SecIn G k) :
    Calls Try.prog 20 #[.pointer (some ⟨g, 0, none⟩), .int .i64 k] w fun e w' => e = .returned (.int .i64 1) ∧ Own w0 w' (PMs G g m1 m2 v c n S L) := by
  have HA := Aside0.mk HO
  have HKS := Lib.hid (decide_eq_false hk : decide (SecIn G k) = false)
  clear HO hk
  go_enter Try.func20, Try.ntmps20
  go_wp2_with fail
  refine (sector_own k HA.out).mono ?_
  rintro e w1 ⟨rfl, rfl⟩
  rw [HKS.out]
  go_wp2_with fail
  go_ret
  exact ⟨rfl, HA.out⟩
set_option maxHeartbeats 2000000 in
set_option maxRecDepth 100000 in
theorem clear_go (k : Int) (HO : Own w0 w (PMs G g m1 m2 v c n S L)) (hf : PFine S n) (hk : SecIn G k) :
    Calls Try.prog 20 #[.pointer (some ⟨g, 0, none⟩), .int .i64 k] w fun e w' => e = .returned (.int .i64 0) ∧ Own w0 w' (PMs G g m1 m2 v c n (dropP S k) L) := by
  have HA := Aside0.mk HO
  have HF := Aside0.mk hf
  have HKS := Lib.hid (decide_eq_true hk : decide (SecIn G k) = true)
  clear HO hk hf
  go_enter Try.func20, Try.ntmps20
  go_wp2_with fail
  refine (sector_own k HA.out).mono ?_
  rintro e w1 ⟨rfl, rfl⟩
  rw [HKS.out]
  go_wp2_with fail
  refine (drop_any k HA.out HF.out).mono ?_
  rintro e w2 ⟨rfl, ho⟩
  have HB := Aside0.mk ho
  clear ho
  go_wp2_with fail
  go_ret
  exact ⟨rfl, HB.out⟩
set_option maxHeartbeats 2000000 in
set_option maxRecDepth 100000 in
theorem valid_own (b : Int) (hlen : S.v.length = n) (HO : Own w0 w (PMs G g m1 m2 v c n S L)) :
    Calls Try.prog 26 #[.pointer (some ⟨g, 0, none⟩), .int .i64 b] w fun e w' => e = .returned (.int .i64 (if 0 ≤ b ∧ b < n then S.v.getD b.toNat 0 else 0)) ∧ w' = w := by
  obtain ⟨_, _, _, _, _, _, _, _, x8⟩ := cells9 HO.pt
  by_cases h0 : 0 ≤ b
  · obtain ⟨i, rfl⟩ := Int.eq_ofNat_of_zero_le h0
    have d0 : decide ((i : Int) < 0) = false := decide_eq_false (by omega)
    by_cases h1 : i < n
    · have d1 : decide ((n : Int) ≤ (i : Int)) = false := decide_eq_false (by omega)
      obtain ⟨z0, z1, z2⟩ := HO.pull4.cell hlen i h1
      rw [if_pos (by omega), Int.toNat_natCast]
      generalize S.v.getD i 0 = z at z0
      clear HO
      go_enter Try.func26, Try.ntmps26
      go_wp2_with fail
      go_ret
      exact ⟨rfl, rfl⟩
    · have d1 : decide ((n : Int) ≤ (i : Int)) = true := decide_eq_true (by omega)
      rw [if_neg (by omega)]
      clear HO
      go_enter Try.func26, Try.ntmps26
      go_wp2_with fail
      go_ret
      exact ⟨rfl, rfl⟩
  · have d0 : decide (b < 0) = true := decide_eq_true (by omega)
    rw [if_neg (by omega)]
    clear HO
    go_enter Try.func26, Try.ntmps26
    go_wp2_with fail
    go_ret
    exact ⟨rfl, rfl⟩
end
end Go.Proofs.Ytiblpienmkjmgaa.Pmap
