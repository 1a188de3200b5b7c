/- Package pmap, by hand: a sector's page set, cleared, moved. -/
import Derived.Test.YtiblpienmkjmgaaProg
import Derived.Below
import Derived.Deep.Draws
import Derived.Deep.AppendLies
import Derived.Maps.AppendAt
import Derived.OwnWalk
import Derived.Laws.BytesArg
import Derived.Laws.MakeOwn
import Derived.Laws.OwnMore
import Derived.Deep.OwnRows
import Derived.Tactics
import Derived.Lib.ConvBytes
import Derived.Laws.Slices
import Derived.WalkKit
import Derived.KernelRfl
import Derived.RowKit3
import Derived.Deep.LoopGhost
import Derived.Deep.QuietTactic
import Derived.BigQuiet
import Derived.WideLaws
import Derived.Deep.DeepCutAuto
import Derived.Deep.CutBlock
import Derived.Deep.RegionHeld3
import Derived.Deep.RegionWith
import Derived.Laws.Rows
import Derived.Lib.AppendStr
import Derived.ArgAppend
import Derived.Laws.IdiomCopy
import Derived.OrdersHeld
import Derived.Laws.BitsLemmas
import Derived.Outline
import Derived.RegionTactic
import Derived.Lib.Hide
import Derived.StillTailTactics
import Derived.Deep.RegionWith
import Derived.OpenShut
import Derived.Test.YtiblpienmkjmgaaWWords
import Derived.Test.YtiblpienmkjmgaaPmapC
set_option linter.unusedVariables false
namespace Go.Proofs.Ytiblpienmkjmgaa.Pmap
open Go.RowKit Go.Proofs.YtiblpienmkjmgaaW.PrintWords Go.Proofs.Ytiblpienmkjmgaa.Mem Go.Proofs.Ytiblpienmkjmgaa.Own Go.Proofs.Ytiblpienmkjmgaa.Maps Go.Proofs.Ytiblpienmkjmgaa.PM

/-- A map: of each sector its page, of each page its sector, of each block how many. -/
structure PS where
  l1 : List (Int × Tri)
  l2 : List (Tri × Int)
  v : List Int
def dropP (S : PS) (k : Int) : PS := match mget k S.l1 with
  | none => S
  | some a => ⟨mdel k S.l1, mdel a S.l2, S.v.set a.1.toNat (S.v.getD a.1.toNat 0 - 1)⟩
def putP (S : PS) (k : Int) (a : Tri) : PS := ⟨mset k a S.l1, mset a k S.l2, S.v.set a.1.toNat (S.v.getD a.1.toNat 0 + 1)⟩
/-- What the walks ask. -/
structure PFine (S : PS) (n : Nat) : Prop where
  len : S.v.length = n
  small : n ≤ 1000
  val : ∀ b : Nat, b < n → -1000 ≤ S.v.getD b 0 ∧ S.v.getD b 0 ≤ 1000000
  dom : ∀ k a, mget k S.l1 = some a → 0 ≤ a.1 ∧ a.1 < n
abbrev PMs (G : G6) (g m1 m2 v c n : Nat) (S : PS) (L : List Asn) : List Asn := Pt g (pmC G m1 m2 v c n) :: AtM m1 S.l1 :: LbaM m2 S.l2 :: I (.slice (some ⟨v, 0, none⟩) n c) S.v :: L
section
variable {w0 w : World} {L : List Asn} {G : G6} {g m1 m2 v c n : Nat} {S : PS}
theorem drop_any (k : Int) (HO : Own w0 w (PMs G g m1 m2 v c n S L)) (hf : PFine S n) :
    Calls Try.prog 54 #[.pointer (some ⟨g, 0, none⟩), .int .i64 k] w fun e w' => e = .returned (.tuple #[]) ∧ Own w0 w' (PMs G g m1 m2 v c n (dropP S k) L) := by
  have h := drop_own S.v k HO hf.len hf.small
  unfold dropP
  cases hx : mget k S.l1 with
  | none => exact h.1 hx
  | some a =>
    obtain ⟨a0, x, y⟩ := a
    have hd := hf.dom k _ hx
    obtain ⟨b, rfl⟩ : ∃ b : Nat, a0 = b := ⟨a0.toNat, by simp only at hd; omega⟩
    simp only at hd
    have hv := hf.val b (by omega)
    have := h.2 b x y hx (by omega) hv.1 hv.2
    simp only [Int.toNat_natCast]
    exact this
set_option maxHeartbeats 2000000 in
set_option maxRecDepth 100000 in
theorem set_go (k : Int) (b : Nat) (x y : Int) (hok : G.Ok) (HO : Own w0 w (PMs G g m1 m2 v c n S L)) (hf : PFine S n) (hf2 : PFine (dropP S k) n) (hk : SecIn G k) (hp : PageIn G ((b : Int), x, y)) (hb : b < n) (hfree : mget ((b : Int), x, y) S.l2 = none ∨ mget ((b : Int), x, y) S.l2 = some k) :
    Calls Try.prog 18 #[.pointer (some ⟨g, 0, none⟩), .int .i64 k, tri ((b : Int), x, y)] w fun e w' => e = .returned (.int .i64 0) ∧ Own w0 w' (PMs G g m1 m2 v c n (putP (dropP S k) k ((b : Int), x, y)) L) := by
  have hlt := blk_lt HO.pt
  have HA := Aside0.mk ((HO.alloc (.cells #[.int .i64 b, .int .i64 x, .int .i64 y] 24)).pull2)
  have HF := Aside0.mk hf
  have HF2 := Aside0.mk hf2
  have HOK := Lib.hid hok
  have HKS := Lib.hid (decide_eq_true hk : decide (SecIn G k) = true)
  have HPS := Lib.hid (decide_eq_true hp : decide (PageIn G ((b : Int), x, y)) = true)
  obtain ⟨S', hS'⟩ : ∃ S', dropP S k = S' := ⟨_, rfl⟩
  have HD := Lib.hid hS'
  rw [hS'] at HF2 ⊢
  obtain ⟨z, hz⟩ : ∃ z, z = S'.v.getD b 0 := ⟨_, rfl⟩
  have HZ := Lib.hid hz
  have hput : putP S' k ((b : Int), x, y) = ⟨mset k ((b : Int), x, y) S'.l1, mset ((b : Int), x, y) k S'.l2, S'.v.set b (z + 1)⟩ := by rw [hz]; rfl
  rw [hput]
  clear hok hf hf2 hk hp HO hS' hz hput
  go_enter Try.func18, Try.ntmps18
  go_wp2_with fail
  refine (sector_own k HA.out).mono ?_
  rintro e w1 ⟨rfl, rfl⟩
  rw [HKS.out]
  go_wp2_with fail
  refine (page_own ((b : Int), x, y) HOK.out HA.out).mono ?_
  rintro e w2 ⟨rfl, ho⟩
  rw [HPS.out]
  have h1 := own_lookup keyT Try.underlying94 ho.drew.pull4 ((b : Int), x, y) zero3
  obtain ⟨_, _, _, _, _, _, _, x7, _⟩ := cells9 ho.pt
  obtain ⟨p0, p1, p2⟩ := cells3 ho.drop.pt
  have HB := Aside0.mk (ho.drew.pull2.push4)
  clear ho HA
  rcases hfree with hx | hx
  · rw [hx] at h1
    simp only [Option.map_none, Option.getD_none, Option.isSome_none] at h1
    clear hx
    go_wp2_with fail
    go_region
    all_goals go_wp2_with fail
    all_goals
      refine (drop_any k HB.out HF.out).mono ?_
      rintro e w3 ⟨rfl, ho⟩
      rw [HD.out] at ho
      obtain ⟨w4, hu1, ho4⟩ := own_update keyI Try.underlying93 ho.drew.pull2 k ((b : Int), x, y)
      obtain ⟨w5, hu2, ho5⟩ := own_update keyT Try.underlying94 ho4.drew.pull3 ((b : Int), x, y) k
      obtain ⟨_, _, _, _, _, _, x6, _, _⟩ := cells9 ho.pt
      obtain ⟨_, _, _, _, _, _, _, y7, _⟩ := cells9 ho4.drop.pt
      obtain ⟨_, _, _, _, _, _, _, _, z8⟩ := cells9 ho5.drop.drop.pt
      obtain ⟨q0, q1, q2⟩ := cells3 ho.drop.drop.drop.drop.pt
      obtain ⟨r0, r1, r2⟩ := cells3 ho4.drop.drop.drop.drop.pt
      obtain ⟨t0, t1, t2⟩ := cells3 ho5.drop.drop.drop.drop.pt
      obtain ⟨u0, u1, u2⟩ := ho5.pull4.cell HF2.out.len b hb
      obtain ⟨hv1, hv2⟩ := HF2.out.val b hb
      have HE := Aside0.mk ((ho5.pull4.put HF2.out.len b (z + 1)).rev4.pull5.drop.drew)
      rw [← HZ.out] at u0 hv1 hv2
      clear ho ho4 ho5 p0 p1 p2 x7 h1 HB
      go_wp2_with fail
      go_region
      all_goals go_wp2_with fail
      all_goals go_region
      all_goals go_wp2_with fail
      all_goals go_region
      all_goals go_wp2_with fail
      all_goals (go_ret; exact ⟨rfl, HE.out⟩)
  · rw [hx] at h1
    simp only [Option.map_some, Option.getD_some, Option.isSome_some] at h1
    clear hx
    go_wp2_with fail
    go_region
    all_goals go_wp2_with fail
    all_goals
      refine (drop_any k HB.out HF.out).mono ?_
      rintro e w3 ⟨rfl, ho⟩
      rw [HD.out] at ho
      obtain ⟨w4, hu1, ho4⟩ := own_update keyI Try.underlying93 ho.drew.pull2 k ((b : Int), x, y)
      obtain ⟨w5, hu2, ho5⟩ := own_update keyT Try.underlying94 ho4.drew.pull3 ((b : Int), x, y) k
      obtain ⟨_, _, _, _, _, _, x6, _, _⟩ := cells9 ho.pt
      obtain ⟨_, _, _, _, _, _, _, y7, _⟩ := cells9 ho4.drop.pt
      obtain ⟨_, _, _, _, _, _, _, _, z8⟩ := cells9 ho5.drop.drop.pt
      obtain ⟨q0, q1, q2⟩ := cells3 ho.drop.drop.drop.drop.pt
      obtain ⟨r0, r1, r2⟩ := cells3 ho4.drop.drop.drop.drop.pt
      obtain ⟨t0, t1, t2⟩ := cells3 ho5.drop.drop.drop.drop.pt
      obtain ⟨u0, u1, u2⟩ := ho5.pull4.cell HF2.out.len b hb
      obtain ⟨hv1, hv2⟩ := HF2.out.val b hb
      have HE := Aside0.mk ((ho5.pull4.put HF2.out.len b (z + 1)).rev4.pull5.drop.drew)
      rw [← HZ.out] at u0 hv1 hv2
      clear ho ho4 ho5 p0 p1 p2 x7 h1 HB
      go_wp2_with fail
      go_region
      all_goals go_wp2_with fail
      all_goals go_region
      all_goals go_wp2_with fail
      all_goals go_region
      all_goals go_wp2_with fail
      all_goals (go_ret; exact ⟨rfl, HE.out⟩)
end
end Go.Proofs.Ytiblpienmkjmgaa.Pmap
