/- Package pmap, by hand: what is read. -/
import Derived.Test.YtiblpienmkjmgaaProg
import Derived.Below
import Derived.Deep.Draws
import Derived.Deep.AppendLies
import Derived.Maps.AppendAt
import Derived.OwnWalk
import Derived.Laws.BytesArg
import Derived.Laws.MakeOwn
import Derived.Laws.OwnMore
import Derived.Deep.OwnRows
import Derived.Tactics
import Derived.Lib.ConvBytes
import Derived.Laws.Slices
import Derived.WalkKit
import Derived.KernelRfl
import Derived.RowKit3
import Derived.Deep.LoopGhost
import Derived.Deep.QuietTactic
import Derived.BigQuiet
import Derived.WideLaws
import Derived.Deep.DeepCutAuto
import Derived.Deep.CutBlock
import Derived.Deep.RegionHeld3
import Derived.Deep.RegionWith
import Derived.Laws.Rows
import Derived.Lib.AppendStr
import Derived.ArgAppend
import Derived.Laws.IdiomCopy
import Derived.OrdersHeld
import Derived.Laws.BitsLemmas
import Derived.Outline
import Derived.RegionTactic
import Derived.Lib.Hide
import Derived.StillTailTactics
import Derived.Deep.RegionWith
import Derived.OpenShut
import Derived.Test.YtiblpienmkjmgaaWWords
import Derived.Test.YtiblpienmkjmgaaPmapA
set_option linter.unusedVariables false
namespace Go.Proofs.Ytiblpienmkjmgaa.Pmap
abbrev J (A : Option Addr) (c : Nat) (xs : List Int) : Go.Proofs.Ytiblpienmkjmgaa.Own.Asn := Go.Proofs.Ytiblpienmkjmgaa.Own.I (.slice A xs.length c) xs
open Go.RowKit Go.Proofs.YtiblpienmkjmgaaW.PrintWords Go.Proofs.Ytiblpienmkjmgaa.Mem Go.Proofs.Ytiblpienmkjmgaa.Own Go.Proofs.Ytiblpienmkjmgaa.Maps

structure G6 where
  b : Int
  l : Int
  y : Int
  s : Int
  p : Int
  w : Int
abbrev pmC (G : G6) (m1 m2 v c n : Nat) : Obj := .cells #[.int .i64 G.b, .int .i64 G.l, .int .i64 G.y, .int .i64 G.s, .int .i64 G.p, .int .i64 G.w, .map (some m1), .map (some m2), .slice (some ⟨v, 0, none⟩) n c] 96 (0, 0)
abbrev AtM (m : Nat) (l : List (Int × Tri)) : Asn := Mp m (Value.int .i64) tri l
abbrev LbaM (m : Nat) (l : List (Tri × Int)) : Asn := Mp m tri (Value.int .i64) l
abbrev zTri : Obj := .cells #[.int .i64 0, .int .i64 0, .int .i64 0] 24 (0, 0)
theorem cells3 {w : World} {g : Nat} {a b c : Value} {T : TypeId} (k : w.heap[g]? = some (.cells #[a, b, c] T (0, 0))) : w.cell? ⟨g, 0, none⟩ = some a ∧ w.cell? ⟨g, 1, none⟩ = some b ∧ w.cell? ⟨g, 2, none⟩ = some c := ⟨blk_cell k 0, blk_cell k 1, blk_cell k 2⟩
theorem cells9 {w : World} {g : Nat} {a b c d e f h i j : Value} {T : TypeId} (k : w.heap[g]? = some (.cells #[a, b, c, d, e, f, h, i, j] T (0, 0))) : w.cell? ⟨g, 0, none⟩ = some a ∧ w.cell? ⟨g, 1, none⟩ = some b ∧ w.cell? ⟨g, 2, none⟩ = some c ∧ w.cell? ⟨g, 3, none⟩ = some d ∧ w.cell? ⟨g, 4, none⟩ = some e ∧ w.cell? ⟨g, 5, none⟩ = some f ∧
    w.cell? ⟨g, 6, none⟩ = some h ∧ w.cell? ⟨g, 7, none⟩ = some i ∧ w.cell? ⟨g, 8, none⟩ = some j := ⟨blk_cell k 0, blk_cell k 1, blk_cell k 2, blk_cell k 3, blk_cell k 4, blk_cell k 5, blk_cell k 6, blk_cell k 7, blk_cell k 8⟩

section
variable {w0 w : World} {L : List Asn} {G : G6} {g m1 m2 v c n : Nat} {L1 : List (Int × Tri)} {L2 : List (Tri × Int)}
set_option maxHeartbeats 1000000 in
set_option maxRecDepth 100000 in
theorem at_own (k : Int) (HO : Own w0 w (Pt g (pmC G m1 m2 v c n) :: AtM m1 L1 :: L)) :
    Calls Try.prog 12 #[.pointer (some ⟨g, 0, none⟩), .int .i64 k] w fun e w' => e = .returned (.tuple #[tri ((mget k L1).getD (0, 0, 0)), .bool (mget k L1).isSome]) ∧ Own w0 w' (Pt g (pmC G m1 m2 v c n) :: AtM m1 L1 :: L) := by
  have hlt := blk_lt HO.pt
  obtain ⟨o, hm, hi⟩ := mp_of (HO.alloc' zTri).drop
  have hl := run_lookup keyI Try.underlying93 hm hi k (zero24 _) true
  rw [if_pos rfl] at hl
  obtain ⟨_, _, _, _, _, _, x6, _, _⟩ := cells9 HO.pt
  have HA := Aside0.mk ((HO.alloc zTri).push2)
  cases hx : mget k L1 with
  | none =>
    rw [hx] at hl
    simp only [Option.map_none, Option.getD_none, Option.isSome_none] at hl
    have HO' := Aside0.mk HO
    clear hm hi hx HO
    go_enter Try.func12, Try.ntmps12
    go_wp2_with fail
    exact bodyPost_ret (v := .tuple #[tri (0, 0, 0), .bool false]) (by simp [results, Try.results12, go_sem]) rfl ⟨rfl, (HO'.out.alloc' _).alloc' _⟩
  | some a =>
    rw [hx] at hl
    simp only [Option.map_some, Option.getD_some, Option.isSome_some] at hl
    obtain ⟨a0, a1, a2⟩ := a
    have HO' := Aside0.mk HO
    clear hm hi hx HO
    go_enter Try.func12, Try.ntmps12
    go_wp2_with fail
    exact bodyPost_ret (v := .tuple #[tri (a0, a1, a2), .bool true]) (by simp [results, Try.results12, go_sem]) rfl ⟨rfl, (HO'.out.alloc' _).alloc' _⟩
set_option maxHeartbeats 1000000 in
set_option maxRecDepth 100000 in
theorem lba_own (a : Tri) (HO : Own w0 w (Pt g (pmC G m1 m2 v c n) :: LbaM m2 L2 :: L)) :
    Calls Try.prog 13 #[.pointer (some ⟨g, 0, none⟩), tri a] w fun e w' => e = .returned (.tuple #[.int .i64 ((mget a L2).getD 0), .bool (mget a L2).isSome]) ∧ Own w0 w' (Pt g (pmC G m1 m2 v c n) :: LbaM m2 L2 :: L) := by
  have hlt := blk_lt HO.pt
  obtain ⟨a0, a1, a2⟩ := a
  have hl : ∀ W : World, Own w0 W (Pt g (pmC G m1 m2 v c n) :: LbaM m2 L2 :: L) → (Instr.lookup 94 (.map (some m2)) (tri (a0, a1, a2)) true).run Try.prog W = .ok (.tuple #[((mget (a0, a1, a2) L2).map (Value.int .i64)).getD (.int .i64 0), .bool (mget (a0, a1, a2) L2).isSome]) W := fun W h => by
    obtain ⟨o, hm, hi⟩ := mp_of h.drop
    have := run_lookup keyT Try.underlying94 hm hi (a0, a1, a2) (zero3 _) true
    rw [if_pos rfl] at this
    exact this
  have h1 := hl _ (HO.alloc' (.cells #[.int .i64 a0, .int .i64 a1, .int .i64 a2] 24)).drew
  obtain ⟨_, _, _, _, _, _, _, x7, _⟩ := cells9 HO.pt
  have HO' := Aside0.mk HO
  clear HO hl
  cases hx : mget (a0, a1, a2) L2 with
  | none =>
    rw [hx] at h1
    simp only [Option.map_none, Option.getD_none, Option.isSome_none] at h1
    clear hx
    go_enter Try.func13, Try.ntmps13
    go_wp2_with fail
    go_region
    all_goals go_wp2
    all_goals (go_ret2; exact ⟨rfl, (HO'.out.alloc' _).drew⟩)
  | some a =>
    rw [hx] at h1
    simp only [Option.map_some, Option.getD_some, Option.isSome_some] at h1
    clear hx
    go_enter Try.func13, Try.ntmps13
    go_wp2_with fail
    go_region
    all_goals go_wp2
    all_goals (go_ret2; exact ⟨rfl, (HO'.out.alloc' _).drew⟩)
set_option maxHeartbeats 1000000 in
set_option maxRecDepth 100000 in
theorem total_own (HO : Own w0 w (Pt g (pmC G m1 m2 v c n) :: AtM m1 L1 :: L)) :
    Calls Try.prog 15 #[.pointer (some ⟨g, 0, none⟩)] w fun e w' => e = .returned (.int .i64 L1.length) ∧ w' = w := by
  obtain ⟨_, _, _, _, _, _, x6, _, _⟩ := cells9 HO.pt
  have hl := own_len (t := 93) Try.underlying93 HO.drop 3
  clear HO
  go_enter Try.func15, Try.ntmps15
  go_wp2_with fail
  go_ret
  exact ⟨rfl, rfl⟩
set_option maxHeartbeats 1000000 in
set_option maxRecDepth 100000 in
theorem drop_own (V : List Int) (k : Int) (HO : Own w0 w (Pt g (pmC G m1 m2 v c n) :: AtM m1 L1 :: LbaM m2 L2 :: I (.slice (some ⟨v, 0, none⟩) n c) V :: L)) (hn : V.length = n) (hV : n ≤ 1000) :
    (mget k L1 = none → Calls Try.prog 54 #[.pointer (some ⟨g, 0, none⟩), .int .i64 k] w fun e w' => e = .returned (.tuple #[]) ∧ Own w0 w' (Pt g (pmC G m1 m2 v c n) :: AtM m1 L1 :: LbaM m2 L2 :: I (.slice (some ⟨v, 0, none⟩) n c) V :: L)) ∧
    (∀ (b : Nat) (x y : Int), mget k L1 = some ((b : Int), x, y) → b < n → -1000 ≤ V.getD b 0 → V.getD b 0 ≤ 1000000 → Calls Try.prog 54 #[.pointer (some ⟨g, 0, none⟩), .int .i64 k] w fun e w' => e = .returned (.tuple #[]) ∧
      Own w0 w' (Pt g (pmC G m1 m2 v c n) :: AtM m1 (mdel k L1) :: LbaM m2 (mdel ((b : Int), x, y) L2) :: I (.slice (some ⟨v, 0, none⟩) n c) (V.set b (V.getD b 0 - 1)) :: L)) := by
  have hlt := blk_lt HO.pt
  have h1 := own_lookup keyI Try.underlying93 HO.drop k zero24
  obtain ⟨_, _, _, _, _, _, x6, x7, x8⟩ := cells9 HO.pt
  have HO' := Aside0.mk HO
  constructor
  · intro hx
    rw [hx] at h1
    simp only [Option.map_none, Option.getD_none, Option.isSome_none] at h1
    clear HO hx hn
    go_enter Try.func54, Try.ntmps54
    go_wp2_with fail
    go_end0
    exact ⟨rfl, HO'.out.alloc' _⟩
  · intro b x y hx hb hv1 hv2
    rw [hx] at h1
    simp only [Option.map_some, Option.getD_some, Option.isSome_some] at h1
    have ha := (HO.alloc (.cells #[.int .i64 b, .int .i64 x, .int .i64 y] 24)).pull3
    obtain ⟨w1, hd1, ho1⟩ := own_delete keyI Try.underlying93 ha k
    have ho2 := ho1.pull4.drew
    obtain ⟨w2, hd2, ho3⟩ := own_delete keyT Try.underlying94 ho2 ((b : Int), x, y)
    obtain ⟨_, _, _, _, _, _, _, y7, _⟩ := cells9 ho1.drop.drop.pt
    obtain ⟨_, _, _, _, _, _, _, _, z8⟩ := cells9 ho3.drop.drop.drop.pt
    obtain ⟨p0, p1, p2⟩ := cells3 ho1.drop.pt
    obtain ⟨q0, q1, q2⟩ := cells3 ho3.drop.drop.pt
    obtain ⟨r0, r1, r2⟩ := ho3.pull5.cell hn b hb
    obtain ⟨z, hz⟩ : ∃ z, z = V.getD b 0 := ⟨_, rfl⟩
    have HF := Aside0.mk ((ho3.pull5.put hn b (V.getD b 0 - 1)).pull4.drop)
    have HF2 := Aside0.mk HF.out.rev4
    rw [← hz] at r0 hv1 hv2 HF2 ⊢
    clear HO hx ha ho1 ho2 ho3 hz HF hn
    go_enter Try.func54, Try.ntmps54
    go_wp2_with fail
    go_region
    all_goals go_wp2
    all_goals go_region
    all_goals go_wp2
    all_goals go_end0
    all_goals exact ⟨rfl, HF2.out.drew⟩
end
end Go.Proofs.Ytiblpienmkjmgaa.Pmap
