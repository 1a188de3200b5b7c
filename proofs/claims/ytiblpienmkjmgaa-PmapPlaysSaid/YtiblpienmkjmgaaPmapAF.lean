/- Package pmap, by hand: its maps. -/
import Derived.Test.YtiblpienmkjmgaaProg
import Derived.Below
import Derived.Deep.Draws
import Derived.Deep.AppendLies
import Derived.Maps.AppendAt
import Derived.OwnWalk
import Derived.Laws.BytesArg
import Derived.Laws.MakeOwn
import Derived.Laws.OwnMore
import Derived.Deep.OwnRows
import Derived.Tactics
import Derived.Lib.ConvBytes
import Derived.Laws.Slices
import Derived.WalkKit
import Derived.KernelRfl
import Derived.RowKit3
import Derived.Deep.LoopGhost
import Derived.Deep.QuietTactic
import Derived.BigQuiet
import Derived.WideLaws
import Derived.Deep.DeepCutAuto
import Derived.Deep.CutBlock
import Derived.Deep.RegionHeld3
import Derived.Deep.RegionWith
import Derived.Laws.Rows
import Derived.Lib.AppendStr
import Derived.ArgAppend
import Derived.Laws.IdiomCopy
import Derived.OrdersHeld
import Derived.Laws.BitsLemmas
import Derived.Outline
import Derived.RegionTactic
import Derived.Lib.Hide
import Derived.StillTailTactics
import Derived.OpenShut
import Derived.Test.YtiblpienmkjmgaaWWords
import Derived.Test.YtiblpienmkjmgaaMap
import Derived.Test.YtiblpienmkjmgaaPMx5
import Derived.Test.YtiblpienmkjmgaaPMGeomLemmas
set_option linter.unusedVariables false
namespace Go.Proofs.Ytiblpienmkjmgaa.Pmap
open Go.RowKit Go.Proofs.YtiblpienmkjmgaaW.PrintWords Go.Proofs.Ytiblpienmkjmgaa.Mem Go.Proofs.Ytiblpienmkjmgaa.Own Go.Proofs.Ytiblpienmkjmgaa.Maps

abbrev Tri := Int × Int × Int
theorem keyI : Key Try.prog 3 (Value.int .i64) := key_int Try.underlying3
theorem eq_tri (x y : Tri) (w : World) : (Op.equal 24 (tri x) (tri y)).run Try.prog w = .ok (decide (x = y)) w := by
  obtain ⟨a, b, c⟩ := x
  obtain ⟨d, e, f⟩ := y
  have h := eqA_of (P := Try.prog) (d := 9999) (w := w) (xs := #[.int .i64 a, .int .i64 b, .int .i64 c]) (ys := #[.int .i64 d, .int .i64 e, .int .i64 f]) Try.underlying24 (by kernel_rfl)
    (eqf_cons (by kernel_rfl) (by kernel_rfl) (by kernel_rfl) (by kernel_rfl : (Op.equalIn 9999 3 (.int .i64 a) (.int .i64 d)).run Try.prog w = .ok (a == d) w)
      (eqf_cons (by kernel_rfl) (by kernel_rfl) (by kernel_rfl) (by kernel_rfl : (Op.equalIn 9999 3 (.int .i64 b) (.int .i64 e)).run Try.prog w = .ok (b == e) w)
        (eqf_last (by kernel_rfl) (by kernel_rfl) (by kernel_rfl) (by kernel_rfl : (Op.equalIn 9999 3 (.int .i64 c) (.int .i64 f)).run Try.prog w = .ok (c == f) w))))
  have e : (a == d && (b == e && c == f)) = decide ((a, b, c) = (d, e, f)) := by
    rw [Bool.eq_iff_iff]; simp
  rw [e] at h
  exact h
theorem chk_tri (b : Bool) (x : Tri) (w : World) : (Instr.checkKey b 10000 24 (tri x)).run Try.prog w = .ok () w := by kernel_rfl
theorem keyT : Key Try.prog 24 tri := key_tri Try.underlying24 chk_tri eq_tri
theorem zero24 (w : World) : (zeroValue 24).run Try.prog w = .ok (tri (0, 0, 0)) w := by kernel_rfl
theorem zero3 (w : World) : (zeroValue 3).run Try.prog w = .ok (.int .i64 0) w := by kernel_rfl
end Go.Proofs.Ytiblpienmkjmgaa.Pmap

/- Package pmap, by hand: what is read. -/
set_option linter.unusedVariables false
namespace Go.Proofs.Ytiblpienmkjmgaa.Pmap
abbrev J (A : Option Addr) (c : Nat) (xs : List Int) : Go.Proofs.Ytiblpienmkjmgaa.Own.Asn := Go.Proofs.Ytiblpienmkjmgaa.Own.I (.slice A xs.length c) xs
open Go.RowKit Go.Proofs.YtiblpienmkjmgaaW.PrintWords Go.Proofs.Ytiblpienmkjmgaa.Mem Go.Proofs.Ytiblpienmkjmgaa.Own Go.Proofs.Ytiblpienmkjmgaa.Maps

structure G6 where
  b : Int
  l : Int
  y : Int
  s : Int
  p : Int
  w : Int
abbrev pmC (G : G6) (m1 m2 v c n : Nat) : Obj := .cells #[.int .i64 G.b, .int .i64 G.l, .int .i64 G.y, .int .i64 G.s, .int .i64 G.p, .int .i64 G.w, .map (some m1), .map (some m2), .slice (some ⟨v, 0, none⟩) n c] 96 (0, 0)
abbrev AtM (m : Nat) (l : List (Int × Tri)) : Asn := Mp m (Value.int .i64) tri l
abbrev LbaM (m : Nat) (l : List (Tri × Int)) : Asn := Mp m tri (Value.int .i64) l
abbrev zTri : Obj := .cells #[.int .i64 0, .int .i64 0, .int .i64 0] 24 (0, 0)
theorem cells3 {w : World} {g : Nat} {a b c : Value} {T : TypeId} (k : w.heap[g]? = some (.cells #[a, b, c] T (0, 0))) : w.cell? ⟨g, 0, none⟩ = some a ∧ w.cell? ⟨g, 1, none⟩ = some b ∧ w.cell? ⟨g, 2, none⟩ = some c := ⟨blk_cell k 0, blk_cell k 1, blk_cell k 2⟩
theorem cells9 {w : World} {g : Nat} {a b c d e f h i j : Value} {T : TypeId} (k : w.heap[g]? = some (.cells #[a, b, c, d, e, f, h, i, j] T (0, 0))) : w.cell? ⟨g, 0, none⟩ = some a ∧ w.cell? ⟨g, 1, none⟩ = some b ∧ w.cell? ⟨g, 2, none⟩ = some c ∧ w.cell? ⟨g, 3, none⟩ = some d ∧ w.cell? ⟨g, 4, none⟩ = some e ∧ w.cell? ⟨g, 5, none⟩ = some f ∧
    w.cell? ⟨g, 6, none⟩ = some h ∧ w.cell? ⟨g, 7, none⟩ = some i ∧ w.cell? ⟨g, 8, none⟩ = some j := ⟨blk_cell k 0, blk_cell k 1, blk_cell k 2, blk_cell k 3, blk_cell k 4, blk_cell k 5, blk_cell k 6, blk_cell k 7, blk_cell k 8⟩

section
variable {w0 w : World} {L : List Asn} {G : G6} {g m1 m2 v c n : Nat} {L1 : List (Int × Tri)} {L2 : List (Tri × Int)}
set_option maxHeartbeats 1000000 in
set_option maxRecDepth 100000 in
theorem at_own (k : Int) (HO : Own w0 w (Pt g (pmC G m1 m2 v c n) :: AtM m1 L1 :: L)) :
    Calls Try.prog 12 #[.pointer (some ⟨g, 0, none⟩), .int .i64 k] w fun e w' => e = .returned (.tuple #[tri ((mget k L1).getD (0, 0, 0)), .bool (mget k L1).isSome]) ∧ Own w0 w' (Pt g (pmC G m1 m2 v c n) :: AtM m1 L1 :: L) := by
  have hlt := blk_lt HO.pt
  obtain ⟨o, hm, hi⟩ := mp_of (HO.alloc' zTri).drop
  have hl := run_lookup keyI Try.underlying93 hm hi k (zero24 _) true
  rw [if_pos rfl] at hl
  obtain ⟨_, _, _, _, _, _, x6, _, _⟩ := cells9 HO.pt
  have HA := Aside0.mk ((HO.alloc zTri).push2)
  cases hx : mget k L1 with
  | none =>
    rw [hx] at hl
    simp only [Option.map_none, Option.getD_none, Option.isSome_none] at hl
    have HO' := Aside0.mk HO
    clear hm hi hx HO
    go_enter Try.func12, Try.ntmps12
    go_wp2_with fail
    exact bodyPost_ret (v := .tuple #[tri (0, 0, 0), .bool false]) (by simp [results, Try.results12, go_sem]) rfl ⟨rfl, (HO'.out.alloc' _).alloc' _⟩
  | some a =>
    rw [hx] at hl
    simp only [Option.map_some, Option.getD_some, Option.isSome_some] at hl
    obtain ⟨a0, a1, a2⟩ := a
    have HO' := Aside0.mk HO
    clear hm hi hx HO
    go_enter Try.func12, Try.ntmps12
    go_wp2_with fail
    exact bodyPost_ret (v := .tuple #[tri (a0, a1, a2), .bool true]) (by simp [results, Try.results12, go_sem]) rfl ⟨rfl, (HO'.out.alloc' _).alloc' _⟩
set_option maxHeartbeats 1000000 in
set_option maxRecDepth 100000 in
theorem lba_own (a : Tri) (HO : Own w0 w (Pt g (pmC G m1 m2 v c n) :: LbaM m2 L2 :: L)) :
    Calls Try.prog 13 #[.pointer (some ⟨g, 0, none⟩), tri a] w fun e w' => e = .returned (.tuple #[.int .i64 ((mget a L2).getD 0), .bool (mget a L2).isSome]) ∧ Own w0 w' (Pt g (pmC G m1 m2 v c n) :: LbaM m2 L2 :: L) := by
  have hlt := blk_lt HO.pt
  obtain ⟨a0, a1, a2⟩ := a
  have hl : ∀ W : World, Own w0 W (Pt g (pmC G m1 m2 v c n) :: LbaM m2 L2 :: L) → (Instr.lookup 94 (.map (some m2)) (tri (a0, a1, a2)) true).run Try.prog W = .ok (.tuple #[((mget (a0, a1, a2) L2).map (Value.int .i64)).getD (.int .i64 0), .bool (mget (a0, a1, a2) L2).isSome]) W := fun W h => by
    obtain ⟨o, hm, hi⟩ := mp_of h.drop
    have := run_lookup keyT Try.underlying94 hm hi (a0, a1, a2) (zero3 _) true
    rw [if_pos rfl] at this
    exact this
  have h1 := hl _ (HO.alloc' (.cells #[.int .i64 a0, .int .i64 a1, .int .i64 a2] 24)).drew
  obtain ⟨_, _, _, _, _, _, _, x7, _⟩ := cells9 HO.pt
  have HO' := Aside0.mk HO
  clear HO hl
  cases hx : mget (a0, a1, a2) L2 with
  | none =>
    rw [hx] at h1
    simp only [Option.map_none, Option.getD_none, Option.isSome_none] at h1
    clear hx
    go_enter Try.func13, Try.ntmps13
    go_wp2_with fail
    go_region
    all_goals go_wp2
    all_goals (go_ret2; exact ⟨rfl, (HO'.out.alloc' _).drew⟩)
  | some a =>
    rw [hx] at h1
    simp only [Option.map_some, Option.getD_some, Option.isSome_some] at h1
    clear hx
    go_enter Try.func13, Try.ntmps13
    go_wp2_with fail
    go_region
    all_goals go_wp2
    all_goals (go_ret2; exact ⟨rfl, (HO'.out.alloc' _).drew⟩)
set_option maxHeartbeats 1000000 in
set_option maxRecDepth 100000 in
theorem total_own (HO : Own w0 w (Pt g (pmC G m1 m2 v c n) :: AtM m1 L1 :: L)) :
    Calls Try.prog 15 #[.pointer (some ⟨g, 0, none⟩)] w fun e w' => e = .returned (.int .i64 L1.length) ∧ w' = w := by
  obtain ⟨_, _, _, _, _, _, x6, _, _⟩ := cells9 HO.pt
  have hl := own_len (t := 93) Try.underlying93 HO.drop 3
  clear HO
  go_enter Try.func15, Try.ntmps15
  go_wp2_with fail
  go_ret
  exact ⟨rfl, rfl⟩
set_option maxHeartbeats 1000000 in
set_option maxRecDepth 100000 in
theorem drop_own (V : List Int) (k : Int) (HO : Own w0 w (Pt g (pmC G m1 m2 v c n) :: AtM m1 L1 :: LbaM m2 L2 :: I (.slice (some ⟨v, 0, none⟩) n c) V :: L)) (hn : V.length = n) (hV : n ≤ 1000) :
    (mget k L1 = none → Calls Try.prog 54 #[.pointer (some ⟨g, 0, none⟩), .int .i64 k] w fun e w' => e = .returned (.tuple #[]) ∧ Own w0 w' (Pt g (pmC G m1 m2 v c n) :: AtM m1 L1 :: LbaM m2 L2 :: I (.slice (some ⟨v, 0, none⟩) n c) V :: L)) ∧
    (∀ (b : Nat) (x y : Int), mget k L1 = some ((b : Int), x, y) → b < n → -1000 ≤ V.getD b 0 → V.getD b 0 ≤ 1000000 → Calls Try.prog 54 #[.pointer (some ⟨g, 0, none⟩), .int .i64 k] w fun e w' => e = .returned (.tuple #[]) ∧
      Own w0 w' (Pt g (pmC G m1 m2 v c n) :: AtM m1 (mdel k L1) :: LbaM m2 (mdel ((b : Int), x, y) L2) :: I (.slice (some ⟨v, 0, none⟩) n c) (V.set b (V.getD b 0 - 1)) :: L)) := by
  have hlt := blk_lt HO.pt
  have h1 := own_lookup keyI Try.underlying93 HO.drop k zero24
  obtain ⟨_, _, _, _, _, _, x6, x7, x8⟩ := cells9 HO.pt
  have HO' := Aside0.mk HO
  constructor
  · intro hx
    rw [hx] at h1
    simp only [Option.map_none, Option.getD_none, Option.isSome_none] at h1
    clear HO hx hn
    go_enter Try.func54, Try.ntmps54
    go_wp2_with fail
    go_end0
    exact ⟨rfl, HO'.out.alloc' _⟩
  · intro b x y hx hb hv1 hv2
    rw [hx] at h1
    simp only [Option.map_some, Option.getD_some, Option.isSome_some] at h1
    have ha := (HO.alloc (.cells #[.int .i64 b, .int .i64 x, .int .i64 y] 24)).pull3
    obtain ⟨w1, hd1, ho1⟩ := own_delete keyI Try.underlying93 ha k
    have ho2 := ho1.pull4.drew
    obtain ⟨w2, hd2, ho3⟩ := own_delete keyT Try.underlying94 ho2 ((b : Int), x, y)
    obtain ⟨_, _, _, _, _, _, _, y7, _⟩ := cells9 ho1.drop.drop.pt
    obtain ⟨_, _, _, _, _, _, _, _, z8⟩ := cells9 ho3.drop.drop.drop.pt
    obtain ⟨p0, p1, p2⟩ := cells3 ho1.drop.pt
    obtain ⟨q0, q1, q2⟩ := cells3 ho3.drop.drop.pt
    obtain ⟨r0, r1, r2⟩ := ho3.pull5.cell hn b hb
    obtain ⟨z, hz⟩ : ∃ z, z = V.getD b 0 := ⟨_, rfl⟩
    have HF := Aside0.mk ((ho3.pull5.put hn b (V.getD b 0 - 1)).pull4.drop)
    have HF2 := Aside0.mk HF.out.rev4
    rw [← hz] at r0 hv1 hv2 HF2 ⊢
    clear HO hx ha ho1 ho2 ho3 hz HF hn
    go_enter Try.func54, Try.ntmps54
    go_wp2_with fail
    go_region
    all_goals go_wp2
    all_goals go_region
    all_goals go_wp2
    all_goals go_end0
    all_goals exact ⟨rfl, HF2.out.drew⟩
end
end Go.Proofs.Ytiblpienmkjmgaa.Pmap

/- Package pmap, by hand: sectors, pages, a sector's page set. -/
set_option linter.unusedVariables false
namespace Go.Proofs.Ytiblpienmkjmgaa.Pmap
open Go.RowKit Go.Proofs.YtiblpienmkjmgaaW.PrintWords Go.Proofs.Ytiblpienmkjmgaa.Mem Go.Proofs.Ytiblpienmkjmgaa.Own Go.Proofs.Ytiblpienmkjmgaa.Maps Go.Proofs.Ytiblpienmkjmgaa.PM

def G6.Ok (G : G6) : Prop := GeoOk G.b G.l G.y G.s G.p G.w
/-- A page of a geometry. -/
def PageIn (G : G6) (a : Tri) : Prop := (0 ≤ a.1 ∧ a.1 < G.b) ∧ (0 ≤ a.2.1 ∧ a.2.1 < G.l) ∧ (0 ≤ a.2.2 ∧ a.2.2 < 3)
instance (G : G6) (a : Tri) : Decidable (PageIn G a) := by unfold PageIn; infer_instance
def SecIn (G : G6) (k : Int) : Prop := 0 ≤ k ∧ k < G.s
instance (G : G6) (k : Int) : Decidable (SecIn G k) := by unfold SecIn; infer_instance
def numOf (G : G6) (a : Tri) : Int := (a.1 * G.l + a.2.1) * 3 + a.2.2
theorem number_is {G : G6} (hok : G.Ok) (a : Tri) : geom_Number.f 8 G.b G.l G.y G.s G.p G.w a.1 a.2.1 a.2.2 = some (if PageIn G a then (numOf G a, 0) else (0, 1)) := by
  have hs := hok.1
  unfold SizesOk at hs
  have hb : (Lit.int .i64 G.b).wf = true := WalkArith.wf_i64 (by omega)
  have hl : (Lit.int .i64 G.l).wf = true := WalkArith.wf_i64 (by omega)
  unfold geom_Number.f
  rw [check_some _ _ _ _ _ _ hb hl 8 (Nat.le_refl _), if_pos (show GeoOk G.b G.l G.y G.s G.p G.w from hok)]
  simp only [Option.bind_some, if_true, within_some]
  rw [all_some 8 _ (by simp) (by simp)]
  simp only [Option.bind_some]
  rw [w64 (x := G.b - 1) (by omega) (by omega), w64 (x := G.l - 1) (by omega) (by omega)]
  by_cases h : PageIn G a
  · have h' := h
    obtain ⟨⟨h1, h2⟩, ⟨h3, h4⟩, h5, h6⟩ := h'
    rw [if_pos h, if_pos (by simp; omega)]
    have m1 : a.1 * G.l ≤ 64 * 64 := Int.mul_le_mul (by omega) (by omega) (by omega) (by omega)
    have m0 : 0 ≤ a.1 * G.l := Int.mul_nonneg h1 (by omega)
    unfold numOf
    rw [w64 (x := a.1 * G.l) (by omega) (by omega), w64 (x := a.1 * G.l + a.2.1) (by omega) (by omega), w64 (x := (a.1 * G.l + a.2.1) * 3) (by omega) (by omega), w64 (by omega) (by omega)]
  · rw [if_neg h, if_neg]
    intro hc
    apply h
    simp at hc
    unfold PageIn
    omega
section
variable {w0 w : World} {L : List Asn} {G : G6} {g m1 m2 v c n : Nat} {L1 : List (Int × Tri)} {L2 : List (Tri × Int)}
set_option maxHeartbeats 1000000 in
set_option maxRecDepth 100000 in
theorem sector_own (k : Int) (HO : Own w0 w (Pt g (pmC G m1 m2 v c n) :: L)) :
    Calls Try.prog 52 #[.pointer (some ⟨g, 0, none⟩), .int .i64 k] w fun e w' => e = .returned (.bool (decide (SecIn G k))) ∧ w' = w := by
  obtain ⟨x0, x1, x2, x3, x4, x5, x6, x7, x8⟩ := cells9 HO.pt
  clear HO
  by_cases h0 : 0 ≤ k
  · have d0 : decide (0 ≤ k) = true := decide_eq_true h0
    by_cases h1 : k < G.s
    · have d1 : decide (k < G.s) = true := decide_eq_true h1
      have e : decide (SecIn G k) = true := decide_eq_true ⟨h0, h1⟩
      rw [e]
      go_enter Try.func52, Try.ntmps52
      go_wp2_with fail
      go_ret
      exact ⟨rfl, rfl⟩
    · have d1 : decide (k < G.s) = false := decide_eq_false h1
      have e : decide (SecIn G k) = false := decide_eq_false (fun h => h1 h.2)
      rw [e]
      go_enter Try.func52, Try.ntmps52
      go_wp2_with fail
      go_ret
      exact ⟨rfl, rfl⟩
  · have d0 : decide (0 ≤ k) = false := decide_eq_false h0
    have e : decide (SecIn G k) = false := decide_eq_false (fun h => h0 h.1)
    rw [e]
    go_enter Try.func52, Try.ntmps52
    go_wp2_with fail
    go_ret
    exact ⟨rfl, rfl⟩
set_option maxHeartbeats 1000000 in
set_option maxRecDepth 100000 in
theorem page_own (a : Tri) (hok : G.Ok) (HO : Own w0 w (Pt g (pmC G m1 m2 v c n) :: L)) :
    Calls Try.prog 53 #[.pointer (some ⟨g, 0, none⟩), tri a] w fun e w' => e = .returned (.bool (decide (PageIn G a))) ∧ Own w0 w' (Pt g (pmC G m1 m2 v c n) :: L) := by
  have hlt := blk_lt HO.pt
  have hn := number_is hok a
  obtain ⟨x0, x1, x2, x3, x4, x5, x6, x7, x8⟩ := cells9 HO.pt
  have HO' := Aside0.mk HO
  obtain ⟨a0, a1, a2⟩ := a
  clear HO hok
  by_cases hp : PageIn G (a0, a1, a2)
  all_goals
    first | rw [if_pos hp] at hn | rw [if_neg hp] at hn
    first | rw [decide_eq_true hp] | rw [decide_eq_false hp]
    have HN := Lib.hid hn
    clear hn hp
    go_enter Try.func53, Try.ntmps53
    go_wp2_with fail
    go_region_with (go_at_call 77; refine (geom_Number.calls 8 G.b G.l G.y G.s G.p G.w a0 a1 a2 _ _ _ HN.out).mono ?_; rintro e w1 ⟨rfl, hb⟩; have HB := Aside0.mk ((HO'.out.alloc' _).drew.move hb); clear hb)
    all_goals go_wp2_with fail
    all_goals (go_ret; exact ⟨rfl, HB.out⟩)
end
end Go.Proofs.Ytiblpienmkjmgaa.Pmap

/- Package pmap, by hand: a sector's page set, cleared, moved. -/
set_option linter.unusedVariables false
namespace Go.Proofs.Ytiblpienmkjmgaa.Pmap
open Go.RowKit Go.Proofs.YtiblpienmkjmgaaW.PrintWords Go.Proofs.Ytiblpienmkjmgaa.Mem Go.Proofs.Ytiblpienmkjmgaa.Own Go.Proofs.Ytiblpienmkjmgaa.Maps Go.Proofs.Ytiblpienmkjmgaa.PM

/-- A map: of each sector its page, of each page its sector, of each block how many. -/
structure PS where
  l1 : List (Int × Tri)
  l2 : List (Tri × Int)
  v : List Int
def dropP (S : PS) (k : Int) : PS := match mget k S.l1 with
  | none => S
  | some a => ⟨mdel k S.l1, mdel a S.l2, S.v.set a.1.toNat (S.v.getD a.1.toNat 0 - 1)⟩
def putP (S : PS) (k : Int) (a : Tri) : PS := ⟨mset k a S.l1, mset a k S.l2, S.v.set a.1.toNat (S.v.getD a.1.toNat 0 + 1)⟩
/-- What the walks ask. -/
structure PFine (S : PS) (n : Nat) : Prop where
  len : S.v.length = n
  small : n ≤ 1000
  val : ∀ b : Nat, b < n → -1000 ≤ S.v.getD b 0 ∧ S.v.getD b 0 ≤ 1000000
  dom : ∀ k a, mget k S.l1 = some a → 0 ≤ a.1 ∧ a.1 < n
abbrev PMs (G : G6) (g m1 m2 v c n : Nat) (S : PS) (L : List Asn) : List Asn := Pt g (pmC G m1 m2 v c n) :: AtM m1 S.l1 :: LbaM m2 S.l2 :: I (.slice (some ⟨v, 0, none⟩) n c) S.v :: L
section
variable {w0 w : World} {L : List Asn} {G : G6} {g m1 m2 v c n : Nat} {S : PS}
theorem drop_any (k : Int) (HO : Own w0 w (PMs G g m1 m2 v c n S L)) (hf : PFine S n) :
    Calls Try.prog 54 #[.pointer (some ⟨g, 0, none⟩), .int .i64 k] w fun e w' => e = .returned (.tuple #[]) ∧ Own w0 w' (PMs G g m1 m2 v c n (dropP S k) L) := by
  have h := drop_own S.v k HO hf.len hf.small
  unfold dropP
  cases hx : mget k S.l1 with
  | none => exact h.1 hx
  | some a =>
    obtain ⟨a0, x, y⟩ := a
    have hd := hf.dom k _ hx
    obtain ⟨b, rfl⟩ : ∃ b : Nat, a0 = b := ⟨a0.toNat, by simp only at hd; omega⟩
    simp only at hd
    have hv := hf.val b (by omega)
    have := h.2 b x y hx (by omega) hv.1 hv.2
    simp only [Int.toNat_natCast]
    exact this
set_option maxHeartbeats 2000000 in
set_option maxRecDepth 100000 in
theorem set_go (k : Int) (b : Nat) (x y : Int) (hok : G.Ok) (HO : Own w0 w (PMs G g m1 m2 v c n S L)) (hf : PFine S n) (hf2 : PFine (dropP S k) n) (hk : SecIn G k) (hp : PageIn G ((b : Int), x, y)) (hb : b < n) (hfree : mget ((b : Int), x, y) S.l2 = none ∨ mget ((b : Int), x, y) S.l2 = some k) :
    Calls Try.prog 18 #[.pointer (some ⟨g, 0, none⟩), .int .i64 k, tri ((b : Int), x, y)] w fun e w' => e = .returned (.int .i64 0) ∧ Own w0 w' (PMs G g m1 m2 v c n (putP (dropP S k) k ((b : Int), x, y)) L) := by
  have hlt := blk_lt HO.pt
  have HA := Aside0.mk ((HO.alloc (.cells #[.int .i64 b, .int .i64 x, .int .i64 y] 24)).pull2)
  have HF := Aside0.mk hf
  have HF2 := Aside0.mk hf2
  have HOK := Lib.hid hok
  have HKS := Lib.hid (decide_eq_true hk : decide (SecIn G k) = true)
  have HPS := Lib.hid (decide_eq_true hp : decide (PageIn G ((b : Int), x, y)) = true)
  obtain ⟨S', hS'⟩ : ∃ S', dropP S k = S' := ⟨_, rfl⟩
  have HD := Lib.hid hS'
  rw [hS'] at HF2 ⊢
  obtain ⟨z, hz⟩ : ∃ z, z = S'.v.getD b 0 := ⟨_, rfl⟩
  have HZ := Lib.hid hz
  have hput : putP S' k ((b : Int), x, y) = ⟨mset k ((b : Int), x, y) S'.l1, mset ((b : Int), x, y) k S'.l2, S'.v.set b (z + 1)⟩ := by rw [hz]; rfl
  rw [hput]
  clear hok hf hf2 hk hp HO hS' hz hput
  go_enter Try.func18, Try.ntmps18
  go_wp2_with fail
  refine (sector_own k HA.out).mono ?_
  rintro e w1 ⟨rfl, rfl⟩
  rw [HKS.out]
  go_wp2_with fail
  refine (page_own ((b : Int), x, y) HOK.out HA.out).mono ?_
  rintro e w2 ⟨rfl, ho⟩
  rw [HPS.out]
  have h1 := own_lookup keyT Try.underlying94 ho.drew.pull4 ((b : Int), x, y) zero3
  obtain ⟨_, _, _, _, _, _, _, x7, _⟩ := cells9 ho.pt
  obtain ⟨p0, p1, p2⟩ := cells3 ho.drop.pt
  have HB := Aside0.mk (ho.drew.pull2.push4)
  clear ho HA
  rcases hfree with hx | hx
  · rw [hx] at h1
    simp only [Option.map_none, Option.getD_none, Option.isSome_none] at h1
    clear hx
    go_wp2_with fail
    go_region
    all_goals go_wp2_with fail
    all_goals
      refine (drop_any k HB.out HF.out).mono ?_
      rintro e w3 ⟨rfl, ho⟩
      rw [HD.out] at ho
      obtain ⟨w4, hu1, ho4⟩ := own_update keyI Try.underlying93 ho.drew.pull2 k ((b : Int), x, y)
      obtain ⟨w5, hu2, ho5⟩ := own_update keyT Try.underlying94 ho4.drew.pull3 ((b : Int), x, y) k
      obtain ⟨_, _, _, _, _, _, x6, _, _⟩ := cells9 ho.pt
      obtain ⟨_, _, _, _, _, _, _, y7, _⟩ := cells9 ho4.drop.pt
      obtain ⟨_, _, _, _, _, _, _, _, z8⟩ := cells9 ho5.drop.drop.pt
      obtain ⟨q0, q1, q2⟩ := cells3 ho.drop.drop.drop.drop.pt
      obtain ⟨r0, r1, r2⟩ := cells3 ho4.drop.drop.drop.drop.pt
      obtain ⟨t0, t1, t2⟩ := cells3 ho5.drop.drop.drop.drop.pt
      obtain ⟨u0, u1, u2⟩ := ho5.pull4.cell HF2.out.len b hb
      obtain ⟨hv1, hv2⟩ := HF2.out.val b hb
      have HE := Aside0.mk ((ho5.pull4.put HF2.out.len b (z + 1)).rev4.pull5.drop.drew)
      rw [← HZ.out] at u0 hv1 hv2
      clear ho ho4 ho5 p0 p1 p2 x7 h1 HB
      go_wp2_with fail
      go_region
      all_goals go_wp2_with fail
      all_goals go_region
      all_goals go_wp2_with fail
      all_goals go_region
      all_goals go_wp2_with fail
      all_goals (go_ret; exact ⟨rfl, HE.out⟩)
  · rw [hx] at h1
    simp only [Option.map_some, Option.getD_some, Option.isSome_some] at h1
    clear hx
    go_wp2_with fail
    go_region
    all_goals go_wp2_with fail
    all_goals
      refine (drop_any k HB.out HF.out).mono ?_
      rintro e w3 ⟨rfl, ho⟩
      rw [HD.out] at ho
      obtain ⟨w4, hu1, ho4⟩ := own_update keyI Try.underlying93 ho.drew.pull2 k ((b : Int), x, y)
      obtain ⟨w5, hu2, ho5⟩ := own_update keyT Try.underlying94 ho4.drew.pull3 ((b : Int), x, y) k
      obtain ⟨_, _, _, _, _, _, x6, _, _⟩ := cells9 ho.pt
      obtain ⟨_, _, _, _, _, _, _, y7, _⟩ := cells9 ho4.drop.pt
      obtain ⟨_, _, _, _, _, _, _, _, z8⟩ := cells9 ho5.drop.drop.pt
      obtain ⟨q0, q1, q2⟩ := cells3 ho.drop.drop.drop.drop.pt
      obtain ⟨r0, r1, r2⟩ := cells3 ho4.drop.drop.drop.drop.pt
      obtain ⟨t0, t1, t2⟩ := cells3 ho5.drop.drop.drop.drop.pt
      obtain ⟨u0, u1, u2⟩ := ho5.pull4.cell HF2.out.len b hb
      obtain ⟨hv1, hv2⟩ := HF2.out.val b hb
      have HE := Aside0.mk ((ho5.pull4.put HF2.out.len b (z + 1)).rev4.pull5.drop.drew)
      rw [← HZ.out] at u0 hv1 hv2
      clear ho ho4 ho5 p0 p1 p2 x7 h1 HB
      go_wp2_with fail
      go_region
      all_goals go_wp2_with fail
      all_goals go_region
      all_goals go_wp2_with fail
      all_goals go_region
      all_goals go_wp2_with fail
      all_goals (go_ret; exact ⟨rfl, HE.out⟩)
end
end Go.Proofs.Ytiblpienmkjmgaa.Pmap

/- Package pmap, by hand: what is refused; Clear, Move, Valid. -/
set_option linter.unusedVariables false
namespace Go.Proofs.Ytiblpienmkjmgaa.Pmap
open Go.RowKit Go.Proofs.YtiblpienmkjmgaaW.PrintWords Go.Proofs.Ytiblpienmkjmgaa.Mem Go.Proofs.Ytiblpienmkjmgaa.Own Go.Proofs.Ytiblpienmkjmgaa.Maps Go.Proofs.Ytiblpienmkjmgaa.PM

section
variable {w0 w : World} {L : List Asn} {G : G6} {g m1 m2 v c n : Nat} {S : PS}
set_option maxHeartbeats 2000000 in
set_option maxRecDepth 100000 in
theorem set_range (k : Int) (a : Tri) (hok : G.Ok) (HO : Own w0 w (PMs G g m1 m2 v c n S L)) (hno : ¬ SecIn G k ∨ ¬ PageIn G a) :
    Calls Try.prog 18 #[.pointer (some ⟨g, 0, none⟩), .int .i64 k, tri a] w fun e w' => e = .returned (.int .i64 1) ∧ Own w0 w' (PMs G g m1 m2 v c n S L) := by
  obtain ⟨a0, x, y⟩ := a
  have HA := Aside0.mk ((HO.alloc (.cells #[.int .i64 a0, .int .i64 x, .int .i64 y] 24)).pull2)
  have HOK := Lib.hid hok
  by_cases hk : SecIn G k
  · have hp : ¬ PageIn G (a0, x, y) := hno.resolve_left (not_not_intro hk)
    have HKS := Lib.hid (decide_eq_true hk : decide (SecIn G k) = true)
    have HPS := Lib.hid (decide_eq_false hp : decide (PageIn G (a0, x, y)) = false)
    clear hok hk hp HO hno
    go_enter Try.func18, Try.ntmps18
    go_wp2_with fail
    refine (sector_own k HA.out).mono ?_
    rintro e w1 ⟨rfl, rfl⟩
    rw [HKS.out]
    go_wp2_with fail
    refine (page_own (a0, x, y) HOK.out HA.out).mono ?_
    rintro e w2 ⟨rfl, ho⟩
    rw [HPS.out]
    have HB := Aside0.mk ho.pull2.drop
    clear ho
    go_wp2_with fail
    go_ret
    exact ⟨rfl, HB.out⟩
  · have HKS := Lib.hid (decide_eq_false hk : decide (SecIn G k) = false)
    clear hok hk HO hno
    go_enter Try.func18, Try.ntmps18
    go_wp2_with fail
    refine (sector_own k HA.out).mono ?_
    rintro e w1 ⟨rfl, rfl⟩
    rw [HKS.out]
    go_wp2_with fail
    go_ret
    exact ⟨rfl, HA.out.pull2.drop⟩
set_option maxHeartbeats 2000000 in
set_option maxRecDepth 100000 in
theorem set_taken (k o : Int) (a : Tri) (hok : G.Ok) (HO : Own w0 w (PMs G g m1 m2 v c n S L)) (hk : SecIn G k) (hp : PageIn G a) (hx : mget a S.l2 = some o) (hne : o ≠ k) :
    Calls Try.prog 18 #[.pointer (some ⟨g, 0, none⟩), .int .i64 k, tri a] w fun e w' => e = .returned (.int .i64 5) ∧ Own w0 w' (PMs G g m1 m2 v c n S L) := by
  have hlt := blk_lt HO.pt
  obtain ⟨a0, x, y⟩ := a
  have HA := Aside0.mk ((HO.alloc (.cells #[.int .i64 a0, .int .i64 x, .int .i64 y] 24)).pull2)
  have HOK := Lib.hid hok
  have HKS := Lib.hid (decide_eq_true hk : decide (SecIn G k) = true)
  have HPS := Lib.hid (decide_eq_true hp : decide (PageIn G (a0, x, y)) = true)
  have hb : (o != k) = true := by simpa using hne
  have HX := Lib.hid hx
  clear hok hk hp HO hx
  go_enter Try.func18, Try.ntmps18
  go_wp2_with fail
  refine (sector_own k HA.out).mono ?_
  rintro e w1 ⟨rfl, rfl⟩
  rw [HKS.out]
  go_wp2_with fail
  refine (page_own (a0, x, y) HOK.out HA.out).mono ?_
  rintro e w2 ⟨rfl, ho⟩
  rw [HPS.out]
  have h1 := own_lookup keyT Try.underlying94 ho.drew.pull4 (a0, x, y) zero3
  rw [HX.out] at h1
  simp only [Option.map_some, Option.getD_some, Option.isSome_some] at h1
  obtain ⟨_, _, _, _, _, _, _, x7, _⟩ := cells9 ho.pt
  obtain ⟨p0, p1, p2⟩ := cells3 ho.drop.pt
  have HB := Aside0.mk (ho.drew.pull2.drop)
  clear ho HA
  go_wp2_with fail
  go_region
  all_goals go_wp2_with fail
  all_goals (go_ret; exact ⟨rfl, HB.out⟩)
set_option maxHeartbeats 2000000 in
set_option maxRecDepth 100000 in
theorem clear_range (k : Int) (HO : Own w0 w (PMs G g m1 m2 v c n S L)) (hk : ¬ SecIn G k) :
    Calls Try.prog 20 #[.pointer (some ⟨g, 0, none⟩), .int .i64 k] w fun e w' => e = .returned (.int .i64 1) ∧ Own w0 w' (PMs G g m1 m2 v c n S L) := by
  have HA := Aside0.mk HO
  have HKS := Lib.hid (decide_eq_false hk : decide (SecIn G k) = false)
  clear HO hk
  go_enter Try.func20, Try.ntmps20
  go_wp2_with fail
  refine (sector_own k HA.out).mono ?_
  rintro e w1 ⟨rfl, rfl⟩
  rw [HKS.out]
  go_wp2_with fail
  go_ret
  exact ⟨rfl, HA.out⟩
set_option maxHeartbeats 2000000 in
set_option maxRecDepth 100000 in
theorem clear_go (k : Int) (HO : Own w0 w (PMs G g m1 m2 v c n S L)) (hf : PFine S n) (hk : SecIn G k) :
    Calls Try.prog 20 #[.pointer (some ⟨g, 0, none⟩), .int .i64 k] w fun e w' => e = .returned (.int .i64 0) ∧ Own w0 w' (PMs G g m1 m2 v c n (dropP S k) L) := by
  have HA := Aside0.mk HO
  have HF := Aside0.mk hf
  have HKS := Lib.hid (decide_eq_true hk : decide (SecIn G k) = true)
  clear HO hk hf
  go_enter Try.func20, Try.ntmps20
  go_wp2_with fail
  refine (sector_own k HA.out).mono ?_
  rintro e w1 ⟨rfl, rfl⟩
  rw [HKS.out]
  go_wp2_with fail
  refine (drop_any k HA.out HF.out).mono ?_
  rintro e w2 ⟨rfl, ho⟩
  have HB := Aside0.mk ho
  clear ho
  go_wp2_with fail
  go_ret
  exact ⟨rfl, HB.out⟩
set_option maxHeartbeats 2000000 in
set_option maxRecDepth 100000 in
theorem valid_own (b : Int) (hlen : S.v.length = n) (HO : Own w0 w (PMs G g m1 m2 v c n S L)) :
    Calls Try.prog 26 #[.pointer (some ⟨g, 0, none⟩), .int .i64 b] w fun e w' => e = .returned (.int .i64 (if 0 ≤ b ∧ b < n then S.v.getD b.toNat 0 else 0)) ∧ w' = w := by
  obtain ⟨_, _, _, _, _, _, _, _, x8⟩ := cells9 HO.pt
  by_cases h0 : 0 ≤ b
  · obtain ⟨i, rfl⟩ := Int.eq_ofNat_of_zero_le h0
    have d0 : decide ((i : Int) < 0) = false := decide_eq_false (by omega)
    by_cases h1 : i < n
    · have d1 : decide ((n : Int) ≤ (i : Int)) = false := decide_eq_false (by omega)
      obtain ⟨z0, z1, z2⟩ := HO.pull4.cell hlen i h1
      rw [if_pos (by omega), Int.toNat_natCast]
      generalize S.v.getD i 0 = z at z0
      clear HO
      go_enter Try.func26, Try.ntmps26
      go_wp2_with fail
      go_ret
      exact ⟨rfl, rfl⟩
    · have d1 : decide ((n : Int) ≤ (i : Int)) = true := decide_eq_true (by omega)
      rw [if_neg (by omega)]
      clear HO
      go_enter Try.func26, Try.ntmps26
      go_wp2_with fail
      go_ret
      exact ⟨rfl, rfl⟩
  · have d0 : decide (b < 0) = true := decide_eq_true (by omega)
    rw [if_neg (by omega)]
    clear HO
    go_enter Try.func26, Try.ntmps26
    go_wp2_with fail
    go_ret
    exact ⟨rfl, rfl⟩
end
end Go.Proofs.Ytiblpienmkjmgaa.Pmap

/- The map's invariant, in plain numbers. -/
set_option linter.unusedVariables false
namespace Go.Proofs.Ytiblpienmkjmgaa.Pmap
open Go.RowKit Go.Proofs.Ytiblpienmkjmgaa.Maps Go.Proofs.Ytiblpienmkjmgaa.PM

theorem nodup_le : ∀ (s : Nat) (l : List Int), l.Nodup → (∀ x ∈ l, 0 ≤ x ∧ x < s) → l.length ≤ s
  | 0, l, _, h => by
    cases l with
    | nil => simp
    | cons a t => have := h a (by simp); omega
  | s + 1, l, hn, h => by
    have h1 := List.length_eq_countP_add_countP (fun x => decide (x = (s : Int))) (l := l)
    have h2 : l.countP (fun x => decide (x = (s : Int))) ≤ 1 := by
      have := List.nodup_iff_count.1 hn (s : Int)
      unfold List.count at this
      exact this
    have h3 := nodup_le s (l.filter (fun x => !decide (x = (s : Int)))) (hn.filter _) (fun x hx => by
      obtain ⟨m1, m2⟩ := List.mem_filter.1 hx
      have := h x m1
      simp at m2
      omega)
    rw [← List.countP_eq_length_filter] at h3
    have h4 : l.countP (fun a => ¬ decide (a = (s : Int)) = true) = l.countP (fun x => !decide (x = (s : Int))) := by
      congr 1
      funext x
      rw [Bool.eq_iff_iff]; simp
    omega
abbrev inB (b : Nat) : Int × Tri → Bool := fun x => decide (x.2.1 = (b : Int))
structure Inv (G : G6) (S : PS) : Prop where
  o1 : Once S.l1
  o2 : Once S.l2
  bij : ∀ k a, mget k S.l1 = some a ↔ mget a S.l2 = some k
  dom : ∀ k a, mget k S.l1 = some a → SecIn G k ∧ PageIn G a
  len : (S.v.length : Int) = G.b
  cnt : ∀ b : Nat, b < S.v.length → S.v.getD b 0 = (S.l1.countP (inB b) : Nat)
theorem mem_get {α β : Type} [DecidableEq α] : ∀ (l : List (α × β)), Once l → ∀ x ∈ l, mget x.1 l = some x.2
  | [], _, x, hx => by simp at hx
  | (c, u) :: l, h, x, hx => by
    have h1 := (List.nodup_cons.1 (show (c :: l.map (·.1)).Nodup from h))
    rcases List.mem_cons.1 hx with rfl | hm
    · simp [mget]
    · unfold mget
      have hne : x.1 ≠ c := fun e => h1.1 (e ▸ List.mem_map_of_mem hm)
      rw [if_neg hne]
      exact mem_get l h1.2 x hm
theorem Inv.keys {G : G6} {S : PS} (h : Inv G S) : ∀ x ∈ S.l1.map (·.1), SecIn G x := by
  intro x hx
  obtain ⟨p, hp, rfl⟩ := List.mem_map.1 hx
  exact (h.dom _ _ (mem_get _ h.o1 p hp)).1
theorem Inv.few {G : G6} {S : PS} (h : Inv G S) (hok : G.Ok) : S.l1.length ≤ 4096 := by
  have hs := hok.1
  unfold SizesOk at hs
  have hnd : (S.l1.map (fun x => x.1)).Nodup := h.o1
  have := nodup_le G.s.toNat (S.l1.map (fun x => x.1)) hnd (fun x hx => by have := h.keys x hx; unfold SecIn at this; omega)
  rw [List.length_map] at this
  omega
theorem Inv.fine {G : G6} {S : PS} (h : Inv G S) (hok : G.Ok) : PFine S G.b.toNat := by
  have hs := hok.1
  unfold SizesOk at hs
  refine ⟨by have := h.len; omega, by omega, fun b hb => ?_, fun k a hk => ?_⟩
  · have := h.cnt b (by have := h.len; omega)
    have h2 := h.few hok
    have h3 := List.countP_le_length (p := inB b) (l := S.l1)
    omega
  · have := (h.dom k a hk).2
    unfold PageIn at this
    omega
theorem count_del (p : Int × Tri → Bool) (k : Int) (a : Tri) : ∀ l : List (Int × Tri), mget k l = some a → l.countP p = (mdel k l).countP p + (if p (k, a) = true then 1 else 0)
  | [], h => by simp [mget] at h
  | (c, u) :: l, h => by
    unfold mget at h
    unfold mdel
    by_cases e : k = c
    · subst e
      rw [if_pos rfl] at h ⊢
      obtain rfl := Option.some.inj h
      rw [List.countP_cons]
    · rw [if_neg e] at h ⊢
      rw [List.countP_cons, List.countP_cons, count_del p k a l h]
      omega
theorem count_set (p : Int × Tri → Bool) (k : Int) (a : Tri) : ∀ l : List (Int × Tri), mget k l = none → (mset k a l).countP p = l.countP p + (if p (k, a) = true then 1 else 0)
  | [], h => by simp [mset, List.countP_cons]
  | (c, u) :: l, h => by
    unfold mget at h
    unfold mset
    by_cases e : k = c
    · rw [if_pos e] at h; cases h
    · rw [if_neg e] at h ⊢
      rw [List.countP_cons, List.countP_cons, count_set p k a l h]
      omega
theorem getD_setI (xs : List Int) (p i : Nat) (v : Int) (h : p < xs.length) : (xs.set p v).getD i 0 = if i = p then v else xs.getD i 0 := by
  rw [List.getD_eq_getElem?_getD, List.getElem?_set]
  by_cases e : p = i
  · subst e; simp [h]
  · rw [if_neg e, if_neg (by omega), List.getD_eq_getElem?_getD]
theorem Inv.drop {G : G6} {S : PS} (h : Inv G S) (k : Int) : Inv G (dropP S k) ∧ mget k (dropP S k).l1 = none ∧ (∀ i, i ≠ k → mget i (dropP S k).l1 = mget i S.l1) := by
  unfold dropP
  cases hx : mget k S.l1 with
  | none => exact ⟨h, hx, fun _ _ => rfl⟩
  | some a =>
    have hd := (h.dom k a hx).2
    unfold PageIn at hd
    have hlt : a.1.toNat < S.v.length := by have := h.len; omega
    refine ⟨⟨(once_del _ _ h.o1).1, (once_del _ _ h.o2).1, fun i c => ?_, fun i c hi => ?_, by show ((S.v.set _ _).length : Int) = _; rw [List.length_set]; exact h.len, fun b hb => ?_⟩, by show mget k (mdel k S.l1) = none; rw [mget_del _ _ _ h.o1, if_pos rfl], fun i hi => by show mget i (mdel k S.l1) = _; rw [mget_del _ _ _ h.o1, if_neg hi]⟩
    · show mget i (mdel k S.l1) = some c ↔ mget c (mdel a S.l2) = some i
      rw [mget_del _ _ _ h.o1, mget_del _ _ _ h.o2]
      by_cases e1 : i = k
      · rw [if_pos e1]
        by_cases e2 : c = a
        · rw [if_pos e2]; simp
        · rw [if_neg e2]
          constructor
          · intro hc; cases hc
          · intro hc
            have := (h.bij i c).2 hc
            rw [e1, hx] at this
            exact absurd (Option.some.inj this).symm e2
      · rw [if_neg e1]
        by_cases e2 : c = a
        · rw [if_pos e2]
          constructor
          · intro hc
            have := (h.bij i c).1 hc
            rw [e2, (h.bij k a).1 hx] at this
            exact absurd (Option.some.inj this).symm e1
          · intro hc; cases hc
        · rw [if_neg e2]; exact h.bij i c
    · have hi' : mget i (mdel k S.l1) = some c := hi
      rw [mget_del _ _ _ h.o1] at hi'
      split at hi'
      · cases hi'
      · exact h.dom i c hi'
    · show (S.v.set _ _).getD b 0 = ((mdel k S.l1).countP (inB b) : Nat)
      have hb' : b < S.v.length := by have hb2 : b < (S.v.set _ _).length := hb; rw [List.length_set] at hb2; exact hb2
      have hc := count_del (inB b) k a S.l1 hx
      have h1 := h.cnt b hb'
      rw [getD_setI _ _ _ _ hlt]
      by_cases e : b = a.1.toNat
      · subst e
        rw [if_pos rfl]
        have : inB a.1.toNat (k, a) = true := by simp [inB]; omega
        rw [if_pos this] at hc
        omega
      · rw [if_neg e]
        have : ¬ inB b (k, a) = true := by simp [inB]; omega
        rw [if_neg this] at hc
        omega
theorem Inv.put {G : G6} {S : PS} (h : Inv G S) (k : Int) (a : Tri) (hk : mget k S.l1 = none) (ha : mget a S.l2 = none) (h1 : SecIn G k) (h2 : PageIn G a) : Inv G (putP S k a) := by
  have hd := h2
  unfold PageIn at hd
  have hlt : a.1.toNat < S.v.length := by have := h.len; omega
  refine ⟨(once_set _ _ _ h.o1).1, (once_set _ _ _ h.o2).1, fun i c => ?_, fun i c hi => ?_, by show ((S.v.set _ _).length : Int) = _; rw [List.length_set]; exact h.len, fun b hb => ?_⟩
  · show mget i (mset k a S.l1) = some c ↔ mget c (mset a k S.l2) = some i
    rw [mget_set, mget_set]
    by_cases e1 : i = k
    · rw [if_pos e1]
      by_cases e2 : c = a
      · rw [if_pos e2, e1, e2]; simp
      · rw [if_neg e2]
        constructor
        · intro hc; exact absurd (Option.some.inj hc).symm e2
        · intro hc
          have := (h.bij i c).2 hc
          rw [e1, hk] at this
          cases this
    · rw [if_neg e1]
      by_cases e2 : c = a
      · rw [if_pos e2]
        constructor
        · intro hc
          have := (h.bij i c).1 hc
          rw [e2, ha] at this
          cases this
        · intro hc; exact absurd (Option.some.inj hc).symm e1
      · rw [if_neg e2]; exact h.bij i c
  · have hi' : mget i (mset k a S.l1) = some c := hi
    rw [mget_set] at hi'
    split at hi'
    · rename_i e
      obtain rfl := Option.some.inj hi'
      rw [e]
      exact ⟨h1, h2⟩
    · exact h.dom i c hi'
  · show (S.v.set _ _).getD b 0 = ((mset k a S.l1).countP (inB b) : Nat)
    have hb' : b < S.v.length := by have hb2 : b < (S.v.set _ _).length := hb; rw [List.length_set] at hb2; exact hb2
    have hc := count_set (inB b) k a S.l1 hk
    have h1 := h.cnt b hb'
    rw [getD_setI _ _ _ _ hlt]
    by_cases e : b = a.1.toNat
    · subst e
      rw [if_pos rfl]
      have : inB a.1.toNat (k, a) = true := by simp [inB]; omega
      rw [if_pos this] at hc
      omega
    · rw [if_neg e]
      have : ¬ inB b (k, a) = true := by simp [inB]; omega
      rw [if_neg this] at hc
      omega
/-- Set, as a whole. -/
def setR (G : G6) (S : PS) (k : Int) (a : Tri) : PS × Int :=
  if ¬ SecIn G k ∨ ¬ PageIn G a then (S, 1)
  else if mget a S.l2 = none ∨ mget a S.l2 = some k then (putP (dropP S k) k a, 0)
  else (S, 5)
theorem drop_l2 {G : G6} {S : PS} (h : Inv G S) (k : Int) (a : Tri) (ha : mget a S.l2 = none ∨ mget a S.l2 = some k) : mget a (dropP S k).l2 = none := by
  have h' := (h.drop k)
  cases hx : mget a (dropP S k).l2 with
  | none => rfl
  | some i =>
    have h1 := (h'.1.bij i a).2 hx
    by_cases e : i = k
    · rw [e, h'.2.1] at h1; cases h1
    · rw [h'.2.2 i e] at h1
      have h2 := (h.bij i a).1 h1
      rcases ha with ha | ha
      · rw [ha] at h2; cases h2
      · rw [ha] at h2; exact absurd (Option.some.inj h2).symm e
theorem setR_inv {G : G6} {S : PS} (h : Inv G S) (k : Int) (a : Tri) : Inv G (setR G S k a).1 := by
  unfold setR
  split
  · exact h
  · rename_i h1
    split
    · rename_i h2
      exact (h.drop k).1.put k a (h.drop k).2.1 (drop_l2 h k a h2) (Classical.byContradiction fun e => h1 (.inl e)) (Classical.byContradiction fun e => h1 (.inr e))
    · exact h
section
variable {w0 w : World} {L : List Go.Proofs.Ytiblpienmkjmgaa.Own.Asn} {G : G6} {g m1 m2 v c : Nat} {S : PS}
open Go.Proofs.Ytiblpienmkjmgaa.Own
theorem set_any (k : Int) (a : Tri) (hok : G.Ok) (hi : Inv G S) (HO : Own w0 w (PMs G g m1 m2 v c G.b.toNat S L)) :
    Calls Try.prog 18 #[.pointer (some ⟨g, 0, none⟩), .int .i64 k, tri a] w fun e w' => e = .returned (.int .i64 (setR G S k a).2) ∧ Own w0 w' (PMs G g m1 m2 v c G.b.toNat (setR G S k a).1 L) := by
  unfold setR
  by_cases h1 : ¬ SecIn G k ∨ ¬ PageIn G a
  · rw [if_pos h1]
    exact set_range k a hok HO h1
  · rw [if_neg h1]
    have hk : SecIn G k := Classical.byContradiction fun e => h1 (.inl e)
    have hp : PageIn G a := Classical.byContradiction fun e => h1 (.inr e)
    by_cases h2 : mget a S.l2 = none ∨ mget a S.l2 = some k
    · rw [if_pos h2]
      obtain ⟨a0, x, y⟩ := a
      have hp' := hp
      unfold PageIn at hp'
      simp only at hp'
      obtain ⟨b, rfl⟩ := Int.eq_ofNat_of_zero_le hp'.1.1
      exact set_go k b x y hok HO (hi.fine hok) ((hi.drop k).1.fine hok) hk hp (by omega) h2
    · rw [if_neg h2]
      cases hx : mget a S.l2 with
      | none => exact absurd (.inl hx) h2
      | some o => exact set_taken k o a hok HO hk hp hx (fun e => h2 (.inr (by rw [hx, e])))
def clearR (G : G6) (S : PS) (k : Int) : PS × Int := if SecIn G k then (dropP S k, 0) else (S, 1)
theorem clearR_inv (hi : Inv G S) (k : Int) : Inv G (clearR G S k).1 := by
  unfold clearR
  split
  · exact (hi.drop k).1
  · exact hi
theorem clear_any (k : Int) (hok : G.Ok) (hi : Inv G S) (HO : Own w0 w (PMs G g m1 m2 v c G.b.toNat S L)) :
    Calls Try.prog 20 #[.pointer (some ⟨g, 0, none⟩), .int .i64 k] w fun e w' => e = .returned (.int .i64 (clearR G S k).2) ∧ Own w0 w' (PMs G g m1 m2 v c G.b.toNat (clearR G S k).1 L) := by
  unfold clearR
  by_cases h : SecIn G k
  · rw [if_pos h]; exact clear_go k HO (hi.fine hok) h
  · rw [if_neg h]; exact clear_range k HO h
def moveR (G : G6) (S : PS) (a b : Tri) : PS × Int := match mget a S.l2 with
  | none => (S, 6)
  | some k => setR G S k b
theorem moveR_inv (hi : Inv G S) (a b : Tri) : Inv G (moveR G S a b).1 := by
  unfold moveR
  split
  · exact hi
  · exact setR_inv hi _ _
end
end Go.Proofs.Ytiblpienmkjmgaa.Pmap
