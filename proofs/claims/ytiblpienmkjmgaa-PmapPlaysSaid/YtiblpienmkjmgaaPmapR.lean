/- Package pmap: the document's answers, over what a walk owns. -/
import Derived.Test.YtiblpienmkjmgaaProg
import Derived.Below
import Derived.Carry
import Derived.Deep.Draws
import Derived.Deep.AppendLies
import Derived.Maps.AppendAt
import Derived.OwnWalk
import Derived.Laws.BytesArg
import Derived.Laws.MakeOwn
import Derived.Laws.OwnMore
import Derived.Deep.OwnRows
import Derived.Tactics
import Derived.Lib.ConvBytes
import Derived.Laws.Slices
import Derived.WalkKit
import Derived.KernelRfl
import Derived.RowKit3
import Derived.Deep.LoopGhost
import Derived.Deep.QuietTactic
import Derived.BigQuiet
import Derived.WideLaws
import Derived.Deep.DeepCutAuto
import Derived.Deep.CutBlock
import Derived.Deep.RegionHeld3
import Derived.Deep.RegionWith
import Derived.Laws.Rows
import Derived.Lib.AppendStr
import Derived.ArgAppend
import Derived.Laws.IdiomCopy
import Derived.OrdersHeld
import Derived.Laws.BitsLemmas
import Derived.Outline
import Derived.RegionTactic
import Derived.Lib.Hide
import Derived.StillTailTactics
import Derived.Deep.RegionWith
import Derived.OpenShut
import Derived.Test.YtiblpienmkjmgaaWWords
import Derived.Test.YtiblpienmkjmgaaPmapQ
import Derived.Test.YtiblpienmkjmgaaPMx14
set_option linter.unusedVariables false
namespace Go.Proofs.Ytiblpienmkjmgaa.Pmap
open Go.RowKit Go.Proofs.YtiblpienmkjmgaaW.PrintWords Go.Proofs.Ytiblpienmkjmgaa.Mem Go.Proofs.Ytiblpienmkjmgaa.Own Go.Proofs.Ytiblpienmkjmgaa.Maps Go.Proofs.Ytiblpienmkjmgaa.PM

abbrev dV (G : G6) (u : Value) : Value := .agg #[.int .i64 G.b, .int .i64 G.l, .int .i64 G.y, .int .i64 G.s, .int .i64 G.p, .int .i64 G.w, u]
abbrev dC (G : G6) (u : Value) : Obj := .cells #[.int .i64 G.b, .int .i64 G.l, .int .i64 G.y, .int .i64 G.s, .int .i64 G.p, .int .i64 G.w, u] 42 (0, 0)
theorem cells7 {w : World} {g : Nat} {a b c d e f h : Value} {T : TypeId} (k : w.heap[g]? = some (.cells #[a, b, c, d, e, f, h] T (0, 0))) : w.cell? ⟨g, 0, none⟩ = some a ∧ w.cell? ⟨g, 1, none⟩ = some b ∧ w.cell? ⟨g, 2, none⟩ = some c ∧ w.cell? ⟨g, 3, none⟩ = some d ∧ w.cell? ⟨g, 4, none⟩ = some e ∧ w.cell? ⟨g, 5, none⟩ = some f ∧
    w.cell? ⟨g, 6, none⟩ = some h := ⟨blk_cell k 0, blk_cell k 1, blk_cell k 2, blk_cell k 3, blk_cell k 4, blk_cell k 5, blk_cell k 6⟩
theorem cells8 {w : World} {g : Nat} {a b c d e f h i : Value} {T : TypeId} (k : w.heap[g]? = some (.cells #[a, b, c, d, e, f, h, i] T (0, 0))) : w.cell? ⟨g, 0, none⟩ = some a ∧ w.cell? ⟨g, 1, none⟩ = some b ∧ w.cell? ⟨g, 2, none⟩ = some c ∧ w.cell? ⟨g, 3, none⟩ = some d ∧ w.cell? ⟨g, 4, none⟩ = some e ∧ w.cell? ⟨g, 5, none⟩ = some f ∧
    w.cell? ⟨g, 6, none⟩ = some h ∧ w.cell? ⟨g, 7, none⟩ = some i := ⟨blk_cell k 0, blk_cell k 1, blk_cell k 2, blk_cell k 3, blk_cell k 4, blk_cell k 5, blk_cell k 6, blk_cell k 7⟩
section
variable {w0 w : World} {L : List Asn} {G : G6} {S : PS} {xs : List Int} {u : Value}
theorem own_set7 {g : Nat} {T : TypeId} {a b c d e f h : Value} (HO : Own w0 w (Pt g (.cells #[a, b, c, d, e, f, h] T (0, 0)) :: L)) (u1 u2 u3 u4 u5 u6 u7 : Value) :
    Own w0 (((((((w.setCell ⟨g, 0, none⟩ u1).setCell ⟨g, 1, none⟩ u2).setCell ⟨g, 2, none⟩ u3).setCell ⟨g, 3, none⟩ u4).setCell ⟨g, 4, none⟩ u5).setCell ⟨g, 5, none⟩ u6).setCell ⟨g, 6, none⟩ u7) (Pt g (.cells #[u1, u2, u3, u4, u5, u6, u7] T (0, 0)) :: L) := by
  have h1 : Own w0 (w.setCell ⟨g, 0, none⟩ u1) (Pt g (.cells #[u1, b, c, d, e, f, h] T (0, 0)) :: L) := HO.set (i := 0) u1
  have h2 : Own w0 ((w.setCell ⟨g, 0, none⟩ u1).setCell ⟨g, 1, none⟩ u2) (Pt g (.cells #[u1, u2, c, d, e, f, h] T (0, 0)) :: L) := h1.set (i := 1) u2
  have h3 : Own w0 (((w.setCell ⟨g, 0, none⟩ u1).setCell ⟨g, 1, none⟩ u2).setCell ⟨g, 2, none⟩ u3) (Pt g (.cells #[u1, u2, u3, d, e, f, h] T (0, 0)) :: L) := h2.set (i := 2) u3
  have h4 : Own w0 ((((w.setCell ⟨g, 0, none⟩ u1).setCell ⟨g, 1, none⟩ u2).setCell ⟨g, 2, none⟩ u3).setCell ⟨g, 3, none⟩ u4) (Pt g (.cells #[u1, u2, u3, u4, e, f, h] T (0, 0)) :: L) := h3.set (i := 3) u4
  have h5 : Own w0 (((((w.setCell ⟨g, 0, none⟩ u1).setCell ⟨g, 1, none⟩ u2).setCell ⟨g, 2, none⟩ u3).setCell ⟨g, 3, none⟩ u4).setCell ⟨g, 4, none⟩ u5) (Pt g (.cells #[u1, u2, u3, u4, u5, f, h] T (0, 0)) :: L) := h4.set (i := 4) u5
  have h6 : Own w0 ((((((w.setCell ⟨g, 0, none⟩ u1).setCell ⟨g, 1, none⟩ u2).setCell ⟨g, 2, none⟩ u3).setCell ⟨g, 3, none⟩ u4).setCell ⟨g, 4, none⟩ u5).setCell ⟨g, 5, none⟩ u6) (Pt g (.cells #[u1, u2, u3, u4, u5, u6, h] T (0, 0)) :: L) := h5.set (i := 5) u6
  have h7 : Own w0 (((((((w.setCell ⟨g, 0, none⟩ u1).setCell ⟨g, 1, none⟩ u2).setCell ⟨g, 2, none⟩ u3).setCell ⟨g, 3, none⟩ u4).setCell ⟨g, 4, none⟩ u5).setCell ⟨g, 5, none⟩ u6).setCell ⟨g, 6, none⟩ u7) (Pt g (.cells #[u1, u2, u3, u4, u5, u6, u7] T (0, 0)) :: L) := h6.set (i := 6) u7
  exact h7
theorem frozen7 {g : Nat} {cs : Array Value} {T : TypeId} (k : w.heap[g]? = some (.cells cs T (0, 0))) : w.frozen? ⟨g, 0, none⟩ = false ∧ w.frozen? ⟨g, 1, none⟩ = false ∧ w.frozen? ⟨g, 2, none⟩ = false ∧ w.frozen? ⟨g, 3, none⟩ = false ∧ w.frozen? ⟨g, 4, none⟩ = false ∧ w.frozen? ⟨g, 5, none⟩ = false ∧ w.frozen? ⟨g, 6, none⟩ = false :=
  ⟨blk_frozen k 0, blk_frozen k 1, blk_frozen k 2, blk_frozen k 3, blk_frozen k 4, blk_frozen k 5, blk_frozen k 6⟩
theorem rset_own (k : Int) (a : Tri) (h : RefOf G S xs) (hok : G.Ok) (hi : Inv G S) (HO : Own w0 w (I u xs :: L)) :
    Calls Try.prog 19 #[dV G u, .int .i64 k, tri a] w fun e w' => ∃ u' xs', e = .returned (.tuple #[dV G u', .int .i64 (setR G S k a).2]) ∧ RefOf G (setR G S k a).1 xs' ∧ Own w0 w' (I u' xs' :: L) := by
  obtain ⟨xs', h1, h2⟩ := ref_set h hok hi k a 26002 (Nat.le_refl _)
  obtain ⟨P, hs, _, f⟩ := HO.head
  refine (deckleref19_Set.calls 26002 _ _ _ _ _ _ P u xs k _ _ _ _ _ _ _ _ _ _ _ w0 w HO.below hs h1).mono ?_
  rintro e w' ⟨v6, rfl, hr, hb, hk⟩
  exact ⟨v6, xs', rfl, h2, f _ [I v6 xs'] (mod_of HO.below hb hk) (Hold.one hr)⟩
theorem rclear_own (k : Int) (h : RefOf G S xs) (hok : G.Ok) (hi : Inv G S) (HO : Own w0 w (I u xs :: L)) :
    Calls Try.prog 21 #[dV G u, .int .i64 k] w fun e w' => ∃ u' xs', e = .returned (.tuple #[dV G u', .int .i64 (clearR G S k).2]) ∧ RefOf G (clearR G S k).1 xs' ∧ Own w0 w' (I u' xs' :: L) := by
  obtain ⟨xs', h1, h2⟩ := ref_clear h hok hi k 26002 (by omega)
  obtain ⟨P, hs, _, f⟩ := HO.head
  refine (deckleref19_Clear.calls 26002 _ _ _ _ _ _ P u xs k _ _ _ _ _ _ _ _ w0 w HO.below hs h1).mono ?_
  rintro e w' ⟨v6, rfl, hr, hb, hk⟩
  exact ⟨v6, xs', rfl, h2, f _ [I v6 xs'] (mod_of HO.below hb hk) (Hold.one hr)⟩
theorem rmove_own (a b : Tri) (h : RefOf G S xs) (hok : G.Ok) (hi : Inv G S) (HO : Own w0 w (I u xs :: L)) :
    Calls Try.prog 22 #[dV G u, tri a, tri b] w fun e w' => ∃ u' xs', e = .returned (.tuple #[dV G u', .int .i64 (moveR G S a b).2]) ∧ RefOf G (moveR G S a b).1 xs' ∧ Own w0 w' (I u' xs' :: L) := by
  obtain ⟨xs', h1, h2⟩ := ref_move h hok hi a b 26002 (Nat.le_refl _)
  obtain ⟨P, hs, _, f⟩ := HO.head
  refine (deckleref19_Move.calls 26002 _ _ _ _ _ _ P u xs _ _ _ _ _ _ _ _ _ _ _ _ _ _ w0 w HO.below hs h1).mono ?_
  rintro e w' ⟨v6, rfl, hr, hb, hk⟩
  exact ⟨v6, xs', rfl, h2, f _ [I v6 xs'] (mod_of HO.below hb hk) (Hold.one hr)⟩
theorem rat_own (k : Int) (h : RefOf G S xs) (hok : G.Ok) (hi : Inv G S) (HO : Own w0 w (I u xs :: L)) :
    Calls Try.prog 23 #[dV G u, .int .i64 k] w fun e w' => e = .returned (.tuple #[tri ((mget k S.l1).getD (0, 0, 0)), .bool (mget k S.l1).isSome]) ∧ Own w0 w' (I u xs :: L) := by
  obtain ⟨A, c, rfl, hc, hC⟩ := HO.reads
  refine (deckleref19_At.calls 26002 _ _ _ _ _ _ A c xs k _ _ _ _ w hC hc (ref_atL h hok hi k 26002 (Nat.le_refl _))).mono ?_
  rintro e w' ⟨rfl, hb⟩
  exact ⟨rfl, HO.move hb⟩
theorem rlba_own (a : Tri) (h : RefOf G S xs) (hok : G.Ok) (hi : Inv G S) (HO : Own w0 w (I u xs :: L)) :
    Calls Try.prog 24 #[dV G u, tri a] w fun e w' => e = .returned (.tuple #[.int .i64 ((mget a S.l2).getD 0), .bool (mget a S.l2).isSome]) ∧ Own w0 w' (I u xs :: L) := by
  obtain ⟨A, c, rfl, hc, hC⟩ := HO.reads
  refine (deckleref19_Lba.calls 26002 _ _ _ _ _ _ A c xs _ _ _ _ _ w hC hc (ref_lba h hok hi a 26002 (Nat.le_refl _))).mono ?_
  rintro e w' ⟨rfl, hb⟩
  exact ⟨rfl, HO.move hb⟩
theorem rtotal_own (h : RefOf G S xs) (hok : G.Ok) (hi : Inv G S) (HO : Own w0 w (I u xs :: L)) :
    Calls Try.prog 25 #[dV G u] w fun e w' => e = .returned (.int .i64 S.l1.length) ∧ Own w0 w' (I u xs :: L) := by
  obtain ⟨A, c, rfl, hc, hC⟩ := HO.reads
  refine (deckleref19_Total.calls 26002 _ _ _ _ _ _ A c xs _ w hC hc (ref_total h hok hi 26002 (by omega))).mono ?_
  rintro e w' ⟨rfl, hb⟩
  exact ⟨rfl, HO.move hb⟩
theorem rpages_own (b : Int) (h : RefOf G S xs) (hok : G.Ok) (hi : Inv G S) (HO : Own w0 w (I u xs :: L)) :
    Calls Try.prog 27 #[dV G u, .int .i64 b] w fun e w' => ∃ v, e = .returned v ∧ Own w0 w' (Ads v (pagesP G S b) :: I u xs :: L) := by
  obtain ⟨A, c, rfl, hc, hC⟩ := HO.reads
  refine (deckleref19_Pages.calls 30000 _ _ _ _ _ _ A c xs b _ w hC hc (ref_pages h hok hi b 30000 (Nat.le_refl _))).mono ?_
  rintro e w' ⟨v, rfl, hr, hb⟩
  refine ⟨v, rfl, HO.fresh (R := [Ads v (pagesP G S b)]) hb (Hold.one (Kd.R_mono (Kd.R_bound hr) (fun k hk => hk.2.1)))⟩
theorem new_l0 (b l y s p q : Int) (h0 : 0 ≤ s) (hs : s ≤ 4096) (d : Nat) : ∀ (k i : Nat), (i : Int) ≤ s → s.toNat - i = d → d < k →
    deckleref19_New.l0 k i b l y s p q b l y s p q (List.replicate i (-1)) = some (b, l, y, s, p, q, List.replicate s.toNat (-1), 0) := by
  induction d with
  | zero =>
    intro k i h1 hd hk
    obtain ⟨k, rfl⟩ : ∃ m, k = m + 1 := ⟨k - 1, by omega⟩
    obtain rfl : i = s.toNat := by omega
    simp only [deckleref19_New.l0]
    rw [if_neg (by omega)]
  | succ d ih =>
    intro k i h1 hd hk
    obtain ⟨k, rfl⟩ : ∃ m, k = m + 1 := ⟨k - 1, by omega⟩
    have hw : wrap64 ((i : Int) + 1) = ((i + 1 : Nat) : Int) := by unfold wrap64; omega
    have hr : List.replicate i (-1 : Int) ++ [-1] = List.replicate (i + 1) (-1) := List.replicate_succ'.symm
    simp only [deckleref19_New.l0]
    rw [if_pos (by omega), if_pos (by rw [List.length_replicate]; omega), hw, hr]
    exact ih k (i + 1) (by omega) (by omega) (by omega)
theorem ref_new (hok : G.Ok) : deckleref19_New.f 26002 G.b G.l G.y G.s G.p G.w = some (G.b, G.l, G.y, G.s, G.p, G.w, List.replicate G.s.toNat (-1), 0) := by
  have hs := hok.1
  unfold SizesOk at hs
  unfold deckleref19_New.f
  rw [ref_check _ _ _ _ _ _ hok.wf.1 hok.wf.2 26002 (Nat.le_refl _), if_pos (show GeoOk G.b G.l G.y G.s G.p G.w from hok)]
  simp only [Option.bind_some, if_true]
  exact new_l0 _ _ _ _ _ _ (by omega) (by omega) G.s.toNat 26002 0 (by omega) (by omega) (by omega)
theorem ref_new_no (hok : ¬ G.Ok) (hb : (Lit.int .i64 G.b).wf = true) (hl : (Lit.int .i64 G.l).wf = true) : deckleref19_New.f 26002 G.b G.l G.y G.s G.p G.w = some (0, 0, 0, 0, 0, 0, [], 60) := by
  unfold deckleref19_New.f
  rw [ref_check _ _ _ _ _ _ hb hl 26002 (Nat.le_refl _), if_neg (show ¬ GeoOk G.b G.l G.y G.s G.p G.w from hok)]
  rfl
theorem new_ref (hok : G.Ok) : RefOf G (newP G) (List.replicate G.s.toNat (-1)) := by
  have hs := hok.1
  unfold SizesOk at hs
  refine ⟨by rw [List.length_replicate]; omega, fun i hi => ?_⟩
  rw [List.length_replicate] at hi
  show _ = (-1 : Int)
  rw [List.getD_eq_getElem?_getD, List.getElem?_replicate, if_pos hi]; rfl
theorem rnew_own (hok : G.Ok) (HO : Own w0 w L) :
    Calls Try.prog 17 #[.agg #[.int .i64 G.b, .int .i64 G.l, .int .i64 G.y, .int .i64 G.s, .int .i64 G.p, .int .i64 G.w]] w fun e w' => ∃ u' xs', e = .returned (.tuple #[dV G u', .int .i64 0]) ∧ RefOf G (newP G) xs' ∧ Own w0 w' (I u' xs' :: L) := by
  refine (deckleref19_New.calls 26002 _ _ _ _ _ _ _ _ _ _ _ _ _ _ w (ref_new hok)).mono ?_
  rintro e w' ⟨v6, rfl, hr, hb⟩
  exact ⟨v6, _, rfl, new_ref hok, HO.fresh (R := [I v6 _]) hb (Hold.one (Kd.R_mono (Kd.R_bound hr) (fun k hk => hk.2.1)))⟩
theorem rnew_no (hok : ¬ G.Ok) (hb : (Lit.int .i64 G.b).wf = true) (hl : (Lit.int .i64 G.l).wf = true) (HO : Own w0 w L) :
    Calls Try.prog 17 #[.agg #[.int .i64 G.b, .int .i64 G.l, .int .i64 G.y, .int .i64 G.s, .int .i64 G.p, .int .i64 G.w]] w fun e w' => ∃ u', e = .returned (.tuple #[.agg #[.int .i64 0, .int .i64 0, .int .i64 0, .int .i64 0, .int .i64 0, .int .i64 0, u'], .int .i64 60]) ∧ Own w0 w' L := by
  refine (deckleref19_New.calls 26002 _ _ _ _ _ _ _ _ _ _ _ _ _ _ w (ref_new_no hok hb hl)).mono ?_
  rintro e w' ⟨v6, rfl, hr, hb⟩
  exact ⟨v6, rfl, HO.move hb⟩
theorem valid_eq (hok : G.Ok) (hi : Inv G S) (b : Int) : validP S G.b.toNat b = ((pagesP G S b).length : Nat) := by
  have hs := hok.1
  unfold SizesOk at hs
  by_cases hb : 0 ≤ b ∧ b < G.b
  · obtain ⟨i, rfl⟩ := Int.eq_ofNat_of_zero_le hb.1
    exact (pages_len hi hok i hb.2).1.symm
  · have hv0 : validP S G.b.toNat b = 0 := by unfold validP; rw [if_neg (by omega)]
    unfold pagesP
    rw [if_pos hv0, hv0]; rfl
theorem same_l0 (xs : List S24) (hm : xs.length ≤ 1000000) (d : Nat) : ∀ (k i : Nat), i ≤ xs.length → xs.length - i = d → d < k → decklebook_SameAddrs.l0 k xs xs true i = some true := by
  induction d with
  | zero =>
    intro k i h1 hd hk
    obtain ⟨k, rfl⟩ : ∃ m, k = m + 1 := ⟨k - 1, by omega⟩
    simp only [decklebook_SameAddrs.l0]
    rw [if_pos trivial, if_neg (by omega)]
  | succ d ih =>
    intro k i h1 hd hk
    obtain ⟨k, rfl⟩ : ∃ m, k = m + 1 := ⟨k - 1, by omega⟩
    have hw : wrap64 ((i : Int) + 1) = ((i + 1 : Nat) : Int) := by unfold wrap64; omega
    simp only [decklebook_SameAddrs.l0]
    rw [if_pos trivial, if_pos (by omega), if_pos (by omega), if_pos (by omega), hw]
    simp only [beq_self_eq_true, Bool.and_self]
    exact ih k (i + 1) (by omega) (by omega) (by omega)
theorem same_refl (xs : List S24) (hm : xs.length ≤ 1000000) : decklebook_SameAddrs.f 1000002 xs xs = some true := by
  unfold decklebook_SameAddrs.f
  rw [beq_self_eq_true]
  exact same_l0 xs hm xs.length 1000002 0 (by omega) (by omega) (by omega)
theorem same_own {v1 v2 : Value} (xs : List S24) (hm : xs.length ≤ 1000000) (HO : Own w0 w (CAds v1 xs :: CAds v2 xs :: L)) :
    Calls Try.prog 29 #[v1, v2] w fun e w' => e = .returned (.bool true) ∧ Own w0 w' (CAds v1 xs :: CAds v2 xs :: L) := by
  obtain ⟨A1, n1, rfl, h1, c1⟩ := crow_reads HO
  obtain ⟨A2, n2, rfl, h2, c2⟩ := crow_reads HO.drop
  refine (decklebook_SameAddrs.calls 1000002 A1 n1 xs A2 n2 xs true w c1 h1 c2 h2 (same_refl xs hm)).mono ?_
  rintro e w' ⟨rfl, hd⟩
  exact ⟨rfl, HO.move hd.below⟩
theorem pagesP_small (hok : G.Ok) (b : Int) : (pagesP G S b).length ≤ 1000 := by
  have hs := hok.1
  unfold SizesOk at hs
  unfold pagesP
  split
  · simp
  · have := pg_len S.l2 b (3 * G.l.toNat)
    omega
end
end Go.Proofs.Ytiblpienmkjmgaa.Pmap
