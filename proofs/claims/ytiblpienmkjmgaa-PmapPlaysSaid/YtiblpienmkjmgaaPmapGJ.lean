/- Package pmap, by hand: Move, New. -/
import Derived.Test.YtiblpienmkjmgaaProg
import Derived.Below
import Derived.Carry
import Derived.Deep.Draws
import Derived.Deep.AppendLies
import Derived.Maps.AppendAt
import Derived.OwnWalk
import Derived.Laws.BytesArg
import Derived.Laws.MakeOwn
import Derived.Laws.OwnMore
import Derived.Deep.OwnRows
import Derived.Tactics
import Derived.Lib.ConvBytes
import Derived.Laws.Slices
import Derived.WalkKit
import Derived.KernelRfl
import Derived.RowKit3
import Derived.Deep.LoopGhost
import Derived.Deep.QuietTactic
import Derived.BigQuiet
import Derived.WideLaws
import Derived.Deep.DeepCutAuto
import Derived.Deep.CutBlock
import Derived.Deep.RegionHeld3
import Derived.Deep.RegionWith
import Derived.Laws.Rows
import Derived.Lib.AppendStr
import Derived.ArgAppend
import Derived.Laws.IdiomCopy
import Derived.OrdersHeld
import Derived.Laws.BitsLemmas
import Derived.Outline
import Derived.RegionTactic
import Derived.Lib.Hide
import Derived.StillTailTactics
import Derived.OpenShut
import Derived.Test.YtiblpienmkjmgaaWWords
import Derived.Test.YtiblpienmkjmgaaPmapAF
import Derived.Test.YtiblpienmkjmgaaPMx0
set_option linter.unusedVariables false
namespace Go.Proofs.Ytiblpienmkjmgaa.Pmap
open Go.RowKit Go.Proofs.YtiblpienmkjmgaaW.PrintWords Go.Proofs.Ytiblpienmkjmgaa.Mem Go.Proofs.Ytiblpienmkjmgaa.Own Go.Proofs.Ytiblpienmkjmgaa.Maps Go.Proofs.Ytiblpienmkjmgaa.PM

section
variable {w0 w : World} {L : List Asn} {G : G6} {g m1 m2 v c : Nat} {S : PS}
set_option maxHeartbeats 2000000 in
set_option maxRecDepth 100000 in
theorem move_any (a b : Tri) (hok : G.Ok) (hi : Inv G S) (HO : Own w0 w (PMs G g m1 m2 v c G.b.toNat S L)) :
    Calls Try.prog 14 #[.pointer (some ⟨g, 0, none⟩), tri a, tri b] w fun e w' => e = .returned (.int .i64 (moveR G S a b).2) ∧ Own w0 w' (PMs G g m1 m2 v c G.b.toNat (moveR G S a b).1 L) := by
  have hlt := blk_lt HO.pt
  obtain ⟨a0, a1, a2⟩ := a
  obtain ⟨b0, b1, b2⟩ := b
  have HA := Aside0.mk (((HO.alloc' (.cells #[.int .i64 a0, .int .i64 a1, .int .i64 a2] 24)).alloc' (.cells #[.int .i64 b0, .int .i64 b1, .int .i64 b2] 24)).drew)
  have h1 := own_lookup keyT Try.underlying94 HA.out.pull3 (a0, a1, a2) zero3
  obtain ⟨_, _, _, _, _, _, _, x7, _⟩ := cells9 HO.pt
  unfold moveR
  cases hx : mget (a0, a1, a2) S.l2 with
  | none =>
    rw [hx] at h1
    simp only [Option.map_none, Option.getD_none, Option.isSome_none] at h1
    clear hx HO hok hi
    go_enter Try.func14, Try.ntmps14
    go_wp2_with fail
    go_region
    all_goals go_wp2_with fail
    all_goals (go_ret; exact ⟨rfl, HA.out⟩)
  | some k =>
    rw [hx] at h1
    simp only [Option.map_some, Option.getD_some, Option.isSome_some] at h1
    have HS := Aside0.mk (set_any k (b0, b1, b2) hok hi HA.out)
    dsimp only
    obtain ⟨S', c', hS⟩ : ∃ S' c', setR G S k (b0, b1, b2) = (S', c') := ⟨_, _, rfl⟩
    rw [hS] at HS ⊢
    clear hx HO hok hi hS
    go_enter Try.func14, Try.ntmps14
    go_wp2_with fail
    go_region
    all_goals go_wp2_with fail
    all_goals
      refine HS.out.mono ?_
      rintro e w2 ⟨rfl, ho⟩
      have HB := Aside0.mk ho
      clear ho
      go_wp2_with fail
      go_ret
      exact ⟨rfl, HB.out⟩
theorem int_row {w : World} {B b d : Nat} {S : Nat → Prop} {xs : List Int} (h : w.ownsRow 0 3 1 (.slice (some ⟨b, 0, none⟩) xs.length d) xs.length (nums .i64 xs)) (hb : B ≤ b) (hs : S b) : (I (.slice (some ⟨b, 0, none⟩) xs.length d) xs).P w B S := by
  refine Kd.R_of_own ?_ (fun k hk => by injection hk with hk; subst hk; exact hs)
  have hm : encs (Value.int .i64) xs = nums .i64 xs := rfl
  rw [hm]
  rcases h.2 with ⟨h', _⟩ | ⟨g', cap', cur, h', r⟩
  · cases h'
  · injection h' with e1 e2 e3
    injection e1 with e1
    injection e1 with e1
    subst e1 e3
    exact ⟨h.1, .inr ⟨_, _, cur, rfl, hb, r.2⟩⟩
theorem made_own {w0 w : World} {L : List Asn} (h : Own w0 w L) (n : Nat) (hn : n ≤ 1000000) : Own w0 (w.alloc (.cells (madeCells #[.int .i64 0] n) 3)) (I (.slice (some ⟨w.heap.size, 0, none⟩) n n) (List.replicate n 0) :: L) := by
  have hr := own_made' w 0 3 .i64 n (Nat.zero_le _) (by omega)
  have hz : (List.replicate n (0 : Int)).length = n := List.length_replicate
  have hr2 := int_row (w := w.alloc (.cells (madeCells #[.int .i64 0] n) 3)) (B := w.heap.size) (S := fun k => w.heap.size ≤ k) (b := w.heap.size) (d := n) (xs := List.replicate n 0) (by rw [hz]; rw [hz] at hr; exact hr) (Nat.le_refl _) (Nat.le_refl _)
  rw [hz] at hr2
  exact h.fresh (R := [I (.slice (some ⟨w.heap.size, 0, none⟩) n n) (List.replicate n 0)]) (below_alloc (Below.refl _ _) _) (Hold.one hr2)
def newP (G : G6) : PS := ⟨[], [], List.replicate G.b.toNat 0⟩
theorem newP_inv (G : G6) (hok : G.Ok) : Inv G (newP G) := by
  have hs := hok.1
  unfold SizesOk at hs
  refine ⟨List.nodup_nil, List.nodup_nil, fun k a => by simp [newP, mget], fun k a h => by simp [newP, mget] at h, by show ((List.replicate _ _).length : Int) = _; rw [List.length_replicate]; omega, fun b hb => ?_⟩
  show (List.replicate G.b.toNat (0 : Int)).getD b 0 = 0
  rw [List.getD_eq_getElem?_getD, List.getElem?_replicate]
  split <;> rfl
set_option maxHeartbeats 2000000 in
set_option maxRecDepth 100000 in
theorem new_no (hok : ¬ G.Ok) (hb : (Lit.int .i64 G.b).wf = true) (hl : (Lit.int .i64 G.l).wf = true) (HO : Own w0 w L) :
    Calls Try.prog 16 #[.agg #[.int .i64 G.b, .int .i64 G.l, .int .i64 G.y, .int .i64 G.s, .int .i64 G.p, .int .i64 G.w]] w fun e w' => e = .returned (.tuple #[.pointer none, .int .i64 60]) ∧ Own w0 w' L := by
  have hc := check_some G.b G.l G.y G.s G.p G.w hb hl 8 (Nat.le_refl _)
  rw [if_neg (show ¬ GeoOk G.b G.l G.y G.s G.p G.w from hok)] at hc
  have HC := Lib.hid hc
  have HA := Aside0.mk (HO.alloc' (.cells #[.int .i64 G.b, .int .i64 G.l, .int .i64 G.y, .int .i64 G.s, .int .i64 G.p, .int .i64 G.w] 37))
  clear hc HO hok hb hl
  go_enter Try.func16, Try.ntmps16
  go_wp2_with fail
  refine (geom_Check.calls 8 _ _ _ _ _ _ 60 _ HC.out).mono ?_
  rintro e w1 ⟨rfl, hb⟩
  have HB := Aside0.mk (HA.out.move hb)
  clear hb
  go_wp2_with fail
  go_ret2
  exact ⟨rfl, HB.out⟩
set_option maxHeartbeats 2000000 in
set_option maxRecDepth 100000 in
theorem new_yes (hok : G.Ok) (HO : Own w0 w L) :
    Calls Try.prog 16 #[.agg #[.int .i64 G.b, .int .i64 G.l, .int .i64 G.y, .int .i64 G.s, .int .i64 G.p, .int .i64 G.w]] w fun e w' => ∃ g m1 m2 v c, e = .returned (.tuple #[.pointer (some ⟨g, 0, none⟩), .int .i64 0]) ∧ Own w0 w' (PMs G g m1 m2 v c G.b.toNat (newP G) L) := by
  have hs := hok.1
  unfold SizesOk at hs
  have hc := check_some G.b G.l G.y G.s G.p G.w (WalkArith.wf_i64 (by omega)) (WalkArith.wf_i64 (by omega)) 8 (Nat.le_refl _)
  rw [if_pos (show GeoOk G.b G.l G.y G.s G.p G.w from hok)] at hc
  have hmb := print_make (P := Try.prog) 40 3 .i64 8 Try.underlying40 info3 (by decide) G.b.toNat (by omega)
  rw [Int.toNat_of_nonneg (by omega)] at hmb
  have hbig : G.b.toNat ≤ 1000000 := by omega
  have HC := Lib.hid hc
  have HA := Aside0.mk (HO.alloc (.cells #[.int .i64 G.b, .int .i64 G.l, .int .i64 G.y, .int .i64 G.s, .int .i64 G.p, .int .i64 G.w] 37))
  clear hc HO hok hs
  go_enter Try.func16, Try.ntmps16
  go_wp2_with fail
  refine (geom_Check.calls 8 _ _ _ _ _ _ 0 _ HC.out).mono ?_
  rintro e w1 ⟨rfl, hb⟩
  have HB := Aside0.mk (HA.out.move hb)
  clear hb
  have kk := Aside0.mk HB.out.pt
  obtain ⟨u0, u1, u2, u3, u4, u5⟩ := cells6 (kk.out)
  have g1 := blk_lt HB.out.pt
  go_wp2_with fail
  clear kk
  have a1 : w.heap.size < w1.heap.size + 1 := by omega
  have a2 : w.heap.size < w1.heap.size + 1 + 1 := by omega
  have a3 : w.heap.size < w1.heap.size + 1 + 1 + 1 := by omega
  have a4 : w.heap.size < w1.heap.size + 1 + 1 + 1 + 1 := by omega
  have hm1 := fun W => run_makeMap (P := Try.prog) 93 W
  have hm2 := fun W => run_makeMap (P := Try.prog) 94 W
  go_region
  all_goals go_wp2
  all_goals clear u0 u1 u2 u3 u4 u5 a1 a2 a3 a4 g1 hm1 hm2 hmb
  all_goals first
    | (have h4 := Own.alloc (made_own (mp_new tri (.int .i64) (mp_new (.int .i64) tri HB.out.drop 0) 0) G.b.toNat hbig) (pmC G (w1.heap.size) (w1.heap.size + 1) (w1.heap.size + 1 + 1) G.b.toNat G.b.toNat)
       simp only [World.size_alloc] at h4
       exact bodyPost_ret (v := .tuple #[.pointer (some ⟨w1.heap.size + 1 + 1 + 1, 0, none⟩), .int .i64 0]) (by simp [results, Try.results16, go_sem]) rfl ⟨_, (w1.heap.size), (w1.heap.size + 1), (w1.heap.size + 1 + 1), _, rfl, h4.drew.pull2.pull3.pull4.pull4⟩)
    | (have h4 := Own.alloc (mp_new tri (.int .i64) (made_own (mp_new (.int .i64) tri HB.out.drop 0) G.b.toNat hbig) 0) (pmC G (w1.heap.size) (w1.heap.size + 1 + 1) (w1.heap.size + 1) G.b.toNat G.b.toNat)
       simp only [World.size_alloc] at h4
       exact bodyPost_ret (v := .tuple #[.pointer (some ⟨w1.heap.size + 1 + 1 + 1, 0, none⟩), .int .i64 0]) (by simp [results, Try.results16, go_sem]) rfl ⟨_, (w1.heap.size), (w1.heap.size + 1 + 1), (w1.heap.size + 1), _, rfl, h4.drew.pull3.pull3.pull4.pull4⟩)
    | (have h4 := Own.alloc (made_own (mp_new (.int .i64) tri (mp_new tri (.int .i64) HB.out.drop 0) 0) G.b.toNat hbig) (pmC G (w1.heap.size + 1) (w1.heap.size) (w1.heap.size + 1 + 1) G.b.toNat G.b.toNat)
       simp only [World.size_alloc] at h4
       exact bodyPost_ret (v := .tuple #[.pointer (some ⟨w1.heap.size + 1 + 1 + 1, 0, none⟩), .int .i64 0]) (by simp [results, Try.results16, go_sem]) rfl ⟨_, (w1.heap.size + 1), (w1.heap.size), (w1.heap.size + 1 + 1), _, rfl, h4.drew.pull2.pull4.pull4.pull4⟩)
    | (have h4 := Own.alloc (mp_new (.int .i64) tri (made_own (mp_new tri (.int .i64) HB.out.drop 0) G.b.toNat hbig) 0) (pmC G (w1.heap.size + 1 + 1) (w1.heap.size) (w1.heap.size + 1) G.b.toNat G.b.toNat)
       simp only [World.size_alloc] at h4
       exact bodyPost_ret (v := .tuple #[.pointer (some ⟨w1.heap.size + 1 + 1 + 1, 0, none⟩), .int .i64 0]) (by simp [results, Try.results16, go_sem]) rfl ⟨_, (w1.heap.size + 1 + 1), (w1.heap.size), (w1.heap.size + 1), _, rfl, h4.drew.pull3.pull4.pull4.pull4⟩)
    | (have h4 := Own.alloc (mp_new tri (.int .i64) (mp_new (.int .i64) tri (made_own HB.out.drop G.b.toNat hbig) 0) 0) (pmC G (w1.heap.size + 1) (w1.heap.size + 1 + 1) (w1.heap.size) G.b.toNat G.b.toNat)
       simp only [World.size_alloc] at h4
       exact bodyPost_ret (v := .tuple #[.pointer (some ⟨w1.heap.size + 1 + 1 + 1, 0, none⟩), .int .i64 0]) (by simp [results, Try.results16, go_sem]) rfl ⟨_, (w1.heap.size + 1), (w1.heap.size + 1 + 1), (w1.heap.size), _, rfl, h4.drew.pull4.pull3.pull4.pull4⟩)
    | (have h4 := Own.alloc (mp_new (.int .i64) tri (mp_new tri (.int .i64) (made_own HB.out.drop G.b.toNat hbig) 0) 0) (pmC G (w1.heap.size + 1 + 1) (w1.heap.size + 1) (w1.heap.size) G.b.toNat G.b.toNat)
       simp only [World.size_alloc] at h4
       exact bodyPost_ret (v := .tuple #[.pointer (some ⟨w1.heap.size + 1 + 1 + 1, 0, none⟩), .int .i64 0]) (by simp [results, Try.results16, go_sem]) rfl ⟨_, (w1.heap.size + 1 + 1), (w1.heap.size + 1), (w1.heap.size), _, rfl, h4.drew.pull4.pull4.pull4.pull4⟩)
end
end Go.Proofs.Ytiblpienmkjmgaa.Pmap

/- Package pmap, by hand: what an append leaves; Pages. -/
set_option linter.unusedVariables false
namespace Go.Proofs.Ytiblpienmkjmgaa.Pmap
open Go.RowKit Go.Proofs.YtiblpienmkjmgaaW.PrintWords Go.Proofs.Ytiblpienmkjmgaa.Mem Go.Proofs.Ytiblpienmkjmgaa.Own Go.Proofs.Ytiblpienmkjmgaa.Maps Go.Proofs.Ytiblpienmkjmgaa.PM

/-- An append to a slice that the walk owns. -/
theorem own_append {P : Program} {ops : Array Oper} {rest : List Oper} {o : Oper} {a : Act} {Q : Exit → Act → World → Prop} {α : Type} {w0 W : World} {L : List Asn} (d : Kd α) (hgd : o.guard = none) (s x : Operand) (t e : TypeId) (z : Value) (bytes : Nat)
    (ho : o.op = .call { callee := .builtin .append, args := #[s, x], argTypes := #[t, t] })
    (ht : P.underlying t = some (.slice e)) (hinfo : (P.info? e).map (fun i => (i.zero, i.size, i.bytes)) = some (some z, d.sz, bytes)) (hz : z.cells.size = d.sz) (hs0 : 0 < d.sz) (hb0 : 0 < bytes)
    (v : Value) (xs : List α) (p : α) (cs : List Value) (hs : a.eval s = v) (hx : a.eval x = .slice (some ⟨W.heap.size, 0, none⟩) 1 1) (hp : d.M W w0.heap.size (fun _ => False) p cs)
    (HO : Own w0 W (Row d e v xs :: L)) (hl : (xs.length + 1) * bytes ≤ 140737488355328)
    (h : ∀ v1 w1, Own w0 w1 (Row d e v1 (xs ++ [p]) :: L) → wpList P ops Q rest (a.put o.dst v1) w1) :
    wpList P ops Q (o :: rest) a (W.alloc (.cells cs.toArray e)) := by
  obtain ⟨S, hS, hk, f⟩ := HO.head
  refine Kd.R_append d (w0 := W) w0.heap.size hgd s x t e z bytes ho ht hinfo hz hs0 hb0 v xs p cs (fun k => S k ∨ W.heap.size ≤ k) (fun _ => False) hs hx hp (fun k hk => hk.elim) (fun k hk => .inr hk) (Kd.R_mono hS (fun k hk => .inl hk)) (Below.refl _ _) HO.size hl ?_
  intro v1 w1 hR hB hG hat
  refine h v1 w1 (f w1 [Row d e v1 (xs ++ [p])] ⟨hB, hG.size, fun k hk1 hk2 => hG.block k hk1 (fun he => hk2 ?_)⟩ (Hold.one hR))
  exact hS.1 k he.symm
end Go.Proofs.Ytiblpienmkjmgaa.Pmap

/- Package pmap, by hand: rows of addresses; what is clipped; marks over them. -/
set_option linter.unusedVariables false
namespace Go.Proofs.Ytiblpienmkjmgaa.Pmap
open Go.RowKit Go.Proofs.YtiblpienmkjmgaaW.PrintWords Go.Proofs.Ytiblpienmkjmgaa.Mem Go.Proofs.Ytiblpienmkjmgaa.Own Go.Proofs.Ytiblpienmkjmgaa.Maps Go.Proofs.Ytiblpienmkjmgaa.PM

/-- A row of the walk's own whose capacity is told as less than it is. -/
def CRow {α : Type} (d : Kd α) (e : Nat) (v : Value) (xs : List α) : Asn where
  P w b S := ∃ A c n, v = .slice A xs.length n ∧ xs.length ≤ n ∧ d.R e w b S (.slice A xs.length c) xs
  move := fun ⟨A, c, n, hv, hn, h⟩ hm => ⟨A, c, n, hv, hn, Kd.R_step h hm⟩
  cut := fun ⟨A, c, n, hv, hn, h⟩ => ⟨A, c, n, hv, hn, Kd.R_mono (Kd.R_bound h) (fun _ hk => ⟨hk.1, hk.2.2.1⟩)⟩
  mono := fun ⟨A, c, n, hv, hn, h⟩ hs => ⟨A, c, n, hv, hn, Kd.R_mono h hs⟩
  lower := fun ⟨A, c, n, hv, hn, h⟩ hb => ⟨A, c, n, hv, hn, Kd.R_lower h hb⟩
section
variable {α : Type} {d : Kd α} {e : Nat} {w0 w : World} {L : List Asn} {v : Value} {xs : List α}
theorem row_form (h : Own w0 w (Row d e v xs :: L)) : ∃ A c, v = .slice A xs.length c ∧ xs.length ≤ c ∧ Own w0 w (Row d e (.slice A xs.length c) xs :: L) := by
  obtain ⟨A, c, rfl, hc, _⟩ := h.reads
  exact ⟨A, c, rfl, hc, h⟩
theorem row_clip {A : Option Addr} {c : Nat} (h : Own w0 w (Row d e (.slice A xs.length c) xs :: L)) (n : Nat) (hn : xs.length ≤ n) : Own w0 w (CRow d e (.slice A xs.length n) xs :: L) :=
  h.imp (fun _ hs => ⟨A, c, n, rfl, hn, hs⟩)
theorem crow_of (h : Own w0 w (Row d e v xs :: L)) : Own w0 w (CRow d e v xs :: L) := by
  obtain ⟨A, c, rfl, hc, h⟩ := row_form h
  exact row_clip h c hc
theorem crow_form (h : Own w0 w (CRow d e v xs :: L)) : ∃ A c n, v = .slice A xs.length n ∧ xs.length ≤ n ∧ Own w0 w (Row d e (.slice A xs.length c) xs :: L) := by
  obtain ⟨b, S, ⟨S1, S2, ⟨A, c, n, hv, hn, h1⟩, h2⟩, hk⟩ := h
  exact ⟨A, c, n, hv, hn, b, S, ⟨S1, S2, h1, h2⟩, hk⟩
theorem crow_reads (h : Own w0 w (CRow d e v xs :: L)) : ∃ A n, v = .slice A xs.length n ∧ xs.length ≤ n ∧ d.C w A xs.length xs := by
  obtain ⟨A, c, n, hv, hn, h⟩ := crow_form h
  obtain ⟨A', c', hv', _, hC⟩ := h.reads
  injection hv' with h1 h2 h3
  subst h1
  exact ⟨A, n, hv, hn, hC⟩
end
section
variable {w0 w : World} {L : List Asn}
abbrev Ads (v : Value) (xs : List S24) : Asn := Row k24 24 v xs
abbrev CAds (v : Value) (xs : List S24) : Asn := CRow k24 24 v xs
theorem ads_cell {g n c : Nat} {xs : List S24} (h : Own w0 w (Ads (.slice (some ⟨g, 0, none⟩) n c) xs :: L)) (i : Nat) (hi : i < n) :
    (w.cell? ⟨g, i * 3, none⟩ = some (.int .i64 (xs.getD i z24).f0) ∧ w.cell? ⟨g, i * 3 + 1, none⟩ = some (.int .i64 (xs.getD i z24).f1) ∧ w.cell? ⟨g, i * 3 + 2, none⟩ = some (.int .i64 (xs.getD i z24).f2)) ∧
    w.frozen? ⟨g, i * 3, none⟩ = false ∧ w.frozen? ⟨g, i * 3 + 1, none⟩ = false ∧ w.frozen? ⟨g, i * 3 + 2, none⟩ = false := by
  obtain ⟨S, hs, _, _⟩ := h.head
  obtain ⟨cs, hcl, hM, hcc, hfr⟩ := Kd.R_elem hs z24 (i : Int) (by omega) (by omega)
  obtain rfl := k24_openM hM
  rw [Int.toNat_natCast] at hcc hfr
  exact ⟨⟨hcc 0 _ rfl, hcc 1 _ rfl, hcc 2 _ rfl⟩, hfr 0, hfr 1, hfr 2⟩
theorem ads_put {g n c : Nat} {xs : List S24} (h : Own w0 w (Ads (.slice (some ⟨g, 0, none⟩) n c) xs :: L)) (i : Nat) (hi : i < n) (x : S24) :
    Own w0 (((w.setCell ⟨g, i * 3, none⟩ (.int .i64 x.f0)).setCell ⟨g, i * 3 + 1, none⟩ (.int .i64 x.f1)).setCell ⟨g, i * 3 + 2, none⟩ (.int .i64 x.f2)) (Ads (.slice (some ⟨g, 0, none⟩) n c) (xs.set i x) :: L) := by
  obtain ⟨S, hs, hb, f⟩ := h.head
  obtain ⟨cs, hcl, hM, hcc, hfr⟩ := Kd.R_elem hs z24 (i : Int) (by omega) (by omega)
  have hp := (Kd.R_seg hs (i : Int) (by omega) (by omega) (seg := [.int .i64 x.f0, .int .i64 x.f1, .int .i64 x.f2]) (j := 0) hcl hcc (show 3 ≤ 3 from by decide) (x' := x)
    (by have e : (cs.take 0 ++ [Value.int .i64 x.f0, .int .i64 x.f1, .int .i64 x.f2] ++ cs.drop (0 + [Value.int .i64 x.f0, .int .i64 x.f1, .int .i64 x.f2].length)) = [Value.int .i64 x.f0, .int .i64 x.f1, .int .i64 x.f2] := by
          rw [List.drop_of_length_le (by rw [hcl]; exact Nat.le_refl 3)]; simp
        rw [e]; exact k24_mkM _ _ (fun k => S k ∧ k ≠ g) x) (fun k hk => hk)).1
  rw [Int.toNat_natCast] at hp
  have hg : w0.heap.size ≤ g ∧ S g := ⟨(hb g (hs.1 g rfl)).1, hs.1 g rfl⟩
  exact f _ [_] ((((Mod.refl _ _ _).setCell (p := ⟨g, i * 3, none⟩) hg.1 (.inl hg.2) _).setCell (p := ⟨g, i * 3 + 1, none⟩) hg.1 (.inl hg.2) _).setCell (p := ⟨g, i * 3 + 2, none⟩) hg.1 (.inl hg.2) _) (Hold.one (Kd.R_mono hp (fun k hk => .inl hk)))
set_option maxHeartbeats 4000000 in
/-- A row marked all over: of no use any more. -/
theorem spoilAds_own {v : Value} (xs : List S24) (hx : xs.length ≤ 1000000) (HO : Own w0 w (CAds v xs :: L)) :
    Calls Try.prog 30 #[v] w fun e w' => e = .returned (.tuple #[]) ∧ Own w0 w' L := by
  obtain ⟨A, c, n, rfl, hn, HO⟩ := crow_form HO
  have HO := Aside0.mk HO
  have hn' : (xs.length : Int) ≤ n := by omega
  go_enter Try.func30, Try.ntmps30
  go_wp2_with fail
  go_loopw [5] (fun v5 wr => ∃ (i : Nat) (ys : List S24), i ≤ xs.length ∧ v5 = .int .i64 i ∧ ys.length = xs.length ∧ Aside0 (Own w0 wr (Ads (.slice A xs.length c) ys :: L))) (fun v5 _ => xs.length - (intOf v5).toNat)
  case atStart => exact ⟨0, xs, Nat.zero_le _, rfl, rfl, HO⟩
  case round =>
    clear HO
    obtain ⟨i, ys, hi, rfl, hl, HO⟩ := hrel
    by_cases hlt : i < xs.length
    · have dl : decide ((i : Int) < (xs.length : Nat)) = true := decide_eq_true (by omega)
      obtain ⟨g, rfl⟩ : ∃ g, A = some ⟨g, 0, none⟩ := by
        obtain ⟨S, hs, _, _⟩ := HO.out.head
        obtain ⟨g, cap, hv, _⟩ := Kd.R_form hs (by omega)
        injection hv with h1
        exact ⟨g, h1⟩
      have HL := Lib.hid hl
      obtain ⟨⟨z0, z1, z2⟩, f0, f1, f2⟩ := ads_cell HO.out i hlt
      have HN := Aside0.mk (ads_put HO.out i hlt ⟨99, 99, 99⟩)
      clear hl HO
      go_wp2_with fail
      go_roundw
      case rel => exact ⟨i + 1, _, by omega, by go_num, by rw [List.length_set]; exact HL.out, HN⟩
      case measure => simp [intOf]; omega
    · obtain rfl : i = xs.length := by omega
      clear hlt
      go_wp2_with fail
      go_end0
      exact ⟨rfl, HO.out.drop⟩
set_option maxHeartbeats 4000000 in
theorem clip_own {v : Value} (xs : List S24) (hx : xs.length ≤ 1000000) (HO : Own w0 w (Ads v xs :: L)) :
    Calls Try.prog 59 #[v] w fun e w' => ∃ v', e = .returned v' ∧ Own w0 w' (CAds v' xs :: L) := by
  obtain ⟨A, c, rfl, hc, HO⟩ := row_form HO
  have HO := Aside0.mk HO
  have hc' : (xs.length : Int) ≤ c := by omega
  go_enter Try.func59, Try.ntmps59
  go_wp2_with fail
  go_ret
  exact ⟨_, rfl, row_clip HO.out _ (Nat.le_refl _)⟩
end
end Go.Proofs.Ytiblpienmkjmgaa.Pmap

/- Package pmap, by hand: Pages. -/
set_option linter.unusedVariables false
namespace Go.Proofs.Ytiblpienmkjmgaa.Pmap
open Go.RowKit Go.Proofs.YtiblpienmkjmgaaW.PrintWords Go.Proofs.Ytiblpienmkjmgaa.Mem Go.Proofs.Ytiblpienmkjmgaa.Own Go.Proofs.Ytiblpienmkjmgaa.Maps Go.Proofs.Ytiblpienmkjmgaa.PM

/-- The page of a block at a place; the pages of the first places that have a sector. -/
abbrev plc (b : Int) (i : Nat) : Tri := (b, ((i / 3 : Nat) : Int), ((i % 3 : Nat) : Int))
def ofTri (a : Tri) : S24 := ⟨a.1, a.2.1, a.2.2⟩
def pg (l2 : List (Tri × Int)) (b : Int) : Nat → List S24
  | 0 => []
  | m + 1 => if (mget (plc b m) l2).isSome = true then pg l2 b m ++ [ofTri (plc b m)] else pg l2 b m
theorem pg_len (l2 : List (Tri × Int)) (b : Int) : ∀ m, (pg l2 b m).length ≤ m
  | 0 => Nat.le_refl _
  | m + 1 => by
    have := pg_len l2 b m
    unfold pg
    split
    · rw [List.length_append]; simp; omega
    · omega
def validP (S : PS) (n : Nat) (b : Int) : Int := if 0 ≤ b ∧ b < n then S.v.getD b.toNat 0 else 0
def pagesP (G : G6) (S : PS) (b : Int) : List S24 := if validP S G.b.toNat b = 0 then [] else pg S.l2 b (3 * G.l.toNat)
section
variable {w0 w : World} {L : List Asn} {G : G6} {g m1 m2 v c : Nat} {S : PS}
theorem lkup (HO : Own w0 w (PMs G g m1 m2 v c G.b.toNat S L)) (a : Tri) (o : Obj) : (Instr.lookup 94 (.map (some m2)) (tri a) true).run Try.prog ((w.alloc o).drew) = .ok (.tuple #[((mget a S.l2).map (Value.int .i64)).getD (.int .i64 0), .bool (mget a S.l2).isSome]) ((w.alloc o).drew) :=
  own_lookup keyT Try.underlying94 (HO.alloc' o).drew.pull3 a zero3
set_option maxHeartbeats 8000000 in
set_option maxRecDepth 100000 in
theorem pages_own (b : Int) (hok : G.Ok) (hi : Inv G S) (HO : Own w0 w (PMs G g m1 m2 v c G.b.toNat S L)) :
    Calls Try.prog 28 #[.pointer (some ⟨g, 0, none⟩), .int .i64 b] w fun e w' => ∃ u, e = .returned u ∧ Own w0 w' (CAds u (pagesP G S b) :: PMs G g m1 m2 v c G.b.toNat S L) := by
  have hs := hok.1
  unfold SizesOk at hs
  have hv := valid_own b (hi.fine hok).len HO
  obtain ⟨ln, hln⟩ : ∃ ln : Nat, G.l = ln := ⟨G.l.toNat, by omega⟩
  have hlb : ln ≤ 64 := by omega
  have hV := Aside0.mk hv
  unfold pagesP
  unfold validP
  obtain ⟨z, hz⟩ : ∃ z, z = (if 0 ≤ b ∧ b < (G.b.toNat : Int) then S.v.getD b.toNat 0 else 0) := ⟨_, rfl⟩
  rw [← hz] at hV ⊢
  have HR := Aside0.mk (show Own w0 w (Ads (.slice none 0 0) [] :: PMs G g m1 m2 v c G.b.toNat S L) from (HO.fresh (R := [Ads (.slice none 0 0) []]) (Below.refl _ _) (Hold.one (Kd.R_nil _ _ _ _ _))))
  have HG := Lib.hid hln
  clear hv hs hok hi hz
  by_cases h0 : z = 0
  · subst h0
    rw [if_pos rfl]
    go_enter Try.func28, Try.ntmps28
    go_wp2_with fail
    refine hV.out.mono ?_
    rintro e w1 ⟨rfl, rfl⟩
    go_wp2_with fail
    go_ret
    exact ⟨_, rfl, crow_of HR.out⟩
  · have hzb : (z == 0) = false := by simpa using h0
    rw [if_neg h0, hln, Int.toNat_natCast]
    obtain ⟨_, x1, _, _, _, _, _, _, _⟩ := cells9 HO.pt
    rw [hln] at x1
    clear hln
    go_enter Try.func28, Try.ntmps28
    go_wp2_with fail
    refine hV.out.mono ?_
    rintro e w1 ⟨rfl, rfl⟩
    go_wp2_with fail
    go_loopw [5, 21] (fun v5 v6 wr => ∃ (i : Nat), i ≤ ln ∧ v6 = .int .i64 i ∧ Aside0 (Own w0 wr (Ads v5 (pg S.l2 b (3 * i)) :: PMs G g m1 m2 v c G.b.toNat S L))) (fun _ v6 _ => ln - (intOf v6).toNat)
    case atStart => exact ⟨0, Nat.zero_le _, rfl, HR⟩
    case round =>
      clear HR HO x1
      obtain ⟨i, hi, rfl, HO⟩ := hrel
      by_cases hlt : i < ln
      · have dl : decide ((i : Int) < (ln : Int)) = true := decide_eq_true (by omega)
        go_wp2_with fail
        obtain ⟨wo, rfl⟩ : ∃ wo : World, wo = wr := ⟨_, rfl⟩
        go_loopw [5, 24] (fun v5 v7 wr => ∃ (j : Nat), j ≤ 3 ∧ v7 = .int .i64 j ∧ Aside0 (Own w0 wr (Ads v5 (pg S.l2 b (3 * i + j)) :: PMs G g m1 m2 v c G.b.toNat S L))) (fun _ v7 _ => 3 - (intOf v7).toNat)
        case atStart => exact ⟨0, Nat.zero_le _, rfl, HO⟩
        case round =>
          clear HO
          obtain ⟨j, hj, rfl, HO⟩ := hrel
          by_cases hjt : j < 3
          · have dj : decide ((j : Int) < 3) = true := decide_eq_true (by omega)
            have hpl : plc b (3 * i + j) = (b, (i : Int), (j : Int)) := by
              unfold plc
              rw [show (3 * i + j) / 3 = i by omega, show (3 * i + j) % 3 = j by omega]
            have h1 := lkup HO.out.drop (b, (i : Int), (j : Int)) (.cells #[.int .i64 b, .int .i64 i, .int .i64 j] 24)
            have hlt2 := blk_lt HO.out.drop.pt
            obtain ⟨_, _, _, _, _, _, _, x7, _⟩ := cells9 HO.out.drop.pt
            have hpg : pg S.l2 b (3 * i + (j + 1)) = if (mget (b, (i : Int), (j : Int)) S.l2).isSome = true then pg S.l2 b (3 * i + j) ++ [⟨b, i, j⟩] else pg S.l2 b (3 * i + j) := by
              show pg S.l2 b (3 * i + j + 1) = _
              rw [pg, hpl]; rfl
            have HPL := pg_len S.l2 b (3 * i + j)
            cases hx : mget (b, (i : Int), (j : Int)) S.l2 with
            | none =>
              rw [hx] at h1 hpg
              simp only [Option.map_none, Option.getD_none, Option.isSome_none] at h1
              rw [if_neg (by simp)] at hpg
              have HPG := Lib.hid hpg
              clear hx hpg hpl
              go_wp2_with fail
              go_region
              all_goals go_wp2_with fail
              all_goals go_roundw
              all_goals try (case rel => exact ⟨j + 1, by omega, by go_num, by rw [HPG.out]; exact ⟨(HO.out.alloc' _).drew⟩⟩)
              all_goals (case measure => simp [intOf]; omega)
            | some k =>
              rw [hx] at h1 hpg
              simp only [Option.map_some, Option.getD_some, Option.isSome_some] at h1
              rw [if_pos (by simp)] at hpg
              have HPG := Lib.hid hpg
              have HB := Aside0.mk ((HO.out.alloc' (.cells #[.int .i64 b, .int .i64 i, .int .i64 j] 24)).drew)
              clear hx hpg hpl
              go_wp2_with fail
              go_region
              all_goals go_wp2_with (at_builtin; refine own_append (w0 := w0) k24 rfl (.tmp 41) (.tmp 43) 56 24 (.agg #[.int .i64 0, .int .i64 0, .int .i64 0]) 24 rfl Try.underlying56 info24 rfl (by decide) (by decide) u5 (pg S.l2 b (3 * i + j)) ⟨b, i, j⟩ [.int .i64 b, .int .i64 i, .int .i64 j] rfl (by first | rfl | (go_simp; done)) (k24_mkM _ _ _ ⟨b, i, j⟩) HB.out (by omega) ?_; intro v1 w1 ho)
              all_goals rw [← HPG.out] at ho
              all_goals have HN := Aside0.mk ho
              all_goals go_roundw
              all_goals try (case rel => exact ⟨j + 1, by omega, by go_num, HN⟩)
              all_goals (case measure => simp [intOf]; omega)
          · obtain rfl : j = 3 := by omega
            go_wp2_with fail
            go_roundw
            case rel => exact ⟨i + 1, by omega, by go_num, HO⟩
            case measure => simp [intOf]; omega
      · obtain rfl : i = ln := by omega
        have dl : decide ((i : Int) < (i : Int)) = false := decide_eq_false (by omega)
        go_wp2_with fail
        refine (clip_own _ (by have := pg_len S.l2 b (3 * i); omega) HO.out).mono ?_
        rintro e w2 ⟨u, rfl, ho⟩
        go_wp2_with fail
        go_ret
        exact ⟨_, rfl, ho⟩
end
end Go.Proofs.Ytiblpienmkjmgaa.Pmap
