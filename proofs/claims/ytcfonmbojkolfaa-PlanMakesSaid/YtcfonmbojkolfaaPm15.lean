/- The law's proof: words, contracts of the functions that it reaches, plain lemmas. -/
import Derived.Test.YtcfonmbojkolfaaProg
import Derived.Below
import Derived.Carry
import Derived.Deep.Draws
import Derived.Deep.AppendLies
import Derived.Maps.AppendAt
import Derived.OwnWalk
import Derived.Laws.BytesArg
import Derived.Laws.MakeOwn
import Derived.Laws.OwnMore
import Derived.Deep.OwnRows
import Derived.Tactics
import Derived.Lib.ConvBytes
import Derived.Laws.Slices
import Derived.WalkKit
import Derived.KernelRfl
import Derived.RowKit3
import Derived.Deep.LoopGhost
import Derived.Deep.QuietTactic
import Derived.BigQuiet
import Derived.WideLaws
import Derived.Deep.DeepCutAuto
import Derived.Deep.CutBlock
import Derived.Deep.RegionHeld3
import Derived.Deep.RegionWith
import Derived.Laws.Rows
import Derived.Lib.AppendStr
import Derived.ArgAppend
import Derived.Laws.IdiomCopy
import Derived.OrdersHeld
import Derived.Laws.BitsLemmas
import Derived.Outline
import Derived.RegionTactic
import Derived.Lib.Hide
import Derived.StillTailTactics
import Derived.OpenShut
import Derived.Test.YtcfonmbojkolfaaPm3
import Derived.Lib.BufferMore
import Derived.Lib.LazyBuf
import Derived.Test.YtcfonmbojkolfaaPm12
import Derived.Test.YtcfonmbojkolfaaPm14
import Derived.Test.YtcfonmbojkolfaaPm0
import Derived.Test.YtcfonmbojkolfaaPm2
import Derived.RegionIn
import Derived.ChangeKeysEq
import Derived.ControlIn
import Derived.Sort.CutIn
section
/- Law PlanMakes: the walk. -/
set_option linter.unusedVariables false
set_option linter.unusedSimpArgs false
namespace Go.Proofs.Ytcfonmbojkolfaa.Plan
open Go.RowKit Go.Proofs.Ytcfonmbojkolfaa.Tf Go.Proofs.YtcfonmbojkolfaaW.PrintWords Go.Proofs.YtcfonmbojkolfaaW.PrintLast Go.Proofs.Ytcfonmbojkolfaa.Mem Go.Proofs.Ytcfonmbojkolfaa.Own Go.Proofs.Ytcfonmbojkolfaa.Maps Go.Proofs.Ytcfonmbojkolfaa.PN
open Go.Proofs.Ytcfonmbojkolfaa.Rng Go.Proofs.Ytcfonmbojkolfaa.RoundReg
attribute [local go_sem high] eqA27
attribute [local go_sem] Oper.semAt_some
theorem eqA45 (d : Nat) (w : World) (x0 y0 : Int) (x1 y1 : Bool) :
    (Op.equalIn (d + 2) 45 (.agg #[.int .i64 x0, .bool x1]) (.agg #[.int .i64 y0, .bool y1])).run Try.prog w = .ok (x0 == y0 && x1 == y1) w := by
  refine eqA_of Try.underlying45 (by kernel_rfl) ?_
  refine eqf_cons (by rfl) (by go_simp; rfl) (by go_simp; rfl) (by go_simp) ?_
  exact eqf_last (by rfl) (by go_simp; rfl) (by go_simp; rfl) (by go_simp)
theorem cells27 : Try.prog.cellsOf 27 = 3 := by kernel_rfl
theorem eqA46 (d : Nat) (w : World) (a b c : Tri) : (Op.equalIn (d + 8) 46 (pgV a b c) (pgV a b c)).run Try.prog w = .ok true w := by
  have hu := Try.underlying46
  have p0 : (part 27 #[.int .i64 a.1, .int .i64 a.2.1, .int .i64 a.2.2, .int .i64 b.1, .int .i64 b.2.1, .int .i64 b.2.2, .int .i64 c.1, .int .i64 c.2.1, .int .i64 c.2.2] 0).run Try.prog w = .ok (tri a) w := by kernel_rfl
  have p1 : (part 27 #[.int .i64 a.1, .int .i64 a.2.1, .int .i64 a.2.2, .int .i64 b.1, .int .i64 b.2.1, .int .i64 b.2.2, .int .i64 c.1, .int .i64 c.2.1, .int .i64 c.2.2] 3).run Try.prog w = .ok (tri b) w := by kernel_rfl
  have p2 : (part 27 #[.int .i64 a.1, .int .i64 a.2.1, .int .i64 a.2.2, .int .i64 b.1, .int .i64 b.2.1, .int .i64 b.2.2, .int .i64 c.1, .int .i64 c.2.1, .int .i64 c.2.2] 6).run Try.prog w = .ok (tri c) w := by kernel_rfl
  have q : ∀ x : Tri, (Op.equalIn (d + 7) 27 (tri x) (tri x)).run Try.prog w = .ok true w := fun x => by
    have := eqA27 (d + 5) w x.1 x.1 x.2.1 x.2.1 x.2.2 x.2.2
    simpa using this
  have hi : ∃ i, Try.prog.info? 27 = some i := by
    have h := info27
    cases e : Try.prog.info? 27 with
    | none => rw [e] at h; cases h
    | some i => exact ⟨i, rfl⟩
  obtain ⟨i, hi⟩ := hi
  show (Op.equalIn (d + 7 + 1) 46 _ _).run Try.prog w = _
  rw [run_equalIn_array w (d + 7) _ _ hu hi]
  simp [List.range, List.range.loop, Op.eqItems, cells27, p0, p1, p2, q]
theorem und38 : Try.prog.underlying 38 = some (.func #[86] #[] false) := by kernel_rfl
theorem eqIn_nilF (d f : Nat) (cs : Array Value) (w : World) : (Op.equalIn (d + 1) 38 (Value.func (.func f) #[] cs) Value.nilFunc).run Try.prog w = .ok false w := by
  simp [Op.equalIn, run_underlying und38]
theorem eqNilF (f : Nat) (cs : Array Value) (w : World) : (binOp .eql 38 (Value.func (.func f) #[] cs) Value.nilFunc).run Try.prog w = .ok (Value.bool false) w := by
  have h : (Op.equal 38 (Value.func (.func f) #[] cs) Value.nilFunc).run Try.prog w = .ok false w := eqIn_nilF 9999 f cs w
  simp [binOp, h]
attribute [local go_sem high] eqA45 eqA46 eqNilF
theorem G6.wf_ok (G : G6) (h : G.Ok) : 0 ≤ G.l ∧ 1 ≤ G.l ∧ G.l ≤ 64 := by
  have hs := h.1
  unfold SizesOk at hs
  omega
theorem make_nogeo {w0 w : World} {L : List Asn} (G : G6) (tg : Int) (v : Value) (hb : (Lit.int .i64 G.b).wf = true) (hl : (Lit.int .i64 G.l).wf = true) (hno : ¬ G.Ok) (HO : Own.Own w0 w L) :
    Calls Try.prog 11 #[geoV G, .int .i64 tg, v] w fun e w' => e = .returned (.tuple #[.pointer none, .int .i64 60]) ∧ Own.Own w0 w' L := by
  have hchk := check_some G.b G.l G.y G.s G.p G.w hb hl 8 (Nat.le_refl _)
  rw [if_neg (show ¬ GeoOk G.b G.l G.y G.s G.p G.w from hno)] at hchk
  have HCK := Lib.hid hchk
  obtain ⟨BG, hBG⟩ : ∃ BG, BG = w.heap.size := ⟨_, rfl⟩
  have HBG := Lib.hid hBG
  have hA := HO.alloc (geoC G)
  rw [← hBG] at hA
  have HA := Aside0.mk hA
  obtain ⟨x0, x1, x2, x3, x4, x5⟩ := cells6 hA.pt
  clear hchk hno HO hBG hA
  go_enter Try.func11, Try.ntmps11
  go_wp2_with fail
  rw [← HBG.out]
  refine (geom_Check.calls 8 G.b G.l G.y G.s G.p G.w 60 _ HCK.out).mono ?_
  rintro e w1 ⟨rfl, hb⟩
  have HB := Aside0.mk (HA.out.move hb)
  clear hb HA x0 x1 x2 x3 x4 x5
  go_wp2_with fail
  go_ret2
  exact ⟨rfl, HB.out.drop⟩
abbrev BoxG (b : Nat) (G : G6) : Asn := Pt b (geoC G)
abbrev BoxL (b : Nat) (v : Value) : Asn := Pt b (.cells #[v] 25)
abbrev BoxA (b : Nat) (K tg : Int) (q : Tri) : Asn := Pt b (.cells #[.int .i64 K, .int .i64 tg, .int .i64 q.1, .int .i64 q.2.1, .int .i64 q.2.2] 51)
/-- What the law's walk holds from its start on. -/
abbrev Lw (B3 B4 B5 B6 : Nat) (G : G6) (v : Value) (K tg : Int) (q : Tri) (R : List Asn) : List Asn := BoxR B6 false :: BoxA B5 K tg q :: BoxL B4 v :: BoxG B3 G :: R
theorem cells5 {w : World} {g : Nat} {a b c d e : Value} {T : TypeId} (k : w.heap[g]? = some (.cells #[a, b, c, d, e] T (0, 0))) : w.cell? ⟨g, 0, none⟩ = some a ∧ w.cell? ⟨g, 1, none⟩ = some b ∧ w.cell? ⟨g, 2, none⟩ = some c ∧ w.cell? ⟨g, 3, none⟩ = some d ∧ w.cell? ⟨g, 4, none⟩ = some e :=
  ⟨blk_cell k 0, blk_cell k 1, blk_cell k 2, blk_cell k 3, blk_cell k 4⟩
theorem own_lit_nil {w0 w : World} {L : List Asn} (h : Own.Own w0 w L) : Own.Own w0 (w.alloc (.cells #[] 27)) (Ads (.slice (some ⟨w.heap.size, 0, none⟩) 0 0) [] :: L) := h.fresh (R := [Ads (.slice (some ⟨w.heap.size, 0, none⟩) 0 0) []]) (below_alloc (Below.refl _ _) (.cells #[] 27)) (Hold.one (lit_nil w))
theorem quiet_exit {P : Program} {c : Code} {K : Act → World → Prop} {Q : Exit → Act → World → Prop} {a : Act} {w : World} (h : Code.wp P c (Exit.then K (fun _ _ _ => False)) a w) : Code.wp P c (Exit.then K Q) a w := by
  refine wp_mono h ?_
  intro e a w h
  cases e with
  | normal => exact h
  | _ => exact h.elim
theorem then_n {K : Act → World → Prop} {Q : Exit → Act → World → Prop} {a : Act} {w : World} (h : K a w) : Exit.then K Q .normal a w := h
/-- A row of addresses as a block by itself, of which only the size is known. -/
def Jnk (v : Value) (n : Nat) : Asn where
  P w B S := (n = 0 ∨ ∃ (b : Nat) (c : Nat) (cs : Array Value), v = .slice (some ⟨b, 0, none⟩) n c ∧ 3 * n ≤ cs.size ∧ w.heap[b]? = some (.cells cs 27 (0, 0)) ∧ S b)
  move h hm := by
    rcases h with h | ⟨b, c, cs, h1, h2, h3, h4⟩
    · exact .inl h
    · exact .inr ⟨b, c, cs, h1, h2, (hm b h4 (blk_lt h3)).trans h3, h4⟩
  cut h := by
    rcases h with h | ⟨b, c, cs, h1, h2, h3, h4⟩
    · exact .inl h
    · exact .inr ⟨b, c, cs, h1, h2, h3, h4, blk_lt h3⟩
  mono h hs := by
    rcases h with h | ⟨b, c, cs, h1, h2, h3, h4⟩
    · exact .inl h
    · exact .inr ⟨b, c, cs, h1, h2, h3, hs b h4⟩
  lower h _ := h
theorem row_jnk {w0 w : World} {L : List Asn} {v : Value} {xs : List S27} (h : Own.Own w0 w (Ads v xs :: L)) : Own.Own w0 w (Jnk v xs.length :: L) := by
  refine h.imp (fun S hR => ?_)
  obtain ⟨hS, cs, hrow, _⟩ := hR
  rcases hrow.2 with ⟨_, h0⟩ | ⟨g, cap, cur, rfl, _, h1, h2, _, h3, _⟩
  · exact .inl h0
  · have h3' : cur.size = cap * 3 := h3
    exact .inr ⟨g, cap, cur, rfl, by omega, h1, hS g rfl⟩
theorem jnk_put3 {w0 w : World} {L : List Asn} {ad : Addr} {n c : Nat} (h : Own.Own w0 w (Jnk (.slice (some ad) n c) n :: L)) (i : Nat) (hi : i < n) (u0 u1 u2 : Value) :
    ∃ a0 a1 a2 x0 x1 x2, a0 = ad.add (i * 3) ∧ a1 = ⟨(ad.add (i * 3)).block, (ad.add (i * 3)).off + 1, none⟩ ∧ a2 = ⟨(ad.add (i * 3)).block, (ad.add (i * 3)).off + 2, none⟩ ∧
    w.cell? a0 = some x0 ∧ (w.setCell a0 u0).cell? a1 = some x1 ∧ ((w.setCell a0 u0).setCell a1 u1).cell? a2 = some x2 ∧
    w.frozen? a0 = false ∧ (w.setCell a0 u0).frozen? a1 = false ∧ ((w.setCell a0 u0).setCell a1 u1).frozen? a2 = false ∧
    Own.Own w0 (((w.setCell a0 u0).setCell a1 u1).setCell a2 u2) (Jnk (.slice (some ad) n c) n :: L) := by
  obtain ⟨S, hs, hk, f⟩ := h.head
  rcases hs with h0 | ⟨b, c', cs, h1, h2, h3, h4⟩
  · omega
  · injection h1 with e1 e2 e3
    injection e1 with e1
    subst e1 e3
    have hadd : (⟨b, 0, none⟩ : Addr).add (i * 3) = ⟨b, i * 3, none⟩ := by
      unfold Addr.add
      split
      · rename_i h0; rw [h0]
      · simp
    rw [hadd]
    have hpt : Own.Own w0 w (Pt b (.cells cs 27 (0, 0)) :: L) := f w [Pt b (.cells cs 27 (0, 0))] (Mod.refl _ _ _) (Hold.one ⟨h3, .inl h4⟩)
    have p1 := hpt.set (i := i * 3) u0
    have p2 := p1.set (i := i * 3 + 1) u1
    have p3 := p2.set (i := i * 3 + 2) u2
    refine ⟨⟨b, i * 3, none⟩, ⟨b, i * 3 + 1, none⟩, ⟨b, i * 3 + 2, none⟩, _, _, _, rfl, rfl, rfl, (blk_cell hpt.pt _).trans (Array.getElem?_eq_getElem (show i * 3 < cs.size by omega)), (blk_cell p1.pt _).trans (Array.getElem?_eq_getElem (show i * 3 + 1 < (cs.setIfInBounds _ _).size by rw [Array.size_setIfInBounds]; omega)),
      (blk_cell p2.pt _).trans (Array.getElem?_eq_getElem (show i * 3 + 2 < ((cs.setIfInBounds _ _).setIfInBounds _ _).size by rw [Array.size_setIfInBounds, Array.size_setIfInBounds]; omega)), blk_frozen hpt.pt _, blk_frozen p1.pt _, blk_frozen p2.pt _, ?_⟩
    exact p3.imp (fun S hS => .inr ⟨b, c, _, rfl, by simp only [Array.size_setIfInBounds]; exact h2, hS.1, hS.2⟩)
def cOf (G : G6) (tg : Int) (l : List S27) : Int := if G.Ok then makeC G tg l else 60
theorem make_all {w0 w : World} {L : List Asn} (G : G6) (tg : Int) (A0 : Option Addr) (c0 : Nat) (l : List S27) (hb : (Lit.int .i64 G.b).wf = true) (hl : (Lit.int .i64 G.l).wf = true) (hn : l.length ≤ 200) (hc0 : l.length ≤ c0) (hr : Kd.C k27 w A0 l.length l) (HO : Own.Own w0 w L) :
    Calls Try.prog 11 #[geoV G, .int .i64 tg, .slice A0 l.length c0] w fun e w' => ∃ p, e = .returned (.tuple #[.pointer p, .int .i64 (cOf G tg l)]) ∧
      ((cOf G tg l ≠ 0 ∧ p = none ∧ Own.Own w0 w' L) ∨ (cOf G tg l = 0 ∧ G.Ok ∧ makeC G tg l = 0 ∧ ∃ g A c r, p = some ⟨g, 0, none⟩ ∧ Own.Own w0 w' (PlO g A c r (planOf G tg l) L))) := by
  unfold cOf
  by_cases hok : G.Ok
  · rw [if_pos hok]
    refine (make_any G tg A0 c0 l hok (by omega) hc0 hr HO).mono ?_
    intro e w' he
    obtain ⟨p, rfl, hp⟩ := makeEnd_one he
    rcases hp with ⟨h1, h2, h3⟩ | ⟨h1, h2⟩
    · exact ⟨p, rfl, .inl ⟨h1, h2, h3⟩⟩
    · exact ⟨p, rfl, .inr ⟨h1, hok, h1, h2⟩⟩
  · rw [if_neg hok]
    refine (make_nogeo G tg _ hb hl hok HO).mono ?_
    rintro e w' ⟨rfl, h⟩
    exact ⟨none, rfl, .inl ⟨by decide, rfl, h⟩⟩
def pmk.T23 : Bool × List (List Nat × List Nat) := (true, [([], []), ([], []), ([0, 1], [0, 1]), ([2], [2]), ([3], [3]), ([3], [3]), ([4, 5, 3], [3, 4, 5]), ([3, 6], [3, 6]), ([7, 3], [7]), ([8], [8]), ([8], [8]), ([9, 10, 8], [8, 9, 10]), ([8, 11], [8, 11]), ([12, 8], [12]), ([13], [13]), ([13], [13]), ([14, 15, 13], [13, 14, 15]), ([13, 16], [13, 16]), ([17, 13], [17]), ([18], [18]), ([18], [18]), ([19, 20, 18], [18, 19, 20]), ([18, 21], [18, 21]), ([22, 18], [22]), ([23], [23]), ([24, 23, 23], [23, 24]), ([23], [23]), ([25, 26, 23], [23, 25, 26]), ([23, 27], [23, 27]), ([28, 25], [28]), ([29], [29]), ([30, 29, 29], [29, 30]), ([29], [29]), ([32, 29], [29, 32]), ([33, 29], [29, 33]), ([31, 34, 29], [29, 31, 34]), ([29, 35], [29, 35])])
def pmk.B23 : List Nat := [0, 0, 3, 7, 15, 15, 63, 127, 255, 511, 511, 2047, 4095, 8191, 16383, 16383, 65535, 131071, 262143, 524287, 524287, 2097151, 4194303, 8388607, 16777215, 33554431, 16777215, 134217727, 268435455, 536870911, 1073741823, 2147483647, 1073741823, 5368709119, 13958643711, 34359738367, 68719476735]
theorem pmk.tab23 : rtab .any (opsOf Try.f5 23) = pmk.T23 := by kernel_rfl
theorem pmk.bits23 : waitsOk pmk.T23.2 pmk.B23 = true := by kernel_rfl
def pmk.T33 : Bool × List (List Nat × List Nat) := (true, [([], []), ([], []), ([1], [1]), ([0, 2], [0, 2]), ([3], [3]), ([4], [4]), ([4], [4]), ([4], [4]), ([6, 7, 4], [4, 6, 7]), ([8, 4], [4, 8]), ([5, 9, 4], [4, 5, 9]), ([4, 10], [4, 10]), ([11, 4], [11]), ([12], [12]), ([12], [12]), ([12], [12]), ([14, 15, 12, 12], [12, 14, 15]), ([13, 16, 12], [12, 13, 16]), ([12, 17], [12, 17])])
def pmk.B33 : List Nat := [0, 0, 2, 7, 15, 31, 31, 31, 223, 479, 1023, 2047, 4095, 8191, 8191, 8191, 57343, 131071, 262143]
theorem pmk.tab33 : rtab .any (opsOf Try.f5 33) = pmk.T33 := by kernel_rfl
theorem pmk.bits33 : waitsOk pmk.T33.2 pmk.B33 = true := by kernel_rfl
set_option maxHeartbeats 8000000 in
set_option maxRecDepth 100000 in
theorem makes_own {w : World} (G : G6) (A : Option Addr) (cc : Nat) (l : List S27) (K tg : Int) (q : Tri) (hb : (Lit.int .i64 G.b).wf = true) (hl : (Lit.int .i64 G.l).wf = true) (hr : Kd.C k27 w A l.length l) (hc : l.length ≤ cc) :
    Calls Try.prog 5 #[geoV G, .slice A l.length cc, .agg #[.int .i64 K, .int .i64 tg, .int .i64 q.1, .int .i64 q.2.1, .int .i64 q.2.2]] w fun e w' => e = .returned (.bool true) ∧ Below w.heap.size w w' := by
  have HR := Aside0.mk hr
  have HC := Lib.hid hc
  have HWF := Aside0.mk (And.intro hb hl)
  have ha := ((((Own.Own.new w).alloc (geoC G)).alloc (.cells #[.slice A l.length cc] 25)).alloc (.cells #[.int .i64 K, .int .i64 tg, .int .i64 q.1, .int .i64 q.2.1, .int .i64 q.2.2] 51)).alloc (.cells #[.bool false] 4)
  simp only [World.size_alloc] at ha
  obtain ⟨B3, hB3⟩ : ∃ B3, B3 = w.heap.size := ⟨_, rfl⟩
  obtain ⟨B4, hB4⟩ : ∃ B4, B4 = B3 + 1 := ⟨_, rfl⟩
  obtain ⟨B5, hB5⟩ : ∃ B5, B5 = B4 + 1 := ⟨_, rfl⟩
  obtain ⟨B6, hB6⟩ : ∃ B6, B6 = B5 + 1 := ⟨_, rfl⟩
  rw [← hB3, ← hB4, ← hB5, ← hB6] at ha
  have HO := Aside0.mk (show Own.Own w _ (Lw B3 B4 B5 B6 G (.slice A l.length cc) K tg q []) from ha)
  have HB3 := Lib.hid hB3
  have HB4 := Lib.hid hB4
  have HB5 := Lib.hid hB5
  have HB6 := Lib.hid hB6
  clear ha hr hB3 hB4 hB5 hB6 hc hb hl
  refine (callsIn_wide (n := 3)).1 ?_
  refine callsIn_of_wp_marks Try.func5 rfl trivial ?_ rfl
  simp only [Try.ntmps5, List.size_toArray, List.length_cons, List.length_nil, Nat.reduceAdd, Nat.reduceSub, Array.replicate_succ, Array.replicate_zero, List.push_toArray, List.append_toArray, List.nil_append, List.cons_append]
  refine wpIn_wide.2 ?_
  by_cases h200 : 200 < l.length
  · have d1 : decide (200 < (l.length : Int)) = true := decide_eq_true (by omega)
    have d2 : decide ((l.length : Int) > 200) = true := decide_eq_true (by omega)
    have d3 : decide (200 < l.length) = true := decide_eq_true h200
    go_wp2_with fail
    rw [← HB3.out, ← HB4.out, ← HB5.out, ← HB6.out]
    refine (works_own HO.out).mono ?_
    rintro e w1 ⟨rfl, ho⟩
    have H1 := Aside0.mk ho
    have r0 := blk_cell H1.out.pt 0
    have r1 := blk_frozen H1.out.pt 0
    clear ho HO
    go_wp2_with fail
    have H5 := H1.out.set (i := 0) (.bool true)
    have hc := blk_cell H5.pt 0
    exact ⟨.bool true, by simp [results, Try.results5, go_sem, hc], rfl, H5.below⟩
  · have d1 : decide (200 < (l.length : Int)) = false := decide_eq_false (by omega)
    have d2 : decide ((l.length : Int) > 200) = false := decide_eq_false (by omega)
    have d3 : decide (200 < l.length) = false := decide_eq_false h200
    have h7 := own_swap [_] [_, _, _, _] (HO.out.alloc (.cells #[.int .i64 tg] 3))
    obtain ⟨B7, hB7⟩ : ∃ B7, B7 = B6 + 1 := ⟨_, rfl⟩
    simp only [World.size_alloc] at h7
    rw [← HB3.out, ← HB4.out, ← HB5.out, ← HB6.out, ← hB7] at h7
    have HB7 := Lib.hid hB7
    have H7 := Aside0.mk (show Own.Own w _ (Lw B3 B4 B5 B6 G (.slice A l.length cc) K tg q [BoxT B7 tg]) from h7)
    clear h7 hB7 HO
    go_upto_region 4 with (fail)
    rw [← HB3.out, ← HB4.out, ← HB5.out, ← HB6.out, ← HB7.out]
    clear HB3 HB4 HB5 HB6 HB7
    generalize hW : World.alloc _ _ = w2 at H7 ⊢
    clear hW d1 d2 d3
    have HL := Aside0.mk (own_lit_nil H7.out)
    have c4 := blk_cell HL.out.drop.drop.drop.pt 0
    simp only [List.getElem?_toArray, List.getElem?_cons_zero] at c4
    have HCl := Aside0.mk (Kd.C_below HR.out HL.out.below)
    go_wp2_with (at_builtin; refine own_append_rows (w0 := w) rfl (.tmp 33) (.tmp 34) 25 27 (.agg #[.int .i64 0, .int .i64 0, .int .i64 0]) 24 rfl Try.underlying25 info27 rfl (by decide) (.slice (some ⟨w2.heap.size, 0, none⟩) 0 0) [] l A l.length cc (by first | rfl | (go_simp; done)) (by first | rfl | (go_simp; done)) HCl.out HL.out (by simp; omega) ?_; intro v1 w1 ho; rw [List.nil_append] at ho; obtain ⟨A8, c8, rfl, hc8, hr8⟩ := ho.reads; have H8 := Aside0.mk ho; have HR8 := Aside0.mk hr8; have HC8 := Lib.hid hc8; obtain ⟨x0, x1, x2, x3, x4, x5⟩ := cells6 H8.out.drop.drop.drop.drop.pt; have c7 := blk_cell H8.out.drop.drop.drop.drop.drop.pt 0; simp only [List.getElem?_toArray, List.getElem?_cons_zero] at c7; clear ho hr8 hc8)
    clear c4 HL H7 HCl
    clear x0 x1 x2 x3 x4 x5 c7
    refine (make_all G tg A8 c8 l HWF.out.1 HWF.out.2 (by omega) HC8.out HR8.out H8.out).mono ?_
    rintro e w3 ⟨p, rfl, hp⟩
    have HP := Aside0.mk hp
    clear hp
    rcases HP.out with ⟨hne, rfl, ho⟩ | ⟨hz, hok, hmk, g, A', c', r, rfl, ho⟩
    · have H9 := Aside0.mk ho
      have HNE := Lib.hid hne
      clear HP ho hne
      obtain ⟨x0, x1, x2, x3, x4, x5⟩ := cells6 H9.out.drop.drop.drop.drop.pt
      have c7 := blk_cell H9.out.drop.drop.drop.drop.drop.pt 0
      have c4 := blk_cell H9.out.drop.drop.drop.pt 0
      simp only [List.getElem?_toArray, List.getElem?_cons_zero] at c7 c4
      go_wp2_with fail
      have hmay := may_is tg l G HWF.out.1 HWF.out.2 (by omega)
      refine (deckleref25_May.calls 50000 G.b G.l G.y G.s G.p G.w tg A cc l (cOf G tg l) _ (Kd.C_below HR.out H9.out.below) HC.out hmay).mono ?_
      rintro e w4 ⟨rfl, hb⟩
      have H10 := Aside0.mk (H9.out.move hb)
      have hne := HNE.out
      generalize cOf G tg l = cd at hne ⊢
      have e1 : (cd != cd) = false := by simp
      have e2 : (cd != 0) = true := by simpa using hne
      have e3 : (cd == 0) = false := by simpa using hne
      clear hb H9 hmay x0 x1 x2 x3 x4 x5 c7 c4
      go_wp2_with fail
      refine (works_own H10.out).mono ?_
      rintro e w5 ⟨rfl, ho⟩
      have H1 := Aside0.mk ho.drop
      have r0 := blk_cell H1.out.pt 0
      have r1 := blk_frozen H1.out.pt 0
      clear ho H10
      go_wp2_with fail
      have H5 := H1.out.set (i := 0) (.bool true)
      have hc := blk_cell H5.pt 0
      exact ⟨.bool true, by simp [results, Try.results5, go_sem, hc], rfl, H5.below⟩
    · have H9 := Aside0.mk ho
      clear HP ho
      rw [hz]
      have HOK := Lib.hid hok
      have HMK := Lib.hid hmk
      have HZ := Lib.hid hz
      clear hok hmk hz
      obtain ⟨x0, x1, x2, x3, x4, x5⟩ := cells6 H9.out.drop.drop.drop.drop.drop.drop.drop.pt
      have c7 := blk_cell H9.out.drop.drop.drop.drop.drop.drop.drop.drop.pt 0
      have c4 := blk_cell H9.out.drop.drop.drop.drop.drop.drop.pt 0
      simp only [List.getElem?_toArray, List.getElem?_cons_zero] at c7 c4
      go_wp2_with fail
      have hmay := may_is tg l G HWF.out.1 HWF.out.2 (by omega)
      have hmay' : deckleref25_May.f 50000 G.b G.l G.y G.s G.p G.w tg l = some 0 := by rw [hmay]; exact congrArg some HZ.out
      refine (deckleref25_May.calls 50000 G.b G.l G.y G.s G.p G.w tg A cc l 0 _ (Kd.C_below HR.out H9.out.below) HC.out hmay').mono ?_
      rintro e w4 ⟨rfl, hb⟩
      have H10 := Aside0.mk (H9.out.move hb)
      obtain ⟨S, hS⟩ : ∃ S, S = planOf G tg l := ⟨_, rfl⟩
      have hSs : S.src = l ∧ S.tg = tg ∧ S.ln = G.l := by rw [hS]; exact ⟨rfl, rfl, rfl⟩
      rw [← hS] at H10
      have HS := Aside0.mk hS
      have HSS := Aside0.mk hSs
      have H11 := Aside0.mk (row_jnk (own_swap [_, _, _] [_] H10.out))
      clear hb H9 H10 hmay hmay' x0 x1 x2 x3 x4 x5 c7 c4 hS hSs HR8 HC8 H8
      go_wp2_with fail
      go_loopw [12, 62] (fun _ v62 wr => ∃ i : Nat, i ≤ l.length ∧ v62 = .int .i64 i ∧ Aside0 (Own.Own w wr (Jnk (.slice A8 l.length c8) l.length :: PlO g A' c' r S (Lw B3 B4 B5 B6 G (Value.slice A l.length cc) K tg q [BoxT B7 tg])))) (fun _ v62 _ => l.length - (intOf v62).toNat)
      case atStart => exact ⟨0, by omega, rfl, H11⟩
      case round =>
        clear H11
        obtain ⟨i, hi, rfl, HO⟩ := hrel
        by_cases hlt : i < l.length
        · have dl : decide ((i : Int) < (l.length : Int)) = true := decide_eq_true (by omega)
          have dln : decide (i < l.length) = true := decide_eq_true hlt
          have hA8 : ∃ ad, A8 = some ad := by
            obtain ⟨S', hs, _⟩ := HO.out.head
            rcases hs with h0 | ⟨b, c', cs, h1, _⟩
            · omega
            · injection h1 with h1; exact ⟨_, h1⟩
          obtain ⟨ad, rfl⟩ := hA8
          obtain ⟨_, _, _, x0, x1, x2, rfl, rfl, rfl, q0, q1, q2, f0, f1, f2, hj⟩ := jnk_put3 HO.out i hlt (.int .i64 99) (.int .i64 0) (.int .i64 0)
          have g1 : (0 ≤ (i : Int)) = True := eq_true (by omega)
          have g2 : ((i : Int) < (l.length : Nat)) = True := eq_true (by omega)
          have g3 : (i < l.length) = True := eq_true hlt
          have HJ := Aside0.mk hj
          clear HO hj
          go_wp2_with fail
          go_roundw
          case rel => exact ⟨i + 1, by omega, by go_num, HJ⟩
          case measure => simp [intOf]; omega
        · obtain rfl : i = l.length := by omega
          have dl : decide ((l.length : Int) < (l.length : Int)) = false := decide_eq_false (by omega)
          have dln : decide (l.length < l.length) = false := decide_eq_false (by omega)
          have H12 := Aside0.mk (HO.out.drop)
          clear HO
          obtain ⟨k0, k1, k2, k3, k4⟩ := cells5 (own_swap [_, _, _] [_, _] H12.out).drop.pt
          go_wp2_with fail
          have hst := order_is G.l K (by have := G.wf_ok HOK.out; omega) (by have := G.wf_ok HOK.out; omega)
          rw [← HSS.out.2.2] at hst
          obtain ⟨r1, hr1⟩ : ∃ r, r = (stepAt G.l K).1 := ⟨_, rfl⟩
          obtain ⟨r2, hr2⟩ : ∃ r, r = (stepAt G.l K).2.1 := ⟨_, rfl⟩
          obtain ⟨r3, hr3⟩ : ∃ r, r = (stepAt G.l K).2.2 := ⟨_, rfl⟩
          have hst' : order_At.f 8 S.ln K = some (r1, r2, r3) := by rw [hr1, hr2, hr3]; rw [hst, HSS.out.2.2]
          have hln : r3 = 0 → 0 ≤ r1 ∧ r1 < G.l := by rw [hr1, hr3]; exact fun h => stepAt_line G.l K (by have := G.wf_ok HOK.out; omega) h
          have hzz : r3 ≠ 0 → r1 = 0 ∧ r2 = false := by
            rcases stepAt_e G.l K with h | h
            · intro h'; rw [hr3] at h'; exact absurd h h'
            · intro _; rw [hr1, hr2, h]; exact ⟨rfl, rfl⟩
          have href := ref_at_is G.l K (by have := G.wf_ok HOK.out; omega) (by have := G.wf_ok HOK.out; omega)
          have href' : deckleref07_At.f 200 G.l K = some (r1, r2, r3) := by rw [href, hr1, hr2, hr3]
          obtain ⟨f0, hf0⟩ : ∃ f, f = if r3 = 0 then srcAt l (3 * r1) else z3 := ⟨_, rfl⟩
          obtain ⟨f1, hf1⟩ : ∃ f, f = if r3 = 0 then srcAt l (3 * r1 + 1) else z3 := ⟨_, rfl⟩
          obtain ⟨f2, hf2⟩ : ∃ f, f = if r3 = 0 then srcAt l (3 * r1 + 2) else z3 := ⟨_, rfl⟩
          have HLN := Lib.hid hln
          have HREF := Lib.hid href'
          have HF0 := Lib.hid hf0
          have HF1 := Lib.hid hf1
          have HF2 := Lib.hid hf2
          refine (step_own K r1 r3 r2 hst' (fun h => by have := hln h; have := G.wf_ok HOK.out; omega) H12.out).mono ?_
          rintro e w5 ⟨he, ho⟩
          obtain rfl : e = .returned (.tuple #[.agg #[.int .i64 r1, .bool r2], pgV f0 f1 f2, .int .i64 r3]) := by
            rcases he with ⟨h1, rfl⟩ | ⟨h1, rfl⟩
            · rw [(hzz h1).1, (hzz h1).2, hf0, hf1, hf2, if_neg h1, if_neg h1, if_neg h1]
            · rw [hf0, hf1, hf2, if_pos h1, if_pos h1, if_pos h1, HSS.out.1, h1]
          have H13 := Aside0.mk ho
          clear ho he H12 k0 k1 k2 k3 k4 hst hst' hr1 hr2 hr3 hln hzz href href' hf0 hf1 hf2 dl dln hlt hi
          have ha := (H13.out.alloc (.cells #[.int .i64 r1, .bool r2] 45)).alloc (pg9 f0 f1 f2)
          rw [World.size_alloc] at ha
          obtain ⟨B13, hB13⟩ : ∃ B, B = w5.heap.size := ⟨_, rfl⟩
          obtain ⟨B14, hB14⟩ : ∃ B, B = w5.heap.size + 1 := ⟨_, rfl⟩
          rw [← hB14, ← hB13] at ha
          have H14 := Aside0.mk ha
          have HB13 := Lib.hid hB13
          have HB14 := Lib.hid hB14
          clear ha hB13 hB14 H13
          go_upto_region 17 with (fail)
          rw [← HB14.out, ← HB13.out]
          generalize hW : World.alloc _ (pg9 _ _ _) = w6 at H14 ⊢
          clear hW HB13 HB14
          have k0 := blk_cell (own_swap [_, _, _, _, _] [_, _] H14.out).drop.pt 0
          have k1 := blk_cell (own_swap [_, _, _, _, _, _, _, _] [_] H14.out).pt 1
          simp only [List.getElem?_toArray, List.getElem?_cons_zero, List.getElem?_cons_succ] at k0 k1
          go_wp2_with fail
          refine (deckleref07_At.calls 200 G.l K r1 r2 r3 _ HREF.out).mono ?_
          rintro e w7 ⟨rfl, hb⟩
          have H15 := Aside0.mk (H14.out.move hb)
          clear hb H14 k0 k1
          have ha := (H15.out.alloc (.cells #[.int .i64 r1, .bool r2] 45)).alloc (pg9 z3 z3 z3)
          rw [World.size_alloc] at ha
          obtain ⟨B16, hB16⟩ : ∃ B, B = w7.heap.size := ⟨_, rfl⟩
          obtain ⟨B18, hB18⟩ : ∃ B, B = w7.heap.size + 1 := ⟨_, rfl⟩
          rw [← hB18, ← hB16] at ha
          have H16 := Aside0.mk ha
          have HB16 := Lib.hid hB16
          have HB18 := Lib.hid hB18
          clear ha hB16 hB18 H15
          go_upto_region 19 with (fail)
          rw [← HB18.out, ← HB16.out]
          generalize hW : World.alloc _ (pg9 _ _ _) = w8 at H16 ⊢
          clear hW HB16 HB18
          go_upto_if 88 with (fail)
          go_cut [] from 89 to 92 (fun wx => Own.Own w wx (Pt B18 (pg9 f0 f1 f2) :: Pt B16 (.cells #[.int .i64 r1, .bool r2] 45) :: Pt B14 (pg9 f0 f1 f2) :: Pt B13 (.cells #[.int .i64 r1, .bool r2] 45) :: PlO g A' c' r S (Lw B3 B4 B5 B6 G (Value.slice A l.length cc) K tg q [BoxT B7 tg])))
          case first =>
            by_cases h3 : r3 = 0
            · subst h3
              have hl2 := HLN.out rfl
              have q0 := HF0.out
              have q1 := HF1.out
              have q2 := HF2.out
              rw [if_pos rfl] at q0 q1 q2
              have HQ0 := Lib.hid q0
              have HQ1 := Lib.hid q1
              have HQ2 := Lib.hid q2
              clear q0 q1 q2
              have k4 := blk_cell (own_swap [_, _, _, _, _, _, _, _, _] [_] H16.out).pt 0
              have k16 := blk_cell H16.out.drop.pt 0
              simp only [List.getElem?_toArray, List.getElem?_cons_zero] at k4 k16
              obtain ⟨e0, e1, e2, e3, e4, e5, e6, e7, e8⟩ := cells9 H16.out.pt
              have hf := blk_frozen H16.out.pt
              have hline := line_calls (w := w8) A cc l r1 hl2.1 (by have := G.wf_ok HOK.out; omega) (Kd.C_below HR.out H16.out.below)
              have HLI := Aside0.mk hline
              clear hline hl2
              go_wp2_with fail
              refine HLI.out.mono ?_
              rintro e w9 ⟨rfl, hb⟩
              have H17 := Aside0.mk (H16.out.move hb)
              rw [← HQ0.out, ← HQ1.out, ← HQ2.out]
              clear hb H16 k4 k16 e0 e1 e2 e3 e4 e5 e6 e7 e8 hf HLI
              obtain ⟨e0, e1, e2, e3, e4, e5, e6, e7, e8⟩ := cells9 H17.out.pt
              have hf := blk_frozen H17.out.pt
              have g0 := hf 0
              have g1 := hf 1
              have g2 := hf 2
              have g3 := hf 3
              have g4 := hf 4
              have g5 := hf 5
              have g6 := hf 6
              have g7 := hf 7
              have g8 := hf 8
              clear hf
              go_wp2_with fail
              go_meet
              exact own_part2 (own_part1 (own_part0 H17.out f0) f1) f2
            · have q0 := HF0.out
              have q1 := HF1.out
              have q2 := HF2.out
              rw [if_neg h3] at q0 q1 q2
              subst q0 q1 q2
              have d3 : (r3 == 0) = false := beq_eq_false_iff_ne.2 h3
              go_wp2_with fail
              go_meet
              exact H16.out
          case rest =>
            have H17 := Aside0.mk hcut
            clear hcut H16 HREF HLN HF0 HF1 HF2
            have k4 := blk_cell (own_swap [_, _, _, _, _, _, _, _, _] [_] H17.out).pt 0
            have k7 := blk_cell (own_swap [_, _, _, _, _, _, _, _, _, _, _] [_] H17.out).pt 0
            simp only [List.getElem?_toArray, List.getElem?_cons_zero] at k4 k7
            obtain ⟨j0, j1, j2, j3, j4⟩ := cells5 (own_swap [_, _, _, _, _, _, _, _] [_] H17.out).pt
            have hmb := fun i => plan_bd HMK.out (by omega) q i
            rw [← HS.out] at hmb
            have HMB := Lib.hid hmb
            clear hmb
            go_wp2_with fail
            refine (to_own q (fun i h => HMB.out i h) (own_swap [_, _, _, _] [_, _, _] H17.out)).mono ?_
            rintro e w9 ⟨rfl, ho⟩
            obtain ⟨t, ht⟩ : ∃ t, t = toP S q := ⟨_, rfl⟩
            rw [← ht]
            have HT := Lib.hid ht
            have hb := ((own_swap [_, _, _] [_, _, _, _] ho).alloc (.cells #[.int .i64 t.1.1, .int .i64 t.1.2.1, .int .i64 t.1.2.2] 27))
            obtain ⟨B19, hB19⟩ : ∃ B, B = w9.heap.size := ⟨_, rfl⟩
            rw [← hB19] at hb
            have HB19 := Lib.hid hB19
            have H18 := Aside0.mk hb
            clear hb ho H17 k4 k7 j0 j1 j2 j3 j4 ht hB19
            go_upto_region 22 with (fail)
            rw [← HB19.out]
            generalize hW : World.alloc w9 _ = w10 at H18 ⊢
            clear hW HB19
            have k4 := blk_cell (own_swap [_, _, _, _, _, _, _, _, _, _] [_] H18.out).pt 0
            have k7 := blk_cell (own_swap [_, _, _, _, _, _, _, _, _, _, _, _] [_] H18.out).pt 0
            simp only [List.getElem?_toArray, List.getElem?_cons_zero] at k4 k7
            obtain ⟨j0, j1, j2, j3, j4⟩ := cells5 (own_swap [_, _, _, _, _, _, _, _, _] [_] H18.out).pt
            have hto := to_is HMK.out (by omega) q
            rw [← HS.out, ← HT.out] at hto
            have HTO := Aside0.mk (deckleref25_To.calls 300 tg A cc l q.1 q.2.1 q.2.2 _ _ _ _ w10 (Kd.C_below HR.out H18.out.below) HC.out hto)
            clear hto
            go_wp2_with fail
            refine HTO.out.mono ?_
            rintro e w11 ⟨rfl, hb⟩
            have hb := ((H18.out.move hb).alloc (.cells #[.int .i64 t.1.1, .int .i64 t.1.2.1, .int .i64 t.1.2.2] 27))
            obtain ⟨B21, hB21⟩ : ∃ B, B = w11.heap.size := ⟨_, rfl⟩
            rw [← hB21] at hb
            have HB21 := Lib.hid hB21
            have H19 := Aside0.mk hb
            clear hb H18 k4 k7 j0 j1 j2 j3 j4 hB21 HTO
            go_upto_region 23 with (fail)
            rw [← HB21.out]
            generalize hW : World.alloc w11 _ = w12 at H19 ⊢
            clear hW HB21
            obtain ⟨⟨t0, t1, t2⟩, t3⟩ := t
            have z210 := blk_cell H19.out.pt 0
            have z211 := blk_cell H19.out.pt 1
            have z212 := blk_cell H19.out.pt 2
            have z190 := blk_cell H19.out.drop.pt 0
            have z191 := blk_cell H19.out.drop.pt 1
            have z192 := blk_cell H19.out.drop.pt 2
            obtain ⟨y0, y1, y2, y3, y4, y5, y6, y7, y8⟩ := cells9 H19.out.drop.drop.pt
            have z160 := blk_cell H19.out.drop.drop.drop.pt 0
            have z161 := blk_cell H19.out.drop.drop.drop.pt 1
            obtain ⟨x0, x1, x2, x3, x4, x5, x6, x7, x8⟩ := cells9 H19.out.drop.drop.drop.drop.pt
            have z130 := blk_cell H19.out.drop.drop.drop.drop.drop.pt 0
            have z131 := blk_cell H19.out.drop.drop.drop.drop.drop.pt 1
            have z7 := blk_cell (own_swap [_, _, _, _, _, _, _, _, _, _, _, _, _] [_] H19.out).pt 0
            have z3 := blk_cell (own_swap [_, _, _, _, _, _, _, _, _, _, _, _] [_] H19.out).pt 1
            simp only [List.getElem?_toArray, List.getElem?_cons_zero, List.getElem?_cons_succ] at z210 z211 z212 z190 z191 z192 z160 z161 z130 z131 z7 z3
            have hmx : Try.prog.follows .mixedOrders = true := by kernel_rfl
            have g64 := (G.wf_ok HOK.out).2.2
            have g1l := (G.wf_ok HOK.out).2.1
            refine quiet_exit ?_
            refine start_ (n := 37) (S := fun w' => w'.cell? ⟨B21, 0, none⟩ = some (.int .i64 t0) ∧ w'.cell? ⟨B21, 1, none⟩ = some (.int .i64 t1) ∧ w'.cell? ⟨B21, 2, none⟩ = some (.int .i64 t2) ∧ w'.cell? ⟨B19, 0, none⟩ = some (.int .i64 t0) ∧ w'.cell? ⟨B19, 1, none⟩ = some (.int .i64 t1) ∧ w'.cell? ⟨B19, 2, none⟩ = some (.int .i64 t2) ∧ w'.cell? ⟨B18, 0, none⟩ = some (.int .i64 f0.1) ∧ w'.cell? ⟨B18, 1, none⟩ = some (.int .i64 f0.2.1) ∧ w'.cell? ⟨B18, 2, none⟩ = some (.int .i64 f0.2.2) ∧ w'.cell? ⟨B18, 3, none⟩ = some (.int .i64 f1.1) ∧ w'.cell? ⟨B18, 4, none⟩ = some (.int .i64 f1.2.1) ∧ w'.cell? ⟨B18, 5, none⟩ = some (.int .i64 f1.2.2) ∧ w'.cell? ⟨B18, 6, none⟩ = some (.int .i64 f2.1) ∧ w'.cell? ⟨B18, 7, none⟩ = some (.int .i64 f2.2.1) ∧ w'.cell? ⟨B18, 8, none⟩ = some (.int .i64 f2.2.2) ∧ w'.cell? ⟨B14, 0, none⟩ = some (.int .i64 f0.1) ∧ w'.cell? ⟨B14, 1, none⟩ = some (.int .i64 f0.2.1) ∧ w'.cell? ⟨B14, 2, none⟩ = some (.int .i64 f0.2.2) ∧ w'.cell? ⟨B14, 3, none⟩ = some (.int .i64 f1.1) ∧ w'.cell? ⟨B14, 4, none⟩ = some (.int .i64 f1.2.1) ∧ w'.cell? ⟨B14, 5, none⟩ = some (.int .i64 f1.2.2) ∧ w'.cell? ⟨B14, 6, none⟩ = some (.int .i64 f2.1) ∧ w'.cell? ⟨B14, 7, none⟩ = some (.int .i64 f2.2.1) ∧ w'.cell? ⟨B14, 8, none⟩ = some (.int .i64 f2.2.2) ∧ w'.cell? ⟨B16, 0, none⟩ = some (.int .i64 r1) ∧ w'.cell? ⟨B16, 1, none⟩ = some (.bool r2) ∧ w'.cell? ⟨B13, 0, none⟩ = some (.int .i64 r1) ∧ w'.cell? ⟨B13, 1, none⟩ = some (.bool r2) ∧ w'.cell? ⟨B7, 0, none⟩ = some (.int .i64 tg) ∧ w'.cell? ⟨B3, 1, none⟩ = some (.int .i64 G.l)) (ds := []) (tfA 0 37) (by kernel_rfl) rfl rfl ⟨z210, z211, z212, z190, z191, z192, y0, y1, y2, y3, y4, y5, y6, y7, y8, x0, x1, x2, x3, x4, x5, x6, x7, x8, z160, z161, z130, z131, z7, z3⟩ (fun hHeld => ?_)
            refine with_tabW pmk.tab23 pmk.bits23 (fun HT_ HW_ => ?_)
            refine take_ (i := 0) (N := some 108) (v := ?_) (a' := ?_) (tfA 1 37) rfl rfl (take_ofW HT_.out HW_.out (by kernel_rfl)) (fun _ _ _ h => h) (Or.inl ⟨by rfl, ?_⟩) hHeld ?_ ?_
            rotate_left
            · rintro w' ⟨s0, s1, s2, s3, s4, s5, s6, s7, s8, s9, s10, s11, s12, s13, s14, s15, s16, s17, s18, s19, s20, s21, s22, s23, s24, s25, s26, s27, s28, s29⟩
              go_simp
              with_reducible rfl
            rotate_left
            · simp only [Act.put, List.setIfInBounds_toArray, List.set_cons_zero, List.set_cons_succ, i64_w, i32_w]
              rfl
            refine take_ (i := 1) (N := some 109) (v := ?_) (a' := ?_) (tfA 2 37) rfl rfl (take_ofW HT_.out HW_.out (by kernel_rfl)) (fun _ _ _ h => h) (Or.inl ⟨by rfl, ?_⟩) hHeld ?_ ?_
            rotate_left
            · rintro w' ⟨s0, s1, s2, s3, s4, s5, s6, s7, s8, s9, s10, s11, s12, s13, s14, s15, s16, s17, s18, s19, s20, s21, s22, s23, s24, s25, s26, s27, s28, s29⟩
              go_simp
              with_reducible rfl
            rotate_left
            · simp only [Act.put, List.setIfInBounds_toArray, List.set_cons_zero, List.set_cons_succ, i64_w, i32_w]
              rfl
            refine pure_ (i := 2) (N := some 110) (v := ?_) (a' := ?_) (tfA 3 37) rfl rfl (any_of HT_.out (by kernel_rfl)) (fun _ _ _ h => h) (Or.inl ⟨by rfl, ?_⟩) ?_ ?_
            rotate_left
            · intro w'
              go_simp
              with_reducible rfl
            rotate_left
            · simp only [Act.put, List.setIfInBounds_toArray, List.set_cons_zero, List.set_cons_succ, i64_w, i32_w]
              rfl
            refine pure_ (i := 3) (N := some 111) (v := ?_) (a' := ?_) (tfA 4 37) rfl rfl (any_of HT_.out (by kernel_rfl)) (fun _ _ _ h => h) (Or.inl ⟨by rfl, ?_⟩) ?_ ?_
            rotate_left
            · intro w'
              go_simp
              with_reducible rfl
            rotate_left
            · simp only [Act.put, List.setIfInBounds_toArray, List.set_cons_zero, List.set_cons_succ, i64_w, i32_w]
              rfl
            refine take_ (i := 4) (N := some 112) (v := ?_) (a' := ?_) (tfA 5 37) rfl rfl (take_ofW HT_.out HW_.out (by kernel_rfl)) (fun _ _ _ h => h) (Or.inl ⟨by rfl, ?_⟩) hHeld ?_ ?_
            rotate_left
            · rintro w' ⟨s0, s1, s2, s3, s4, s5, s6, s7, s8, s9, s10, s11, s12, s13, s14, s15, s16, s17, s18, s19, s20, s21, s22, s23, s24, s25, s26, s27, s28, s29⟩
              go_simp
              with_reducible rfl
            rotate_left
            · simp only [Act.put, List.setIfInBounds_toArray, List.set_cons_zero, List.set_cons_succ, i64_w, i32_w]
              rfl
            refine take_ (i := 5) (N := some 113) (v := ?_) (a' := ?_) (tfA 6 37) rfl rfl (take_ofW HT_.out HW_.out (by kernel_rfl)) (fun _ _ _ h => h) (Or.inl ⟨by rfl, ?_⟩) hHeld ?_ ?_
            rotate_left
            · rintro w' ⟨s0, s1, s2, s3, s4, s5, s6, s7, s8, s9, s10, s11, s12, s13, s14, s15, s16, s17, s18, s19, s20, s21, s22, s23, s24, s25, s26, s27, s28, s29⟩
              go_simp
              with_reducible rfl
            rotate_left
            · simp only [Act.put, List.setIfInBounds_toArray, List.set_cons_zero, List.set_cons_succ, i64_w, i32_w]
              rfl
            refine pure_ (i := 6) (N := some 114) (v := ?_) (a' := ?_) (tfA 7 37) rfl rfl (any_of HT_.out (by kernel_rfl)) (fun _ _ _ h => h) (Or.inl ⟨by rfl, ?_⟩) ?_ ?_
            rotate_left
            · intro w'
              go_simp
              with_reducible rfl
            rotate_left
            · simp only [Act.put, List.setIfInBounds_toArray, List.set_cons_zero, List.set_cons_succ, i64_w, i32_w]
              rfl
            refine pure_ (i := 7) (N := some 115) (v := ?_) (a' := ?_) (tfA 8 37) rfl rfl (any_of HT_.out (by kernel_rfl)) (fun _ _ _ h => h) (Or.inl ⟨by rfl, ?_⟩) ?_ ?_
            rotate_left
            · intro w'
              go_simp
              with_reducible rfl
            rotate_left
            · simp only [Act.put, List.setIfInBounds_toArray, List.set_cons_zero, List.set_cons_succ, i64_w, i32_w]
              rfl
            refine pure_ (i := 8) (N := some 116) (v := ?_) (a' := ?_) (tfA 9 37) rfl rfl (any_of HT_.out (by kernel_rfl)) (fun _ _ _ h => h) (Or.inl ⟨by rfl, ?_⟩) ?_ ?_
            rotate_left
            · intro w'
              go_simp
              with_reducible rfl
            rotate_left
            · simp only [Act.put, List.setIfInBounds_toArray, List.set_cons_zero, List.set_cons_succ, i64_w, i32_w]
              rfl
            refine pure_ (i := 9) (N := some 117) (v := ?_) (a' := ?_) (tfA 10 37) rfl rfl (any_of HT_.out (by kernel_rfl)) (fun _ _ _ h => h) (Or.inl ⟨by rfl, ?_⟩) ?_ ?_
            rotate_left
            · intro w'
              go_simp
              with_reducible rfl
            rotate_left
            · simp only [Act.put, List.setIfInBounds_toArray, List.set_cons_zero, List.set_cons_succ, i64_w, i32_w]
              rfl
            refine pure_ (i := 10) (N := some 118) (v := ?_) (a' := ?_) (tfA 11 37) rfl rfl (any_of HT_.out (by kernel_rfl)) (fun _ _ _ h => h) (Or.inl ⟨by rfl, ?_⟩) ?_ ?_
            rotate_left
            · intro w'
              go_simp
              with_reducible rfl
            rotate_left
            · simp only [Act.put, List.setIfInBounds_toArray, List.set_cons_zero, List.set_cons_succ, i64_w, i32_w]
              rfl
            refine pure_ (i := 11) (N := some 119) (v := ?_) (a' := ?_) (tfA 12 37) rfl rfl (any_of HT_.out (by kernel_rfl)) (fun _ _ _ h => h) (Or.inl ⟨by rfl, ?_⟩) ?_ ?_
            rotate_left
            · intro w'
              go_simp
              with_reducible rfl
            rotate_left
            · simp only [Act.put, List.setIfInBounds_toArray, List.set_cons_zero, List.set_cons_succ, i64_w, i32_w]
              rfl
            refine pure_ (i := 12) (N := some 120) (v := ?_) (a' := ?_) (tfA 13 37) rfl rfl (any_of HT_.out (by kernel_rfl)) (fun _ _ _ h => h) (Or.inl ⟨by rfl, ?_⟩) ?_ ?_
            rotate_left
            · intro w'
              go_simp
              with_reducible rfl
            rotate_left
            · simp only [Act.put, List.setIfInBounds_toArray, List.set_cons_zero, List.set_cons_succ, i64_w, i32_w]
              rfl
            refine pure_ (i := 13) (N := some 121) (v := ?_) (a' := ?_) (tfA 14 37) rfl rfl (any_of HT_.out (by kernel_rfl)) (fun _ _ _ h => h) (Or.inl ⟨by rfl, ?_⟩) ?_ ?_
            rotate_left
            · intro w'
              go_simp
              with_reducible rfl
            rotate_left
            · simp only [Act.put, List.setIfInBounds_toArray, List.set_cons_zero, List.set_cons_succ, i64_w, i32_w]
              rfl
            refine take_ (i := 14) (N := some 122) (v := ?_) (a' := ?_) (tfA 15 37) rfl rfl (take_ofW HT_.out HW_.out (by kernel_rfl)) (fun _ _ _ h => h) (Or.inl ⟨by rfl, ?_⟩) hHeld ?_ ?_
            rotate_left
            · rintro w' ⟨s0, s1, s2, s3, s4, s5, s6, s7, s8, s9, s10, s11, s12, s13, s14, s15, s16, s17, s18, s19, s20, s21, s22, s23, s24, s25, s26, s27, s28, s29⟩
              go_simp
              with_reducible rfl
            rotate_left
            · simp only [Act.put, List.setIfInBounds_toArray, List.set_cons_zero, List.set_cons_succ, i64_w, i32_w]
              rfl
            refine take_ (i := 15) (N := some 123) (v := ?_) (a' := ?_) (tfA 16 37) rfl rfl (take_ofW HT_.out HW_.out (by kernel_rfl)) (fun _ _ _ h => h) (Or.inl ⟨by rfl, ?_⟩) hHeld ?_ ?_
            rotate_left
            · rintro w' ⟨s0, s1, s2, s3, s4, s5, s6, s7, s8, s9, s10, s11, s12, s13, s14, s15, s16, s17, s18, s19, s20, s21, s22, s23, s24, s25, s26, s27, s28, s29⟩
              go_simp
              with_reducible rfl
            rotate_left
            · simp only [Act.put, List.setIfInBounds_toArray, List.set_cons_zero, List.set_cons_succ, i64_w, i32_w]
              rfl
            refine pure_ (i := 16) (N := some 124) (v := ?_) (a' := ?_) (tfA 17 37) rfl rfl (any_of HT_.out (by kernel_rfl)) (fun _ _ _ h => h) (Or.inl ⟨by rfl, ?_⟩) ?_ ?_
            rotate_left
            · intro w'
              go_simp
              with_reducible rfl
            rotate_left
            · simp only [Act.put, List.setIfInBounds_toArray, List.set_cons_zero, List.set_cons_succ, i64_w, i32_w]
              rfl
            refine pure_ (i := 17) (N := some 125) (v := ?_) (a' := ?_) (tfA 18 37) rfl rfl (any_of HT_.out (by kernel_rfl)) (fun _ _ _ h => h) (Or.inl ⟨by rfl, ?_⟩) ?_ ?_
            rotate_left
            · intro w'
              go_simp
              with_reducible rfl
            rotate_left
            · simp only [Act.put, List.setIfInBounds_toArray, List.set_cons_zero, List.set_cons_succ, i64_w, i32_w]
              rfl
            refine pure_ (i := 18) (N := some 126) (v := ?_) (a' := ?_) (tfA 19 37) rfl rfl (any_of HT_.out (by kernel_rfl)) (fun _ _ _ h => h) (Or.inl ⟨by rfl, ?_⟩) ?_ ?_
            rotate_left
            · intro w'
              go_simp
              with_reducible rfl
            rotate_left
            · simp only [Act.put, List.setIfInBounds_toArray, List.set_cons_zero, List.set_cons_succ, i64_w, i32_w]
              rfl
            refine pure_ (i := 19) (N := some 127) (v := ?_) (a' := ?_) (tfA 20 37) rfl rfl (any_of HT_.out (by kernel_rfl)) (fun _ _ _ h => h) (Or.inl ⟨by rfl, ?_⟩) ?_ ?_
            rotate_left
            · intro w'
              go_simp
              with_reducible rfl
            rotate_left
            · simp only [Act.put, List.setIfInBounds_toArray, List.set_cons_zero, List.set_cons_succ, i64_w, i32_w]
              rfl
            refine pure_ (i := 20) (N := some 128) (v := ?_) (a' := ?_) (tfA 21 37) rfl rfl (any_of HT_.out (by kernel_rfl)) (fun _ _ _ h => h) (Or.inl ⟨by rfl, ?_⟩) ?_ ?_
            rotate_left
            · intro w'
              go_simp
              with_reducible rfl
            rotate_left
            · simp only [Act.put, List.setIfInBounds_toArray, List.set_cons_zero, List.set_cons_succ, i64_w, i32_w]
              rfl
            refine pure_ (i := 21) (N := some 129) (v := ?_) (a' := ?_) (tfA 22 37) rfl rfl (any_of HT_.out (by kernel_rfl)) (fun _ _ _ h => h) (Or.inl ⟨by rfl, ?_⟩) ?_ ?_
            rotate_left
            · intro w'
              go_simp
              with_reducible rfl
            rotate_left
            · simp only [Act.put, List.setIfInBounds_toArray, List.set_cons_zero, List.set_cons_succ, i64_w, i32_w]
              rfl
            refine pure_ (i := 22) (N := some 130) (v := ?_) (a' := ?_) (tfA 23 37) rfl rfl (any_of HT_.out (by kernel_rfl)) (fun _ _ _ h => h) (Or.inl ⟨by rfl, ?_⟩) ?_ ?_
            rotate_left
            · intro w'
              go_simp
              with_reducible rfl
            rotate_left
            · simp only [Act.put, List.setIfInBounds_toArray, List.set_cons_zero, List.set_cons_succ, i64_w, i32_w]
              rfl
            refine pure_ (i := 23) (N := some 131) (v := ?_) (a' := ?_) (tfA 24 37) rfl rfl (any_of HT_.out (by kernel_rfl)) (fun _ _ _ h => h) (Or.inl ⟨by rfl, ?_⟩) ?_ ?_
            rotate_left
            · intro w'
              go_simp
              with_reducible rfl
            rotate_left
            · simp only [Act.put, List.setIfInBounds_toArray, List.set_cons_zero, List.set_cons_succ, i64_w, i32_w]
              rfl
            refine pure_ (i := 24) (N := some 132) (v := ?_) (a' := ?_) (tfA 25 37) rfl rfl (any_of HT_.out (by kernel_rfl)) (fun _ _ _ h => h) (Or.inl ⟨by rfl, ?_⟩) ?_ ?_
            rotate_left
            · intro w'
              go_simp
              with_reducible rfl
            rotate_left
            · simp only [Act.put, List.setIfInBounds_toArray, List.set_cons_zero, List.set_cons_succ, i64_w, i32_w]
              rfl
            refine take_ (i := 26) (N := some 134) (v := ?_) (a' := ?_) #[true, true, true, true, true, true, true, true, true, true, true, true, true, true, true, true, true, true, true, true, true, true, true, true, true, false, true, false, false, false, false, false, false, false, false, false, false] rfl rfl (take_ofW HT_.out HW_.out (by kernel_rfl)) (fun _ _ _ h => h) (Or.inl ⟨by rfl, ?_⟩) hHeld ?_ ?_
            rotate_left
            · rintro w' ⟨s0, s1, s2, s3, s4, s5, s6, s7, s8, s9, s10, s11, s12, s13, s14, s15, s16, s17, s18, s19, s20, s21, s22, s23, s24, s25, s26, s27, s28, s29⟩
              go_simp
              with_reducible rfl
            rotate_left
            · simp only [Act.put, List.setIfInBounds_toArray, List.set_cons_zero, List.set_cons_succ, i64_w, i32_w]
              rfl
            refine one_ (i := 25) (N := some 133) (tfA 27 37) rfl rfl (one_of HT_.out (by kernel_rfl)) (by decide) (fun K hK => ?_)
            refine goes_ Try.func21 (by kernel_rfl) rfl #[.pointer (some ⟨g, 0, none⟩)] (by rfl) rfl rfl (by simp only [List.map_toArray, List.map_cons, List.map_nil]; rfl) ?_
            refine (target_own (own_swap [_, _, _, _, _, _] [_, _, _] H19.out.drew)).mono ?_
            rintro e w13 ⟨rfl, rfl⟩
            rw [HSS.out.2.1]
            refine ⟨_, rfl, ?_⟩
            refine hK.out _ _ ⟨z210, z211, z212, z190, z191, z192, y0, y1, y2, y3, y4, y5, y6, y7, y8, x0, x1, x2, x3, x4, x5, x6, x7, x8, z160, z161, z130, z131, z7, z3⟩ (fun hHeld => ?_)
            clear hK K
            refine norm_ (a' := ?_) ?_ ?_
            rotate_left
            · show Act.put _ (some 133) _ = _
              simp only [Act.put, List.setIfInBounds_toArray, List.set_cons_zero, List.set_cons_succ, i64_w, i32_w]
              rfl
            refine pure_ (i := 27) (N := some 135) (v := ?_) (a' := ?_) (tfA 28 37) rfl rfl (any_of HT_.out (by kernel_rfl)) (fun _ _ _ h => h) (Or.inl ⟨by rfl, ?_⟩) ?_ ?_
            rotate_left
            · intro w'
              go_simp
              with_reducible rfl
            rotate_left
            · simp only [Act.put, List.setIfInBounds_toArray, List.set_cons_zero, List.set_cons_succ, i64_w, i32_w]
              rfl
            refine pure_ (i := 28) (N := some 136) (v := ?_) (a' := ?_) (tfA 29 37) rfl rfl (any_of HT_.out (by kernel_rfl)) (fun _ _ _ h => h) (Or.inl ⟨by rfl, ?_⟩) ?_ ?_
            rotate_left
            · intro w'
              go_simp
              with_reducible rfl
            rotate_left
            · simp only [Act.put, List.setIfInBounds_toArray, List.set_cons_zero, List.set_cons_succ, i64_w, i32_w]
              rfl
            refine pure_ (i := 29) (N := some 137) (v := ?_) (a' := ?_) (tfA 30 37) rfl rfl (any_of HT_.out (by kernel_rfl)) (fun _ _ _ h => h) (Or.inl ⟨by rfl, ?_⟩) ?_ ?_
            rotate_left
            · intro w'
              go_simp
              with_reducible rfl
            rotate_left
            · simp only [Act.put, List.setIfInBounds_toArray, List.set_cons_zero, List.set_cons_succ, i64_w, i32_w]
              rfl
            refine pure_ (i := 30) (N := some 138) (v := ?_) (a' := ?_) (tfA 31 37) rfl rfl (any_of HT_.out (by kernel_rfl)) (fun _ _ _ h => h) (Or.inl ⟨by rfl, ?_⟩) ?_ ?_
            rotate_left
            · intro w'
              go_simp
              with_reducible rfl
            rotate_left
            · simp only [Act.put, List.setIfInBounds_toArray, List.set_cons_zero, List.set_cons_succ, i64_w, i32_w]
              rfl
            refine pure_ (i := 32) (N := some 140) (v := ?_) (a' := ?_) #[true, true, true, true, true, true, true, true, true, true, true, true, true, true, true, true, true, true, true, true, true, true, true, true, true, true, true, true, true, true, true, false, true, false, false, false, false] rfl rfl (any_of HT_.out (by kernel_rfl)) (fun _ _ _ h => h) (Or.inl ⟨by rfl, ?_⟩) ?_ ?_
            rotate_left
            · intro w'
              go_simp
              with_reducible rfl
            rotate_left
            · simp only [Act.put, List.setIfInBounds_toArray, List.set_cons_zero, List.set_cons_succ, i64_w, i32_w]
              rfl
            refine take_ (i := 33) (N := some 141) (v := ?_) (a' := ?_) #[true, true, true, true, true, true, true, true, true, true, true, true, true, true, true, true, true, true, true, true, true, true, true, true, true, true, true, true, true, true, true, false, true, true, false, false, false] rfl rfl (take_ofW HT_.out HW_.out (by kernel_rfl)) (fun _ _ _ h => h) (Or.inl ⟨by rfl, ?_⟩) hHeld ?_ ?_
            rotate_left
            · rintro w' ⟨s0, s1, s2, s3, s4, s5, s6, s7, s8, s9, s10, s11, s12, s13, s14, s15, s16, s17, s18, s19, s20, s21, s22, s23, s24, s25, s26, s27, s28, s29⟩
              go_simp
              with_reducible rfl
            rotate_left
            · simp only [Act.put, List.setIfInBounds_toArray, List.set_cons_zero, List.set_cons_succ, i64_w, i32_w]
              rfl
            refine pure_ (i := 34) (N := some 142) (v := ?_) (a' := ?_) #[true, true, true, true, true, true, true, true, true, true, true, true, true, true, true, true, true, true, true, true, true, true, true, true, true, true, true, true, true, true, true, false, true, true, true, false, false] rfl rfl (any_of HT_.out (by kernel_rfl)) (fun _ _ _ h => h) (Or.inl ⟨by rfl, ?_⟩) ?_ ?_
            rotate_left
            · intro w'
              go_simp
              with_reducible rfl
            rotate_left
            · simp only [Act.put, List.setIfInBounds_toArray, List.set_cons_zero, List.set_cons_succ, i64_w, i32_w]
              rfl
            refine one_ (i := 31) (N := some 139) (tfA 35 37) rfl rfl (one_of HT_.out (by kernel_rfl)) (by decide) (fun K hK => ?_)
            refine goes_ Try.func15 (by kernel_rfl) rfl #[.pointer (some ⟨g, 0, none⟩)] (by rfl) rfl rfl (by simp only [List.map_toArray, List.map_cons, List.map_nil]; rfl) ?_
            refine (steps_own (by rw [HSS.out.2.2]; omega) (by rw [HSS.out.2.2]; omega) (own_swap [_, _, _, _, _, _] [_, _, _] H19.out.drew)).mono ?_
            rintro e w13 ⟨rfl, rfl⟩
            rw [HSS.out.2.2]
            refine ⟨_, rfl, ?_⟩
            refine hK.out _ _ ⟨z210, z211, z212, z190, z191, z192, y0, y1, y2, y3, y4, y5, y6, y7, y8, x0, x1, x2, x3, x4, x5, x6, x7, x8, z160, z161, z130, z131, z7, z3⟩ (fun hHeld => ?_)
            clear hK K
            refine norm_ (a' := ?_) ?_ ?_
            rotate_left
            · show Act.put _ (some 139) _ = _
              simp only [Act.put, List.setIfInBounds_toArray, List.set_cons_zero, List.set_cons_succ, i64_w, i32_w]
              rfl
            refine pure_ (i := 35) (N := some 143) (v := ?_) (a' := ?_) (tfA 36 37) rfl rfl (any_of HT_.out (by kernel_rfl)) (fun _ _ _ h => h) (Or.inl ⟨by rfl, ?_⟩) ?_ ?_
            rotate_left
            · intro w'
              go_simp
              with_reducible rfl
            rotate_left
            · simp only [Act.put, List.setIfInBounds_toArray, List.set_cons_zero, List.set_cons_succ, i64_w, i32_w]
              rfl
            refine pure_ (i := 36) (N := some 144) (v := ?_) (a' := ?_) (tfA 37 37) rfl rfl (any_of HT_.out (by kernel_rfl)) (fun _ _ _ h => h) (Or.inl ⟨by rfl, ?_⟩) ?_ ?_
            rotate_left
            · intro w'
              go_simp
              with_reducible rfl
            rotate_left
            · simp only [Act.put, List.setIfInBounds_toArray, List.set_cons_zero, List.set_cons_succ, i64_w, i32_w]
              rfl
            refine done_ (done_of HT_.out (by kernel_rfl)) ?_
            clear hHeld z210 z211 z212 z190 z191 z192 y0 y1 y2 y3 y4 y5 y6 y7 y8 z160 z161 x0 x1 x2 x3 x4 x5 x6 x7 x8 z130 z131 z7 z3
            refine then_n ?_
            have H20 := Aside0.mk (H19.out.drew)
            have H21 := Aside0.mk (H20.out.drop.drop.drop.drop.drop.drop)
            rw [w64 (x := 2 * G.l) (by omega) (by omega)]
            have hee : (2 * G.l != 2 * G.l) = false := by simp
            clear H20 H19 hmx HT
            go_wp2_with fail
            refine (moves_own (g := g) H21.out).mono ?_
            rintro e w13 ⟨b, rfl, ho⟩
            have H22 := Aside0.mk ho
            clear ho H21
            have ha := own_swap [_] [_, _, _, _] (H22.out.alloc (.cells #[.int .i64 0] 3))
            obtain ⟨B24, hB24⟩ : ∃ B, B = w13.heap.size := ⟨_, rfl⟩
            rw [← hB24] at ha
            have H23 := Aside0.mk (show Own.Own w _ (MvL b g A' c' r S (fun k => BoxT B24 (k : Int) :: Lw B3 B4 B5 B6 G (.slice A l.length cc) K tg q [BoxT B7 tg]) 0) from ha)
            have HB24 := Lib.hid hB24
            clear ha hB24 H22
            go_wp2_with fail
            rw [← HB24.out]
            generalize hW : World.alloc w13 _ = w14 at H23 ⊢
            clear hW HB24
            refine (wpIn_wide (n := 3)).1 ?_
            refine wp_range_box (n := 3) (by omega) (gf := 39) (lb := #[.pointer (some ⟨b, 0, none⟩)]) rfl (enters_of Try.func39 (by kernel_rfl) rfl) (fun _ => rfl)
              (moves_iter w b g c' r A' S (by rw [HSS.out.1]; omega) (fun k => BoxT B24 (k : Int) :: Lw B3 B4 B5 B6 G (.slice A l.length cc) K tg q [BoxT B7 tg])) H23.out
              (fun c K' => ∃ k : Nat, c = .exit 2 ∧ (k : Int) = K ∧ k ≤ l.length ∧ K' = MvL b g A' c' r S (fun k => BoxT B24 (k : Int) :: Lw B3 B4 B5 B6 G (.slice A l.length cc) K tg q [BoxT B7 tg]) k) ?round ?done ?stop
            case round =>
              rintro lp D o k d Lk W ⟨hk, hd, rfl⟩ hO
              have hkl : k < l.length := by rw [← HSS.out.1]; exact hk
              rw [HSS.out.1, HSS.out.2.1] at hd
              obtain ⟨⟨a0, a1, a2⟩, b0, b1, b2⟩ := d
              have hd1 : ((a0, a1, a2) : Tri) = tOf (rd_T27 l k) := congrArg (·.1) hd
              have hd2 : ((b0, b1, b2) : Tri) = plcAt tg k := congrArg (·.2) hd
              have HD1 := Lib.hid hd1
              have HD2 := Lib.hid hd2
              have ha := own_swap [_, _] [_, _] ((hO.alloc (.cells #[.int .i64 a0, .int .i64 a1, .int .i64 a2] 27)).alloc (.cells #[.int .i64 b0, .int .i64 b1, .int .i64 b2] 27))
              rw [World.size_alloc] at ha
              obtain ⟨B25, hB25⟩ : ∃ B, B = W.heap.size := ⟨_, rfl⟩
              obtain ⟨B26, hB26⟩ : ∃ B, B = W.heap.size + 1 := ⟨_, rfl⟩
              rw [← hB26, ← hB25] at ha
              have HA := Aside0.mk ha
              have HB25 := Lib.hid hB25
              have HB26 := Lib.hid hB26
              clear ha hO hB25 hB26 hd hd1 hd2 hk H23
              gi_wp2_with (fail)
              refine ⟨_, HA.out, ?_⟩
              rw [← HB26.out, ← HB25.out]
              clear HA HB25 HB26
              intro o2 W2 h2
              have HO := Aside0.mk h2
              have h3 := own_swap [_, _, _, _, _, _, _, _] [_] h2
              have h5 := own_swap [_, _, _, _, _, _, _, _, _, _] [_] h2
              have kK := blk_cell h3.pt 0
              have k5 := blk_cell h5.pt 0
              have fK := blk_frozen h3.pt 0
              simp only [List.getElem?_toArray, List.getElem?_cons_zero] at kK k5
              by_cases hm : (k : Int) = K
              · have hmb : ((k : Int) == K) = true := beq_iff_eq.2 hm
                clear h2 h3 h5
                gi_wp2_with (fail)
                exact ⟨_, ⟨rfl, k, hm, by omega, rfl⟩, (own_swap [_, _] [_, _] HO.out).drop.drop⟩
              · have hmb : ((k : Int) == K) = false := by simpa using hm
                have hmx : Try.prog.follows .mixedOrders = true := by kernel_rfl
                have hC2 := Kd.C_below HR.out h2.below
                obtain ⟨ad, rfl, q0, q1, q2⟩ := at_T27 hC2 (k : Int) (by omega) (by omega)
                rw [Int.toNat_natCast] at q0 q1 q2
                have e0 : (rd_T27 l k).f0 = a0 := (congrArg (·.1) HD1.out).symm
                have e1 : (rd_T27 l k).f1 = a1 := (congrArg (·.2.1) HD1.out).symm
                have e2 : (rd_T27 l k).f2 = a2 := (congrArg (·.2.2) HD1.out).symm
                rw [e0] at q0
                rw [e1] at q1
                rw [e2] at q2
                have HQ := Aside0.mk (show ∀ W, Below w.heap.size w W → W.cell? (ad.add (k * 3)) = some (.int .i64 a0) ∧ W.cell? ⟨(ad.add (k * 3)).block, (ad.add (k * 3)).off + 1, none⟩ = some (.int .i64 a1) ∧ W.cell? ⟨(ad.add (k * 3)).block, (ad.add (k * 3)).off + 2, none⟩ = some (.int .i64 a2) from fun W hb => by
                  obtain ⟨ad', e', q0', q1', q2'⟩ := at_T27 (Kd.C_below HR.out hb) (k : Int) (by omega) (by omega)
                  injection e' with e'
                  subst e'
                  rw [Int.toNat_natCast] at q0' q1' q2'
                  rw [e0] at q0'
                  rw [e1] at q1'
                  rw [e2] at q2'
                  exact ⟨q0', q1', q2'⟩)
                have hat : deckleref25_At.f tg k = some (b0, b1, b2) := by
                  rw [at_is tg k (by omega)]
                  exact congrArg some HD2.out.symm
                have HAT := Lib.hid hat
                have k4 := blk_cell (own_swap [_, _, _, _, _, _, _, _, _, _, _] [_] h2).pt 0
                have k7 := blk_cell (own_swap [_, _, _, _, _, _, _, _, _, _, _, _, _] [_] h2).pt 0
                have x0 := blk_cell h2.drop.drop.drop.pt 0
                have x1 := blk_cell h2.drop.drop.drop.pt 1
                have x2 := blk_cell h2.drop.drop.drop.pt 2
                have y0 := blk_cell h2.drop.drop.pt 0
                have y1 := blk_cell h2.drop.drop.pt 1
                have y2 := blk_cell h2.drop.drop.pt 2
                simp only [List.getElem?_toArray, List.getElem?_cons_zero, List.getElem?_cons_succ] at k4 k7 x0 x1 x2 y0 y1 y2
                have d1 : decide ((k : Int) ≥ (l.length : Int)) = false := decide_eq_false (by omega)
                have d2 : decide ((l.length : Int) ≤ (k : Int)) = false := decide_eq_false (by omega)
                have d3 : decide (l.length ≤ k) = false := decide_eq_false (by omega)
                have g1 : (0 ≤ (k : Int)) = True := eq_true (by omega)
                have g2 : ((k : Int) < (l.length : Nat)) = True := eq_true (by omega)
                have g3 : (k < l.length) = True := eq_true hkl
                clear h2 h3 h5 hat hC2 e0 e1 e2
                gi_wp2_with (fail)
                refine startIn_ (n := 19) (S := fun w' => w'.cell? ⟨B24, 0, none⟩ = some (.int .i64 (k : Int)) ∧ w'.cell? ⟨B4, 0, none⟩ = some (.slice (some ad) l.length cc) ∧ w'.cell? ⟨B25, 0, none⟩ = some (.int .i64 a0) ∧ w'.cell? ⟨B25, 1, none⟩ = some (.int .i64 a1) ∧ w'.cell? ⟨B25, 2, none⟩ = some (.int .i64 a2) ∧ w'.cell? ⟨B26, 0, none⟩ = some (.int .i64 b0) ∧ w'.cell? ⟨B26, 1, none⟩ = some (.int .i64 b1) ∧ w'.cell? ⟨B26, 2, none⟩ = some (.int .i64 b2) ∧ w'.cell? (ad.add (k * 3)) = some (.int .i64 a0) ∧ w'.cell? ⟨(ad.add (k * 3)).block, (ad.add (k * 3)).off + 1, none⟩ = some (.int .i64 a1) ∧ w'.cell? ⟨(ad.add (k * 3)).block, (ad.add (k * 3)).off + 2, none⟩ = some (.int .i64 a2) ∧ w'.cell? ⟨B7, 0, none⟩ = some (.int .i64 tg)) (ds := []) (tfA 0 19) (by kernel_rfl) rfl rfl ⟨kK, k4, x0, x1, x2, y0, y1, y2, q0, q1, q2, k7⟩ (fun hHeld => ?_)
                refine with_tabW pmk.tab33 pmk.bits33 (fun HT_ HW_ => ?_)
                refine take_ (i := 0) (N := some 156) (v := ?_) (a' := ?_) (tfA 1 19) rfl rfl (take_ofW HT_.out HW_.out (by kernel_rfl)) (fun _ _ _ h => h) (Or.inl ⟨by rfl, ?_⟩) hHeld ?_ ?_
                rotate_left
                · rintro w' ⟨s0, s1, s2, s3, s4, s5, s6, s7, s8, s9, s10, s11⟩
                  go_simp
                  with_reducible rfl
                rotate_left
                · simp only [Act.put, List.setIfInBounds_toArray, List.set_cons_zero, List.set_cons_succ, i64_w, i32_w]
                  rfl
                refine take_ (i := 1) (N := some 157) (v := ?_) (a' := ?_) (tfA 2 19) rfl rfl (take_ofW HT_.out HW_.out (by kernel_rfl)) (fun _ _ _ h => h) (Or.inl ⟨by rfl, ?_⟩) hHeld ?_ ?_
                rotate_left
                · rintro w' ⟨s0, s1, s2, s3, s4, s5, s6, s7, s8, s9, s10, s11⟩
                  go_simp
                  with_reducible rfl
                rotate_left
                · simp only [Act.put, List.setIfInBounds_toArray, List.set_cons_zero, List.set_cons_succ, i64_w, i32_w]
                  rfl
                refine pure_ (i := 2) (N := some 158) (v := ?_) (a' := ?_) (tfA 3 19) rfl rfl (any_of HT_.out (by kernel_rfl)) (fun _ _ _ h => h) (Or.inl ⟨by rfl, ?_⟩) ?_ ?_
                rotate_left
                · intro w'
                  go_simp
                  with_reducible rfl
                rotate_left
                · simp only [Act.put, List.setIfInBounds_toArray, List.set_cons_zero, List.set_cons_succ, i64_w, i32_w]
                  rfl
                refine pure_ (i := 3) (N := some 159) (v := ?_) (a' := ?_) (tfA 4 19) rfl rfl (any_of HT_.out (by kernel_rfl)) (fun _ _ _ h => h) (Or.inl ⟨by rfl, ?_⟩) ?_ ?_
                rotate_left
                · intro w'
                  go_simp
                  with_reducible rfl
                rotate_left
                · simp only [Act.put, List.setIfInBounds_toArray, List.set_cons_zero, List.set_cons_succ, i64_w, i32_w]
                  rfl
                refine pure_ (i := 4) (N := some 160) (v := ?_) (a' := ?_) (tfA 5 19) rfl rfl (any_of HT_.out (by kernel_rfl)) (fun _ _ _ h => h) (Or.inl ⟨by rfl, ?_⟩) ?_ ?_
                rotate_left
                · intro w'
                  go_simp
                  with_reducible rfl
                rotate_left
                · simp only [Act.put, List.setIfInBounds_toArray, List.set_cons_zero, List.set_cons_succ, i64_w, i32_w]
                  rfl
                refine take_ (i := 5) (N := some 161) (v := ?_) (a' := ?_) (tfA 6 19) rfl rfl (take_ofW HT_.out HW_.out (by kernel_rfl)) (fun _ _ _ h => h) (Or.inl ⟨by rfl, ?_⟩) hHeld ?_ ?_
                rotate_left
                · rintro w' ⟨s0, s1, s2, s3, s4, s5, s6, s7, s8, s9, s10, s11⟩
                  go_simp
                  with_reducible rfl
                rotate_left
                · simp only [Act.put, List.setIfInBounds_toArray, List.set_cons_zero, List.set_cons_succ, i64_w, i32_w]
                  rfl
                refine take_ (i := 6) (N := some 162) (v := ?_) (a' := ?_) (tfA 7 19) rfl rfl (take_ofW HT_.out HW_.out (by kernel_rfl)) (fun _ _ _ h => h) (Or.inl ⟨by rfl, ?_⟩) hHeld ?_ ?_
                rotate_left
                · rintro w' ⟨s0, s1, s2, s3, s4, s5, s6, s7, s8, s9, s10, s11⟩
                  go_simp
                  with_reducible rfl
                rotate_left
                · simp only [Act.put, List.setIfInBounds_toArray, List.set_cons_zero, List.set_cons_succ, i64_w, i32_w]
                  rfl
                refine take_ (i := 7) (N := some 163) (v := ?_) (a' := ?_) (tfA 8 19) rfl rfl (take_ofW HT_.out HW_.out (by kernel_rfl)) (fun _ _ _ h => h) (Or.inl ⟨by rfl, ?_⟩) hHeld ?_ ?_
                rotate_left
                · rintro w' ⟨s0, s1, s2, s3, s4, s5, s6, s7, s8, s9, s10, s11⟩
                  go_simp
                  with_reducible rfl
                rotate_left
                · simp only [Act.put, List.setIfInBounds_toArray, List.set_cons_zero, List.set_cons_succ, i64_w, i32_w]
                  rfl
                refine pure_ (i := 8) (N := some 164) (v := ?_) (a' := ?_) (tfA 9 19) rfl rfl (any_of HT_.out (by kernel_rfl)) (fun _ _ _ h => h) (Or.inl ⟨by rfl, ?_⟩) ?_ ?_
                rotate_left
                · intro w'
                  go_simp
                  with_reducible rfl
                rotate_left
                · simp only [Act.put, List.setIfInBounds_toArray, List.set_cons_zero, List.set_cons_succ, i64_w, i32_w]
                  rfl
                refine take_ (i := 9) (N := some 165) (v := ?_) (a' := ?_) (tfA 10 19) rfl rfl (take_ofW HT_.out HW_.out (by kernel_rfl)) (fun _ _ _ h => h) (Or.inl ⟨by rfl, ?_⟩) hHeld ?_ ?_
                rotate_left
                · rintro w' ⟨s0, s1, s2, s3, s4, s5, s6, s7, s8, s9, s10, s11⟩
                  go_simp
                  with_reducible rfl
                rotate_left
                · simp only [Act.put, List.setIfInBounds_toArray, List.set_cons_zero, List.set_cons_succ, i64_w, i32_w]
                  rfl
                refine pure_ (i := 10) (N := some 166) (v := ?_) (a' := ?_) (tfA 11 19) rfl rfl (any_of HT_.out (by kernel_rfl)) (fun _ _ _ h => h) (Or.inl ⟨by rfl, ?_⟩) ?_ ?_
                rotate_left
                · intro w'
                  go_simp
                  with_reducible rfl
                rotate_left
                · simp only [Act.put, List.setIfInBounds_toArray, List.set_cons_zero, List.set_cons_succ, i64_w, i32_w]
                  rfl
                refine pure_ (i := 11) (N := some 167) (v := ?_) (a' := ?_) (tfA 12 19) rfl rfl (any_of HT_.out (by kernel_rfl)) (fun _ _ _ h => h) (Or.inl ⟨by rfl, ?_⟩) ?_ ?_
                rotate_left
                · intro w'
                  go_simp
                  with_reducible rfl
                rotate_left
                · simp only [Act.put, List.setIfInBounds_toArray, List.set_cons_zero, List.set_cons_succ, i64_w, i32_w]
                  rfl
                refine pure_ (i := 12) (N := some 168) (v := ?_) (a' := ?_) (tfA 13 19) rfl rfl (any_of HT_.out (by kernel_rfl)) (fun _ _ _ h => h) (Or.inl ⟨by rfl, ?_⟩) ?_ ?_
                rotate_left
                · intro w'
                  go_simp
                  with_reducible rfl
                rotate_left
                · simp only [Act.put, List.setIfInBounds_toArray, List.set_cons_zero, List.set_cons_succ, i64_w, i32_w]
                  rfl
                refine take_ (i := 13) (N := some 169) (v := ?_) (a' := ?_) (tfA 14 19) rfl rfl (take_ofW HT_.out HW_.out (by kernel_rfl)) (fun _ _ _ h => h) (Or.inl ⟨by rfl, ?_⟩) hHeld ?_ ?_
                rotate_left
                · rintro w' ⟨s0, s1, s2, s3, s4, s5, s6, s7, s8, s9, s10, s11⟩
                  go_simp
                  with_reducible rfl
                rotate_left
                · simp only [Act.put, List.setIfInBounds_toArray, List.set_cons_zero, List.set_cons_succ, i64_w, i32_w]
                  rfl
                refine take_ (i := 14) (N := some 170) (v := ?_) (a' := ?_) (tfA 15 19) rfl rfl (take_ofW HT_.out HW_.out (by kernel_rfl)) (fun _ _ _ h => h) (Or.inl ⟨by rfl, ?_⟩) hHeld ?_ ?_
                rotate_left
                · rintro w' ⟨s0, s1, s2, s3, s4, s5, s6, s7, s8, s9, s10, s11⟩
                  go_simp
                  with_reducible rfl
                rotate_left
                · simp only [Act.put, List.setIfInBounds_toArray, List.set_cons_zero, List.set_cons_succ, i64_w, i32_w]
                  rfl
                refine take_ (i := 15) (N := some 171) (v := ?_) (a' := ?_) (tfA 16 19) rfl rfl (take_ofW HT_.out HW_.out (by kernel_rfl)) (fun _ _ _ h => h) (Or.inl ⟨by rfl, ?_⟩) hHeld ?_ ?_
                rotate_left
                · rintro w' ⟨s0, s1, s2, s3, s4, s5, s6, s7, s8, s9, s10, s11⟩
                  go_simp
                  with_reducible rfl
                rotate_left
                · simp only [Act.put, List.setIfInBounds_toArray, List.set_cons_zero, List.set_cons_succ, i64_w, i32_w]
                  rfl
                refine one_ (i := 16) (N := some 172) (tfA 17 19) rfl rfl (one_of HT_.out (by kernel_rfl)) (by decide) (fun K hK => ?_)
                refine goes_ Try.func22 (by kernel_rfl) rfl #[.int .i64 tg, .int .i64 (k : Int)] (by rfl) rfl rfl (by simp only [List.map_toArray, List.map_cons, List.map_nil]; rfl) ?_
                refine (deckleref25_At.calls tg k b0 b1 b2 _ HAT.out).mono ?_
                rintro e w15 ⟨rfl, hb⟩
                have H1 := Aside0.mk (HO.out.drew.move hb)
                refine ⟨_, rfl, ?_⟩
                clear hb HO
                refine hK.out _ _ ⟨(blk_cell (own_swap [_, _, _, _, _, _, _, _] [_] H1.out).pt 0).trans rfl, (blk_cell (own_swap [_, _, _, _, _, _, _, _, _, _, _] [_] H1.out).pt 0).trans rfl, (blk_cell H1.out.drop.drop.drop.pt 0).trans rfl, (blk_cell H1.out.drop.drop.drop.pt 1).trans rfl, (blk_cell H1.out.drop.drop.drop.pt 2).trans rfl, (blk_cell H1.out.drop.drop.pt 0).trans rfl, (blk_cell H1.out.drop.drop.pt 1).trans rfl, (blk_cell H1.out.drop.drop.pt 2).trans rfl, (HQ.out _ H1.out.below).1, (HQ.out _ H1.out.below).2.1, (HQ.out _ H1.out.below).2.2, (blk_cell (own_swap [_, _, _, _, _, _, _, _, _, _, _, _, _] [_] H1.out).pt 0).trans rfl⟩ (fun hHeld => ?_)
                clear hK K
                refine norm_ (a' := ?_) ?_ ?_
                rotate_left
                · show Act.put _ (some 172) _ = _
                  simp only [Act.put, List.setIfInBounds_toArray, List.set_cons_zero, List.set_cons_succ, i64_w, i32_w]
                  rfl
                refine pure_ (i := 17) (N := some 173) (v := ?_) (a' := ?_) (tfA 18 19) rfl rfl (any_of HT_.out (by kernel_rfl)) (fun _ _ _ h => h) (Or.inl ⟨by rfl, ?_⟩) ?_ ?_
                rotate_left
                · intro w'
                  go_simp
                  with_reducible rfl
                rotate_left
                · simp only [Act.put, List.setIfInBounds_toArray, List.set_cons_zero, List.set_cons_succ, i64_w, i32_w]
                  rfl
                refine pure_ (i := 18) (N := some 174) (v := ?_) (a' := ?_) (tfA 19 19) rfl rfl (any_of HT_.out (by kernel_rfl)) (fun _ _ _ h => h) (Or.inl ⟨by rfl, ?_⟩) ?_ ?_
                rotate_left
                · intro w'
                  go_simp
                  with_reducible rfl
                rotate_left
                · simp only [Act.put, List.setIfInBounds_toArray, List.set_cons_zero, List.set_cons_succ, i64_w, i32_w]
                  rfl
                refine done_ (done_of HT_.out (by kernel_rfl)) ?_
                refine then_n ?_
                clear hHeld
                have kK := blk_cell (own_swap [_, _, _, _, _, _, _, _] [_] H1.out).pt 0
                have fK := blk_frozen (own_swap [_, _, _, _, _, _, _, _] [_] H1.out).pt 0
                simp only [List.getElem?_toArray, List.getElem?_cons_zero] at kK
                gi_wp2_with (fail)
                exact ⟨_, rfl, own_swap [_] [_, _, _, _, _, _] ((own_swap [_, _, _, _, _, _] [_] (own_swap [_, _] [_, _] H1.out).drop.drop).set (i := 0) (.int .i64 ((k + 1 : Nat) : Int)))⟩
            case done =>
              intro D L W hL hO
              subst hL
              have HZ := Aside0.mk hO
              have hn : S.src.length = l.length := by rw [HSS.out.1]
              have cK := blk_cell (own_swap [_, _, _, _, _] [_] hO).pt 0
              have c4 := blk_cell (own_swap [_, _, _, _, _, _, _, _] [_] hO).pt 0
              have c5 := blk_cell (own_swap [_, _, _, _, _, _, _] [_] hO).pt 0
              simp only [List.getElem?_toArray, List.getElem?_cons_zero] at cK c4 c5
              rw [hn] at cK
              have ee : ((l.length : Int) == (l.length : Int)) = true := by simp
              clear hO hn H23
              go_wp2_with fail
              refine (works_own HZ.out).mono ?_
              rintro e w20 ⟨rfl, ho⟩
              have H1 := Aside0.mk ho
              have r0 := blk_cell (own_swap [_, _, _, _, _, _] [_] H1.out).pt 0
              have r1 := blk_frozen (own_swap [_, _, _, _, _, _] [_] H1.out).pt 0
              clear ho HZ
              go_wp2_with fail
              have H4 := (own_swap [_, _, _, _, _, _] [_] H1.out).set (i := 0) (.bool true)
              have H5 := own_putObj (own_swap [_] [_] H4) (.deferred none)
              have hK := (own_swap [_] [_] H4).pt
              have hc : (World.putObj _ D (.deferred none)).cell? ⟨B6, 0, none⟩ = some (.bool true) := blk_cell H5.drop.pt 0
              refine ⟨by simp, .inl ⟨_, _, rfl, run_takeDeferred hK, ?_⟩⟩
              exact ⟨.bool true, by simp [results, Try.results5, go_sem, hc], rfl, H5.below⟩
            case stop =>
              rintro D c L W ⟨k, rfl, hk, hkn, rfl⟩ hO
              have HZ := Aside0.mk hO
              have cK := blk_cell (own_swap [_, _, _, _, _] [_] hO).pt 0
              have c4 := blk_cell (own_swap [_, _, _, _, _, _, _, _] [_] hO).pt 0
              have c5 := blk_cell (own_swap [_, _, _, _, _, _, _] [_] hO).pt 0
              simp only [List.getElem?_toArray, List.getElem?_cons_zero] at cK c4 c5
              have e2 : ((k : Int) == K) = true := beq_iff_eq.2 hk
              clear hO H23
              refine wpIn_wide.2 ?_
              by_cases hkf : k = l.length
              · subst hkf
                have ee : ((l.length : Int) == (l.length : Int)) = true := by simp
                go_wp2_with fail
                refine (works_own HZ.out).mono ?_
                rintro e w20 ⟨rfl, ho⟩
                have H1 := Aside0.mk ho
                have r0 := blk_cell (own_swap [_, _, _, _, _, _] [_] H1.out).pt 0
                have r1 := blk_frozen (own_swap [_, _, _, _, _, _] [_] H1.out).pt 0
                clear ho HZ
                go_wp2_with fail
                have H4 := (own_swap [_, _, _, _, _, _] [_] H1.out).set (i := 0) (.bool true)
                have H5 := own_putObj (own_swap [_] [_] H4) (.deferred none)
                have hK := (own_swap [_] [_] H4).pt
                have hc : (World.putObj _ D (.deferred none)).cell? ⟨B6, 0, none⟩ = some (.bool true) := blk_cell H5.drop.pt 0
                refine ⟨by simp, .inl ⟨_, _, rfl, run_takeDeferred hK, ?_⟩⟩
                exact ⟨.bool true, by simp [results, Try.results5, go_sem, hc], rfl, H5.below⟩
              · have e1 : ((k : Int) == (l.length : Int)) = false := by rw [beq_eq_false_iff_ne]; omega
                have e1n : (k == l.length) = false := by rw [beq_eq_false_iff_ne]; exact hkf
                go_wp2_with fail
                refine (works_own HZ.out).mono ?_
                rintro e w20 ⟨rfl, ho⟩
                have H1 := Aside0.mk ho
                have r0 := blk_cell (own_swap [_, _, _, _, _, _] [_] H1.out).pt 0
                have r1 := blk_frozen (own_swap [_, _, _, _, _, _] [_] H1.out).pt 0
                clear ho HZ
                go_wp2_with fail
                have H4 := (own_swap [_, _, _, _, _, _] [_] H1.out).set (i := 0) (.bool true)
                have H5 := own_putObj (own_swap [_] [_] H4) (.deferred none)
                have hK := (own_swap [_] [_] H4).pt
                have hc : (World.putObj _ D (.deferred none)).cell? ⟨B6, 0, none⟩ = some (.bool true) := blk_cell H5.drop.pt 0
                refine ⟨by simp, .inl ⟨_, _, rfl, run_takeDeferred hK, ?_⟩⟩
                exact ⟨.bool true, by simp [results, Try.results5, go_sem, hc], rfl, H5.below⟩
/-- The law, in plain words: of geometries whose numbers are numbers it answers yes. -/
def decklelaw25_PlanMakes.f (a0_0 a0_1 _a0_2 _a0_3 _a0_4 _a0_5 : Int) (_l : List S27) (_a2_0 _a2_1 _a2_2_0 _a2_2_1 _a2_2_2 : Int) : Option Bool := if (Lit.int .i64 a0_0).wf = true ∧ (Lit.int .i64 a0_1).wf = true then some true else none
theorem decklelaw25_PlanMakes.calls (a0_0 : Int) (a0_1 : Int) (a0_2 : Int) (a0_3 : Int) (a0_4 : Int) (a0_5 : Int) (A1 : Option Addr) (c1 : Nat) (l1 : List S27) (a2_0 : Int) (a2_1 : Int) (a2_2_0 : Int) (a2_2_1 : Int) (a2_2_2 : Int) (r : Bool) (w : World) (hr1 : Kd.C k27 w A1 l1.length l1) (hc1 : l1.length ≤ c1) (h : decklelaw25_PlanMakes.f a0_0 a0_1 a0_2 a0_3 a0_4 a0_5 l1 a2_0 a2_1 a2_2_0 a2_2_1 a2_2_2 = some r) :
    Calls Try.prog 5 #[.agg #[.int .i64 a0_0, .int .i64 a0_1, .int .i64 a0_2, .int .i64 a0_3, .int .i64 a0_4, .int .i64 a0_5], .slice A1 l1.length c1, .agg #[.int .i64 a2_0, .int .i64 a2_1, .int .i64 a2_2_0, .int .i64 a2_2_1, .int .i64 a2_2_2]] w fun e w' => e = .returned (.bool r) ∧ Below w.heap.size w w' := by
  unfold decklelaw25_PlanMakes.f at h
  split at h
  · rename_i hwf
    obtain rfl := Option.some.inj h
    exact makes_own ⟨a0_0, a0_1, a0_2, a0_3, a0_4, a0_5⟩ A1 c1 l1 a2_0 a2_1 (a2_2_0, a2_2_1, a2_2_2) hwf.1 hwf.2 hr1 hc1
  · cases h
end Go.Proofs.Ytcfonmbojkolfaa.Plan
end
