/- The law's proof: words, contracts of the functions that it reaches, plain lemmas. -/
import Derived.ArgAppend
import Derived.Below
import Derived.BigQuiet
import Derived.Carry
import Derived.Deep.AppendLies
import Derived.Deep.CutBlock
import Derived.Deep.DeepCutAuto
import Derived.Deep.Draws
import Derived.Deep.LoopGhost
import Derived.Deep.OwnRows
import Derived.Deep.QuietTactic
import Derived.Deep.RegionHeld3
import Derived.Deep.RegionWith
import Derived.KernelRfl
import Derived.Laws.BitsLemmas
import Derived.Laws.BytesArg
import Derived.Laws.IdiomCopy
import Derived.Laws.MakeOwn
import Derived.Laws.OwnMore
import Derived.Laws.Rows
import Derived.Laws.Slices
import Derived.Lib.AppendStr
import Derived.Lib.BufferMore
import Derived.Lib.ConvBytes
import Derived.Lib.Hide
import Derived.Lib.LazyBuf
import Derived.Maps.AppendAt
import Derived.OpenShut
import Derived.OrdersHeld
import Derived.Outline
import Derived.OwnWalk
import Derived.OwnWalkIn
import Derived.RegionTactic
import Derived.RowKit3
import Derived.StillTailTactics
import Derived.Tactics
import Derived.WalkKit
import Derived.WideLaws
import Derived.Test.YtdohaocbhcniaaaDoorSu9
import Derived.Test.YtdohaocbhcniaaaDoorSu18
import Derived.Test.YtdohaocbhcniaaaDoorSu16
import Derived.Test.YtdohaocbhcniaaaDoorSu17
import Derived.Test.YtdohaocbhcniaaaDoorSu0
import Derived.Test.YtdohaocbhcniaaaDoorSu4
import Derived.RegionIn
import Derived.ControlIn
import Derived.Sort.CutIn
section
/- The law SheetUnpacks, by hand: the walk. -/
set_option linter.unusedVariables false
set_option linter.unusedSimpArgs false
namespace Go.Proofs.YtdohaocbhcniaaaDoor.PG
open Go.RowKit Go.Shelf Go.Proofs.YtdohaocbhcniaaaDoor.Tf Go.Proofs.YtdohaocbhcniaaaDoorW.PrintWords Go.Proofs.YtdohaocbhcniaaaDoorW.PrintLast Go.Proofs.YtdohaocbhcniaaaDoor.Mem Go.Proofs.YtdohaocbhcniaaaDoor.Own Go.Proofs.YtdohaocbhcniaaaDoor.Hw Go.Proofs.YtdohaocbhcniaaaDoor.Rng Go.Proofs.YtdohaocbhcniaaaDoor.RoundReg

theorem own_append_step {P : Program} {ops : Array Oper} {o : Oper} {a : Act} {Q : Exit → Act → World → Prop} {Kc : Act → World → Prop} {α : Type} {w0 W : World} {L : List Asn} (d : Kd α) (hw : Region.wanted o (yielded ops a.tmps) = true) (s x : Operand) (t e : TypeId) (z : Value) (bytes : Nat)
    (ho : o.op = .call { callee := .builtin .append, args := #[s, x], argTypes := #[t, t] })
    (ht : P.underlying t = some (.slice e)) (hinfo : (P.info? e).map (fun i => (i.zero, i.size, i.bytes)) = some (some z, d.sz, bytes)) (hz : z.cells.size = d.sz) (hs0 : 0 < d.sz) (hb0 : 0 < bytes)
    (v : Value) (xs : List α) (p : α) (cs : List Value) (hs : a.eval s = v) (hx : a.eval x = .slice (some ⟨W.heap.size, 0, none⟩) 1 1) (hp : d.M W w0.heap.size (fun _ => False) p cs)
    (HO : Own.Own w0 W (Row d e v xs :: L)) (hl : (xs.length + 1) * bytes ≤ 140737488355328)
    (h : ∀ v1 w1, Own.Own w0 w1 (Row d e v1 (xs ++ [p]) :: L) → Kc (a.put o.dst v1) w1) :
    if Region.wanted o (yielded ops a.tmps) = true then Oper.wp P o a (W.alloc (.cells cs.toArray e)) Kc Q else Kc (a.put o.dst undef) (W.alloc (.cells cs.toArray e)) := by
  obtain ⟨S, hS, hk, f⟩ := HO.head
  refine Kd.R_append_step d (w0 := W) w0.heap.size hw s x t e z bytes ho ht hinfo hz hs0 hb0 v xs p cs (fun k => S k ∨ W.heap.size ≤ k) (fun _ => False) hs hx hp (fun k hk => hk.elim) (fun k hk => .inr hk) (Kd.R_mono hS (fun k hk => .inl hk)) (Below.refl _ _) HO.size hl ?_
  intro v1 w1 hR hB hG hat
  refine h v1 w1 (f w1 [Row d e v1 (xs ++ [p])] ⟨hB, hG.size, fun k hk1 hk2 => hG.block k hk1 (fun he => hk2 ?_)⟩ (Hold.one hR))
  exact hS.1 k he.symm
abbrev BoxN (b : Nat) (v : Int) : Asn := Pt b (.cells #[.int .i64 v] 3)
abbrev BoxB (b : Nat) (v : Bool) : Asn := Pt b (.cells #[.bool v] 4)
abbrev BoxW (b : Nat) (v : Value) : Asn := Pt b (.cells #[v] 22)
abbrev BoxP (b : Nat) (v : Value) : Asn := Pt b (.cells #[v] 37)
abbrev Ints (v : Value) (xs : List Int) : Asn := Row (Kd.int .i64) 3 v xs
theorem infoInt : (Tryd.prog.info? 3).map (fun i => (i.zero, i.size, i.bytes)) = some (some (.int .i64 0), 1, 8) := by kernel_rfl
theorem quiet_exit {P : Program} {c : Code} {K : Act → World → Prop} {Q : Exit → Act → World → Prop} {a : Act} {w : World} (h : Code.wp P c (Exit.then K (fun _ _ _ => False)) a w) : Code.wp P c (Exit.then K Q) a w := by
  refine wp_mono h ?_
  intro e a w h
  cases e with
  | normal => exact h
  | _ => exact h.elim
theorem then_n {K : Act → World → Prop} {Q : Exit → Act → World → Prop} {a : Act} {w : World} (h : K a w) : Exit.then K Q .normal a w := h
theorem rec_cells {w0 W : World} {L : List Asn} {ad : Addr} {n c : Nat} {xs : List S30} (h : Own.Own w0 W (Recs (.slice (some ad) n c) xs :: L)) (j : Nat) (hj : j < xs.length) :
    W.cell? (ad.add (j * 3)) = some (.int .i64 (xs.getD j z30).f0) ∧ W.cell? ⟨(ad.add (j * 3)).block, (ad.add (j * 3)).off + 1, none⟩ = some (.int .i64 (xs.getD j z30).f1) ∧ W.cell? ⟨(ad.add (j * 3)).block, (ad.add (j * 3)).off + 2, none⟩ = some (.int .i64 (xs.getD j z30).f2) := by
  obtain ⟨A, c', e, _, hr⟩ := h.reads
  injection e with e1 e2 e3
  subst e1
  obtain ⟨ad2, e2, x0, x1, x2⟩ := at_T30 hr (j : Int) (by omega) (by omega)
  injection e2 with e2
  subst e2
  unfold rd_T30 at x0 x1 x2
  rw [Int.toNat_natCast] at x0 x1 x2
  exact ⟨x0, x1, x2⟩
theorem und40 : Tryd.prog.underlying 40 = some (.func #[63] #[] false) := by kernel_rfl
theorem eqIn_nilF (d f : Nat) (cs : Array Value) (w : World) : (Op.equalIn (d + 1) 40 (Value.func (.func f) #[] cs) Value.nilFunc).run Tryd.prog w = .ok false w := by
  simp [Op.equalIn, run_underlying und40]
theorem eqNilF (f : Nat) (cs : Array Value) (w : World) : (binOp .eql 40 (Value.func (.func f) #[] cs) Value.nilFunc).run Tryd.prog w = .ok (Value.bool false) w := by
  have h : (Op.equal 40 (Value.func (.func f) #[] cs) Value.nilFunc).run Tryd.prog w = .ok false w := eqIn_nilF 9999 f cs w
  simp [binOp, h]
attribute [local go_sem] Oper.semAt_some
attribute [local go_sem high] eqNilF eqA30
/-- What the law's walk holds. -/
abbrev Lz (B3 B4 B5 B6 : Nat) (a1 : Int) (u5 u6 : Value) (xs : List S30) (ys : List Int) (R : List Asn) : List Asn := BoxW B5 u5 :: BoxP B6 u6 :: BoxB B4 false :: BoxN B3 a1 :: Recs u5 xs :: Ints u6 ys :: R
theorem nilI {w0 w : World} {L : List Asn} (h : Own.Own w0 w L) : Own.Own w0 w (Ints (.slice none 0 0) [] :: L) := h.fresh (R := [Ints (.slice none 0 0) []]) (Below.refl _ _) (Hold.one (Kd.R_nil _ _ _ _ _))
def unp.T20 : Bool × List (List Nat × List Nat) := (true, [([], []), ([], []), ([], []), ([1, 2], [1, 2]), ([3], [3]), ([4], [4]), ([0, 5], [0, 5]), ([6, 6, 0, 1, 2, 3, 4, 5, 6], [6])])
def unp.B20 : List Nat := [0, 0, 0, 6, 14, 30, 63, 127]
theorem unp.tab20 : rtab .any (opsOf Tryd.f5 20) = unp.T20 := by kernel_rfl
theorem unp.bits20 : waitsOk unp.T20.2 unp.B20 = true := by kernel_rfl
def unp.T30 : Bool × List (List Nat × List Nat) := (true, [([], []), ([], []), ([1], [1]), ([0, 2], [0, 2]), ([3], [3]), ([4], [4]), ([4], [4]), ([6, 4], [4, 6]), ([5, 7, 4], [4, 5, 7]), ([4, 8], [4, 8]), ([9, 4], [9]), ([10], [10]), ([10], [10]), ([10], [10]), ([12, 13, 10], [10, 12, 13]), ([14, 10], [10, 14]), ([11, 15, 10], [10, 11, 15]), ([10, 16], [10, 16]), ([17, 10], [17]), ([18], [18]), ([18], [18]), ([18], [18]), ([20, 21, 18], [18, 20, 21]), ([22, 18], [18, 22]), ([19, 23, 18], [18, 19, 23]), ([18, 24], [18, 24])])
def unp.B30 : List Nat := [0, 0, 2, 7, 15, 31, 31, 95, 255, 511, 1023, 2047, 2047, 2047, 14335, 30719, 65535, 131071, 262143, 524287, 524287, 524287, 3670015, 7864319, 16777215, 33554431]
theorem unp.tab30 : rtab .any (opsOf Tryd.f5 30) = unp.T30 := by kernel_rfl
theorem unp.bits30 : waitsOk unp.T30.2 unp.B30 = true := by kernel_rfl
set_option maxHeartbeats 8000000 in
set_option maxRecDepth 100000 in
theorem unpacks_own {w : World} (A : Option Addr) (cc : Nat) (l : List ByteArray) (a1 : Int) (hr : Kd.C Kd.string w A l.length l) (hc : l.length ≤ cc) :
    Calls Tryd.prog 5 #[.slice A l.length cc, .int .i64 a1] w fun e w' => e = .returned (.bool true) ∧ Below w.heap.size w w' := by
  have HR := Aside0.mk hr
  have HC := Lib.hid hc
  have ha := ((Own.Own.new w).alloc (.cells #[.int .i64 a1] 3)).alloc (.cells #[.bool false] 4)
  rw [World.size_alloc] at ha
  obtain ⟨B3, hB3⟩ : ∃ B3, B3 = w.heap.size := ⟨_, rfl⟩
  obtain ⟨B4, hB4⟩ : ∃ B4, B4 = B3 + 1 := ⟨_, rfl⟩
  rw [← hB3, ← hB4] at ha
  have HO := Aside0.mk ha
  have HB3 := Lib.hid hB3
  have HB4 := Lib.hid hB4
  clear ha hr hB3 hB4 hc
  refine (callsIn_wide (n := 3)).1 ?_
  refine callsIn_of_wp_marks Tryd.func5 rfl trivial ?_ rfl
  simp only [Tryd.ntmps5, List.size_toArray, List.length_cons, List.length_nil, Nat.reduceAdd, Nat.reduceSub, Array.replicate_succ, Array.replicate_zero, List.push_toArray, List.append_toArray, List.nil_append, List.cons_append]
  refine wpIn_wide.2 ?_
  by_cases h50 : 50 < l.length
  · have d1 : decide (50 < (l.length : Int)) = true := decide_eq_true (by omega)
    have d2 : decide ((l.length : Int) > 50) = true := decide_eq_true (by omega)
    have d3 : decide (50 < l.length) = true := decide_eq_true h50
    go_wp2_with fail
    rw [← HB3.out, ← HB4.out]
    refine (works_calls _).mono ?_
    rintro e w1 ⟨rfl, hb⟩
    have H1 := Aside0.mk (HO.out.move hb)
    have r0 := blk_cell H1.out.pt 0
    have r1 := blk_frozen H1.out.pt 0
    clear hb HO
    go_wp2_with fail
    have H5 := H1.out.set (i := 0) (.bool true)
    have hc := blk_cell H5.pt 0
    exact ⟨.bool true, by simp [results, Tryd.results5, go_sem, hc], rfl, H5.below⟩
  · have d1 : decide (50 < (l.length : Int)) = false := decide_eq_false (by omega)
    have d2 : decide ((l.length : Int) > 50) = false := decide_eq_false (by omega)
    have d3 : decide (50 < l.length) = false := decide_eq_false h50
    have h5 := nilI (nilR ((HO.out.alloc (.cells #[.slice none 0 0] 22)).alloc (.cells #[.slice none 0 0] 37)))
    simp only [World.size_alloc] at h5
    obtain ⟨B5, hB5⟩ : ∃ B5, B5 = B4 + 1 := ⟨_, rfl⟩
    obtain ⟨B6, hB6⟩ : ∃ B6, B6 = B5 + 1 := ⟨_, rfl⟩
    have HB5 := Lib.hid hB5
    have HB6 := Lib.hid hB6
    rw [← HB3.out, ← HB4.out, ← hB5, ← hB6] at h5
    have H5 := Aside0.mk (show Own.Own w _ (Lz B3 B4 B5 B6 a1 (.slice none 0 0) (.slice none 0 0) [] [] []) from own_sw2 _ _ (own_swap [_, _] [_, _, _, _] (own_sw2 _ _ h5)))
    clear h5 hB5 hB6 HO
    go_wp2_with fail
    rw [← HB3.out, ← HB4.out, ← HB5.out, ← HB6.out]
    clear HB3 HB4 HB5 HB6
    generalize hW : World.alloc _ _ = w2 at H5 ⊢
    clear hW d1 d2 d3
    go_loopw [7, 8] (fun v7 v8 wr => ∃ (i : Nat) (u5 u6 : Value), i ≤ l.length ∧ v7 = .bool (stU l i).2 ∧ v8 = .int .i64 i ∧ Aside0 (∀ j, j < i → (pgAt l j).size ≤ 300) ∧ Aside0 (Own.Own w wr (Lz B3 B4 B5 B6 a1 u5 u6 (wantU l i) (plcU l i) []))) (fun _ v8 _ => l.length - (intOf v8).toNat)
    case atStart => exact ⟨0, _, _, by omega, rfl, rfl, ⟨fun j hj => by omega⟩, H5⟩
    case round =>
      clear H5
      obtain ⟨i, u5, u6, hi, rfl, rfl, HS, HO⟩ := hrel
      by_cases hlt : i < l.length
      · have dl : decide ((i : Int) < (l.length : Int)) = true := decide_eq_true (by omega)
        have dln : decide (i < l.length) = true := decide_eq_true hlt
        obtain ⟨ad, rfl, x0⟩ := Kd.at_string (Kd.C_below HR.out HO.out.below) (i : Int) (by omega) (by omega)
        obtain ⟨pg, hpg⟩ : ∃ pg, pg = pgAt l i := ⟨_, rfl⟩
        have hrd : rdOf ByteArray.empty l (i : Int) = pg := hpg.symm
        rw [hrd, Int.toNat_natCast] at x0
        have HX := Aside0.mk (show ∀ W : World, Below w.heap.size w W → W.cell? (ad.add i) = some (.string pg) from fun W hb => by
          obtain ⟨ad', e', h'⟩ := Kd.at_string (Kd.C_below HR.out hb) (i : Int) (by omega) (by omega)
          injection e' with e'
          subst e'
          rw [hrd, Int.toNat_natCast] at h'
          exact h')
        have HPG := Aside0.mk hpg
        clear hrd hpg
        have g1 : (0 ≤ (i : Int)) = True := eq_true (by omega)
        have g2 : ((i : Int) < (l.length : Nat)) = True := eq_true (by omega)
        have g3 : (i < l.length) = True := eq_true hlt
        by_cases h300 : 300 < pg.size
        · have d1 : decide (300 < (pg.size : Int)) = true := decide_eq_true (by omega)
          have d2 : decide ((pg.size : Int) > 300) = true := decide_eq_true (by omega)
          have d3 : decide (300 < pg.size) = true := decide_eq_true h300
          go_wp2_with fail
          refine (works_calls _).mono ?_
          rintro e w1 ⟨rfl, hb⟩
          have H1 := Aside0.mk (HO.out.move hb)
          have r0 := blk_cell H1.out.drop.drop.pt 0
          have r1 := blk_frozen H1.out.drop.drop.pt 0
          clear hb HO
          go_wp2_with fail
          have H6 := H1.out.drop.drop.set (i := 0) (.bool true)
          have hc := blk_cell H6.pt 0
          exact ⟨.bool true, by simp [results, Tryd.results5, go_sem, hc], rfl, H6.below⟩
        · have d1 : decide (300 < (pg.size : Int)) = false := decide_eq_false (by omega)
          have d2 : decide ((pg.size : Int) > 300) = false := decide_eq_false (by omega)
          have d3 : decide (300 < pg.size) = false := decide_eq_false h300
          have H300 := Lib.hid h300
          go_wp2_with fail
          refine (unpack_own pg (by have := H300.out; omega) HO.out).mono ?_
          rintro e w3 ⟨v1, rfl, ho⟩
          have H1 := Aside0.mk ho
          have x1 := HX.out _ ho.below
          clear ho HO x0
          go_wp2_with fail
          refine (deckleref12_Unpack.calls 2000 pg (unpV pg).1 (unpV pg).2 _ (refunp_is pg 2000 (by omega))).mono ?_
          rintro e w4 ⟨v2, rfl, hR2, hb⟩
          have ho2 := H1.out.fresh (R := [Recs v2 (unpV pg).1]) hb (Hold.one (Kd.R_mono (Kd.R_bound hR2) (fun k hk => hk.2.1)))
          clear hb H1 x1 hR2
          obtain ⟨A2, c2, rfl, hc2, hr2⟩ := ho2.reads
          obtain ⟨A1, c1, rfl, hc1, hr1⟩ := ho2.drop.reads
          have H2 := Aside0.mk ho2
          have HSM := Aside0.mk (decklebook_SameRecs.calls ((unpV pg).1.length + 1) A1 c1 (unpV pg).1 A2 c2 (unpV pg).1 true w4 hr1 hc1 hr2 hc2 (sameR_is _ (by have := unpV_len pg; omega)))
          clear ho2 hc2 hr2 hc1 hr1
          go_wp2_with fail
          refine HSM.out.mono ?_
          rintro e w5 ⟨rfl, hb⟩
          have H3 := Aside0.mk (show Own.Own w w5 (Recs (.slice A1 (unpV pg).1.length c1) (unpV pg).1 :: Recs (.slice A2 (unpV pg).1.length c2) (unpV pg).1 :: Lz B3 B4 B5 B6 a1 u5 u6 (wantU l i) (plcU l i) []) from own_sw2 _ _ (H2.out.move hb.below))
          clear hb H2 HSM
          go_wp2_with fail
          refine (spoilR_own _ _ (by have := unpV_len pg; omega) H3.out).mono ?_
          rintro e w6 ⟨rfl, ho⟩
          have H4 := Aside0.mk ho
          clear ho H3
          obtain ⟨xs, hxs⟩ : ∃ xs, xs = (unpV pg).1 := ⟨_, rfl⟩
          obtain ⟨cd, hcd⟩ : ∃ cd, cd = (unpV pg).2 := ⟨_, rfl⟩
          obtain ⟨n, hn⟩ : ∃ n, n = xs.length := ⟨_, rfl⟩
          have hn255 := unpV_len pg
          rw [← hxs] at H4 hn255 ⊢
          rw [← hcd]
          rw [← hn] at H4 hn255 ⊢
          have HXS := Aside0.mk hxs
          have HCD := Aside0.mk hcd
          have HN := Lib.hid hn
          have H255 := Lib.hid hn255
          clear hxs hcd hn hn255 d1 d2 d3
          go_upto_region 16 with (fail)
          go_cut [7] from 63 to 66 (fun s7 wx => s7 = .bool (stU l (i + 1)).2 ∧ Own.Own w wx (Recs (.slice A2 n c2) xs :: Lz B3 B4 B5 B6 a1 u5 u6 (wantU l i) (plcU l i) []))
          case first =>
            by_cases hb : (stU l i).2 = true
            · by_cases hc : cd = 0
              · have e1 : (stU l (i + 1)).2 = true := by rw [stU_yes hb (by rw [← HPG.out, ← HCD.out]; exact hc)]
                rw [hb]
                subst hc
                go_wp2_with fail
                go_meet
                exact ⟨by rw [e1], H4.out⟩
              · have e1 : (stU l (i + 1)).2 = false := by rw [stU_no (fun q => hc (by rw [HCD.out, HPG.out]; exact q.2))]
                have hz : (cd == 0) = false := by simpa using hc
                rw [hb]
                go_wp2_with fail
                go_meet
                exact ⟨by rw [e1], H4.out⟩
            · have hb' : (stU l i).2 = false := by simpa using hb
              have e1 : (stU l (i + 1)).2 = false := by rw [stU_no (fun q => hb q.1)]
              rw [hb']
              go_wp2_with fail
              go_meet
              exact ⟨by rw [e1], H4.out⟩
          case rest =>
            clear H4
            obtain ⟨rfl, ho⟩ := hcut
            have H5 := Aside0.mk ho
            clear ho
            obtain ⟨T, hT⟩ : ∃ T, T = takeN l i := ⟨_, rfl⟩
            have hTn : T ≤ n := by rw [hT, HN.out, HXS.out, HPG.out]; exact takeN_le l i
            have hst : (if (stU l (i + 1)).2 then n else 0) = T := by rw [hT, HN.out, HXS.out, HPG.out]; rfl
            have HT := Aside0.mk hT
            obtain ⟨bw, hbw⟩ : ∃ bw, bw = (stU l (i + 1)).2 := ⟨_, rfl⟩
            rw [← hbw] at hst ⊢
            have HBW := Aside0.mk hbw
            clear hbw hT
            go_wp2_with fail
            go_loopw [13] (fun v13 wr => ∃ (j : Nat) (u5 u6 : Value), j ≤ T ∧ v13 = .int .i64 j ∧ Aside0 (Own.Own w wr (Recs (.slice A2 n c2) xs :: Lz B3 B4 B5 B6 a1 u5 u6 (wantU l i ++ xs.take j) (plcU l i ++ List.replicate j (i : Int)) []))) (fun v13 _ => T - (intOf v13).toNat)
            case atStart => exact ⟨0, _, _, by omega, rfl, ⟨by rw [List.take_zero, List.append_nil, List.replicate_zero, List.append_nil]; exact H5.out⟩⟩
            case round =>
              clear H5
              obtain ⟨j, v5, v6, hj, rfl, HO⟩ := hrel
              have h255 := H255.out
              by_cases hlj : j < T
              · obtain rfl : bw = true := by
                  cases bw with
                  | true => rfl
                  | false => exact absurd hst (by simp; omega)
                have dj : decide ((j : Int) < (n : Int)) = true := decide_eq_true (by omega)
                have djn : decide (j < n) = true := decide_eq_true (by omega)
                obtain ⟨A3, c3, e3, _, hr3⟩ := HO.out.reads
                injection e3 with e3 e4 e5
                subst e3 e5
                obtain ⟨ad2, rfl, _⟩ := at_T30 hr3 (j : Int) (by omega) (by rw [← HN.out]; omega)
                obtain ⟨x, hx⟩ : ∃ x, x = xs.getD j z30 := ⟨_, rfl⟩
                have hjl : j < xs.length := by rw [← HN.out]; omega
                have HRC := Aside0.mk (fun (W : World) (L : List Asn) (h : Own.Own w W (Recs (.slice (some ad2) n c2) xs :: L)) => rec_cells h j hjl)
                rw [← hx] at HRC
                have htk : xs.take j ++ [x] = xs.take (j + 1) := by
                  rw [List.take_add_one, hx, List.getD_eq_getElem?_getD, List.getElem?_eq_getElem hjl]
                  rfl
                have HTK := Aside0.mk htk
                have f1 : (0 ≤ (j : Int)) = True := eq_true (by omega)
                have f2 : ((j : Int) < (n : Nat)) = True := eq_true (by omega)
                have f3 : (j < n) = True := eq_true (by omega)
                have hl5 : ((wantU l i ++ xs.take j).length + 1) * 24 ≤ 140737488355328 := by
                  rw [List.length_append, List.length_take]
                  have := stU_len l i
                  unfold wantU
                  rw [List.length_map]
                  have := HN.out
                  omega
                have hl6 : ((plcU l i ++ List.replicate j (i : Int)).length + 1) * 8 ≤ 140737488355328 := by
                  rw [List.length_append, List.length_replicate]
                  have := stU_len l i
                  unfold plcU
                  rw [List.length_map]
                  omega
                have HL5 := Lib.hid hl5
                have HL6 := Lib.hid hl6
                clear hr3 e4 hx hjl htk hl5 hl6 h255
                go_upto_region 20 with (fail)
                refine quiet_exit ?_
                refine start_ (n := 8) (S := fun w' => w'.cell? ⟨B5, 0, none⟩ = some v5 ∧ w'.cell? (ad2.add (j * 3)) = some (.int .i64 x.f0) ∧ w'.cell? ⟨(ad2.add (j * 3)).block, (ad2.add (j * 3)).off + 1, none⟩ = some (.int .i64 x.f1) ∧ w'.cell? ⟨(ad2.add (j * 3)).block, (ad2.add (j * 3)).off + 2, none⟩ = some (.int .i64 x.f2)) (ds := [7]) (tfA 0 8) (by kernel_rfl) rfl rfl ⟨(blk_cell HO.out.drew.drop.pt 0).trans rfl, (HRC.out _ _ HO.out.drew).1, (HRC.out _ _ HO.out.drew).2.1, (HRC.out _ _ HO.out.drew).2.2⟩ (fun hHeld => ?_)
                refine with_tabW unp.tab20 unp.bits20 (fun HT_ HW_ => ?_)
                refine pure_ (i := 1) (N := some 77) (v := ?_) (a' := ?_) #[false, true, false, false, false, false, false, false] rfl rfl (any_of HT_.out (by kernel_rfl)) (fun _ _ _ h => h) (Or.inl ⟨by rfl, ?_⟩) ?_ ?_
                rotate_left
                · intro w'
                  go_simp
                  with_reducible rfl
                rotate_left
                · simp only [Act.put, List.setIfInBounds_toArray, List.set_cons_zero, List.set_cons_succ, i64_w, i32_w]
                  rfl
                refine pure_ (i := 2) (N := some 78) (v := ?_) (a' := ?_) #[false, true, true, false, false, false, false, false] rfl rfl (any_of HT_.out (by kernel_rfl)) (fun _ _ _ h => h) (Or.inl ⟨by rfl, ?_⟩) ?_ ?_
                rotate_left
                · intro w'
                  go_simp
                  with_reducible rfl
                rotate_left
                · simp only [Act.put, List.setIfInBounds_toArray, List.set_cons_zero, List.set_cons_succ, i64_w, i32_w]
                  rfl
                refine pure_ (i := 3) (N := some 79) (v := ?_) (a' := ?_) #[false, true, true, true, false, false, false, false] rfl rfl (any_of HT_.out (by kernel_rfl)) (fun _ _ _ h => h) (Or.inl ⟨by rfl, ?_⟩) ?_ ?_
                rotate_left
                · intro w'
                  go_simp
                  with_reducible rfl
                rotate_left
                · simp only [Act.put, List.setIfInBounds_toArray, List.set_cons_zero, List.set_cons_succ, i64_w, i32_w]
                  rfl
                refine take_ (i := 0) (N := some 76) (v := ?_) (a' := ?_) (tfA 4 8) rfl rfl (take_ofW HT_.out HW_.out (by kernel_rfl)) (fun _ _ _ h => h) (Or.inl ⟨by rfl, ?_⟩) hHeld ?_ ?_
                rotate_left
                · rintro w' ⟨s0, s1, s2, s3⟩
                  go_simp
                  with_reducible rfl
                rotate_left
                · simp only [Act.put, List.setIfInBounds_toArray, List.set_cons_zero, List.set_cons_succ, i64_w, i32_w]
                  rfl
                refine take_ (i := 4) (N := some 80) (v := ?_) (a' := ?_) (tfA 5 8) rfl rfl (take_ofW HT_.out HW_.out (by kernel_rfl)) (fun _ _ _ h => h) (Or.inl ⟨by rfl, ?_⟩) hHeld ?_ ?_
                rotate_left
                · rintro w' ⟨s0, s1, s2, s3⟩
                  go_simp
                  with_reducible rfl
                rotate_left
                · simp only [Act.put, List.setIfInBounds_toArray, List.set_cons_zero, List.set_cons_succ, i64_w, i32_w]
                  rfl
                refine one_ (i := 5) (N := some 81) (tfA 6 8) rfl rfl (one_of HT_.out (by kernel_rfl)) (by decide) (fun K hK => ?_)
                have H6 := Aside0.mk (HO.out.drew.alloc' (.cells #[.int .i64 x.f0, .int .i64 x.f1, .int .i64 x.f2] 30))
                refine value_ (w1 := ?_) (v := ?_) (by rfl) rfl ?_ ?_
                rotate_left 2
                · go_simp
                  constructor
                  · rfl
                  · rfl
                refine hK.out _ _ ⟨(blk_cell H6.out.drop.pt 0).trans rfl, (HRC.out _ _ H6.out).1, (HRC.out _ _ H6.out).2.1, (HRC.out _ _ H6.out).2.2⟩ (fun hHeld => ?_)
                clear hK K
                refine norm_ (a' := ?_) ?_ ?_
                rotate_left
                · show Act.put _ (some 81) _ = _
                  simp only [Act.put, List.setIfInBounds_toArray, List.set_cons_zero, List.set_cons_succ, i64_w, i32_w]
                  rfl
                refine one_ (i := 6) (N := some 82) (tfA 7 8) rfl rfl (one_of HT_.out (by kernel_rfl)) (by decide) (fun K hK => ?_)
                refine own_append_step (w0 := w) k30 (by rfl) (.tmp 76) (.tmp 81) 22 30 (.agg #[.int .i64 0, .int .i64 0, .int .i64 0]) 24 rfl Tryd.underlying22 infoRec rfl (by decide) (by decide) v5 (wantU l i ++ xs.take j) x [.int .i64 x.f0, .int .i64 x.f1, .int .i64 x.f2] (by first | rfl | (go_simp; done)) (by first | rfl | (go_simp; done)) (k30_mkM _ _ _ x) (own_swap [_, _, _, _, _] [_] HO.out.drew) HL5.out ?_
                intro v1 w8 ho
                rw [List.append_assoc, HTK.out] at ho
                obtain ⟨A5, c5, rfl, _, _⟩ := ho.reads
                obtain ⟨n5, hn5⟩ : ∃ n5, n5 = (wantU l i ++ xs.take (j + 1)).length := ⟨_, rfl⟩
                rw [← hn5] at ho ⊢
                have H7 := Aside0.mk (own_swap [_] [_, _, _, _, _] ho)
                have fz := blk_frozen H7.out.drop.pt 0
                clear ho hn5
                refine hK.out _ _ ⟨(blk_cell H7.out.drop.pt 0).trans rfl, (HRC.out _ _ H7.out).1, (HRC.out _ _ H7.out).2.1, (HRC.out _ _ H7.out).2.2⟩ (fun hHeld => ?_)
                clear hK K
                refine norm_ (a' := ?_) ?_ ?_
                rotate_left
                · show Act.put _ (some 82) _ = _
                  simp only [Act.put, List.setIfInBounds_toArray, List.set_cons_zero, List.set_cons_succ, i64_w, i32_w]
                  rfl
                refine last_ (i := 7) (N := none) (tfA 8 8) rfl rfl (one_of HT_.out (by kernel_rfl)) (by decide) (fun K hK => ?_)
                refine skip_ (w1 := ?_) (by rfl) rfl ?_ ?_
                rotate_left
                · go_simp
                  rfl
                refine hK.out _ _ ?_
                clear hK K
                refine done_ (done_of HT_.out (by kernel_rfl)) ?_
                clear hHeld
                have H8 := Aside0.mk ((own_sw2 _ _ H7.out).set (i := 0) (.slice A5 n5 c5))
                clear fz H7 HO
                refine then_n ?_
                generalize hW : World.setCell w8 _ _ = w9 at H8 ⊢
                clear hW
                have H9 := Aside0.mk (show Own.Own w w9 (Ints v6 (plcU l i ++ List.replicate j (i : Int)) :: BoxW B5 (.slice A5 n5 c5) :: Recs (.slice (some ad2) n c2) xs :: BoxP B6 v6 :: BoxB B4 false :: BoxN B3 a1 :: Recs (.slice A5 n5 c5) (wantU l i ++ xs.take (j + 1)) :: []) from own_swap [_, _, _, _, _, _] [_] H8.out)
                have y6 := blk_cell H9.out.drop.drop.drop.pt 0
                simp only [List.getElem?_toArray, List.getElem?_cons_zero] at y6
                have hrp : (plcU l i ++ List.replicate j (i : Int)) ++ [(i : Int)] = plcU l i ++ List.replicate (j + 1) (i : Int) := by rw [List.append_assoc, ← List.replicate_succ']
                have HRP := Aside0.mk hrp
                have h255 := H255.out
                clear H8 hrp
                go_wp2_with (at_builtin; refine own_append (w0 := w) (Kd.int .i64) rfl (.tmp 83) (.tmp 85) 37 3 (.int .i64 0) 8 rfl Tryd.underlying37 infoInt rfl (by decide) (by decide) v6 (plcU l i ++ List.replicate j (i : Int)) (i : Int) [.int .i64 (i : Int)] (by first | rfl | (go_simp; done)) (by first | rfl | (go_simp; done)) rfl H9.out HL6.out ?_; intro v1 w10 ho; rw [HRP.out] at ho; obtain ⟨A6, c6, rfl, _, _⟩ := ho.reads; obtain ⟨n6, hn6⟩ : ∃ n6, n6 = (plcU l i ++ List.replicate (j + 1) (i : Int)).length := ⟨_, rfl⟩; rw [← hn6] at ho ⊢; have H10 := Aside0.mk ho; have fz := blk_frozen ho.drop.drop.drop.pt 0; have cz := blk_cell ho.drop.drop.drop.pt 0; simp only [List.getElem?_toArray, List.getElem?_cons_zero] at cz; clear ho hn6)
                have H11 := Aside0.mk ((own_swap [_, _, _] [_] H10.out).set (i := 0) (.slice A6 n6 c6))
                go_roundw
                case rel => exact ⟨j + 1, _, _, by omega, by go_num, ⟨own_swap [_] [_, _, _, _, _, _] (own_swap [_, _, _] [_] (own_swap [_, _, _] [_] (own_swap [_, _] [_] H11.out)))⟩⟩
                case measure => simp [intOf]; omega
              · obtain rfl : j = T := by omega
                have hcn : (decide ((j : Int) < (n : Int)) = false) ∨ bw = false := by
                  cases bw with
                  | false => exact .inr rfl
                  | true => exact .inl (decide_eq_false (by simp at hst; omega))
                have hw7 : wantU l i ++ xs.take j = wantU l (i + 1) := by rw [wantU_next, ← HPG.out, ← HXS.out, ← HT.out]
                have hp7 : plcU l i ++ List.replicate j (i : Int) = plcU l (i + 1) := by rw [plcU_next, ← HT.out]
                rw [hw7, hp7] at HO
                have hsz := HS.out
                have HS2 := Aside0.mk (show ∀ j, j < i + 1 → (pgAt l j).size ≤ 300 from fun q hq => by
                  by_cases e : q = i
                  · rw [e, ← HPG.out]; have := H300.out; omega
                  · exact hsz q (by omega))
                clear hw7 hp7 hsz
                by_cases hjn : j < n
                · obtain rfl : bw = false := by
                    rcases hcn with h | h
                    · rw [decide_eq_false_iff_not] at h; omega
                    · exact h
                  have dj : decide ((j : Int) < (n : Int)) = true := decide_eq_true (by omega)
                  have djn : decide (j < n) = true := decide_eq_true hjn
                  go_wp2_with fail
                  go_roundw
                  case rel => exact ⟨i + 1, v5, v6, by omega, by rw [← HBW.out], by go_num, HS2, ⟨HO.out.drop⟩⟩
                  case measure => simp [intOf]; omega
                · have dj : decide ((j : Int) < (n : Int)) = false := decide_eq_false (by omega)
                  have djn : decide (j < n) = false := decide_eq_false hjn
                  go_wp2_with fail
                  go_roundw
                  case rel => exact ⟨i + 1, v5, v6, by omega, by rw [← HBW.out], by go_num, HS2, ⟨HO.out.drop⟩⟩
                  case measure => simp [intOf]; omega
      · obtain rfl : i = l.length := by omega
        have dl : decide ((l.length : Int) < (l.length : Int)) = false := decide_eq_false (by omega)
        have dln : decide (l.length < l.length) = false := decide_eq_false (by omega)
        go_wp2_with fail
        obtain ⟨Fl, hFl⟩ : ∃ Fl, Fl = flatU l := ⟨_, rfl⟩
        have hwl : wantU l l.length = Fl.map (·.2) := by rw [hFl]; rfl
        have hpl : plcU l l.length = Fl.map (fun d => (d.1 : Int)) := by rw [hFl]; rfl
        have hfn : Fl.length ≤ 13000 := by
          rw [hFl]
          have := stU_len l l.length
          unfold flatU
          omega
        rw [hwl, hpl] at HO
        obtain ⟨A5, c5, rfl, _, _⟩ := (own_swap [_, _, _, _] [_] HO.out).reads
        obtain ⟨A6, c6, rfl, _, _⟩ := (own_swap [_, _, _, _, _] [_] HO.out).reads
        rw [List.length_map, List.length_map] at HO
        refine (each_own A l.length cc HO.out).mono ?_
        rintro e w7 ⟨b, rfl, ho⟩
        have H7 := Aside0.mk ho
        have HFL := Aside0.mk hFl
        have HFN := Lib.hid hfn
        clear ho HO hwl hpl hFl hfn dl dln hlt hi
        obtain ⟨BK, hBK⟩ : ∃ BK, BK = w7.heap.size := ⟨_, rfl⟩
        have ha := own_sw2 _ _ (H7.out.alloc (.cells #[.int .i64 0] 3))
        rw [← hBK] at ha
        have H8 := Aside0.mk (show Own.Own w _ (EaL b (.slice A l.length cc) (fun k => BoxN BK (k : Int) :: Lz B3 B4 B5 B6 a1 (.slice A5 Fl.length c5) (.slice A6 Fl.length c6) (Fl.map (·.2)) (Fl.map (fun d => (d.1 : Int))) []) 0 []) from ha)
        have HBK := Lib.hid hBK
        clear ha H7 hBK
        go_wp2_with fail
        rw [← HBK.out]
        generalize hW : World.alloc w7 _ = w8 at H8 ⊢
        clear hW HBK
        refine (wpIn_wide (n := 3)).1 ?_
        refine wp_range_box (n := 3) (by omega) (gf := 36) (lb := #[.pointer (some ⟨b, 0, none⟩)]) rfl (enters_of Tryd.func36 (by kernel_rfl) rfl) (fun _ => rfl)
          (each_iter w b cc A l HR.out (by omega) (fun i hi => HS.out i hi) _) H8.out
          (fun c K => ∃ (k : Nat) (X : List Asn), c = .exit 4 ∧ (k : Int) = a1 ∧ K = EaL b (.slice A l.length cc) (fun k => BoxN BK (k : Int) :: Lz B3 B4 B5 B6 a1 (.slice A5 Fl.length c5) (.slice A6 Fl.length c6) (Fl.map (·.2)) (Fl.map (fun d => (d.1 : Int))) []) k X) ?round ?done ?stop
        case round =>
          rintro lp D o ⟨k, X⟩ ⟨i, x⟩ Lk W ⟨hk, rfl⟩ hO
          rw [← HFL.out] at hk
          have hk : Fl[k]? = some (i, x) := hk
          have hkl : k < Fl.length := (List.getElem?_eq_some_iff.1 hk).1
          have hfn := HFN.out
          have HK := Lib.hid hk
          have ha := own_swap [_] [_, _] (hO.alloc (.cells #[.int .i64 x.f0, .int .i64 x.f1, .int .i64 x.f2] 30))
          obtain ⟨BD, hBD⟩ : ∃ BD, BD = W.heap.size := ⟨_, rfl⟩
          rw [← hBD] at ha
          have HA := Aside0.mk ha
          have HBD := Lib.hid hBD
          clear ha hO hBD hk H8
          gi_wp2_with (fail)
          refine ⟨_, HA.out, ?_⟩
          rw [← HBD.out]
          clear HA HBD
          intro o2 W2 h2
          have HO := Aside0.mk h2
          have kK := blk_cell h2.drop.drop.drop.drop.pt 0
          have k3 := blk_cell h2.drop.drop.drop.drop.drop.drop.drop.drop.pt 0
          have fK := blk_frozen h2.drop.drop.drop.drop.pt 0
          simp only [List.getElem?_toArray, List.getElem?_cons_zero] at kK k3
          by_cases hm : (k : Int) = a1
          · have hmb : ((k : Int) == a1) = true := beq_iff_eq.2 hm
            clear h2
            gi_wp2_with (fail)
            exact ⟨_, ⟨rfl, k, hm, X, rfl⟩, (own_swap [_, _] [_] HO.out).drop⟩
          · have hmb : ((k : Int) == a1) = false := by simpa using hm
            have hmx : Tryd.prog.follows .mixedOrders = true := by kernel_rfl
            have k5 := blk_cell h2.drop.drop.drop.drop.drop.pt 0
            have k6 := blk_cell h2.drop.drop.drop.drop.drop.drop.pt 0
            have x0 := blk_cell h2.drop.drop.pt 0
            have x1 := blk_cell h2.drop.drop.pt 1
            have x2 := blk_cell h2.drop.drop.pt 2
            simp only [List.getElem?_toArray, List.getElem?_cons_zero, List.getElem?_cons_succ] at k5 k6 x0 x1 x2
            have hr5 := own_swap [_, _, _, _, _, _, _, _, _] [_] h2
            have hr6 := own_swap [_, _, _, _, _, _, _, _, _, _] [_] h2
            obtain ⟨A5', c5', e5, _, hC5⟩ := hr5.reads
            obtain ⟨A6', c6', e6, _, hC6⟩ := hr6.reads
            injection e5 with e5 e5b e5c
            injection e6 with e6 e6b e6c
            subst e5 e6
            clear e5b e5c e6b e6c
            obtain ⟨ad5, rfl, dummy⟩ := at_T30 hC5 (k : Int) (by omega) (by rw [List.length_map]; omega)
            obtain ⟨ad6, rfl, y0⟩ := Kd.at_int hC6 (k : Int) (by omega) (by rw [List.length_map]; omega)
            obtain ⟨z0, z1, z2⟩ := rec_cells hr5 k (by rw [List.length_map]; exact hkl)
            have hg5 : (Fl.map (·.2)).getD k z30 = x := by
              rw [List.getD_eq_getElem?_getD, List.getElem?_map, HK.out]; rfl
            have hg6 : rd (Fl.map (fun d => (d.1 : Int))) (k : Int) = (i : Int) := by
              unfold rd
              rw [Int.toNat_natCast]
              simp [HK.out]
            rw [hg5] at z0 z1 z2
            rw [hg6, Int.toNat_natCast] at y0
            have d1 : decide ((k : Int) ≥ (Fl.length : Int)) = false := decide_eq_false (by omega)
            have d2 : decide ((Fl.length : Int) ≤ (k : Int)) = false := decide_eq_false (by omega)
            have d3 : decide (Fl.length ≤ k) = false := decide_eq_false (by omega)
            have g1 : (0 ≤ (k : Int)) = True := eq_true (by omega)
            have g2 : ((k : Int) < (Fl.length : Nat)) = True := eq_true (by omega)
            have g3 : (k < Fl.length) = True := eq_true hkl
            clear h2 hr5 hr6 hg5 hg6 hC5 hC6 dummy hk
            gi_wp2_with (fail)
            refine startIn_ (n := 26) (S := fun w' => w'.cell? ⟨BK, 0, none⟩ = some (.int .i64 (k : Int)) ∧ w'.cell? ⟨B5, 0, none⟩ = some (.slice (some ad5) Fl.length c5) ∧ w'.cell? ⟨B6, 0, none⟩ = some (.slice (some ad6) Fl.length c6) ∧ w'.cell? ⟨BD, 0, none⟩ = some (.int .i64 x.f0) ∧ w'.cell? ⟨BD, 1, none⟩ = some (.int .i64 x.f1) ∧ w'.cell? ⟨BD, 2, none⟩ = some (.int .i64 x.f2) ∧ w'.cell? (ad5.add (k * 3)) = some (.int .i64 x.f0) ∧ w'.cell? ⟨(ad5.add (k * 3)).block, (ad5.add (k * 3)).off + 1, none⟩ = some (.int .i64 x.f1) ∧ w'.cell? ⟨(ad5.add (k * 3)).block, (ad5.add (k * 3)).off + 2, none⟩ = some (.int .i64 x.f2) ∧ w'.cell? (ad6.add k) = some (.int .i64 (i : Int))) (ds := []) (tfA 0 26) (by kernel_rfl) rfl rfl ⟨kK, k5, k6, x0, x1, x2, z0, z1, z2, y0⟩ (fun hHeld => ?_)
            refine with_tabW unp.tab30 unp.bits30 (fun HT_ HW_ => ?_)
            refine take_ (i := 0) (N := some 97) (v := ?_) (a' := ?_) (tfA 1 26) rfl rfl (take_ofW HT_.out HW_.out (by kernel_rfl)) (fun _ _ _ h => h) (Or.inl ⟨by rfl, ?_⟩) hHeld ?_ ?_
            rotate_left
            · rintro w' ⟨s0, s1, s2, s3, s4, s5, s6, s7, s8, s9⟩
              go_simp
              with_reducible rfl
            rotate_left
            · simp only [Act.put, List.setIfInBounds_toArray, List.set_cons_zero, List.set_cons_succ, i64_w, i32_w]
              rfl
            refine take_ (i := 1) (N := some 98) (v := ?_) (a' := ?_) (tfA 2 26) rfl rfl (take_ofW HT_.out HW_.out (by kernel_rfl)) (fun _ _ _ h => h) (Or.inl ⟨by rfl, ?_⟩) hHeld ?_ ?_
            rotate_left
            · rintro w' ⟨s0, s1, s2, s3, s4, s5, s6, s7, s8, s9⟩
              go_simp
              with_reducible rfl
            rotate_left
            · simp only [Act.put, List.setIfInBounds_toArray, List.set_cons_zero, List.set_cons_succ, i64_w, i32_w]
              rfl
            refine pure_ (i := 2) (N := some 99) (v := ?_) (a' := ?_) (tfA 3 26) rfl rfl (any_of HT_.out (by kernel_rfl)) (fun _ _ _ h => h) (Or.inl ⟨by rfl, ?_⟩) ?_ ?_
            rotate_left
            · intro w'
              go_simp
              with_reducible rfl
            rotate_left
            · simp only [Act.put, List.setIfInBounds_toArray, List.set_cons_zero, List.set_cons_succ, i64_w, i32_w]
              rfl
            refine pure_ (i := 3) (N := some 100) (v := ?_) (a' := ?_) (tfA 4 26) rfl rfl (any_of HT_.out (by kernel_rfl)) (fun _ _ _ h => h) (Or.inl ⟨by rfl, ?_⟩) ?_ ?_
            rotate_left
            · intro w'
              go_simp
              with_reducible rfl
            rotate_left
            · simp only [Act.put, List.setIfInBounds_toArray, List.set_cons_zero, List.set_cons_succ, i64_w, i32_w]
              rfl
            refine pure_ (i := 4) (N := some 101) (v := ?_) (a' := ?_) (tfA 5 26) rfl rfl (any_of HT_.out (by kernel_rfl)) (fun _ _ _ h => h) (Or.inl ⟨by rfl, ?_⟩) ?_ ?_
            rotate_left
            · intro w'
              go_simp
              with_reducible rfl
            rotate_left
            · simp only [Act.put, List.setIfInBounds_toArray, List.set_cons_zero, List.set_cons_succ, i64_w, i32_w]
              rfl
            refine take_ (i := 5) (N := some 102) (v := ?_) (a' := ?_) (tfA 6 26) rfl rfl (take_ofW HT_.out HW_.out (by kernel_rfl)) (fun _ _ _ h => h) (Or.inl ⟨by rfl, ?_⟩) hHeld ?_ ?_
            rotate_left
            · rintro w' ⟨s0, s1, s2, s3, s4, s5, s6, s7, s8, s9⟩
              go_simp
              with_reducible rfl
            rotate_left
            · simp only [Act.put, List.setIfInBounds_toArray, List.set_cons_zero, List.set_cons_succ, i64_w, i32_w]
              rfl
            refine take_ (i := 6) (N := some 103) (v := ?_) (a' := ?_) (tfA 7 26) rfl rfl (take_ofW HT_.out HW_.out (by kernel_rfl)) (fun _ _ _ h => h) (Or.inl ⟨by rfl, ?_⟩) hHeld ?_ ?_
            rotate_left
            · rintro w' ⟨s0, s1, s2, s3, s4, s5, s6, s7, s8, s9⟩
              go_simp
              with_reducible rfl
            rotate_left
            · simp only [Act.put, List.setIfInBounds_toArray, List.set_cons_zero, List.set_cons_succ, i64_w, i32_w]
              rfl
            refine pure_ (i := 7) (N := some 104) (v := ?_) (a' := ?_) (tfA 8 26) rfl rfl (any_of HT_.out (by kernel_rfl)) (fun _ _ _ h => h) (Or.inl ⟨by rfl, ?_⟩) ?_ ?_
            rotate_left
            · intro w'
              go_simp
              with_reducible rfl
            rotate_left
            · simp only [Act.put, List.setIfInBounds_toArray, List.set_cons_zero, List.set_cons_succ, i64_w, i32_w]
              rfl
            refine pure_ (i := 8) (N := some 105) (v := ?_) (a' := ?_) (tfA 9 26) rfl rfl (any_of HT_.out (by kernel_rfl)) (fun _ _ _ h => h) (Or.inl ⟨by rfl, ?_⟩) ?_ ?_
            rotate_left
            · intro w'
              go_simp
              with_reducible rfl
            rotate_left
            · simp only [Act.put, List.setIfInBounds_toArray, List.set_cons_zero, List.set_cons_succ, i64_w, i32_w]
              rfl
            refine pure_ (i := 9) (N := some 106) (v := ?_) (a' := ?_) (tfA 10 26) rfl rfl (any_of HT_.out (by kernel_rfl)) (fun _ _ _ h => h) (Or.inl ⟨by rfl, ?_⟩) ?_ ?_
            rotate_left
            · intro w'
              go_simp
              with_reducible rfl
            rotate_left
            · simp only [Act.put, List.setIfInBounds_toArray, List.set_cons_zero, List.set_cons_succ, i64_w, i32_w]
              rfl
            refine pure_ (i := 10) (N := some 107) (v := ?_) (a' := ?_) (tfA 11 26) rfl rfl (any_of HT_.out (by kernel_rfl)) (fun _ _ _ h => h) (Or.inl ⟨by rfl, ?_⟩) ?_ ?_
            rotate_left
            · intro w'
              go_simp
              with_reducible rfl
            rotate_left
            · simp only [Act.put, List.setIfInBounds_toArray, List.set_cons_zero, List.set_cons_succ, i64_w, i32_w]
              rfl
            refine take_ (i := 11) (N := some 108) (v := ?_) (a' := ?_) (tfA 12 26) rfl rfl (take_ofW HT_.out HW_.out (by kernel_rfl)) (fun _ _ _ h => h) (Or.inl ⟨by rfl, ?_⟩) hHeld ?_ ?_
            rotate_left
            · rintro w' ⟨s0, s1, s2, s3, s4, s5, s6, s7, s8, s9⟩
              go_simp
              with_reducible rfl
            rotate_left
            · simp only [Act.put, List.setIfInBounds_toArray, List.set_cons_zero, List.set_cons_succ, i64_w, i32_w]
              rfl
            refine take_ (i := 12) (N := some 109) (v := ?_) (a' := ?_) (tfA 13 26) rfl rfl (take_ofW HT_.out HW_.out (by kernel_rfl)) (fun _ _ _ h => h) (Or.inl ⟨by rfl, ?_⟩) hHeld ?_ ?_
            rotate_left
            · rintro w' ⟨s0, s1, s2, s3, s4, s5, s6, s7, s8, s9⟩
              go_simp
              with_reducible rfl
            rotate_left
            · simp only [Act.put, List.setIfInBounds_toArray, List.set_cons_zero, List.set_cons_succ, i64_w, i32_w]
              rfl
            refine take_ (i := 13) (N := some 110) (v := ?_) (a' := ?_) (tfA 14 26) rfl rfl (take_ofW HT_.out HW_.out (by kernel_rfl)) (fun _ _ _ h => h) (Or.inl ⟨by rfl, ?_⟩) hHeld ?_ ?_
            rotate_left
            · rintro w' ⟨s0, s1, s2, s3, s4, s5, s6, s7, s8, s9⟩
              go_simp
              with_reducible rfl
            rotate_left
            · simp only [Act.put, List.setIfInBounds_toArray, List.set_cons_zero, List.set_cons_succ, i64_w, i32_w]
              rfl
            refine pure_ (i := 14) (N := some 111) (v := ?_) (a' := ?_) (tfA 15 26) rfl rfl (any_of HT_.out (by kernel_rfl)) (fun _ _ _ h => h) (Or.inl ⟨by rfl, ?_⟩) ?_ ?_
            rotate_left
            · intro w'
              go_simp
              with_reducible rfl
            rotate_left
            · simp only [Act.put, List.setIfInBounds_toArray, List.set_cons_zero, List.set_cons_succ, i64_w, i32_w]
              rfl
            refine take_ (i := 15) (N := some 112) (v := ?_) (a' := ?_) (tfA 16 26) rfl rfl (take_ofW HT_.out HW_.out (by kernel_rfl)) (fun _ _ _ h => h) (Or.inl ⟨by rfl, ?_⟩) hHeld ?_ ?_
            rotate_left
            · rintro w' ⟨s0, s1, s2, s3, s4, s5, s6, s7, s8, s9⟩
              go_simp
              with_reducible rfl
            rotate_left
            · simp only [Act.put, List.setIfInBounds_toArray, List.set_cons_zero, List.set_cons_succ, i64_w, i32_w]
              rfl
            refine pure_ (i := 16) (N := some 113) (v := ?_) (a' := ?_) (tfA 17 26) rfl rfl (any_of HT_.out (by kernel_rfl)) (fun _ _ _ h => h) (Or.inl ⟨by rfl, ?_⟩) ?_ ?_
            rotate_left
            · intro w'
              go_simp
              with_reducible rfl
            rotate_left
            · simp only [Act.put, List.setIfInBounds_toArray, List.set_cons_zero, List.set_cons_succ, i64_w, i32_w]
              rfl
            refine pure_ (i := 17) (N := some 114) (v := ?_) (a' := ?_) (tfA 18 26) rfl rfl (any_of HT_.out (by kernel_rfl)) (fun _ _ _ h => h) (Or.inl ⟨by rfl, ?_⟩) ?_ ?_
            rotate_left
            · intro w'
              go_simp
              with_reducible rfl
            rotate_left
            · simp only [Act.put, List.setIfInBounds_toArray, List.set_cons_zero, List.set_cons_succ, i64_w, i32_w]
              rfl
            refine pure_ (i := 18) (N := some 115) (v := ?_) (a' := ?_) (tfA 19 26) rfl rfl (any_of HT_.out (by kernel_rfl)) (fun _ _ _ h => h) (Or.inl ⟨by rfl, ?_⟩) ?_ ?_
            rotate_left
            · intro w'
              go_simp
              with_reducible rfl
            rotate_left
            · simp only [Act.put, List.setIfInBounds_toArray, List.set_cons_zero, List.set_cons_succ, i64_w, i32_w]
              rfl
            refine pure_ (i := 19) (N := some 116) (v := ?_) (a' := ?_) (tfA 20 26) rfl rfl (any_of HT_.out (by kernel_rfl)) (fun _ _ _ h => h) (Or.inl ⟨by rfl, ?_⟩) ?_ ?_
            rotate_left
            · intro w'
              go_simp
              with_reducible rfl
            rotate_left
            · simp only [Act.put, List.setIfInBounds_toArray, List.set_cons_zero, List.set_cons_succ, i64_w, i32_w]
              rfl
            refine take_ (i := 20) (N := some 117) (v := ?_) (a' := ?_) (tfA 21 26) rfl rfl (take_ofW HT_.out HW_.out (by kernel_rfl)) (fun _ _ _ h => h) (Or.inl ⟨by rfl, ?_⟩) hHeld ?_ ?_
            rotate_left
            · rintro w' ⟨s0, s1, s2, s3, s4, s5, s6, s7, s8, s9⟩
              go_simp
              with_reducible rfl
            rotate_left
            · simp only [Act.put, List.setIfInBounds_toArray, List.set_cons_zero, List.set_cons_succ, i64_w, i32_w]
              rfl
            refine take_ (i := 21) (N := some 118) (v := ?_) (a' := ?_) (tfA 22 26) rfl rfl (take_ofW HT_.out HW_.out (by kernel_rfl)) (fun _ _ _ h => h) (Or.inl ⟨by rfl, ?_⟩) hHeld ?_ ?_
            rotate_left
            · rintro w' ⟨s0, s1, s2, s3, s4, s5, s6, s7, s8, s9⟩
              go_simp
              with_reducible rfl
            rotate_left
            · simp only [Act.put, List.setIfInBounds_toArray, List.set_cons_zero, List.set_cons_succ, i64_w, i32_w]
              rfl
            refine pure_ (i := 22) (N := some 119) (v := ?_) (a' := ?_) (tfA 23 26) rfl rfl (any_of HT_.out (by kernel_rfl)) (fun _ _ _ h => h) (Or.inl ⟨by rfl, ?_⟩) ?_ ?_
            rotate_left
            · intro w'
              go_simp
              with_reducible rfl
            rotate_left
            · simp only [Act.put, List.setIfInBounds_toArray, List.set_cons_zero, List.set_cons_succ, i64_w, i32_w]
              rfl
            refine take_ (i := 23) (N := some 120) (v := ?_) (a' := ?_) (tfA 24 26) rfl rfl (take_ofW HT_.out HW_.out (by kernel_rfl)) (fun _ _ _ h => h) (Or.inl ⟨by rfl, ?_⟩) hHeld ?_ ?_
            rotate_left
            · rintro w' ⟨s0, s1, s2, s3, s4, s5, s6, s7, s8, s9⟩
              go_simp
              with_reducible rfl
            rotate_left
            · simp only [Act.put, List.setIfInBounds_toArray, List.set_cons_zero, List.set_cons_succ, i64_w, i32_w]
              rfl
            refine pure_ (i := 24) (N := some 121) (v := ?_) (a' := ?_) (tfA 25 26) rfl rfl (any_of HT_.out (by kernel_rfl)) (fun _ _ _ h => h) (Or.inl ⟨by rfl, ?_⟩) ?_ ?_
            rotate_left
            · intro w'
              go_simp
              with_reducible rfl
            rotate_left
            · simp only [Act.put, List.setIfInBounds_toArray, List.set_cons_zero, List.set_cons_succ, i64_w, i32_w]
              rfl
            refine pure_ (i := 25) (N := some 122) (v := ?_) (a' := ?_) (tfA 26 26) rfl rfl (any_of HT_.out (by kernel_rfl)) (fun _ _ _ h => h) (Or.inl ⟨by rfl, ?_⟩) ?_ ?_
            rotate_left
            · intro w'
              go_simp
              with_reducible rfl
            rotate_left
            · simp only [Act.put, List.setIfInBounds_toArray, List.set_cons_zero, List.set_cons_succ, i64_w, i32_w]
              rfl
            refine done_ (done_of HT_.out (by kernel_rfl)) ?_
            refine then_n ?_
            clear hHeld
            gi_wp2_with (fail)
            exact ⟨_, rfl, own_swap [_] [_, _, _] ((own_swap [_, _, _] [_] (own_swap [_, _] [_] HO.out.drew).drop).set (i := 0) (.int .i64 ((k + 1 : Nat) : Int)))⟩
        case done =>
          intro D L W hL hO
          subst hL
          rw [← HFL.out] at hO
          have HZ := Aside0.mk hO
          have cK := blk_cell hO.drop.drop.pt 0
          have c5 := blk_cell hO.drop.drop.drop.pt 0
          have c3 := blk_cell hO.drop.drop.drop.drop.drop.drop.pt 0
          simp only [List.getElem?_toArray, List.getElem?_cons_zero] at cK c5 c3
          clear hO H8
          go_wp2_with fail
          refine (works_calls _).mono ?_
          rintro e w9 ⟨rfl, hb⟩
          have H1 := Aside0.mk (HZ.out.move hb)
          have r0 := blk_cell H1.out.drop.drop.drop.drop.drop.pt 0
          have r1 := blk_frozen H1.out.drop.drop.drop.drop.drop.pt 0
          clear hb HZ
          go_wp2_with fail
          have H4 := (own_swap [_, _, _, _, _] [_] H1.out).set (i := 0) (.bool true)
          have H5 := own_putObj (own_swap [_] [_] H4) (.deferred none)
          have hK := (own_swap [_] [_] H4).pt
          have hc : (World.putObj _ D (.deferred none)).cell? ⟨B4, 0, none⟩ = some (.bool true) := blk_cell H5.drop.pt 0
          refine ⟨by simp, .inl ⟨_, _, rfl, run_takeDeferred hK, ?_⟩⟩
          exact ⟨.bool true, by simp [results, Tryd.results5, go_sem, hc], rfl, H5.below⟩
        case stop =>
          rintro D c L W ⟨k, X, rfl, hk, rfl⟩ hO
          have HZ := Aside0.mk hO
          have cK := blk_cell hO.drop.drop.pt 0
          have c5 := blk_cell hO.drop.drop.drop.pt 0
          have c3 := blk_cell hO.drop.drop.drop.drop.drop.drop.pt 0
          simp only [List.getElem?_toArray, List.getElem?_cons_zero] at cK c5 c3
          have e2 : ((k : Int) == a1) = true := beq_iff_eq.2 hk
          clear hO H8
          refine wpIn_wide.2 ?_
          by_cases hkf : k = Fl.length
          · subst hkf
            go_wp2_with fail
            refine (works_calls _).mono ?_
            rintro e w9 ⟨rfl, hb⟩
            have H1 := Aside0.mk (HZ.out.move hb)
            have r0 := blk_cell H1.out.drop.drop.drop.drop.drop.pt 0
            have r1 := blk_frozen H1.out.drop.drop.drop.drop.drop.pt 0
            clear hb HZ
            go_wp2_with fail
            have H4 := (own_swap [_, _, _, _, _] [_] H1.out).set (i := 0) (.bool true)
            have H5 := own_putObj (own_swap [_] [_] H4) (.deferred none)
            have hK := (own_swap [_] [_] H4).pt
            have hc : (World.putObj _ D (.deferred none)).cell? ⟨B4, 0, none⟩ = some (.bool true) := blk_cell H5.drop.pt 0
            refine ⟨by simp, .inl ⟨_, _, rfl, run_takeDeferred hK, ?_⟩⟩
            exact ⟨.bool true, by simp [results, Tryd.results5, go_sem, hc], rfl, H5.below⟩
          · have e1 : ((k : Int) == (Fl.length : Int)) = false := by rw [beq_eq_false_iff_ne]; omega
            have e1n : (k == Fl.length) = false := by rw [beq_eq_false_iff_ne]; exact hkf
            go_wp2_with fail
            refine (works_calls _).mono ?_
            rintro e w9 ⟨rfl, hb⟩
            have H1 := Aside0.mk (HZ.out.move hb)
            have r0 := blk_cell H1.out.drop.drop.drop.drop.drop.pt 0
            have r1 := blk_frozen H1.out.drop.drop.drop.drop.drop.pt 0
            clear hb HZ
            go_wp2_with fail
            have H4 := (own_swap [_, _, _, _, _] [_] H1.out).set (i := 0) (.bool true)
            have H5 := own_putObj (own_swap [_] [_] H4) (.deferred none)
            have hK := (own_swap [_] [_] H4).pt
            have hc : (World.putObj _ D (.deferred none)).cell? ⟨B4, 0, none⟩ = some (.bool true) := blk_cell H5.drop.pt 0
            refine ⟨by simp, .inl ⟨_, _, rfl, run_takeDeferred hK, ?_⟩⟩
            exact ⟨.bool true, by simp [results, Tryd.results5, go_sem, hc], rfl, H5.below⟩
/-- The law, in plain words: it answers yes. -/
def decklelaw12_SheetUnpacks.f (_l : List ByteArray) (_n : Int) : Option Bool := some true
theorem decklelaw12_SheetUnpacks.calls (A0 : Option Addr) (c0 : Nat) (l0 : List ByteArray) (a1 : Int) (w : World) (hr0 : Kd.C Kd.string w A0 l0.length l0) (hc0 : l0.length ≤ c0) (h : decklelaw12_SheetUnpacks.f l0 a1 = some true) (HL : Aside0 (Hu.Laid w)) :
    Calls Tryd.prog 5 #[.slice A0 l0.length c0, .int .i64 a1] w fun e w' => e = .returned (.bool true) ∧ Below w.heap.size w w' := by
  exact unpacks_own A0 c0 l0 a1 hr0 hc0
end Go.Proofs.YtdohaocbhcniaaaDoor.PG
end
