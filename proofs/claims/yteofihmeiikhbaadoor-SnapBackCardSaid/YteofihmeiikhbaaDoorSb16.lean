/- The law's proof: words, contracts of the functions that it reaches, plain lemmas. -/
import Derived.ArgAppend
import Derived.Below
import Derived.BigQuiet
import Derived.Carry
import Derived.Deep.AppendLies
import Derived.Deep.CutBlock
import Derived.Deep.DeepCutAuto
import Derived.Deep.Draws
import Derived.Deep.LoopGhost
import Derived.Deep.OwnRows
import Derived.Deep.QuietTactic
import Derived.Deep.RegionHeld3
import Derived.Deep.RegionWith
import Derived.KernelRfl
import Derived.Laws.BitsLemmas
import Derived.Laws.BytesArg
import Derived.Laws.IdiomCopy
import Derived.Laws.MakeOwn
import Derived.Laws.OwnMore
import Derived.Laws.Rows
import Derived.Laws.Slices
import Derived.Lib.AppendStr
import Derived.Lib.BufferMore
import Derived.Lib.ConvBytes
import Derived.Lib.Hide
import Derived.Lib.LazyBuf
import Derived.Maps.AppendAt
import Derived.OpenShut
import Derived.OrdersHeld
import Derived.Outline
import Derived.OwnWalk
import Derived.OwnWalkIn
import Derived.RegionTactic
import Derived.RowKit3
import Derived.StillTailTactics
import Derived.Tactics
import Derived.WalkKit
import Derived.WideLaws
import Derived.Test.YteofihmeiikhbaaDoorSb8
import Derived.Test.YteofihmeiikhbaaDoorSb14
import Derived.Test.YteofihmeiikhbaaDoorSb11
import Derived.Test.YteofihmeiikhbaaDoorSb15
import Derived.Test.YteofihmeiikhbaaDoorSb13
import Derived.Test.YteofihmeiikhbaaDoorSb0
import Derived.Test.YteofihmeiikhbaaDoorSb2
section
/- Package snap, by hand: Put. -/
set_option linter.unusedVariables false
set_option linter.unusedSimpArgs false
namespace Go.Proofs.YteofihmeiikhbaaDoor.PG
open Go.RowKit Go.Shelf Go.Proofs.YteofihmeiikhbaaDoor.Tf Go.Proofs.YteofihmeiikhbaaDoorW.PrintWords Go.Proofs.YteofihmeiikhbaaDoorW.PrintLast Go.Proofs.YteofihmeiikhbaaDoor.Mem Go.Proofs.YteofihmeiikhbaaDoor.Own Go.Proofs.YteofihmeiikhbaaDoor.Hw

abbrev geoV (G : G6) : Value := .agg #[.int .i64 G.b, .int .i64 G.l, .int .i64 G.y, .int .i64 G.s, .int .i64 G.p, .int .i64 G.w]
abbrev geoC (G : G6) : Obj := .cells #[.int .i64 G.b, .int .i64 G.l, .int .i64 G.y, .int .i64 G.s, .int .i64 G.p, .int .i64 G.w] 23 (0, 0)
abbrev Txt (v : Value) (ts : List ByteArray) : Asn := Row Kd.string 9 v ts
abbrev Ints (v : Value) (xs : List Int) : Asn := Row (Kd.int .i64) 3 v xs
theorem infoStr : (Tryd.prog.info? 9).map (fun i => (i.zero, i.size, i.bytes)) = some (some (.string ⟨#[]⟩), 1, 16) := by kernel_rfl
theorem infoInt : (Tryd.prog.info? 3).map (fun i => (i.zero, i.size, i.bytes)) = some (some (.int .i64 0), 1, 8) := by kernel_rfl
theorem cells6 {w : World} {g : Nat} {a b c d e f : Value} {T : TypeId} (k : w.heap[g]? = some (.cells #[a, b, c, d, e, f] T (0, 0))) : w.cell? ⟨g, 0, none⟩ = some a ∧ w.cell? ⟨g, 1, none⟩ = some b ∧ w.cell? ⟨g, 2, none⟩ = some c ∧ w.cell? ⟨g, 3, none⟩ = some d ∧ w.cell? ⟨g, 4, none⟩ = some e ∧ w.cell? ⟨g, 5, none⟩ = some f :=
  ⟨blk_cell k 0, blk_cell k 1, blk_cell k 2, blk_cell k 3, blk_cell k 4, blk_cell k 5⟩
/-- The four rows of what is durable, as they lie at a world. -/
structure DurAt (w : World) (s : Dur) (A0 A1 A2 A3 : Option Addr) (c0 c1 c2 c3 : Nat) : Prop where
  r0 : Kd.C (Kd.int .i64) w A0 s.fl.length s.fl
  r1 : Kd.C (Kd.int .i64) w A1 s.co.length s.co
  r2 : Kd.C (Kd.int .i64) w A2 s.sl.length s.sl
  r3 : Kd.C (Kd.int .i64) w A3 s.tl.length s.tl
  h0 : s.fl.length ≤ c0
  h1 : s.co.length ≤ c1
  h2 : s.sl.length ≤ c2
  h3 : s.tl.length ≤ c3
theorem DurAt.below {w w1 : World} {s : Dur} {A0 A1 A2 A3 : Option Addr} {c0 c1 c2 c3 : Nat} (h : DurAt w s A0 A1 A2 A3 c0 c1 c2 c3) (hb : Below w.heap.size w w1) : DurAt w1 s A0 A1 A2 A3 c0 c1 c2 c3 :=
  ⟨Kd.C_below h.r0 hb, Kd.C_below h.r1 hb, Kd.C_below h.r2 hb, Kd.C_below h.r3 hb, h.h0, h.h1, h.h2, h.h3⟩
abbrev durV (s : Dur) (A0 A1 A2 A3 : Option Addr) (c0 c1 c2 c3 : Nat) : Value := .agg #[.slice A0 s.fl.length c0, .slice A1 s.co.length c1, .slice A2 s.sl.length c2, .slice A3 s.tl.length c3]
set_option maxHeartbeats 2000000 in
set_option maxRecDepth 100000 in
theorem put1_own {w0 w : World} {L : List Asn} {b : Nat} {s : ByteArray} (v : Int) (n : Nat) (h0 : 0 ≤ v) (hv : v < 72057594037927936) (hvn : v / 2 ^ (n * 8) = 0) (hn1 : 1 ≤ n) (hn7 : n ≤ 7) (HO : Own.Own w0 w (BldA b s :: L)) (hL : Away L) (hs : s.size ≤ 1000000) :
    Calls Tryd.prog 18 #[.int .i64 v, .int .i64 n, .pointer (some ⟨b, 0, none⟩)] w fun e w' => e = .returned (.tuple #[]) ∧ Own.Own w0 w' (BldA b (s ++ leStr v n) :: L) := by
  have hf : bits_Put.f v n = some (leStr v n, 0) := by
    unfold bits_Put.f
    rw [if_pos ⟨h0, by omega⟩, if_neg, Int.toNat_natCast]
    unfold putNo
    have e : ((n : Int) * 8).toNat = n * 8 := by omega
    rw [e, hvn]
    omega
  have HF := Lib.hid hf
  have HA := Aside0.mk HO
  have HL := Aside0.mk hL
  have hm : v % 18446744073709551616 = v := by omega
  clear hf HO hL hvn
  go_enter Tryd.func18, Tryd.ntmps18
  go_wp2_with fail
  refine (bits_Put.calls v n _ _ _ HF.out).mono ?_
  rintro e w1 ⟨rfl, hb⟩
  have HB := Aside0.mk (HA.out.move hb)
  clear hb HA hm
  go_wp2_with fail
  refine (own_write (t := leStr v n) HB.out HL.out (by rw [leStr_size]; omega)).mono ?_
  rintro e w2 ⟨rfl, ho⟩
  go_wp2_with fail
  go_end0
  exact ⟨rfl, ho⟩
theorem away2 {B2 B3 : Nat} {G : G6} {v0 v1 v2 v3 : Value} : Away [Pt B3 (.cells #[v0, v1, v2, v3] 26), Pt B2 (geoC G)] :=
  Away.cons (away_pt (by intro c fz h; injection h with _ h; exact absurd h (by decide))) (Away.cons (away_pt (by intro c fz h; injection h with _ h; exact absurd h (by decide))) Away.nil)
theorem txt_nil {w0 w : World} {L : List Asn} (h : Own.Own w0 w L) : Own.Own w0 w (Txt (.slice none 0 0) [] :: L) := h.fresh (R := [Txt (.slice none 0 0) []]) (Below.refl _ _) (Hold.one (Kd.R_nil _ _ _ _ _))

set_option maxHeartbeats 8000000 in
set_option maxRecDepth 100000 in
theorem put_no {w : World} (G : G6) (s : Dur) (A0 A1 A2 A3 : Option Addr) (c0 c1 c2 c3 : Nat) (hb : (Lit.int .i64 G.b).wf = true) (hl : (Lit.int .i64 G.l).wf = true) (hD : DurAt w s A0 A1 A2 A3 c0 c1 c2 c3) (hno : ¬ FitsD G s) :
    Calls Tryd.prog 7 #[geoV G, durV s A0 A1 A2 A3 c0 c1 c2 c3] w fun e w' => ∃ v, e = .returned (.tuple #[v, .int .i64 (putD G s).2]) ∧ Own.Own w w' [Txt v (putD G s).1] := by
  have hchk := check_some G.b G.l G.y G.s G.p G.w hb hl 8 (Nat.le_refl _)
  have m0 := Kd.C_max hD.r0
  have m1 := Kd.C_max hD.r1
  have m2 := Kd.C_max hD.r2
  have m3 := Kd.C_max hD.r3
  have hft := fits_is G s hb hl m0 m1 m2 m3 _ (Nat.lt_succ_self _)
  rw [decide_eq_false hno] at hft
  have HD := Aside0.mk hD
  have HFT := Aside0.mk hft
  have HNO := Aside0.mk hno
  have ha := ((Own.Own.new w).alloc (geoC G)).alloc (.cells #[.slice A0 s.fl.length c0, .slice A1 s.co.length c1, .slice A2 s.sl.length c2, .slice A3 s.tl.length c3] 26)
  rw [World.size_alloc] at ha
  obtain ⟨B2, hB2⟩ : ∃ B, B = w.heap.size := ⟨_, rfl⟩
  obtain ⟨B3, hB3⟩ : ∃ B, B = w.heap.size + 1 := ⟨_, rfl⟩
  rw [← hB3, ← hB2] at ha
  have HO := Aside0.mk ha
  have HB2 := Lib.hid hB2
  have HB3 := Lib.hid hB3
  clear hft hD hno ha hB2 hB3 m0 m1 m2 m3
  by_cases hok : G.Ok
  · rw [if_pos (show GeoOk G.b G.l G.y G.s G.p G.w from hok)] at hchk
    have HP := Aside0.mk (show putD G s = ([], 130) by unfold putD; rw [if_pos hok, if_neg HNO.out])
    have HCK := Lib.hid hchk
    clear hchk hok
    go_enter Tryd.func7, Tryd.ntmps7
    go_wp2_with fail
    rw [← HB3.out, ← HB2.out]
    refine (geom_Check.calls 8 G.b G.l G.y G.s G.p G.w 0 _ HCK.out).mono ?_
    rintro e w1 ⟨rfl, hb⟩
    have H1 := Aside0.mk (HO.out.move hb)
    obtain ⟨x0, x1, x2, x3, x4, x5⟩ := cells6 H1.out.drop.pt
    obtain ⟨y0, y1, y2, y3, _, _, _, _⟩ := cells4 H1.out.pt
    have HD1 := Aside0.mk (HD.out.below H1.out.below)
    clear hb HO
    go_wp2_with fail
    have d1 := HD1.out
    refine (snap_Fits.calls _ G.b G.l G.y G.s G.p G.w A0 c0 s.fl A1 c1 s.co A2 c2 s.sl A3 c3 s.tl false _ d1.r0 d1.h0 d1.r1 d1.h1 d1.r2 d1.h2 d1.r3 d1.h3 HFT.out).mono ?_
    rintro e w2 ⟨rfl, hb⟩
    have H2 := Aside0.mk (H1.out.move hb)
    clear hb H1 d1 x0 x1 x2 x3 x4 x5 y0 y1 y2 y3
    go_wp2_with fail
    go_ret2
    rw [HP.out]
    exact ⟨_, rfl, txt_nil H2.out.drop.drop⟩
  · rw [if_neg (show ¬ GeoOk G.b G.l G.y G.s G.p G.w from hok)] at hchk
    have HP := Aside0.mk (show putD G s = ([], 60) by unfold putD; rw [if_neg hok])
    have HCK := Lib.hid hchk
    clear hchk hok
    go_enter Tryd.func7, Tryd.ntmps7
    go_wp2_with fail
    refine (geom_Check.calls 8 G.b G.l G.y G.s G.p G.w 60 _ HCK.out).mono ?_
    rintro e w1 ⟨rfl, hb⟩
    have H1 := Aside0.mk (HO.out.move hb)
    clear hb HO
    go_wp2_with fail
    go_ret2
    rw [HP.out]
    exact ⟨_, rfl, txt_nil H1.out.drop.drop⟩
def snp.T19 : Bool × List (List Nat × List Nat) := (true, [([], []), ([], []), ([1, 0], [1]), ([], []), ([3], [3]), ([2, 4], [2, 4]), ([2], []), ([5, 6], [5, 6]), ([7, 6], [7]), ([0, 8], [0, 8]), ([9, 8, 0, 1, 2, 3, 4, 5, 6, 7, 8, 9], [9])])
def snp.B19 : List Nat := [0, 0, 3, 0, 8, 31, 7, 127, 255, 511, 1023]
theorem snp.tab19 : rtab .any (opsOf Tryd.f7 19) = snp.T19 := by kernel_rfl
theorem snp.bits19 : waitsOk snp.T19.2 snp.B19 = true := by kernel_rfl
theorem own_len {w0 w : World} {b : Nat} {s : ByteArray} {L : List Asn} (h : Own.Own w0 w (BldA b s :: L)) (n : Nat) (hn : s.size = n) :
    Calls Tryd.prog 24 #[.pointer (some ⟨b, 0, none⟩)] w fun e w' => e = .returned (.int .i64 (n : Nat)) ∧ w' = w := by
  have := Any.Builder_Len_f lays170 w0.heap.size b (Lib.strCells s) w (bld_isF h)
  rw [Lib.strCells_length, hn] at this
  exact this
def lenS : Value → Nat
  | .string s => s.size
  | _ => 0
theorem flS_next (l : List Int) (i : Nat) : flS l i ++ leStr (l.getD i 0) 6 = flS l (i + 1) := rfl
theorem small6 {v : Int} (h0 : 0 ≤ v) (h : v ≤ 281474976710655) : v < 72057594037927936 ∧ v / 2 ^ (6 * 8) = 0 := by
  have q : (2 : Int) ^ (6 * 8) = 281474976710656 := by decide
  rw [q]
  exact ⟨by omega, by omega⟩
theorem small4 {v : Int} (h0 : 0 ≤ v) (h : v ≤ 4294967295) : v < 72057594037927936 ∧ v / 2 ^ (4 * 8) = 0 := by
  have q : (2 : Int) ^ (4 * 8) = 4294967296 := by decide
  rw [q]
  exact ⟨by omega, by omega⟩
theorem small3 {v : Int} (h0 : 0 ≤ v) (h : v ≤ 16777215) : v < 72057594037927936 ∧ v / 2 ^ (3 * 8) = 0 := by
  have q : (2 : Int) ^ (3 * 8) = 16777216 := by decide
  rw [q]
  exact ⟨by omega, by omega⟩
set_option maxHeartbeats 8000000 in
set_option maxRecDepth 100000 in
theorem put_yes {w : World} (G : G6) (s : Dur) (A0 A1 A2 A3 : Option Addr) (c0 c1 c2 c3 : Nat) (hb : (Lit.int .i64 G.b).wf = true) (hl : (Lit.int .i64 G.l).wf = true) (hD : DurAt w s A0 A1 A2 A3 c0 c1 c2 c3) (hfit : FitsD G s) :
    Calls Tryd.prog 7 #[geoV G, durV s A0 A1 A2 A3 c0 c1 c2 c3] w fun e w' => ∃ v, e = .returned (.tuple #[v, .int .i64 (putD G s).2]) ∧ Own.Own w w' [Txt v (putD G s).1] := by
  have hchk := check_some G.b G.l G.y G.s G.p G.w hb hl 8 (Nat.le_refl _)
  have hft := fits_is G s hb hl (Kd.C_max hD.r0) (Kd.C_max hD.r1) (Kd.C_max hD.r2) (Kd.C_max hD.r3) _ (Nat.lt_succ_self _)
  rw [decide_eq_true hfit] at hft
  have HD := Aside0.mk hD
  have HFT := Aside0.mk hft
  have HFIT := Aside0.mk hfit
  have hok := hfit.1
  obtain ⟨⟨n1, n2⟩, ⟨n3, n4⟩, ⟨n5, n6⟩, _, _⟩ := hok.nums
  have hfl : s.fl.length = G.s.toNat := by have := hfit.2.1.2; omega
  have hco : s.co.length = G.b.toNat := by have := hfit.2.2.1.2; omega
  have hsl : s.sl.length = G.b.toNat := by have := hfit.2.2.2.1.2; omega
  have htl : s.tl.length = G.b.toNat := by have := hfit.2.2.2.2.2; omega
  have hfl4 : s.fl.length ≤ 4096 := by omega
  have ha := ((Own.Own.new w).alloc (geoC G)).alloc (.cells #[.slice A0 s.fl.length c0, .slice A1 s.co.length c1, .slice A2 s.sl.length c2, .slice A3 s.tl.length c3] 26)
  rw [World.size_alloc] at ha
  obtain ⟨B2, hB2⟩ : ∃ B, B = w.heap.size := ⟨_, rfl⟩
  obtain ⟨B3, hB3⟩ : ∃ B, B = w.heap.size + 1 := ⟨_, rfl⟩
  rw [← hB3, ← hB2] at ha
  have HO := Aside0.mk ha
  have HB2 := Lib.hid hB2
  have HB3 := Lib.hid hB3
  have HOK := Lib.hid hok
  have HFL := Lib.hid hfl
  have HCO := Lib.hid hco
  have HSL := Lib.hid hsl
  have HTL := Lib.hid htl
  rw [if_pos (show GeoOk G.b G.l G.y G.s G.p G.w from hok)] at hchk
  have HP := Aside0.mk (show putD G s = (pagesOf (allS G s) G.y.toNat (snN G), 0) by unfold putD; rw [if_pos hok, if_pos hfit])
  have HCK := Lib.hid hchk
  clear hft hD ha hB2 hB3 hfit hchk hok hfl hco hsl htl hb hl
  go_enter Tryd.func7, Tryd.ntmps7
  have hmf : ∀ (fn : Fn) (first cap : Array Value) (w : World), (Instr.makeFunc fn first cap).run Tryd.prog w = .ok (.func fn first cap) w := fun _ _ _ _ => rfl
  go_wp2_with fail
  rw [← HB3.out, ← HB2.out]
  refine (geom_Check.calls 8 G.b G.l G.y G.s G.p G.w 0 _ HCK.out).mono ?_
  rintro e w1 ⟨rfl, hb⟩
  have H1 := Aside0.mk (HO.out.move hb)
  obtain ⟨x0, x1, x2, x3, x4, x5⟩ := cells6 H1.out.drop.pt
  obtain ⟨y0, y1, y2, y3, _, _, _, _⟩ := cells4 H1.out.pt
  have HD1 := Aside0.mk (HD.out.below H1.out.below)
  clear hb HO
  go_wp2_with fail
  have d1 := HD1.out
  refine (snap_Fits.calls _ G.b G.l G.y G.s G.p G.w A0 c0 s.fl A1 c1 s.co A2 c2 s.sl A3 c3 s.tl true _ d1.r0 d1.h0 d1.r1 d1.h1 d1.r2 d1.h2 d1.r3 d1.h3 HFT.out).mono ?_
  rintro e w2 ⟨rfl, hb⟩
  have H2 := Aside0.mk (own_bld (H1.out.move hb))
  obtain ⟨B6, hB6⟩ : ∃ B, B = w2.heap.size := ⟨_, rfl⟩
  rw [← hB6] at H2
  have HB6 := Lib.hid hB6
  clear hb H1 d1 x0 x1 x2 x3 x4 x5 y0 y1 y2 y3 HD1 hB6 HFT HCK
  obtain ⟨y0, y1, y2, y3, _, _, _, _⟩ := cells4 H2.out.drop.pt
  go_upto_region 7 with (fail)
  rw [← HB6.out]
  generalize hW : World.alloc w2 _ = w3 at H2 y0 y1 y2 y3 ⊢
  clear hW HB6
  go_wp2_with fail
  go_loopw [26] (fun v26 wr => ∃ i : Nat, i ≤ s.fl.length ∧ v26 = .int .i64 i ∧ Aside0 (Own.Own w wr (BldA B6 (flS s.fl i) :: [Pt B3 (.cells #[.slice A0 s.fl.length c0, .slice A1 s.co.length c1, .slice A2 s.sl.length c2, .slice A3 s.tl.length c3] 26), Pt B2 (geoC G)]))) (fun v26 _ => s.fl.length - (intOf v26).toNat)
  case atStart => exact ⟨0, by omega, rfl, H2⟩
  case round =>
    clear H2 y0 y1 y2 y3
    obtain ⟨i, hi, rfl, HO⟩ := hrel
    by_cases hlt : i < s.fl.length
    · have dl : decide ((i : Int) < (s.fl.length : Int)) = true := decide_eq_true (by omega)
      have dln : decide (i < s.fl.length) = true := decide_eq_true hlt
      obtain ⟨ad, rfl, q0⟩ := Kd.at_int (Kd.C_below HD.out.r0 HO.out.below) (i : Int) (by omega) (by omega)
      rw [rd_getD, Int.toNat_natCast] at q0
      have hb6 := inL_getD HFIT.out.2.1 (by decide) i
      obtain ⟨v, hv⟩ : ∃ v, v = s.fl.getD i 0 := ⟨_, rfl⟩
      rw [← hv] at q0 hb6
      have HV := Lib.hid hv
      have g1 : (0 ≤ (i : Int)) = True := eq_true (by omega)
      have g2 : ((i : Int) < (s.fl.length : Nat)) = True := eq_true (by omega)
      have g3 : (i < s.fl.length) = True := eq_true hlt
      have hs6 := small6 hb6.1 hb6.2
      have HPUT := Aside0.mk (put1_own v 6 hb6.1 hs6.1 hs6.2 (by decide) (by decide) HO.out away2 (by rw [flS_size]; have := HFL.out; omega))
      clear hv hb6 hs6 HO
      go_wp2_with fail
      refine HPUT.out.mono ?_
      rintro e w4 ⟨rfl, ho⟩
      rw [HV.out, flS_next] at ho
      have H4 := Aside0.mk ho
      clear ho HPUT q0
      go_wp2_with fail
      go_roundw
      case rel => exact ⟨i + 1, by omega, by go_num, H4⟩
      case measure => simp [intOf]; omega
    · obtain rfl : i = s.fl.length := by omega
      have dl : decide ((s.fl.length : Int) < (s.fl.length : Int)) = false := decide_eq_false (by omega)
      have dln : decide (s.fl.length < s.fl.length) = false := decide_eq_false (by omega)
      have hfl := HFL.out
      have H5 := Aside0.mk (show Own.Own w wr (BldA B6 (blS s s.fl.length 0) :: [Pt B3 (.cells #[.slice A0 s.fl.length c0, .slice A1 s.co.length c1, .slice A2 s.sl.length c2, .slice A3 s.tl.length c3] 26), Pt B2 (geoC G)]) from HO.out)
      obtain ⟨x0, x1, x2, x3, x4, x5⟩ := cells6 H5.out.drop.drop.pt
      clear HO hfl
      go_wp2_with fail
      obtain ⟨bb, hbb⟩ : ∃ bb : Nat, G.b = bb := ⟨G.b.toNat, by omega⟩
      have HBB := Lib.hid hbb
      have hbb64 : bb ≤ 64 := by omega
      rw [hbb]
      clear hbb x0 x1 x2 x3 x4 x5
      go_loopw [36] (fun v36 wr => ∃ i : Nat, i ≤ bb ∧ v36 = .int .i64 i ∧ Aside0 (Own.Own w wr (BldA B6 (blS s s.fl.length i) :: [Pt B3 (.cells #[.slice A0 s.fl.length c0, .slice A1 s.co.length c1, .slice A2 s.sl.length c2, .slice A3 s.tl.length c3] 26), Pt B2 (geoC G)]))) (fun v36 _ => bb - (intOf v36).toNat)
      case atStart => exact ⟨0, by omega, rfl, H5⟩
      case round =>
        clear H5
        obtain ⟨i, hi, rfl, HO⟩ := hrel
        have hBB := HBB.out
        by_cases hlt : i < bb
        · have dl : decide ((i : Int) < (bb : Int)) = true := decide_eq_true (by omega)
          have dln : decide (i < bb) = true := decide_eq_true hlt
          have hco := HCO.out
          have hsl := HSL.out
          have htl := HTL.out
          obtain ⟨a1, rfl, q1⟩ := Kd.at_int (Kd.C_below HD.out.r1 HO.out.below) (i : Int) (by omega) (by omega)
          obtain ⟨a2, rfl, q2⟩ := Kd.at_int (Kd.C_below HD.out.r2 HO.out.below) (i : Int) (by omega) (by omega)
          obtain ⟨a3, rfl, q3⟩ := Kd.at_int (Kd.C_below HD.out.r3 HO.out.below) (i : Int) (by omega) (by omega)
          rw [rd_getD, Int.toNat_natCast] at q1 q2 q3
          have HQ2 := Aside0.mk (show ∀ W, Below w.heap.size w W → W.cell? (a2.add i) = some (.int .i64 (s.sl.getD i 0)) from fun W hb => by
            obtain ⟨a', e', q'⟩ := Kd.at_int (Kd.C_below HD.out.r2 hb) (i : Int) (by omega) (by omega)
            injection e' with e'
            subst e'
            rw [rd_getD, Int.toNat_natCast] at q'
            exact q')
          have HQ3 := Aside0.mk (show ∀ W, Below w.heap.size w W → W.cell? (a3.add i) = some (.int .i64 (s.tl.getD i 0)) from fun W hb => by
            obtain ⟨a', e', q'⟩ := Kd.at_int (Kd.C_below HD.out.r3 hb) (i : Int) (by omega) (by omega)
            injection e' with e'
            subst e'
            rw [rd_getD, Int.toNat_natCast] at q'
            exact q')
          have b1 := inL_getD HFIT.out.2.2.1 (by decide) i
          have b2 := inL_getD HFIT.out.2.2.2.1 (by decide) i
          have b3 := inL_getD HFIT.out.2.2.2.2 (by decide) i
          obtain ⟨v1, hv1⟩ : ∃ v, v = s.co.getD i 0 := ⟨_, rfl⟩
          obtain ⟨v2, hv2⟩ : ∃ v, v = s.sl.getD i 0 := ⟨_, rfl⟩
          obtain ⟨v3, hv3⟩ : ∃ v, v = s.tl.getD i 0 := ⟨_, rfl⟩
          rw [← hv1] at q1 b1
          rw [← hv2] at b2 HQ2
          rw [← hv3] at b3 HQ3
          have hnx : ((blS s s.fl.length i ++ leStr v1 4) ++ leStr v2 3) ++ leStr v3 3 = blS s s.fl.length (i + 1) := by rw [hv1, hv2, hv3]; rfl
          have HNX := Lib.hid hnx
          have s1 := small4 b1.1 b1.2
          have s2 := small3 b2.1 b2.2
          have s3 := small3 b3.1 b3.2
          have hz := blS_size s s.fl.length i
          have hz0 := HFL.out
          have HP1 := Aside0.mk (put1_own v1 4 b1.1 s1.1 s1.2 (by decide) (by decide) HO.out away2 (by omega))
          have S2 := Lib.hid s2
          have S3 := Lib.hid s3
          have HB2 := Lib.hid b2
          have HB3 := Lib.hid b3
          have HZ := Lib.hid hz
          have l1 : (i < s.co.length) = True := eq_true (by omega)
          have l2 : (i < s.sl.length) = True := eq_true (by omega)
          have l3 : (i < s.tl.length) = True := eq_true (by omega)
          have k1 : ((i : Int) < (s.co.length : Nat)) = True := eq_true (by omega)
          have k2 : ((i : Int) < (s.sl.length : Nat)) = True := eq_true (by omega)
          have k3 : ((i : Int) < (s.tl.length : Nat)) = True := eq_true (by omega)
          have g1 : (0 ≤ (i : Int)) = True := eq_true (by omega)
          obtain ⟨y0, y1, y2, y3, _, _, _, _⟩ := cells4 HO.out.drop.pt
          clear hv1 hv2 hv3 b1 b2 b3 s1 s2 s3 hnx q2 q3 hz hco hsl htl hz0 hBB HO
          go_wp2_with fail
          refine HP1.out.mono ?_
          rintro e w4 ⟨rfl, ho⟩
          have hz0 := HFL.out
          have HP2 := Aside0.mk (put1_own v2 3 HB2.out.1 S2.out.1 S2.out.2 (by decide) (by decide) ho away2 (by rw [ByteArray.size_append, leStr_size, HZ.out]; omega))
          have q2 := HQ2.out _ ho.below
          clear y0 y1 y2 y3 HP1 q1 hz0
          obtain ⟨y0, y1, y2, y3, _, _, _, _⟩ := cells4 ho.drop.pt
          clear ho
          go_wp2_with fail
          refine HP2.out.mono ?_
          rintro e w5 ⟨rfl, ho⟩
          have hz0 := HFL.out
          have HP3 := Aside0.mk (put1_own v3 3 HB3.out.1 S3.out.1 S3.out.2 (by decide) (by decide) ho away2 (by rw [ByteArray.size_append, ByteArray.size_append, leStr_size, leStr_size, HZ.out]; omega))
          have q3 := HQ3.out _ ho.below
          clear y0 y1 y2 y3 HP2 q2 hz0
          obtain ⟨y0, y1, y2, y3, _, _, _, _⟩ := cells4 ho.drop.pt
          clear ho
          go_wp2_with fail
          refine HP3.out.mono ?_
          rintro e w6 ⟨rfl, ho⟩
          rw [HNX.out] at ho
          have H6 := Aside0.mk ho
          clear ho HP3 q3 y0 y1 y2 y3
          go_wp2_with fail
          go_roundw
          case rel => exact ⟨i + 1, by omega, by go_num, H6⟩
          case measure => simp [intOf]; omega
        · obtain rfl : i = bb := by omega
          have dl : decide ((i : Int) < (i : Int)) = false := decide_eq_false (by omega)
          have dln : decide (i < i) = false := decide_eq_false (by omega)
          clear hBB
          go_upto_region 19 with (fail)
          obtain ⟨T, hT⟩ : ∃ T, T = blS s s.fl.length i := ⟨_, rfl⟩
          have hz : T.size = 6 * s.fl.length + 10 * i := by rw [hT, blS_size]
          obtain ⟨r1, r2, r3, r4, r5⟩ := snN_room HOK.out
          have hfl := HFL.out
          have hGy : (G.y.toNat : Int) = G.y := by omega
          have hGs : G.s.toNat = s.fl.length := hfl.symm
          have hGb : G.b.toNat = i := by have := HBB.out; omega
          rw [hGs, hGb] at r1 r2
          have hAll : T ++ zeroS (snN G * G.y.toNat - (6 * s.fl.length + 10 * i)) = allS G s := by
            rw [hT]; unfold allS; rw [hGs, hGb]
          obtain ⟨m, hm⟩ : ∃ m, m = snN G * G.y.toNat - (6 * s.fl.length + 10 * i) := ⟨_, rfl⟩
          obtain ⟨M, hM⟩ : ∃ M, M = snN G * G.y.toNat := ⟨_, rfl⟩
          obtain ⟨z, hzz⟩ : ∃ z, z = 6 * s.fl.length + 10 * i := ⟨_, rfl⟩
          have hMM : M ≤ 15360 := by
            have : snN G * G.y.toNat ≤ 60 * 256 := Nat.mul_le_mul r4 (by omega)
            omega
          have hmul : (snN G : Int) * G.y = (M : Int) := by rw [hM, Int.natCast_mul, hGy]
          have hw1 : wrap64 ((snN G : Int) * G.y) = (M : Int) := by rw [hmul]; exact w64 (by omega) (by omega)
          have hw2 : wrap64 ((M : Int) - (z : Int)) = (m : Int) := by rw [w64 (by omega) (by omega)]; omega
          have hsn := snaps_some (l := G.l) (p := G.p) (w := G.w) ⟨n1, n2⟩ ⟨n3, n4⟩ ⟨n5, n6⟩
          rw [r3] at hsn
          have hz1 : z ≤ 30000 := by omega
          have hz0 : 1 ≤ z := by omega
          have hm1 : m ≤ 15360 := by omega
          rw [← hzz] at hz
          rw [← hzz, ← hM] at hm
          rw [← hT] at HO
          rw [← hM, ← hzz, ← hm] at hAll
          have hqq : (9223372036854775807 < T.size + (zeroS m).size) = False := eq_false (by rw [hz, zeroS_size]; omega)
          have HSN := Lib.hid hsn
          have HZ := Lib.hid hz
          have HM := Lib.hid hm
          have HMr := Lib.hid hM
          have HAll := Lib.hid hAll
          clear hT r1 r2 r3 r4 r5 hfl hGy hGs hGb hsn hz hm hM hmul hzz hAll dl dln hlt hi
          refine quiet_exit ?_
          refine start_ (n := 11) (S := fun w' => w'.cell? ⟨B2, 0, none⟩ = some (.int .i64 G.b) ∧ w'.cell? ⟨B2, 1, none⟩ = some (.int .i64 G.l) ∧ w'.cell? ⟨B2, 2, none⟩ = some (.int .i64 G.y) ∧ w'.cell? ⟨B2, 3, none⟩ = some (.int .i64 G.s) ∧ w'.cell? ⟨B2, 4, none⟩ = some (.int .i64 G.p) ∧ w'.cell? ⟨B2, 5, none⟩ = some (.int .i64 G.w)) (ds := []) (tfA 0 11) (by kernel_rfl) rfl rfl ⟨(blk_cell HO.out.drew.drop.drop.pt 0).trans rfl, (blk_cell HO.out.drew.drop.drop.pt 1).trans rfl, (blk_cell HO.out.drew.drop.drop.pt 2).trans rfl, (blk_cell HO.out.drew.drop.drop.pt 3).trans rfl, (blk_cell HO.out.drew.drop.drop.pt 4).trans rfl, (blk_cell HO.out.drew.drop.drop.pt 5).trans rfl⟩ (fun hHeld => ?_)
          refine with_tabW snp.tab19 snp.bits19 (fun HT_ HW_ => ?_)
          refine pure_ (i := 3) (N := some 64) (v := ?_) (a' := ?_) #[false, false, false, true, false, false, false, false, false, false, false] rfl rfl (any_of HT_.out (by kernel_rfl)) (fun _ _ _ h => h) (Or.inl ⟨by rfl, ?_⟩) ?_ ?_
          rotate_left
          · intro w'
            go_simp
            with_reducible rfl
          rotate_left
          · simp only [Act.put, List.setIfInBounds_toArray, List.set_cons_zero, List.set_cons_succ, i64_w, i32_w]
            rfl
          refine take_ (i := 1) (N := some 62) (v := ?_) (a' := ?_) #[false, true, false, true, false, false, false, false, false, false, false] rfl rfl (take_ofW HT_.out HW_.out (by kernel_rfl)) (fun _ _ _ h => h) (Or.inl ⟨by rfl, ?_⟩) hHeld ?_ ?_
          rotate_left
          · rintro w' ⟨s0, s1, s2, s3, s4, s5⟩
            go_simp
            with_reducible rfl
          rotate_left
          · simp only [Act.put, List.setIfInBounds_toArray, List.set_cons_zero, List.set_cons_succ, i64_w, i32_w]
            rfl
          refine take_ (i := 4) (N := some 65) (v := ?_) (a' := ?_) #[false, true, false, true, true, false, false, false, false, false, false] rfl rfl (take_ofW HT_.out HW_.out (by kernel_rfl)) (fun _ _ _ h => h) (Or.inl ⟨by rfl, ?_⟩) hHeld ?_ ?_
          rotate_left
          · rintro w' ⟨s0, s1, s2, s3, s4, s5⟩
            go_simp
            with_reducible rfl
          rotate_left
          · simp only [Act.put, List.setIfInBounds_toArray, List.set_cons_zero, List.set_cons_succ, i64_w, i32_w]
            rfl
          refine one_ (i := 0) (N := some 61) #[true, true, false, true, true, false, false, false, false, false, false] rfl rfl (one_of HT_.out (by kernel_rfl)) (by decide) (fun K hK => ?_)
          refine goes_ Tryd.func21 (by kernel_rfl) rfl #[.pointer (some ⟨B6, 0, none⟩)] (by rfl) rfl rfl (by simp only [List.map_toArray, List.map_cons, List.map_nil]; rfl) ?_
          refine (own_string HO.out.drew away2 (by rw [HZ.out]; omega)).mono ?_
          rintro e w7 ⟨rfl, ho⟩
          have H7 := Aside0.mk ho
          refine ⟨_, rfl, ?_⟩
          clear ho HO
          refine hK.out _ _ ⟨(blk_cell H7.out.drop.drop.pt 0).trans rfl, (blk_cell H7.out.drop.drop.pt 1).trans rfl, (blk_cell H7.out.drop.drop.pt 2).trans rfl, (blk_cell H7.out.drop.drop.pt 3).trans rfl, (blk_cell H7.out.drop.drop.pt 4).trans rfl, (blk_cell H7.out.drop.drop.pt 5).trans rfl⟩ (fun hHeld => ?_)
          clear hK K
          refine norm_ (a' := ?_) ?_ ?_
          rotate_left
          · show Act.put _ (some 61) _ = _
            simp only [Act.put, List.setIfInBounds_toArray, List.set_cons_zero, List.set_cons_succ, i64_w, i32_w]
            rfl
          refine one_ (i := 2) (N := some 63) (tfA 5 11) rfl rfl (one_of HT_.out (by kernel_rfl)) (by decide) (fun K hK => ?_)
          refine goes_ Tryd.func23 (by kernel_rfl) rfl #[geoV G] (by rfl) rfl rfl (by simp only [List.map_toArray, List.map_cons, List.map_nil]; rfl) ?_
          refine (geom_Snaps.calls G.b G.l G.y G.s G.p G.w (snN G : Int) _ HSN.out).mono ?_
          rintro e w8 ⟨rfl, hb⟩
          have H8 := Aside0.mk (H7.out.move hb)
          refine ⟨_, rfl, ?_⟩
          clear hb H7
          refine hK.out _ _ ⟨(blk_cell H8.out.drop.drop.pt 0).trans rfl, (blk_cell H8.out.drop.drop.pt 1).trans rfl, (blk_cell H8.out.drop.drop.pt 2).trans rfl, (blk_cell H8.out.drop.drop.pt 3).trans rfl, (blk_cell H8.out.drop.drop.pt 4).trans rfl, (blk_cell H8.out.drop.drop.pt 5).trans rfl⟩ (fun hHeld => ?_)
          clear hK K
          refine norm_ (a' := ?_) ?_ ?_
          rotate_left
          · show Act.put _ (some 63) _ = _
            simp only [Act.put, List.setIfInBounds_toArray, List.set_cons_zero, List.set_cons_succ, i64_w, i32_w]
            rfl
          refine pure_ (i := 5) (N := some 66) (v := ?_) (a' := ?_) (tfA 6 11) rfl rfl (any_of HT_.out (by kernel_rfl)) (fun _ _ _ h => h) (Or.inl ⟨by rfl, ?_⟩) ?_ ?_
          rotate_left
          · intro w'
            go_simp
            with_reducible rfl
          rotate_left
          · simp only [Act.put, List.setIfInBounds_toArray, List.set_cons_zero, List.set_cons_succ, i64_w, i32_w]
            rfl
          refine one_ (i := 6) (N := some 67) (tfA 7 11) rfl rfl (one_of HT_.out (by kernel_rfl)) (by decide) (fun K hK => ?_)
          refine goes_ Tryd.func24 (by kernel_rfl) rfl #[.pointer (some ⟨B6, 0, none⟩)] (by rfl) rfl rfl (by simp only [List.map_toArray, List.map_cons, List.map_nil]; rfl) ?_
          refine (own_len H8.out z HZ.out).mono ?_
          rintro e w9 ⟨rfl, rfl⟩
          refine ⟨_, rfl, ?_⟩
          refine hK.out _ _ ⟨(blk_cell H8.out.drop.drop.pt 0).trans rfl, (blk_cell H8.out.drop.drop.pt 1).trans rfl, (blk_cell H8.out.drop.drop.pt 2).trans rfl, (blk_cell H8.out.drop.drop.pt 3).trans rfl, (blk_cell H8.out.drop.drop.pt 4).trans rfl, (blk_cell H8.out.drop.drop.pt 5).trans rfl⟩ (fun hHeld => ?_)
          clear hK K
          refine norm_ (a' := ?_) ?_ ?_
          rotate_left
          · show Act.put _ (some 67) _ = _
            simp only [Act.put, List.setIfInBounds_toArray, List.set_cons_zero, List.set_cons_succ, i64_w, i32_w]
            rfl
          refine pure_ (i := 7) (N := some 68) (v := ?_) (a' := ?_) (tfA 8 11) rfl rfl (any_of HT_.out (by kernel_rfl)) (fun _ _ _ h => h) (Or.inl ⟨by rfl, ?_⟩) ?_ ?_
          rotate_left
          · intro w'
            go_simp
            with_reducible rfl
          rotate_left
          · simp only [Act.put, List.setIfInBounds_toArray, List.set_cons_zero, List.set_cons_succ, i64_w, i32_w]
            rfl
          refine one_ (i := 8) (N := some 69) (tfA 9 11) rfl rfl (one_of HT_.out (by kernel_rfl)) (by decide) (fun K hK => ?_)
          (try rw [hw1, hw2])
          refine goes_ Tryd.func22 (by kernel_rfl) rfl #[.string ⟨#[0]⟩, .int .i64 (m : Int)] (by rfl) rfl rfl (by simp only [List.map_toArray, List.map_cons, List.map_nil]; rfl) ?_
          refine (Any.strings_Repeat lays105 extra105 ⟨#[0]⟩ m _ (by omega) (by show 1 * _ ≤ _; omega)).mono ?_
          rintro e w10 ⟨rfl, hb⟩
          have H9 := Aside0.mk (H8.out.move hb)
          refine ⟨_, rfl, ?_⟩
          rw [show (⟨(Lib.repeatL (⟨#[0]⟩ : ByteArray).data.toList m).toArray⟩ : ByteArray) = zeroS m from rfl]
          clear hb H8
          refine hK.out _ _ ⟨(blk_cell H9.out.drop.drop.pt 0).trans rfl, (blk_cell H9.out.drop.drop.pt 1).trans rfl, (blk_cell H9.out.drop.drop.pt 2).trans rfl, (blk_cell H9.out.drop.drop.pt 3).trans rfl, (blk_cell H9.out.drop.drop.pt 4).trans rfl, (blk_cell H9.out.drop.drop.pt 5).trans rfl⟩ (fun hHeld => ?_)
          clear hK K
          refine norm_ (a' := ?_) ?_ ?_
          rotate_left
          · show Act.put _ (some 69) _ = _
            simp only [Act.put, List.setIfInBounds_toArray, List.set_cons_zero, List.set_cons_succ, i64_w, i32_w]
            rfl
          refine pure_ (i := 9) (N := some 70) (v := ?_) (a' := ?_) (tfA 10 11) rfl rfl (any_of HT_.out (by kernel_rfl)) (fun _ _ _ h => h) (Or.inl ⟨by rfl, ?_⟩) ?_ ?_
          rotate_left
          · intro w'
            go_simp
            with_reducible rfl
          rotate_left
          · simp only [Act.put, List.setIfInBounds_toArray, List.set_cons_zero, List.set_cons_succ, i64_w, i32_w]
            rfl
          refine pure_ (i := 10) (N := some 11) (v := ?_) (a' := ?_) (tfA 11 11) rfl rfl (any_of HT_.out (by kernel_rfl)) (fun _ _ _ h => h) (Or.inl ⟨by rfl, ?_⟩) ?_ ?_
          rotate_left
          · intro w'
            go_simp
            with_reducible rfl
          rotate_left
          · simp only [Act.put, List.setIfInBounds_toArray, List.set_cons_zero, List.set_cons_succ, i64_w, i32_w]
            rfl
          refine done_ (done_of HT_.out (by kernel_rfl)) ?_
          clear hHeld
          refine then_n ?_
          rw [HAll.out]
          obtain ⟨A, hA⟩ : ∃ A, A = allS G s := ⟨_, rfl⟩
          have hAz : A.size = M := by rw [hA, allS_size HOK.out, HMr.out]
          obtain ⟨yn, hyn⟩ : ∃ yn : Nat, G.y = (yn : Int) := ⟨G.y.toNat, by omega⟩
          obtain ⟨N, hN⟩ : ∃ N, N = snN G := ⟨_, rfl⟩
          have hMN : M = N * yn := by rw [HMr.out, hN, hyn, Int.toNat_natCast]
          have hR0 : A.extract (0 * yn) M = A := by
            rw [Nat.zero_mul, ← hAz]
            exact bext (by rw [size_extract' _ _ _ (Nat.le_refl _)]; rfl) (fun j hj => by rw [size_extract' _ _ _ (Nat.le_refl _)] at hj; rw [bn_extract _ _ _ _ hj (Nat.le_refl _), Nat.zero_add])
          have hpv : (pagesOf (allS G s) G.y.toNat (snN G)) = pagesOf A yn N := by rw [hA, hN, hyn, Int.toNat_natCast]
          have hp := HP.out
          rw [hpv] at hp
          have HP := Aside0.mk hp
          have HA := Lib.hid hA
          have HAZ := Lib.hid hAz
          have HYN := Lib.hid hyn
          have HMN := Lib.hid hMN
          have HN := Lib.hid hN
          have y16 : 16 ≤ yn := by omega
          have y256 : yn ≤ 256 := by omega
          have H10 := Aside0.mk (txt_nil H9.out)
          rw [← hA]
          clear hA hAz hyn hN hMN hpv hp hw1 hw2 hqq H9 HB2 HB3 hmf HAll
          go_upto_region 21 with (fail)
          go_loopw [11, 12] (fun v11 v12 wr => ∃ (k : Nat), k ≤ N ∧ v11 = .string (A.extract (k * yn) M) ∧ Aside0 (Own.Own w wr (Txt v12 (pagesOf A yn k) :: BldA B6 T :: [Pt B3 (.cells #[.slice A0 s.fl.length c0, .slice A1 s.co.length c1, .slice A2 s.sl.length c2, .slice A3 s.tl.length c3] 26), Pt B2 (geoC G)]))) (fun v11 _ _ => lenS v11)
          case atStart => exact ⟨0, by omega, by rw [hR0], H10⟩
          case round =>
            clear H10
            obtain ⟨k, hk, rfl, HO⟩ := hrel
            have hyn := HYN.out
            have hMN := HMN.out
            have hAz := HAZ.out
            by_cases hkN : k < N
            · have hle : (k + 1) * yn ≤ N * yn := Nat.mul_le_mul_right _ hkN
              rw [Nat.succ_mul] at hle
              obtain ⟨R, hR⟩ : ∃ R, R = A.extract (k * yn) M := ⟨_, rfl⟩
              have hRz : R.size = M - k * yn := by rw [hR, size_extract' _ _ _ (by omega)]
              rw [← hR]
              have hR16 : yn ≤ R.size := by omega
              have hRe : R.toList.isEmpty = false := by
                rw [ByteArray.toList_eq]
                cases hd : R.data.toList with
                | nil =>
                  have : R.size = 0 := by show R.data.size = 0; rw [← Array.length_toList, hd]; rfl
                  omega
                | cons _ _ => rfl
              obtain ⟨P, hP⟩ : ∃ P, P = R.extract 0 yn := ⟨_, rfl⟩
              obtain ⟨R2, hR2⟩ : ∃ R2, R2 = R.extract yn R.size := ⟨_, rfl⟩
              have hPP : P = A.extract (k * yn) (k * yn + yn) := by
                rw [hP]
                refine bext (by rw [size_extract' _ _ _ hR16, size_extract' _ _ _ (by omega)]; omega) (fun j hj => ?_)
                rw [size_extract' _ _ _ hR16] at hj
                rw [bn_extract _ _ _ _ hj hR16, hR, bn_extract _ _ _ _ (by omega) (by omega), bn_extract _ _ _ _ (by omega) (by omega), Nat.zero_add]
              have hRR : R2 = A.extract ((k + 1) * yn) M := by
                rw [hR2, Nat.succ_mul]
                refine bext (by rw [size_extract' _ _ _ (Nat.le_refl _), size_extract' _ _ _ (by omega)]; omega) (fun j hj => ?_)
                rw [size_extract' _ _ _ (Nat.le_refl _)] at hj
                rw [bn_extract _ _ _ _ hj (Nat.le_refl _), hR, bn_extract _ _ _ _ (by omega) (by omega), bn_extract _ _ _ _ (by omega) (by omega)]
                congr 1; omega
              have hR2z : R2.size < R.size := by rw [hR2, size_extract' _ _ _ (Nat.le_refl _)]; omega
              have hpn : pagesOf A yn k ++ [P] = pagesOf A yn (k + 1) := by rw [hPP]; unfold pagesOf; rw [List.range_succ, List.map_append]; rfl
              have hP' : R.extract 0 yn = P := hP.symm
              have hR2' : R.extract yn R.size = R2 := hR2.symm
              have HRR := Lib.hid hRR
              have HR2z := Lib.hid hR2z
              have HPN := Lib.hid hpn
              have hlp : ((pagesOf A yn k).length + 1) * 16 ≤ 140737488355328 := by
                have := HN.out
                have := (snN_room HOK.out).2.2.2.1
                rw [pages_len]; omega
              have HLP := Lib.hid hlp
              obtain ⟨x0, x1, x2, x3, x4, x5⟩ := cells6 HO.out.drop.drop.drop.pt
              rw [hyn] at x2
              clear hR hP hR2 hPP hRR hR2z hpn hRz hle hMN hAz hlp hyn
              go_wp2_with (at_builtin; refine own_append (w0 := w) Kd.string rfl (.tmp 77) (.tmp 82) 27 9 (.string ⟨#[]⟩) 16 rfl Tryd.underlying27 infoStr rfl (by decide) (by decide) u12 (pagesOf A yn k) P [.string P] (by first | rfl | (go_simp; done)) (by first | rfl | (go_simp; done)) rfl HO.out HLP.out ?_; intro v1 w4 ho; rw [HPN.out] at ho; have H4 := Aside0.mk ho; obtain ⟨x0, x1, x2, x3, x4, x5⟩ := cells6 ho.drop.drop.drop.pt; rw [HYN.out] at x2; clear ho)
              go_roundw
              case rel => exact ⟨k + 1, by omega, by rw [HRR.out], H4⟩
              case measure => exact HR2z.out
            · obtain rfl : k = N := by omega
              obtain ⟨R, hR⟩ : ∃ R, R = A.extract (k * yn) M := ⟨_, rfl⟩
              have hRz : R.size = 0 := by rw [hR, size_extract' _ _ _ (by omega)]; omega
              rw [← hR]
              have hRe : R.toList.isEmpty = true := by
                rw [ByteArray.toList_eq]
                cases hd : R.data.toList with
                | nil => rfl
                | cons a l =>
                  have : R.size = l.length + 1 := by show R.data.size = _; rw [← Array.length_toList, hd]; rfl
                  omega
              clear hR hRz hMN hAz hyn
              go_wp2_with fail
              go_ret2
              rw [HP.out]
              exact ⟨_, rfl, (own_swap [_] [_, _, _] HO.out).drop.drop.drop⟩
theorem put_calls {w : World} (G : G6) (s : Dur) (A0 A1 A2 A3 : Option Addr) (c0 c1 c2 c3 : Nat) (hb : (Lit.int .i64 G.b).wf = true) (hl : (Lit.int .i64 G.l).wf = true) (hD : DurAt w s A0 A1 A2 A3 c0 c1 c2 c3) :
    Calls Tryd.prog 7 #[geoV G, durV s A0 A1 A2 A3 c0 c1 c2 c3] w fun e w' => ∃ v, e = .returned (.tuple #[v, .int .i64 (putD G s).2]) ∧ Own.Own w w' [Txt v (putD G s).1] := by
  by_cases h : FitsD G s
  · exact put_yes G s A0 A1 A2 A3 c0 c1 c2 c3 hb hl hD h
  · exact put_no G s A0 A1 A2 A3 c0 c1 c2 c3 hb hl hD h
end Go.Proofs.YteofihmeiikhbaaDoor.PG
end

section
/- Package snap: what is the same, in plain words. -/
set_option linter.unusedVariables false
set_option linter.unusedSimpArgs false
namespace Go.Proofs.YteofihmeiikhbaaDoor.PG
open Go.RowKit Go.Proofs.YteofihmeiikhbaaDoor.Hw Go.Proofs.YteofihmeiikhbaaDoorW.PrintWords Go.Proofs.YteofihmeiikhbaaDoorW.PrintLast Go.Proofs.YteofihmeiikhbaaDoor.Own

theorem sameI_l0 (a b : List Int) (he : a.length = b.length) (hl : a.length ≤ 9223372036854775806) : ∀ (d k i : Nat), a.length - i = d → i ≤ a.length → d < k → (∀ q, q < i → a.getD q 0 = b.getD q 0) → decklebook_SameInts.l0 k a b true i = some (decide (a = b))
  | 0, k, i, hd, hi, hk, hq => by
    obtain ⟨k, rfl⟩ : ∃ q, k = q + 1 := ⟨k - 1, by omega⟩
    rw [decklebook_SameInts.l0, if_pos rfl, if_neg (by omega), decide_eq_true]
    apply List.ext_getElem he
    intro q h1 h2
    have := hq q (by omega)
    rw [List.getD_eq_getElem?_getD, List.getD_eq_getElem?_getD, List.getElem?_eq_getElem h1, List.getElem?_eq_getElem h2] at this
    exact this
  | d + 1, k, i, hd, hi, hk, hq => by
    obtain ⟨k, rfl⟩ : ∃ q, k = q + 1 := ⟨k - 1, by omega⟩
    rw [decklebook_SameInts.l0, if_pos rfl, if_pos (by omega), if_pos (by omega), if_pos (by omega), rd_getD, rd_getD, w64 (by omega) (by omega)]
    by_cases c : a.getD i 0 = b.getD i 0
    · rw [beq_iff_eq.2 c, show (i : Int) + 1 = ((i + 1 : Nat) : Int) by omega]
      refine sameI_l0 a b he hl d k (i + 1) (by omega) (by omega) (by omega) (fun q h => ?_)
      by_cases e : q = i
      · rw [e]; exact c
      · exact hq q (by omega)
    · rw [beq_eq_false_iff_ne.2 c, decide_eq_false (fun h => c (by rw [h]))]
      obtain ⟨k, rfl⟩ : ∃ q, k = q + 1 := ⟨k - 1, by omega⟩
      rw [decklebook_SameInts.l0, if_neg (by decide)]
theorem sameI_is (a b : List Int) (hl : a.length ≤ 9223372036854775806) (k : Nat) (hk : a.length + 1 < k) : decklebook_SameInts.f k a b = some (decide (a = b)) := by
  unfold decklebook_SameInts.f
  by_cases he : a.length = b.length
  · rw [show ((a.length : Int) == (b.length : Int)) = true from beq_iff_eq.2 (by omega)]
    exact sameI_l0 a b he hl a.length k 0 (by omega) (by omega) (by omega) (fun q h => by omega)
  · rw [show ((a.length : Int) == (b.length : Int)) = false from beq_eq_false_iff_ne.2 (by omega), decide_eq_false (fun h => he (by rw [h]))]
    obtain ⟨k, rfl⟩ : ∃ q, k = q + 1 := ⟨k - 1, by omega⟩
    rw [decklebook_SameInts.l0, if_neg (by decide)]
theorem tl_inj (a b : ByteArray) : a.toList = b.toList ↔ a = b := by
  rw [ByteArray.toList_eq, ByteArray.toList_eq]
  exact ⟨fun h => ByteArray.ext (Array.ext' h), fun h => by rw [h]⟩
theorem rdOf_getD (l : List ByteArray) (i : Nat) : rdOf ByteArray.empty l (i : Int) = l.getD i ByteArray.empty := by unfold rdOf; rw [Int.toNat_natCast]
theorem sameT_l0 (a b : List ByteArray) (he : a.length = b.length) (hl : a.length ≤ 9223372036854775806) : ∀ (d k i : Nat), a.length - i = d → i ≤ a.length → d < k → (∀ q, q < i → a.getD q ByteArray.empty = b.getD q ByteArray.empty) → decklebook_SameTexts.l0 k a b true i = some (decide (a = b))
  | 0, k, i, hd, hi, hk, hq => by
    obtain ⟨k, rfl⟩ : ∃ q, k = q + 1 := ⟨k - 1, by omega⟩
    rw [decklebook_SameTexts.l0, if_pos rfl, if_neg (by omega), decide_eq_true]
    apply List.ext_getElem he
    intro q h1 h2
    have := hq q (by omega)
    rw [List.getD_eq_getElem?_getD, List.getD_eq_getElem?_getD, List.getElem?_eq_getElem h1, List.getElem?_eq_getElem h2] at this
    exact this
  | d + 1, k, i, hd, hi, hk, hq => by
    obtain ⟨k, rfl⟩ : ∃ q, k = q + 1 := ⟨k - 1, by omega⟩
    rw [decklebook_SameTexts.l0, if_pos rfl, if_pos (by omega), if_pos (by omega), if_pos (by omega), rdOf_getD, rdOf_getD, w64 (by omega) (by omega)]
    by_cases c : a.getD i ByteArray.empty = b.getD i ByteArray.empty
    · rw [beq_iff_eq.2 ((tl_inj _ _).2 c), show (i : Int) + 1 = ((i + 1 : Nat) : Int) by omega]
      refine sameT_l0 a b he hl d k (i + 1) (by omega) (by omega) (by omega) (fun q h => ?_)
      by_cases e : q = i
      · rw [e]; exact c
      · exact hq q (by omega)
    · rw [beq_eq_false_iff_ne.2 (fun h => c ((tl_inj _ _).1 h)), decide_eq_false (fun h => c (by rw [h]))]
      obtain ⟨k, rfl⟩ : ∃ q, k = q + 1 := ⟨k - 1, by omega⟩
      rw [decklebook_SameTexts.l0, if_neg (by decide)]
theorem sameT_is (a b : List ByteArray) (hl : a.length ≤ 9223372036854775806) (k : Nat) (hk : a.length + 1 < k) : decklebook_SameTexts.f k a b = some (decide (a = b)) := by
  unfold decklebook_SameTexts.f
  by_cases he : a.length = b.length
  · rw [show ((a.length : Int) == (b.length : Int)) = true from beq_iff_eq.2 (by omega)]
    exact sameT_l0 a b he hl a.length k 0 (by omega) (by omega) (by omega) (fun q h => by omega)
  · rw [show ((a.length : Int) == (b.length : Int)) = false from beq_eq_false_iff_ne.2 (by omega), decide_eq_false (fun h => he (by rw [h]))]
    obtain ⟨k, rfl⟩ : ∃ q, k = q + 1 := ⟨k - 1, by omega⟩
    rw [decklebook_SameTexts.l0, if_neg (by decide)]
def sameB (s t : Dur) : Bool := decide (s.fl = t.fl ∧ s.co = t.co ∧ s.sl = t.sl ∧ s.tl = t.tl)
theorem sameB_iff (s t : Dur) : sameB s t = true ↔ s = t := by
  unfold sameB
  rw [decide_eq_true_eq]
  cases s; cases t
  constructor
  · rintro ⟨h1, h2, h3, h4⟩
    simp only at h1 h2 h3 h4
    rw [h1, h2, h3, h4]
  · intro h
    injection h with h1 h2 h3 h4
    exact ⟨h1, h2, h3, h4⟩
theorem sameB_self (s : Dur) : sameB s s = true := (sameB_iff s s).2 rfl
theorem sameS_is (s t : Dur) (h0 : s.fl.length ≤ 9223372036854775806) (h1 : s.co.length ≤ 9223372036854775806) (h2 : s.sl.length ≤ 9223372036854775806) (h3 : s.tl.length ≤ 9223372036854775806) (k : Nat) (hk : s.fl.length + s.co.length + s.sl.length + s.tl.length + 1 < k) :
    decklebook_SameState.f k s.fl s.co s.sl s.tl t.fl t.co t.sl t.tl = some (sameB s t) := by
  unfold decklebook_SameState.f sameB
  rw [sameI_is _ _ h0 k (by omega), Option.bind_some]
  by_cases c0 : s.fl = t.fl
  · rw [decide_eq_true c0, if_pos rfl, sameI_is _ _ h1 k (by omega), Option.bind_some]
    by_cases c1 : s.co = t.co
    · rw [decide_eq_true c1, if_pos rfl, sameI_is _ _ h2 k (by omega), Option.bind_some]
      by_cases c2 : s.sl = t.sl
      · rw [decide_eq_true c2, if_pos rfl, sameI_is _ _ h3 k (by omega), Option.bind_some]
        congr 1
        rw [decide_eq_decide]
        exact ⟨fun h => ⟨c0, c1, c2, h⟩, fun h => h.2.2.2⟩
      · rw [decide_eq_false c2, if_neg (by decide), decide_eq_false (fun h => c2 h.2.2.1)]
    · rw [decide_eq_false c1, if_neg (by decide), decide_eq_false (fun h => c1 h.2.1)]
  · rw [decide_eq_false c0, if_neg (by decide), decide_eq_false (fun h => c0 h.1)]
/-- SameState, of whatever is small enough. -/
theorem same_calls {w : World} {s t : Dur} {A0 A1 A2 A3 D0 D1 D2 D3 : Option Addr} {c0 c1 c2 c3 d0 d1 d2 d3 : Nat} (hs : DurAt w s A0 A1 A2 A3 c0 c1 c2 c3) (ht : DurAt w t D0 D1 D2 D3 d0 d1 d2 d3)
    (h0 : s.fl.length ≤ 9223372036854775806) (h1 : s.co.length ≤ 9223372036854775806) (h2 : s.sl.length ≤ 9223372036854775806) (h3 : s.tl.length ≤ 9223372036854775806) :
    Calls Tryd.prog 14 #[durV s A0 A1 A2 A3 c0 c1 c2 c3, durV t D0 D1 D2 D3 d0 d1 d2 d3] w fun e w' => e = .returned (.bool (sameB s t)) ∧ Below w.heap.size w w' :=
  decklebook_SameState.calls _ A0 c0 s.fl A1 c1 s.co A2 c2 s.sl A3 c3 s.tl D0 d0 t.fl D1 d1 t.co D2 d2 t.sl D3 d3 t.tl _ w hs.r0 hs.h0 hs.r1 hs.h1 hs.r2 hs.h2 hs.r3 hs.h3 ht.r0 ht.h0 ht.r1 ht.h1 ht.r2 ht.h2 ht.r3 ht.h3 (sameS_is s t h0 h1 h2 h3 _ (Nat.lt_succ_self _))
end Go.Proofs.YteofihmeiikhbaaDoor.PG
end
