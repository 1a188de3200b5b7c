/- The law's proof: words, contracts of the functions that it reaches, plain lemmas. -/
import Derived.ArgAppend
import Derived.Below
import Derived.BigQuiet
import Derived.Carry
import Derived.Deep.AppendLies
import Derived.Deep.CutBlock
import Derived.Deep.DeepCutAuto
import Derived.Deep.Draws
import Derived.Deep.LoopGhost
import Derived.Deep.OwnRows
import Derived.Deep.QuietTactic
import Derived.Deep.RegionHeld3
import Derived.Deep.RegionWith
import Derived.KernelRfl
import Derived.Laws.BitsLemmas
import Derived.Laws.BytesArg
import Derived.Laws.IdiomCopy
import Derived.Laws.MakeOwn
import Derived.Laws.OwnMore
import Derived.Laws.Rows
import Derived.Laws.Slices
import Derived.Lib.AppendStr
import Derived.Lib.BufferMore
import Derived.Lib.ConvBytes
import Derived.Lib.Hide
import Derived.Lib.LazyBuf
import Derived.Maps.AppendAt
import Derived.OpenShut
import Derived.OrdersHeld
import Derived.Outline
import Derived.OwnWalk
import Derived.OwnWalkIn
import Derived.RegionTactic
import Derived.RowKit3
import Derived.StillTailTactics
import Derived.Tactics
import Derived.WalkKit
import Derived.WideLaws
import Derived.Test.YteofihmeiikhbaaDoorSb10
import Derived.Test.YteofihmeiikhbaaDoorSb16
import Derived.Test.YteofihmeiikhbaaDoorSb12
import Derived.WalkLawsBesides
import Derived.Defers
import Derived.Recover
import Derived.Laws.Pointers
import Derived.Test.YteofihmeiikhbaaDoorSb8
import Derived.Shelf.Strings.OnBuilder
section
/- Package snap, by hand: the reader, the closure that recovers. -/
set_option linter.unusedVariables false
set_option linter.unusedSimpArgs false
namespace Go.Proofs.YteofihmeiikhbaaDoor.PG
open Go.RowKit Go.Shelf Go.Proofs.YteofihmeiikhbaaDoor.Tf Go.Proofs.YteofihmeiikhbaaDoorW.PrintWords Go.Proofs.YteofihmeiikhbaaDoorW.PrintLast Go.Proofs.YteofihmeiikhbaaDoor.Mem Go.Proofs.YteofihmeiikhbaaDoor.Own Go.Proofs.YteofihmeiikhbaaDoor.Hw

/-- A reader, and what is left. -/
abbrev Eye (r : Nat) (left : ByteArray) : Asn := Pt r (.cells #[.string left] 65 (0, 0))
/-- Why it gives up. -/
abbrev wrongP (b : Bool) : PanicEntry := { v := .iface 60 (.agg #[]), recovered := b }
set_option maxHeartbeats 4000000 in
set_option maxRecDepth 100000 in
theorem next_own {w0 w : World} {L : List Asn} {r : Nat} {left : ByteArray} (n : Nat) (h1 : 1 ≤ n) (h7 : n ≤ 7) (hn : n ≤ left.size) (HO : Own.Own w0 w (Eye r left :: L)) :
    Calls Tryd.prog 29 #[.pointer (some ⟨r, 0, none⟩), .int .i64 n] w fun e w' => e = .returned (.int .i64 ((leV (left.extract 0 n) n : Nat) : Int)) ∧ Own.Own w0 w' (Eye r (left.extract n left.size) :: L) := by
  have d1 : decide ((left.size : Int) < (n : Int)) = false := decide_eq_false (by omega)
  have d2 : decide (left.size < n) = false := decide_eq_false (by omega)
  obtain ⟨Q, hQ⟩ : ∃ Q, Q = left.extract 0 n := ⟨_, rfl⟩
  obtain ⟨R, hR⟩ : ∃ R, R = left.extract n left.size := ⟨_, rfl⟩
  have hQz : Q.size = n := by rw [hQ, size_extract' _ _ _ hn]; omega
  have hg := get_is Q (by omega) (by omega) 12 (Nat.le_refl _)
  rw [hQz] at hg
  have hlt := leV_lt Q n
  have p1 : (256 : Nat) ^ n ≤ 256 ^ 7 := Nat.pow_le_pow_right (by decide) h7
  have p4 : (256 : Nat) ^ 7 = 72057594037927936 := by decide
  rw [← hQ, ← hR]
  have hQ' : left.extract 0 n = Q := hQ.symm
  have hR' : left.extract n left.size = R := hR.symm
  obtain ⟨v, hv⟩ : ∃ v, v = leV Q n := ⟨_, rfl⟩
  rw [← hv] at hg hlt ⊢
  have hv63 : v < 72057594037927936 := by omega
  have hw : wrap64 (v : Int) = (v : Int) := w64 (by omega) (by omega)
  have HG := Lib.hid hg
  have HA := Aside0.mk HO
  have x0 := blk_cell HO.pt 0
  have f0 := blk_frozen HO.pt 0
  simp only [List.getElem?_toArray, List.getElem?_cons_zero] at x0
  clear hQ hR hg hlt p1 p4 hv hQz HO
  go_enter Tryd.func29, Tryd.ntmps29
  go_wp2_with fail
  refine (bits_Get.calls 12 Q v 0 _ HG.out).mono ?_
  rintro e w1 ⟨rfl, hb⟩
  have HB := Aside0.mk (HA.out.move hb.below)
  clear hb HA x0 f0
  have x0 := blk_cell HB.out.pt 0
  have f0 := blk_frozen HB.out.pt 0
  simp only [List.getElem?_toArray, List.getElem?_cons_zero] at x0
  go_wp2_with fail
  go_ret
  exact ⟨rfl, HB.out.set (i := 0) (.string R)⟩
set_option maxHeartbeats 4000000 in
set_option maxRecDepth 100000 in
theorem end_yes {w0 w : World} {L : List Asn} {r : Nat} {left : ByteArray} (hs : left.size ≤ 1000000) (hz : allZ left) (HO : Own.Own w0 w (Eye r left :: L)) :
    Calls Tryd.prog 30 #[.pointer (some ⟨r, 0, none⟩)] w fun e w' => e = .returned (.tuple #[]) ∧ Own.Own w0 w' (Eye r left :: L) := by
  have HA := Aside0.mk HO
  have HZ := Aside0.mk hz
  have x0 := blk_cell HO.pt 0
  simp only [List.getElem?_toArray, List.getElem?_cons_zero] at x0
  have HT := Aside0.mk (trim_calls left w hs)
  clear HO hz hs
  go_enter Tryd.func30, Tryd.ntmps30
  go_wp2_with fail
  refine HT.out.mono ?_
  rintro e w1 ⟨⟨t, rfl, ht⟩, hb⟩
  have HB := Aside0.mk (HA.out.move hb)
  have h0 := ht.2 HZ.out
  have he : t.toList.isEmpty = true := by
    rw [ByteArray.toList_eq, List.isEmpty_iff, ← List.length_eq_zero_iff]
    exact h0
  clear hb HA ht h0
  go_wp2_with fail
  go_end0
  exact ⟨rfl, HB.out⟩
set_option maxHeartbeats 4000000 in
set_option maxRecDepth 100000 in
theorem end_no {w0 w : World} {L : List Asn} {r : Nat} {left : ByteArray} (hs : left.size ≤ 1000000) (hz : ¬ allZ left) (HO : Own.Own w0 w (Eye r left :: L)) :
    Calls Tryd.prog 30 #[.pointer (some ⟨r, 0, none⟩)] w fun e w' => e = .panicked [wrongP false] ∧ Own.Own w0 w' (Eye r left :: L) := by
  have HA := Aside0.mk HO
  have HZ := Aside0.mk hz
  have x0 := blk_cell HO.pt 0
  simp only [List.getElem?_toArray, List.getElem?_cons_zero] at x0
  have HT := Aside0.mk (trim_calls left w hs)
  clear HO hz hs
  go_enter Tryd.func30, Tryd.ntmps30
  go_wp2_with fail
  refine HT.out.mono ?_
  rintro e w1 ⟨⟨t, rfl, ht⟩, hb⟩
  have HB := Aside0.mk (HA.out.move hb)
  have he : t.toList.isEmpty = false := by
    rw [ByteArray.toList_eq]
    cases hx : t.data.toList with
    | nil => exact absurd (ht.1 (by show t.data.size = 0; rw [← Array.length_toList, hx]; rfl)) HZ.out
    | cons a l => rfl
  clear hb HA ht
  go_wp2_with fail
  exact ⟨rfl, rfl, HB.out⟩
set_option maxHeartbeats 4000000 in
set_option maxRecDepth 100000 in
theorem catch_panicking {w0 w : World} {L : List Asn} {B4 B5 : Nat} {v0 v1 v2 v3 v5 : Value} (older : List PanicEntry) (HO : Own.Own w0 w (Pt B4 (.cells #[v0, v1, v2, v3] 26 (0, 0)) :: Pt B5 (.cells #[v5] 29 (0, 0)) :: L)) :
    CallsD Tryd.prog 27 #[.pointer (some ⟨B4, 0, none⟩), .pointer (some ⟨B5, 0, none⟩)] (.panicking (wrongP false :: older)) w fun e u' w' =>
      e = .returned (.tuple #[]) ∧ u' = .panicking (wrongP true :: older) ∧ Own.Own w0 w' (Pt B4 (.cells #[.slice none 0 0, .slice none 0 0, .slice none 0 0, .slice none 0 0] 26 (0, 0)) :: Pt B5 (.cells #[.int .i64 130] 29 (0, 0)) :: L) := by
  have HA := Aside0.mk HO
  have H2 := HO.alloc' (.cells #[] 60)
  have n1 := own_ne2 HO
  have n2 := n1.symm
  obtain ⟨x0, x1, x2, x3, f0, f1, f2, f3⟩ := cells4 H2.pt
  have y0 := blk_cell H2.drop.pt 0
  have g0 := blk_frozen H2.drop.pt 0
  simp only [List.getElem?_toArray, List.getElem?_cons_zero] at y0
  refine callsD_of_wpS Tryd.func27 rfl fun cf cs hu => ?_
  simp only [Tryd.ntmps27, List.size_toArray, List.length_cons, List.length_nil, Nat.reduceAdd, Nat.reduceSub, Array.replicate_succ, Array.replicate_zero, List.push_toArray, List.append_toArray, List.nil_append, List.cons_append]
  apply wpS_seq
  apply wpS_region
  simp [wpOpsS, go_sem, recoverD, hu, Exit.thenS]
  have hta : ∀ w : World, (Instr.typeAssert (Value.iface 60 (Value.agg #[])) 20 60 true).run Tryd.prog w = .ok (.tuple #[.agg #[], .bool true]) w := fun w => by kernel_rfl
  refine wpS_of_wp ?_
  go_wp2_with fail
  exact ⟨rfl, _, rfl, _, by simp [results, Tryd.results27, go_sem], rfl, rfl, (((((H2.set (i := 0) (.slice none 0 0)).set (i := 1) (.slice none 0 0)).set (i := 2) (.slice none 0 0)).set (i := 3) (.slice none 0 0)).pull2.set (i := 0) (.int .i64 130)).pull2⟩
theorem catch_idle (B4 B5 : Nat) (w : World) :
    CallsD Tryd.prog 27 #[.pointer (some ⟨B4, 0, none⟩), .pointer (some ⟨B5, 0, none⟩)] .returning w fun e u' w' => e = .returned (.tuple #[]) ∧ u' = .returning ∧ w' = w := by
  refine callsD_of_wpS Tryd.func27 rfl fun cf cs hu => ?_
  simp only [Tryd.ntmps27, List.size_toArray, List.length_cons, List.length_nil, Nat.reduceAdd, Nat.reduceSub, Array.replicate_succ, Array.replicate_zero, List.push_toArray, List.append_toArray, List.nil_append, List.cons_append]
  apply wpS_seq
  apply wpS_region
  simp [wpOpsS, go_sem, recoverD, hu, Exit.thenS]
  refine wpS_of_wp ?_
  go_wp2_with fail
  cases cf
  simp_all [bodyPostS, results, Tryd.results27]
end Go.Proofs.YteofihmeiikhbaaDoor.PG
end

section
/- Package snap, by hand: Take. -/
set_option linter.unusedVariables false
set_option linter.unusedSimpArgs false
namespace Go.Proofs.YteofihmeiikhbaaDoor.PG
open Go.RowKit Go.Shelf Go.Proofs.YteofihmeiikhbaaDoor.Tf Go.Proofs.YteofihmeiikhbaaDoorW.PrintWords Go.Proofs.YteofihmeiikhbaaDoorW.PrintLast Go.Proofs.YteofihmeiikhbaaDoor.Mem Go.Proofs.YteofihmeiikhbaaDoor.Own Go.Proofs.YteofihmeiikhbaaDoor.Hw

abbrev nilV : Value := .slice none 0 0
theorem ints_nil {w0 w : World} {L : List Asn} (h : Own.Own w0 w L) : Own.Own w0 w (Ints nilV [] :: L) := h.fresh (R := [Ints nilV []]) (Below.refl _ _) (Hold.one (Kd.R_nil _ _ _ _ _))
/-- What Take comes to, as it lies. -/
def TakeEnd (w : World) (G : G6) (l : List ByteArray) (e : Ending) (w' : World) : Prop := ∃ v0 v1 v2 v3, e = .returned (.tuple #[.agg #[v0, v1, v2, v3], .int .i64 (takeP G l).2]) ∧
  Own.Own w w' [Ints v0 (takeP G l).1.fl, Ints v1 (takeP G l).1.co, Ints v2 (takeP G l).1.sl, Ints v3 (takeP G l).1.tl]
theorem takeEnd_nil {w w' : World} {G : G6} {l : List ByteArray} {c : Int} (hp : takeP G l = (nilD, c)) (h : Own.Own w w' []) : TakeEnd w G l (.returned (.tuple #[.agg #[nilV, nilV, nilV, nilV], .int .i64 c])) w' := by
  unfold TakeEnd
  rw [hp]
  exact ⟨_, _, _, _, rfl, ints_nil (ints_nil (ints_nil (ints_nil h)))⟩
set_option maxHeartbeats 8000000 in
set_option maxRecDepth 100000 in
theorem take_geo {w : World} (G : G6) (A : Option Addr) (c : Nat) (l : List ByteArray) (hb : (Lit.int .i64 G.b).wf = true) (hl : (Lit.int .i64 G.l).wf = true) (hno : ¬ G.Ok) :
    Calls Tryd.prog 9 #[geoV G, .slice A l.length c] w (TakeEnd w G l) := by
  have hchk := check_some G.b G.l G.y G.s G.p G.w hb hl 8 (Nat.le_refl _)
  rw [if_neg (show ¬ GeoOk G.b G.l G.y G.s G.p G.w from hno)] at hchk
  have hp : takeP G l = (nilD, 60) := by unfold takeP; rw [if_neg hno]
  have ha := (((Own.Own.new w).alloc (geoC G)).alloc (.cells #[nilV, nilV, nilV, nilV] 26)).alloc (.cells #[.int .i64 0] 29)
  simp only [World.size_alloc] at ha
  obtain ⟨B2, hB2⟩ : ∃ B, B = w.heap.size := ⟨_, rfl⟩
  obtain ⟨B4, hB4⟩ : ∃ B, B = B2 + 1 := ⟨_, rfl⟩
  obtain ⟨B5, hB5⟩ : ∃ B, B = B4 + 1 := ⟨_, rfl⟩
  rw [← hB2, ← hB4, ← hB5] at ha
  have HO := Aside0.mk ha
  have HB2 := Lib.hid hB2
  have HB4 := Lib.hid hB4
  have HB5 := Lib.hid hB5
  have HCK := Lib.hid hchk
  have HP := Aside0.mk hp
  clear ha hB2 hB4 hB5 hchk hno hp hb hl
  have hmf : ∀ (fn : Fn) (first cap : Array Value) (w : World), (Instr.makeFunc fn first cap).run Tryd.prog w = .ok (.func fn first cap) w := fun _ _ _ _ => rfl
  go_enter_defers Tryd.func9, Tryd.ntmps9
  go_wp2_with fail
  rw [← HB2.out, ← HB4.out, ← HB5.out]
  refine (geom_Check.calls 8 G.b G.l G.y G.s G.p G.w 60 _ HCK.out).mono ?_
  rintro e w1 ⟨rfl, hb⟩
  have H1 := Aside0.mk (HO.out.move hb)
  have n1 := own_ne2 H1.out
  have n2 := n1.symm
  obtain ⟨x0, x1, x2, x3, f0, f1, f2, f3⟩ := cells4 H1.out.drop.pt
  have y0 := blk_cell H1.out.pt 0
  have g0 := blk_frozen H1.out.pt 0
  simp only [List.getElem?_toArray, List.getElem?_cons_zero] at y0
  clear hb HO
  go_wp2_with fail
  have H2 := (((((H1.out.pull2.set (i := 0) nilV).set (i := 1) nilV).set (i := 2) nilV).set (i := 3) nilV).pull2.set (i := 0) (.int .i64 60))
  clear x0 x1 x2 x3 f0 f1 f2 f3 y0 g0 H1
  generalize hW : World.setCell _ _ (Value.int .i64 60) = W at H2 ⊢
  obtain ⟨x0, x1, x2, x3, _, _, _, _⟩ := cells4 H2.drop.pt
  have y0 := blk_cell H2.pt 0
  simp only [List.getElem?_toArray, List.getElem?_cons_zero, List.setIfInBounds_toArray, List.set_cons_zero, List.set_cons_succ] at y0 x0 x1 x2 x3
  refine ⟨.tuple #[.agg #[nilV, nilV, nilV, nilV], .int .i64 60], ?_, takeEnd_nil HP.out H2.drop.drop.drop⟩
  simp [results, Tryd.results9, go_sem, x0, x1, x2, x3, y0]
/-- The door behind a reader that gave up. -/
theorem door_no {w W : World} {G : G6} {l : List ByteArray} {tm : Array Value} {B4 B5 : Nat} {v0 v1 v2 v3 v5 : Value} {L : List Asn} (hp : takeP G l = (nilD, 130)) (h4 : tm[4]? = some (.pointer (some ⟨B4, 0, none⟩))) (h5 : tm[5]? = some (.pointer (some ⟨B5, 0, none⟩)))
    (HO : Own.Own w W (Pt B4 (.cells #[v0, v1, v2, v3] 26 (0, 0)) :: Pt B5 (.cells #[v5] 29 (0, 0)) :: L)) :
    bodyPostD Tryd.prog Tryd.f9 (TakeEnd w G l) (.panic [wrongP false]) { tmps := tm, defers := [{ target := .fn (.func 27) #[.pointer (some ⟨B4, 0, none⟩), .pointer (some ⟨B5, 0, none⟩)], args := #[] }] } W := by
  refine leaves_cons (f := 27) (args := #[.pointer (some ⟨B4, 0, none⟩), .pointer (some ⟨B5, 0, none⟩)]) (by simp) (by simp [go_sem]) ?_
  refine (catch_panicking [] HO).mono ?_
  rintro e u' w' ⟨rfl, rfl, ho⟩
  obtain ⟨x0, x1, x2, x3, _, _, _, _⟩ := cells4 ho.pt
  have y0 := blk_cell ho.drop.pt 0
  simp only [List.getElem?_toArray, List.getElem?_cons_zero] at y0
  have n1 := own_ne2 ho
  refine ⟨.tuple #[.agg #[nilV, nilV, nilV, nilV], .int .i64 130], ?_, takeEnd_nil hp ?_⟩
  · simp [results, Tryd.results9, go_sem, x0, x1, x2, x3, y0, h4, h5]
  · exact ho.map fun S h => trivial
theorem lib_join0 : ∀ l : List ByteArray, Lib.join (l.map (·.data.toList)) [] = (catP l).data.toList
  | [] => rfl
  | [x] => by
    show Lib.join [x.data.toList] [] = (x ++ catP []).data.toList
    rw [Lib.join_one, ByteArray.data_append]
    simp [catP]
  | x :: y :: r => by
    have ih := lib_join0 (y :: r)
    show Lib.join (x.data.toList :: (y :: r).map (·.data.toList)) [] = (x ++ catP (y :: r)).data.toList
    rw [ByteArray.data_append, Array.toList_append, ← ih]
    simp [Lib.join, List.intercalate, List.intersperse]
theorem join_calls (A : Option Addr) (c : Nat) (l : List ByteArray) (w : World) (h1 : 1 ≤ l.length) (hl : l.length ≤ 1000) (hc : l.length ≤ c) (hz : (catP l).size ≤ 1000000) (hr : Kd.C Kd.string w A l.length l) :
    Calls Tryd.prog 28 #[.slice A l.length c, .string ⟨#[]⟩] w fun e w' => e = .returned (.string (catP l)) ∧ Below w.heap.size w w' := by
  obtain ⟨ad, rfl, h0⟩ := Kd.at_string hr 0 (by omega) (by omega)
  have hsp : ad.spot = none := by
    have h0' : w.cell? ad = _ := h0
    unfold World.cell? at h0'
    cases hs : ad.spot with
    | none => rfl
    | some x =>
      rw [hs] at h0'
      split at h0' <;> simp at h0'
  obtain ⟨bk, o, sp⟩ := ad
  have hsp : sp = none := hsp
  subst hsp
  have hadd : ∀ j : Nat, (⟨bk, o, none⟩ : Addr).add j = ⟨bk, o + j, none⟩ := fun j => by
    unfold Addr.add
    split
    · rename_i h; rw [h]; rfl
    · rfl
  have hj := Any.strings_Join lays156 extra156 bk o c l ⟨#[]⟩ w (fun j x hx => by
    have hjl := (List.getElem?_eq_some_iff.1 hx).1
    obtain ⟨ad', e', h'⟩ := Kd.at_string hr (j : Int) (by omega) (by omega)
    injection e' with e'
    subst e'
    rw [Int.toNat_natCast, hadd] at h'
    rw [h']
    unfold rdOf
    rw [Int.toNat_natCast, List.getD_eq_getElem?_getD, hx]; rfl) (World.block_lt_of_cell? w _ h0) (by omega) hc (by
      show (Lib.join (l.map (·.data.toList)) []).length ≤ _
      rw [lib_join0, Array.length_toList]
      have : (catP l).data.size = (catP l).size := rfl
      omega)
  have e : (⟨(Lib.join (l.map (·.data.toList)) (⟨#[]⟩ : ByteArray).data.toList).toArray⟩ : ByteArray) = catP l := by
    show (⟨(Lib.join (l.map (·.data.toList)) []).toArray⟩ : ByteArray) = _
    rw [lib_join0]
  rw [e] at hj
  exact hj
theorem next_at {w0 w : World} {L : List Asn} {r : Nat} (T : ByteArray) (a n : Nat) (h1 : 1 ≤ n) (h7 : n ≤ 7) (hn : a + n ≤ T.size) (HO : Own.Own w0 w (Eye r (T.extract a T.size) :: L)) :
    Calls Tryd.prog 29 #[.pointer (some ⟨r, 0, none⟩), .int .i64 n] w fun e w' => e = .returned (.int .i64 ((parts T a (a + n) : Nat) : Int)) ∧ Own.Own w0 w' (Eye r (T.extract (a + n) T.size) :: L) := by
  have hz := size_extract' T a T.size (Nat.le_refl _)
  have e1 : leV ((T.extract a T.size).extract 0 n) n = parts T a (a + n) := by
    unfold parts
    rw [show a + n - a = n by omega]
    refine leV_congr n (fun i hi => ?_)
    rw [bn_extract _ _ _ _ (by omega) (by omega), bn_extract _ _ _ _ (by omega) (Nat.le_refl _), bn_extract _ _ _ _ (by omega) hn]
    congr 1; omega
  have e2 : (T.extract a T.size).extract n (T.extract a T.size).size = T.extract (a + n) T.size := by
    refine bext (by rw [size_extract' _ _ _ (Nat.le_refl _), hz, size_extract' _ _ _ (Nat.le_refl _)]; omega) (fun i hi => ?_)
    rw [size_extract' _ _ _ (Nat.le_refl _), hz] at hi
    rw [bn_extract _ _ _ _ (by omega) (Nat.le_refl _), bn_extract _ _ _ _ (by omega) (Nat.le_refl _), bn_extract _ _ _ _ (by omega) (Nat.le_refl _)]
    congr 1; omega
  have h := next_own n h1 h7 (by rw [hz]; omega) HO
  rw [e1, e2] at h
  exact h
def flT (T : ByteArray) (k : Nat) : List Int := (List.range k).map fun i => ((parts T (6 * i) (6 * i + 6) : Nat) : Int)
def coT (T : ByteArray) (sn k : Nat) : List Int := (List.range k).map fun i => ((parts T (6 * sn + 10 * i) (6 * sn + 10 * i + 4) : Nat) : Int)
def slT (T : ByteArray) (sn k : Nat) : List Int := (List.range k).map fun i => ((parts T (6 * sn + 10 * i + 4) (6 * sn + 10 * i + 7) : Nat) : Int)
def tlT (T : ByteArray) (sn k : Nat) : List Int := (List.range k).map fun i => ((parts T (6 * sn + 10 * i + 7) (6 * sn + 10 * i + 10) : Nat) : Int)
theorem rng_next (f : Nat → Int) (k : Nat) : ((List.range k).map f) ++ [f k] = (List.range (k + 1)).map f := by rw [List.range_succ, List.map_append]; rfl
theorem rng_len (f : Nat → Int) (k : Nat) : ((List.range k).map f).length = k := by simp
abbrev Boxes (B2 B4 B5 : Nat) (G : G6) (v0 v1 v2 v3 : Value) (L : List Asn) : List Asn := Pt B5 (.cells #[.int .i64 0] 29 (0, 0)) :: Pt B4 (.cells #[v0, v1, v2, v3] 26 (0, 0)) :: Pt B2 (geoC G) :: L
/-- What Take's walk holds. -/
abbrev Tk (BR B2 B4 B5 : Nat) (G : G6) (T : ByteArray) (a : Nat) (v0 v1 v2 v3 : Value) (l0 l1 l2 l3 : List Int) : List Asn := Eye BR (T.extract a T.size) :: Ints v0 l0 :: Ints v1 l1 :: Ints v2 l2 :: Ints v3 l3 :: Boxes B2 B4 B5 G v0 v1 v2 v3 []
theorem extract0 (T : ByteArray) : T.extract 0 T.size = T := bext (by rw [size_extract' _ _ _ (Nat.le_refl _)]; rfl) (fun j hj => by rw [size_extract' _ _ _ (Nat.le_refl _)] at hj; rw [bn_extract _ _ _ _ hj (Nat.le_refl _), Nat.zero_add])
def tk.T15 : Bool × List (List Nat × List Nat) := (true, [([], []), ([0], [0]), ([], []), ([2], [2]), ([3], [3]), ([1, 4, 3], [1, 4]), ([0, 1, 2, 3, 4, 5], []), ([6, 5, 5, 0, 1, 2, 3, 4, 5], [5, 6])])
def tk.B15 : List Nat := [0, 1, 0, 4, 12, 31, 63, 127]
theorem tk.tab15 : rtab .any (opsOf Tryd.f9 15) = tk.T15 := by kernel_rfl
theorem tk.bits15 : waitsOk tk.T15.2 tk.B15 = true := by kernel_rfl
def tk.T19 : Bool × List (List Nat × List Nat) := (true, [([], []), ([0], [0]), ([], []), ([2], [2]), ([3], [3]), ([1, 4, 3], [1, 4]), ([0, 1, 2, 3, 4, 5], []), ([6, 5, 5, 0, 1, 2, 3, 4, 5], [5, 6])])
def tk.B19 : List Nat := [0, 1, 0, 4, 12, 31, 63, 127]
theorem tk.tab19 : rtab .any (opsOf Tryd.f9 19) = tk.T19 := by kernel_rfl
theorem tk.bits19 : waitsOk tk.T19.2 tk.B19 = true := by kernel_rfl
def tk.T20 : Bool × List (List Nat × List Nat) := (true, [([], []), ([0], [0]), ([], []), ([2], [2]), ([3], [3]), ([1, 4, 3], [1, 4]), ([0, 1, 2, 3, 4, 5], []), ([6, 5, 5, 0, 1, 2, 3, 4, 5], [5, 6])])
def tk.B20 : List Nat := [0, 1, 0, 4, 12, 31, 63, 127]
theorem tk.tab20 : rtab .any (opsOf Tryd.f9 20) = tk.T20 := by kernel_rfl
theorem tk.bits20 : waitsOk tk.T20.2 tk.B20 = true := by kernel_rfl
def tk.T21 : Bool × List (List Nat × List Nat) := (true, [([], []), ([0], [0]), ([], []), ([2], [2]), ([3], [3]), ([1, 4, 3], [1, 4]), ([0, 1, 2, 3, 4, 5], []), ([6, 5, 5, 0, 1, 2, 3, 4, 5], [5, 6])])
def tk.B21 : List Nat := [0, 1, 0, 4, 12, 31, 63, 127]
theorem tk.tab21 : rtab .any (opsOf Tryd.f9 21) = tk.T21 := by kernel_rfl
theorem tk.bits21 : waitsOk tk.T21.2 tk.B21 = true := by kernel_rfl
set_option maxHeartbeats 8000000 in
set_option maxRecDepth 100000 in
theorem take_ok {w : World} (G : G6) (A : Option Addr) (c : Nat) (l : List ByteArray) (hb : (Lit.int .i64 G.b).wf = true) (hl : (Lit.int .i64 G.l).wf = true) (hok : G.Ok) (hc : l.length ≤ c) (hr : Kd.C Kd.string w A l.length l) :
    Calls Tryd.prog 9 #[geoV G, .slice A l.length c] w (TakeEnd w G l) := by
  have hchk := check_some G.b G.l G.y G.s G.p G.w hb hl 8 (Nat.le_refl _)
  rw [if_pos (show GeoOk G.b G.l G.y G.s G.p G.w from hok)] at hchk
  have ha := (((Own.Own.new w).alloc (geoC G)).alloc (.cells #[nilV, nilV, nilV, nilV] 26)).alloc (.cells #[.int .i64 0] 29)
  simp only [World.size_alloc] at ha
  obtain ⟨B2, hB2⟩ : ∃ B, B = w.heap.size := ⟨_, rfl⟩
  obtain ⟨B4, hB4⟩ : ∃ B, B = B2 + 1 := ⟨_, rfl⟩
  obtain ⟨B5, hB5⟩ : ∃ B, B = B4 + 1 := ⟨_, rfl⟩
  rw [← hB2, ← hB4, ← hB5] at ha
  have HO := Aside0.mk (show Own.Own w _ (Boxes B2 B4 B5 G nilV nilV nilV nilV []) from ha)
  have HB2 := Lib.hid hB2
  have HB4 := Lib.hid hB4
  have HB5 := Lib.hid hB5
  have HCK := Lib.hid hchk
  have HR := Aside0.mk hr
  have HC := Lib.hid hc
  have HOK := Lib.hid hok
  obtain ⟨⟨n1, n2⟩, ⟨n3, n4⟩, ⟨n5, n6⟩, _, _⟩ := hok.nums
  obtain ⟨r1, r2, r3, r4, r5⟩ := snN_room hok
  have hsn := snaps_some (l := G.l) (p := G.p) (w := G.w) ⟨n1, n2⟩ ⟨n3, n4⟩ ⟨n5, n6⟩
  rw [r3] at hsn
  have HSN := Lib.hid hsn
  obtain ⟨N, hN⟩ : ∃ N, N = snN G := ⟨_, rfl⟩
  rw [← hN] at r4 r5
  have HN := Lib.hid hN
  clear ha hB2 hB4 hB5 hchk hb hl hr hc hok hsn r1 r2 r3 hN
  have hmf : ∀ (fn : Fn) (first cap : Array Value) (w : World), (Instr.makeFunc fn first cap).run Tryd.prog w = .ok (.func fn first cap) w := fun _ _ _ _ => rfl
  go_enter_defers Tryd.func9, Tryd.ntmps9
  go_wp2_with fail
  rw [← HB2.out, ← HB4.out, ← HB5.out]
  refine (geom_Check.calls 8 G.b G.l G.y G.s G.p G.w 0 _ HCK.out).mono ?_
  rintro e w1 ⟨rfl, hb⟩
  have H1 := Aside0.mk (HO.out.move hb)
  obtain ⟨x0, x1, x2, x3, x4, x5⟩ := cells6 H1.out.drop.drop.pt
  clear hb HO
  go_wp2_with fail
  refine (geom_Snaps.calls G.b G.l G.y G.s G.p G.w (snN G : Int) _ HSN.out).mono ?_
  rintro e w2 ⟨rfl, hb⟩
  rw [← HN.out]
  have H2 := Aside0.mk (H1.out.move hb)
  clear hb H1 x0 x1 x2 x3 x4 x5 HB2 HB4 HB5 HCK HSN
  by_cases hlen : l.length = N
  · have ey1 : ((l.length : Int) == (N : Int)) = true := by rw [beq_iff_eq]; omega
    obtain ⟨yn, hyn⟩ : ∃ yn : Nat, G.y = (yn : Int) := ⟨G.y.toNat, by omega⟩
    have HYN := Lib.hid hyn
    have HLEN := Lib.hid hlen
    rw [hlen]
    have hnn : ((N : Int) != (N : Int)) = false := by simp
    clear hlen ey1
    go_wp2_with fail
    clear hnn
    go_loopw [23] (fun v23 wr => ∃ i : Nat, i ≤ N ∧ v23 = .int .i64 i ∧ Aside0 (∀ j, j < i → (l.getD j ByteArray.empty).size = yn) ∧ Aside0 (Own.Own w wr (Boxes B2 B4 B5 G nilV nilV nilV nilV []))) (fun v23 _ => N - (intOf v23).toNat)
    case atStart => exact ⟨0, by omega, rfl, ⟨fun j hj => by omega⟩, H2⟩
    case round =>
      clear H2
      obtain ⟨i, hi, rfl, HS, HO⟩ := hrel
      by_cases hlt : i < N
      · have dl : decide ((i : Int) < (N : Int)) = true := decide_eq_true (by omega)
        have dln : decide (i < N) = true := decide_eq_true hlt
        obtain ⟨ad, rfl, x0⟩ := Kd.at_string (Kd.C_below HR.out HO.out.below) (i : Int) (by omega) (by rw [HLEN.out]; omega)
        obtain ⟨pg, hpg⟩ : ∃ pg, pg = l.getD i ByteArray.empty := ⟨_, rfl⟩
        have hrd : rdOf ByteArray.empty l (i : Int) = pg := by unfold rdOf; rw [Int.toNat_natCast, hpg]
        rw [hrd, Int.toNat_natCast] at x0
        have HPG := Aside0.mk hpg
        have g1 : (0 ≤ (i : Int)) = True := eq_true (by omega)
        have g2 : ((i : Int) < (N : Nat)) = True := eq_true (by omega)
        have g3 : (i < N) = True := eq_true hlt
        obtain ⟨_, _, y2, _, _, _⟩ := cells6 HO.out.drop.drop.pt
        rw [hyn] at y2
        clear hrd hpg
        by_cases hpy : pg.size = yn
        · have e1 : ((pg.size : Int) != (yn : Int)) = false := by rw [hpy]; simp
          have HPY := Lib.hid hpy
          clear hpy
          go_wp2_with fail
          go_roundw
          case rel =>
            refine ⟨i + 1, by omega, by go_num, ⟨fun j hj => ?_⟩, HO⟩
            by_cases e : j = i
            · rw [e, ← HPG.out]; exact HPY.out
            · exact HS.out j (by omega)
          case measure => simp [intOf]; omega
        · have e1 : ((pg.size : Int) == (yn : Int)) = false := by rw [beq_eq_false_iff_ne]; omega
          have e2 : (pg.size == yn) = false := by rw [beq_eq_false_iff_ne]; exact hpy
          have hp : takeP G l = (nilD, 130) := by
            unfold takeP
            rw [if_pos HOK.out, if_neg]
            rintro ⟨_, q, _⟩
            have hil : i < l.length := by rw [HLEN.out]; exact hlt
            have h1 := q (l[i]) (List.getElem_mem hil)
            have h2 : l[i] = pg := by rw [HPG.out, List.getD_eq_getElem?_getD, List.getElem?_eq_getElem hil]; rfl
            rw [h2] at h1
            omega
          have HP := Aside0.mk hp
          clear hp
          go_wp2_with fail
          exact door_no HP.out rfl rfl HO.out.pull2
      · obtain rfl : i = N := by omega
        have dl : decide ((i : Int) < (i : Int)) = false := decide_eq_false (by omega)
        have dln : decide (i < i) = false := decide_eq_false (by omega)
        have hsz : ∀ p ∈ l, p.size = yn := by
          intro p hp
          obtain ⟨j, hj, rfl⟩ := List.getElem_of_mem hp
          have := HS.out j (by rw [← HLEN.out]; exact hj)
          rw [List.getD_eq_getElem?_getD, List.getElem?_eq_getElem hj] at this
          exact this
        have hcz := catP_size yn l hsz
        rw [HLEN.out] at hcz
        have hm1 : i * yn ≤ 60 * 256 := Nat.mul_le_mul r4 (by omega)
        have HJ := Aside0.mk (join_calls A c l wr (by rw [HLEN.out]; omega) (by rw [HLEN.out]; omega) HC.out (by omega) (Kd.C_below HR.out HO.out.below))
        rw [HLEN.out] at HJ
        obtain ⟨T, hT⟩ : ∃ T, T = catP l := ⟨_, rfl⟩
        rw [← hT] at HJ hcz
        have HT := Aside0.mk hT
        have HSZ := Aside0.mk hsz
        have HCZ := Lib.hid hcz
        clear hT hsz hcz HS
        go_wp2_with fail
        refine HJ.out.mono ?_
        rintro e w3 ⟨rfl, hb⟩
        have h3 := (HO.out.move hb).alloc (.cells #[.string T] 65)
        obtain ⟨BR, hBR⟩ : ∃ BR, BR = w3.heap.size := ⟨_, rfl⟩
        rw [← hBR] at h3
        have H3 := Aside0.mk (show Own.Own w _ (Eye BR T :: Boxes B2 B4 B5 G nilV nilV nilV nilV []) from h3)
        have HBR := Lib.hid hBR
        clear hb HO h3 hBR HJ dl dln hi hlt
        go_upto_region 13 with (fail)
        rw [← HBR.out]
        generalize hW : World.alloc w3 _ = w4 at H3 ⊢
        clear hW HBR
        have hr1 := (snN_room HOK.out).1
        obtain ⟨sn, hsn⟩ : ∃ n : Nat, G.s = (n : Int) := ⟨G.s.toNat, by omega⟩
        obtain ⟨bb, hbb⟩ : ∃ n : Nat, G.b = (n : Int) := ⟨G.b.toNat, by omega⟩
        rw [hsn, hbb, hyn, Int.toNat_natCast, Int.toNat_natCast, Int.toNat_natCast, ← HN.out] at hr1
        have sn4 : sn ≤ 4096 := by omega
        have bb4 : bb ≤ 64 := by omega
        obtain ⟨Z, hZ⟩ : ∃ Z, Z = i * yn := ⟨_, rfl⟩
        rw [← hZ] at hr1
        have hcz2 : T.size = Z := by rw [HCZ.out, hZ]
        have HCZ2 := Lib.hid hcz2
        have HSN := Lib.hid hsn
        have HBB := Lib.hid hbb
        have H4 := Aside0.mk (show Own.Own w w4 (Tk BR B2 B4 B5 G T 0 nilV nilV nilV nilV [] [] [] []) from own_swap [_, _, _, _] [_] (by rw [extract0]; exact ints_nil (ints_nil (ints_nil (ints_nil H3.out)))))
        obtain ⟨x0, x1, x2, x3, x4, x5⟩ := cells6 (own_swap [_, _, _, _, _, _, _] [_] H4.out).pt
        rw [hsn] at x3
        clear H3 hZ hcz2 hsn hbb
        go_wp2_with fail
        clear x0 x1 x2 x3 x4 x5
        go_loopw [41] (fun v41 wr => ∃ (k : Nat) (v0 : Value), k ≤ sn ∧ v41 = .int .i64 k ∧ Aside0 (Own.Own w wr (Tk BR B2 B4 B5 G T (6 * k) v0 nilV nilV nilV (flT T k) [] [] []))) (fun v41 _ => sn - (intOf v41).toNat)
        case atStart => exact ⟨0, _, by omega, rfl, H4⟩
        case round =>
          clear H4
          obtain ⟨k, v0, hk, rfl, HO⟩ := hrel
          by_cases hlt : k < sn
          · have dl : decide ((k : Int) < (sn : Int)) = true := decide_eq_true (by omega)
            have dln : decide (k < sn) = true := decide_eq_true hlt
            obtain ⟨p15, hp15⟩ : ∃ p : Int, p = ((parts T (6 * k) (6 * k + 6) : Nat) : Int) := ⟨_, rfl⟩
            have hnx : (flT T k) ++ [p15] = flT T (k + 1) := by rw [hp15]; exact rng_next _ k
            have hln : ((flT T k).length + 1) * 8 ≤ 140737488355328 := by unfold flT; rw [rng_len]; omega
            have hpz : 6 * k + 6 ≤ T.size := by rw [HCZ2.out]; omega
            have HNX15 := Lib.hid hnx
            have HLN15 := Lib.hid hln
            have HP15 := Lib.hid hpz
            have HVL15 := Lib.hid hp15.symm
            clear hp15 hnx hln hpz
            go_upto_region 15 with (fail)
            clear dl dln
            first | refine quiet_exit ?_ | refine quiet_block ?_
            refine start_ (n := 8) (S := fun w' => w'.cell? ⟨B4, 0, none⟩ = some v0) (ds := [7]) (tfA 0 8) (by kernel_rfl) rfl rfl ((blk_cell (own_swap [_, _, _, _, _, _] [_] HO.out.drew).pt 0).trans rfl) (fun hHeld => ?_)
            refine with_tabW tk.tab15 tk.bits15 (fun HT_ HW_ => ?_)
            refine pure_ (i := 0) (N := some 43) (v := ?_) (a' := ?_) (tfA 1 8) rfl rfl (any_of HT_.out (by kernel_rfl)) (fun _ _ _ h => h) (Or.inl ⟨by rfl, ?_⟩) ?_ ?_
            rotate_left
            · intro w'
              go_simp
              with_reducible rfl
            rotate_left
            · simp only [Act.put, List.setIfInBounds_toArray, List.set_cons_zero, List.set_cons_succ, i64_w, i32_w]
              rfl
            refine pure_ (i := 2) (N := some 45) (v := ?_) (a' := ?_) #[true, false, true, false, false, false, false, false] rfl rfl (any_of HT_.out (by kernel_rfl)) (fun _ _ _ h => h) (Or.inl ⟨by rfl, ?_⟩) ?_ ?_
            rotate_left
            · intro w'
              go_simp
              with_reducible rfl
            rotate_left
            · simp only [Act.put, List.setIfInBounds_toArray, List.set_cons_zero, List.set_cons_succ, i64_w, i32_w]
              rfl
            refine take_ (i := 1) (N := some 44) (v := ?_) (a' := ?_) (tfA 3 8) rfl rfl (take_ofW HT_.out HW_.out (by kernel_rfl)) (fun _ _ _ h => h) (Or.inl ⟨by rfl, ?_⟩) hHeld ?_ ?_
            rotate_left
            · intro w' s0
              go_simp
              with_reducible rfl
            rotate_left
            · simp only [Act.put, List.setIfInBounds_toArray, List.set_cons_zero, List.set_cons_succ, i64_w, i32_w]
              rfl
            refine one_ (i := 3) (N := some 46) (tfA 4 8) rfl rfl (one_of HT_.out (by kernel_rfl)) (by decide) (fun K hK => ?_)
            refine goes_ Tryd.func29 (by kernel_rfl) rfl #[.pointer (some ⟨BR, 0, none⟩), .int .i64 6] (by rfl) rfl rfl (by simp only [List.map_toArray, List.map_cons, List.map_nil]; rfl) ?_
            refine (next_at T (6 * k) 6 (by decide) (by decide) HP15.out HO.out.drew).mono ?_
            rintro e wa15 ⟨rfl, ho⟩
            have K15 := Aside0.mk ho
            rw [HVL15.out]
            refine ⟨_, rfl, ?_⟩
            clear ho HO
            refine hK.out _ _ ((blk_cell (own_swap [_, _, _, _, _, _] [_] K15.out).pt 0).trans rfl) (fun hHeld => ?_)
            clear hK K
            refine norm_ (a' := ?_) ?_ ?_
            rotate_left
            · show Act.put _ (some 46) _ = _
              simp only [Act.put, List.setIfInBounds_toArray, List.set_cons_zero, List.set_cons_succ, i64_w, i32_w]
              rfl
            refine one_ (i := 4) (N := some 47) (tfA 5 8) rfl rfl (one_of HT_.out (by kernel_rfl)) (by decide) (fun K hK => ?_)
            have M15 := Aside0.mk (K15.out.alloc' (.cells #[.int .i64 p15] 3))
            refine value_ (w1 := ?_) (v := ?_) (by rfl) rfl ?_ ?_
            rotate_left 2
            · go_simp
              constructor
              · rfl
              · rfl
            refine hK.out _ _ ((blk_cell (own_swap [_, _, _, _, _, _] [_] M15.out).pt 0).trans rfl) (fun hHeld => ?_)
            clear hK K
            refine norm_ (a' := ?_) ?_ ?_
            rotate_left
            · show Act.put _ (some 47) _ = _
              simp only [Act.put, List.setIfInBounds_toArray, List.set_cons_zero, List.set_cons_succ, i64_w, i32_w]
              rfl
            refine one_ (i := 5) (N := some 48) (tfA 6 8) rfl rfl (one_of HT_.out (by kernel_rfl)) (by decide) (fun K hK => ?_)
            refine own_append_step (w0 := w) (Kd.int .i64) (by rfl) (.tmp 44) (.tmp 47) 24 3 (.int .i64 0) 8 rfl Tryd.underlying24 infoInt rfl (by decide) (by decide) v0 (flT T k) p15 [.int .i64 p15] (by first | rfl | (go_simp; done)) (by first | rfl | (go_simp; done)) rfl (own_swap [_] [_] K15.out) HLN15.out ?_
            intro vn15 wb15 ho
            rw [HNX15.out] at ho
            obtain ⟨An15, cn15, rfl, _, _⟩ := ho.reads
            obtain ⟨nn15, hnn15⟩ : ∃ n, n = (flT T (k + 1)).length := ⟨_, rfl⟩
            rw [← hnn15] at ho ⊢
            have U15 := Aside0.mk (own_swap [_] [_] ho)
            have fz := blk_frozen (own_swap [_, _, _, _, _, _] [_] U15.out).pt 0
            clear ho hnn15
            refine hK.out _ _ ((blk_cell (own_swap [_, _, _, _, _, _] [_] U15.out).pt 0).trans rfl) (fun hHeld => ?_)
            clear hK K
            refine norm_ (a' := ?_) ?_ ?_
            rotate_left
            · show Act.put _ (some 48) _ = _
              simp only [Act.put, List.setIfInBounds_toArray, List.set_cons_zero, List.set_cons_succ, i64_w, i32_w]
              rfl
            refine pure_ (i := 6) (N := some 49) (v := ?_) (a' := ?_) (tfA 7 8) rfl rfl (any_of HT_.out (by kernel_rfl)) (fun _ _ _ h => h) (Or.inl ⟨by rfl, ?_⟩) ?_ ?_
            rotate_left
            · intro w'
              go_simp
              with_reducible rfl
            rotate_left
            · simp only [Act.put, List.setIfInBounds_toArray, List.set_cons_zero, List.set_cons_succ, i64_w, i32_w]
              rfl
            refine last_ (i := 7) (N := none) (tfA 8 8) rfl rfl (one_of HT_.out (by kernel_rfl)) (by decide) (fun K hK => ?_)
            refine skip_ (w1 := ?_) (by rfl) rfl ?_ ?_
            rotate_left
            · go_simp
              rfl
            refine hK.out _ _ ?_
            clear hK K
            refine done_ (done_of HT_.out (by kernel_rfl)) ?_
            clear hHeld
            have S15 := Aside0.mk (own_swap [_] [_, _, _, _, _, _] ((own_swap [_, _, _, _, _, _] [_] U15.out).set (i := 0) (.slice An15 nn15 cn15)))
            clear fz K15 M15 U15
            refine then_n ?_
            generalize hW : World.setCell wb15 _ _ = wd15 at S15 ⊢
            clear hW
            go_wp2_with fail
            go_roundw
            case rel => exact ⟨k + 1, _, by omega, by go_num, S15⟩
            case measure => simp [intOf]; omega
          · obtain rfl : k = sn := by omega
            have dl : decide ((k : Int) < (k : Int)) = false := decide_eq_false (by omega)
            have dln : decide (k < k) = false := decide_eq_false (by omega)
            obtain ⟨x0, x1, x2, x3, x4, x5⟩ := cells6 (own_swap [_, _, _, _, _, _, _] [_] HO.out).pt
            rw [HBB.out] at x0
            have H5 := Aside0.mk (show Own.Own w wr (Tk BR B2 B4 B5 G T (6 * k + 10 * 0) v0 nilV nilV nilV (flT T k) (coT T k 0) (slT T k 0) (tlT T k 0)) from HO.out)
            clear HO
            go_wp2_with fail
            clear x0 x1 x2 x3 x4 x5 dl dln hk hlt
            go_loopw [53] (fun v53 wr => ∃ (q : Nat) (v1 v2 v3 : Value), q ≤ bb ∧ v53 = .int .i64 q ∧ Aside0 (Own.Own w wr (Tk BR B2 B4 B5 G T (6 * k + 10 * q) v0 v1 v2 v3 (flT T k) (coT T k q) (slT T k q) (tlT T k q)))) (fun v53 _ => bb - (intOf v53).toNat)
            case atStart => exact ⟨0, _, _, _, by omega, rfl, H5⟩
            case round =>
              clear H5
              obtain ⟨q, v1, v2, v3, hq, rfl, HO⟩ := hrel
              by_cases hlt : q < bb
              · have dl : decide ((q : Int) < (bb : Int)) = true := decide_eq_true (by omega)
                have dln : decide (q < bb) = true := decide_eq_true hlt
                obtain ⟨p19, hp19⟩ : ∃ p : Int, p = ((parts T (6 * k + 10 * q) (6 * k + 10 * q + 4) : Nat) : Int) := ⟨_, rfl⟩
                have hnx : (coT T k q) ++ [p19] = coT T k (q + 1) := by rw [hp19]; exact rng_next _ q
                have hln : ((coT T k q).length + 1) * 8 ≤ 140737488355328 := by unfold coT; rw [rng_len]; omega
                have hpz : 6 * k + 10 * q + 4 ≤ T.size := by rw [HCZ2.out]; omega
                have HNX19 := Lib.hid hnx
                have HLN19 := Lib.hid hln
                have HP19 := Lib.hid hpz
                have HVL19 := Lib.hid hp19.symm
                clear hp19 hnx hln hpz
                obtain ⟨p20, hp20⟩ : ∃ p : Int, p = ((parts T (6 * k + 10 * q + 4) (6 * k + 10 * q + 4 + 3) : Nat) : Int) := ⟨_, rfl⟩
                have hnx : (slT T k q) ++ [p20] = slT T k (q + 1) := by rw [hp20]; exact rng_next _ q
                have hln : ((slT T k q).length + 1) * 8 ≤ 140737488355328 := by unfold slT; rw [rng_len]; omega
                have hpz : 6 * k + 10 * q + 4 + 3 ≤ T.size := by rw [HCZ2.out]; omega
                have HNX20 := Lib.hid hnx
                have HLN20 := Lib.hid hln
                have HP20 := Lib.hid hpz
                have HVL20 := Lib.hid hp20.symm
                clear hp20 hnx hln hpz
                obtain ⟨p21, hp21⟩ : ∃ p : Int, p = ((parts T (6 * k + 10 * q + 7) (6 * k + 10 * q + 7 + 3) : Nat) : Int) := ⟨_, rfl⟩
                have hnx : (tlT T k q) ++ [p21] = tlT T k (q + 1) := by rw [hp21]; exact rng_next _ q
                have hln : ((tlT T k q).length + 1) * 8 ≤ 140737488355328 := by unfold tlT; rw [rng_len]; omega
                have hpz : 6 * k + 10 * q + 7 + 3 ≤ T.size := by rw [HCZ2.out]; omega
                have HNX21 := Lib.hid hnx
                have HLN21 := Lib.hid hln
                have HP21 := Lib.hid hpz
                have HVL21 := Lib.hid hp21.symm
                clear hp21 hnx hln hpz
                go_upto_region 19 with (fail)
                clear dl dln
                first | refine quiet_exit ?_ | refine quiet_block ?_
                refine start_ (n := 8) (S := fun w' => w'.cell? ⟨B4, 1, none⟩ = some v1) (ds := [7]) (tfA 0 8) (by kernel_rfl) rfl rfl ((blk_cell (own_swap [_, _, _, _, _, _] [_] HO.out.drew).pt 1).trans rfl) (fun hHeld => ?_)
                refine with_tabW tk.tab19 tk.bits19 (fun HT_ HW_ => ?_)
                refine pure_ (i := 0) (N := some 55) (v := ?_) (a' := ?_) (tfA 1 8) rfl rfl (any_of HT_.out (by kernel_rfl)) (fun _ _ _ h => h) (Or.inl ⟨by rfl, ?_⟩) ?_ ?_
                rotate_left
                · intro w'
                  go_simp
                  with_reducible rfl
                rotate_left
                · simp only [Act.put, List.setIfInBounds_toArray, List.set_cons_zero, List.set_cons_succ, i64_w, i32_w]
                  rfl
                refine pure_ (i := 2) (N := some 57) (v := ?_) (a' := ?_) #[true, false, true, false, false, false, false, false] rfl rfl (any_of HT_.out (by kernel_rfl)) (fun _ _ _ h => h) (Or.inl ⟨by rfl, ?_⟩) ?_ ?_
                rotate_left
                · intro w'
                  go_simp
                  with_reducible rfl
                rotate_left
                · simp only [Act.put, List.setIfInBounds_toArray, List.set_cons_zero, List.set_cons_succ, i64_w, i32_w]
                  rfl
                refine take_ (i := 1) (N := some 56) (v := ?_) (a' := ?_) (tfA 3 8) rfl rfl (take_ofW HT_.out HW_.out (by kernel_rfl)) (fun _ _ _ h => h) (Or.inl ⟨by rfl, ?_⟩) hHeld ?_ ?_
                rotate_left
                · intro w' s0
                  go_simp
                  with_reducible rfl
                rotate_left
                · simp only [Act.put, List.setIfInBounds_toArray, List.set_cons_zero, List.set_cons_succ, i64_w, i32_w]
                  rfl
                refine one_ (i := 3) (N := some 58) (tfA 4 8) rfl rfl (one_of HT_.out (by kernel_rfl)) (by decide) (fun K hK => ?_)
                refine goes_ Tryd.func29 (by kernel_rfl) rfl #[.pointer (some ⟨BR, 0, none⟩), .int .i64 4] (by rfl) rfl rfl (by simp only [List.map_toArray, List.map_cons, List.map_nil]; rfl) ?_
                refine (next_at T (6 * k + 10 * q) 4 (by decide) (by decide) HP19.out HO.out.drew).mono ?_
                rintro e wa19 ⟨rfl, ho⟩
                have K19 := Aside0.mk ho
                rw [HVL19.out]
                refine ⟨_, rfl, ?_⟩
                clear ho HO
                refine hK.out _ _ ((blk_cell (own_swap [_, _, _, _, _, _] [_] K19.out).pt 1).trans rfl) (fun hHeld => ?_)
                clear hK K
                refine norm_ (a' := ?_) ?_ ?_
                rotate_left
                · show Act.put _ (some 58) _ = _
                  simp only [Act.put, List.setIfInBounds_toArray, List.set_cons_zero, List.set_cons_succ, i64_w, i32_w]
                  rfl
                refine one_ (i := 4) (N := some 59) (tfA 5 8) rfl rfl (one_of HT_.out (by kernel_rfl)) (by decide) (fun K hK => ?_)
                have M19 := Aside0.mk (K19.out.alloc' (.cells #[.int .i64 p19] 3))
                refine value_ (w1 := ?_) (v := ?_) (by rfl) rfl ?_ ?_
                rotate_left 2
                · go_simp
                  constructor
                  · rfl
                  · rfl
                refine hK.out _ _ ((blk_cell (own_swap [_, _, _, _, _, _] [_] M19.out).pt 1).trans rfl) (fun hHeld => ?_)
                clear hK K
                refine norm_ (a' := ?_) ?_ ?_
                rotate_left
                · show Act.put _ (some 59) _ = _
                  simp only [Act.put, List.setIfInBounds_toArray, List.set_cons_zero, List.set_cons_succ, i64_w, i32_w]
                  rfl
                refine one_ (i := 5) (N := some 60) (tfA 6 8) rfl rfl (one_of HT_.out (by kernel_rfl)) (by decide) (fun K hK => ?_)
                refine own_append_step (w0 := w) (Kd.int .i64) (by rfl) (.tmp 56) (.tmp 59) 24 3 (.int .i64 0) 8 rfl Tryd.underlying24 infoInt rfl (by decide) (by decide) v1 (coT T k q) p19 [.int .i64 p19] (by first | rfl | (go_simp; done)) (by first | rfl | (go_simp; done)) rfl (own_swap [_, _] [_] K19.out) HLN19.out ?_
                intro vn19 wb19 ho
                rw [HNX19.out] at ho
                obtain ⟨An19, cn19, rfl, _, _⟩ := ho.reads
                obtain ⟨nn19, hnn19⟩ : ∃ n, n = (coT T k (q + 1)).length := ⟨_, rfl⟩
                rw [← hnn19] at ho ⊢
                have U19 := Aside0.mk (own_swap [_] [_, _] ho)
                have fz := blk_frozen (own_swap [_, _, _, _, _, _] [_] U19.out).pt 1
                clear ho hnn19
                refine hK.out _ _ ((blk_cell (own_swap [_, _, _, _, _, _] [_] U19.out).pt 1).trans rfl) (fun hHeld => ?_)
                clear hK K
                refine norm_ (a' := ?_) ?_ ?_
                rotate_left
                · show Act.put _ (some 60) _ = _
                  simp only [Act.put, List.setIfInBounds_toArray, List.set_cons_zero, List.set_cons_succ, i64_w, i32_w]
                  rfl
                refine pure_ (i := 6) (N := some 61) (v := ?_) (a' := ?_) (tfA 7 8) rfl rfl (any_of HT_.out (by kernel_rfl)) (fun _ _ _ h => h) (Or.inl ⟨by rfl, ?_⟩) ?_ ?_
                rotate_left
                · intro w'
                  go_simp
                  with_reducible rfl
                rotate_left
                · simp only [Act.put, List.setIfInBounds_toArray, List.set_cons_zero, List.set_cons_succ, i64_w, i32_w]
                  rfl
                refine last_ (i := 7) (N := none) (tfA 8 8) rfl rfl (one_of HT_.out (by kernel_rfl)) (by decide) (fun K hK => ?_)
                refine skip_ (w1 := ?_) (by rfl) rfl ?_ ?_
                rotate_left
                · go_simp
                  rfl
                refine hK.out _ _ ?_
                clear hK K
                refine done_ (done_of HT_.out (by kernel_rfl)) ?_
                clear hHeld
                have S19 := Aside0.mk (own_swap [_] [_, _, _, _, _, _] ((own_swap [_, _, _, _, _, _] [_] U19.out).set (i := 1) (.slice An19 nn19 cn19)))
                clear fz K19 M19 U19
                refine then_n ?_
                generalize hW : World.setCell wb19 _ _ = wd19 at S19 ⊢
                clear hW
                go_upto_region 20 with (fail)
                first | refine quiet_exit ?_ | refine quiet_block ?_
                refine start_ (n := 8) (S := fun w' => w'.cell? ⟨B4, 2, none⟩ = some v2) (ds := [7]) (tfA 0 8) (by kernel_rfl) rfl rfl ((blk_cell (own_swap [_, _, _, _, _, _] [_] S19.out.drew).pt 2).trans rfl) (fun hHeld => ?_)
                refine with_tabW tk.tab20 tk.bits20 (fun HT_ HW_ => ?_)
                refine pure_ (i := 0) (N := some 62) (v := ?_) (a' := ?_) (tfA 1 8) rfl rfl (any_of HT_.out (by kernel_rfl)) (fun _ _ _ h => h) (Or.inl ⟨by rfl, ?_⟩) ?_ ?_
                rotate_left
                · intro w'
                  go_simp
                  with_reducible rfl
                rotate_left
                · simp only [Act.put, List.setIfInBounds_toArray, List.set_cons_zero, List.set_cons_succ, i64_w, i32_w]
                  rfl
                refine pure_ (i := 2) (N := some 64) (v := ?_) (a' := ?_) #[true, false, true, false, false, false, false, false] rfl rfl (any_of HT_.out (by kernel_rfl)) (fun _ _ _ h => h) (Or.inl ⟨by rfl, ?_⟩) ?_ ?_
                rotate_left
                · intro w'
                  go_simp
                  with_reducible rfl
                rotate_left
                · simp only [Act.put, List.setIfInBounds_toArray, List.set_cons_zero, List.set_cons_succ, i64_w, i32_w]
                  rfl
                refine take_ (i := 1) (N := some 63) (v := ?_) (a' := ?_) (tfA 3 8) rfl rfl (take_ofW HT_.out HW_.out (by kernel_rfl)) (fun _ _ _ h => h) (Or.inl ⟨by rfl, ?_⟩) hHeld ?_ ?_
                rotate_left
                · intro w' s0
                  go_simp
                  with_reducible rfl
                rotate_left
                · simp only [Act.put, List.setIfInBounds_toArray, List.set_cons_zero, List.set_cons_succ, i64_w, i32_w]
                  rfl
                refine one_ (i := 3) (N := some 65) (tfA 4 8) rfl rfl (one_of HT_.out (by kernel_rfl)) (by decide) (fun K hK => ?_)
                refine goes_ Tryd.func29 (by kernel_rfl) rfl #[.pointer (some ⟨BR, 0, none⟩), .int .i64 3] (by rfl) rfl rfl (by simp only [List.map_toArray, List.map_cons, List.map_nil]; rfl) ?_
                refine (next_at T (6 * k + 10 * q + 4) 3 (by decide) (by decide) HP20.out S19.out.drew).mono ?_
                rintro e wa20 ⟨rfl, ho⟩
                have K20 := Aside0.mk ho
                rw [HVL20.out]
                refine ⟨_, rfl, ?_⟩
                clear ho S19
                refine hK.out _ _ ((blk_cell (own_swap [_, _, _, _, _, _] [_] K20.out).pt 2).trans rfl) (fun hHeld => ?_)
                clear hK K
                refine norm_ (a' := ?_) ?_ ?_
                rotate_left
                · show Act.put _ (some 65) _ = _
                  simp only [Act.put, List.setIfInBounds_toArray, List.set_cons_zero, List.set_cons_succ, i64_w, i32_w]
                  rfl
                refine one_ (i := 4) (N := some 66) (tfA 5 8) rfl rfl (one_of HT_.out (by kernel_rfl)) (by decide) (fun K hK => ?_)
                have M20 := Aside0.mk (K20.out.alloc' (.cells #[.int .i64 p20] 3))
                refine value_ (w1 := ?_) (v := ?_) (by rfl) rfl ?_ ?_
                rotate_left 2
                · go_simp
                  constructor
                  · rfl
                  · rfl
                refine hK.out _ _ ((blk_cell (own_swap [_, _, _, _, _, _] [_] M20.out).pt 2).trans rfl) (fun hHeld => ?_)
                clear hK K
                refine norm_ (a' := ?_) ?_ ?_
                rotate_left
                · show Act.put _ (some 66) _ = _
                  simp only [Act.put, List.setIfInBounds_toArray, List.set_cons_zero, List.set_cons_succ, i64_w, i32_w]
                  rfl
                refine one_ (i := 5) (N := some 67) (tfA 6 8) rfl rfl (one_of HT_.out (by kernel_rfl)) (by decide) (fun K hK => ?_)
                refine own_append_step (w0 := w) (Kd.int .i64) (by rfl) (.tmp 63) (.tmp 66) 24 3 (.int .i64 0) 8 rfl Tryd.underlying24 infoInt rfl (by decide) (by decide) v2 (slT T k q) p20 [.int .i64 p20] (by first | rfl | (go_simp; done)) (by first | rfl | (go_simp; done)) rfl (own_swap [_, _, _] [_] K20.out) HLN20.out ?_
                intro vn20 wb20 ho
                rw [HNX20.out] at ho
                obtain ⟨An20, cn20, rfl, _, _⟩ := ho.reads
                obtain ⟨nn20, hnn20⟩ : ∃ n, n = (slT T k (q + 1)).length := ⟨_, rfl⟩
                rw [← hnn20] at ho ⊢
                have U20 := Aside0.mk (own_swap [_] [_, _, _] ho)
                have fz := blk_frozen (own_swap [_, _, _, _, _, _] [_] U20.out).pt 2
                clear ho hnn20
                refine hK.out _ _ ((blk_cell (own_swap [_, _, _, _, _, _] [_] U20.out).pt 2).trans rfl) (fun hHeld => ?_)
                clear hK K
                refine norm_ (a' := ?_) ?_ ?_
                rotate_left
                · show Act.put _ (some 67) _ = _
                  simp only [Act.put, List.setIfInBounds_toArray, List.set_cons_zero, List.set_cons_succ, i64_w, i32_w]
                  rfl
                refine pure_ (i := 6) (N := some 68) (v := ?_) (a' := ?_) (tfA 7 8) rfl rfl (any_of HT_.out (by kernel_rfl)) (fun _ _ _ h => h) (Or.inl ⟨by rfl, ?_⟩) ?_ ?_
                rotate_left
                · intro w'
                  go_simp
                  with_reducible rfl
                rotate_left
                · simp only [Act.put, List.setIfInBounds_toArray, List.set_cons_zero, List.set_cons_succ, i64_w, i32_w]
                  rfl
                refine last_ (i := 7) (N := none) (tfA 8 8) rfl rfl (one_of HT_.out (by kernel_rfl)) (by decide) (fun K hK => ?_)
                refine skip_ (w1 := ?_) (by rfl) rfl ?_ ?_
                rotate_left
                · go_simp
                  rfl
                refine hK.out _ _ ?_
                clear hK K
                refine done_ (done_of HT_.out (by kernel_rfl)) ?_
                clear hHeld
                have S20 := Aside0.mk (own_swap [_] [_, _, _, _, _, _] ((own_swap [_, _, _, _, _, _] [_] U20.out).set (i := 2) (.slice An20 nn20 cn20)))
                clear fz K20 M20 U20
                refine then_n ?_
                generalize hW : World.setCell wb20 _ _ = wd20 at S20 ⊢
                clear hW
                go_upto_region 21 with (fail)
                first | refine quiet_exit ?_ | refine quiet_block ?_
                refine start_ (n := 8) (S := fun w' => w'.cell? ⟨B4, 3, none⟩ = some v3) (ds := [7]) (tfA 0 8) (by kernel_rfl) rfl rfl ((blk_cell (own_swap [_, _, _, _, _, _] [_] S20.out.drew).pt 3).trans rfl) (fun hHeld => ?_)
                refine with_tabW tk.tab21 tk.bits21 (fun HT_ HW_ => ?_)
                refine pure_ (i := 0) (N := some 69) (v := ?_) (a' := ?_) (tfA 1 8) rfl rfl (any_of HT_.out (by kernel_rfl)) (fun _ _ _ h => h) (Or.inl ⟨by rfl, ?_⟩) ?_ ?_
                rotate_left
                · intro w'
                  go_simp
                  with_reducible rfl
                rotate_left
                · simp only [Act.put, List.setIfInBounds_toArray, List.set_cons_zero, List.set_cons_succ, i64_w, i32_w]
                  rfl
                refine pure_ (i := 2) (N := some 71) (v := ?_) (a' := ?_) #[true, false, true, false, false, false, false, false] rfl rfl (any_of HT_.out (by kernel_rfl)) (fun _ _ _ h => h) (Or.inl ⟨by rfl, ?_⟩) ?_ ?_
                rotate_left
                · intro w'
                  go_simp
                  with_reducible rfl
                rotate_left
                · simp only [Act.put, List.setIfInBounds_toArray, List.set_cons_zero, List.set_cons_succ, i64_w, i32_w]
                  rfl
                refine take_ (i := 1) (N := some 70) (v := ?_) (a' := ?_) (tfA 3 8) rfl rfl (take_ofW HT_.out HW_.out (by kernel_rfl)) (fun _ _ _ h => h) (Or.inl ⟨by rfl, ?_⟩) hHeld ?_ ?_
                rotate_left
                · intro w' s0
                  go_simp
                  with_reducible rfl
                rotate_left
                · simp only [Act.put, List.setIfInBounds_toArray, List.set_cons_zero, List.set_cons_succ, i64_w, i32_w]
                  rfl
                refine one_ (i := 3) (N := some 72) (tfA 4 8) rfl rfl (one_of HT_.out (by kernel_rfl)) (by decide) (fun K hK => ?_)
                refine goes_ Tryd.func29 (by kernel_rfl) rfl #[.pointer (some ⟨BR, 0, none⟩), .int .i64 3] (by rfl) rfl rfl (by simp only [List.map_toArray, List.map_cons, List.map_nil]; rfl) ?_
                refine (next_at T (6 * k + 10 * q + 7) 3 (by decide) (by decide) HP21.out S20.out.drew).mono ?_
                rintro e wa21 ⟨rfl, ho⟩
                have K21 := Aside0.mk ho
                rw [HVL21.out]
                refine ⟨_, rfl, ?_⟩
                clear ho S20
                refine hK.out _ _ ((blk_cell (own_swap [_, _, _, _, _, _] [_] K21.out).pt 3).trans rfl) (fun hHeld => ?_)
                clear hK K
                refine norm_ (a' := ?_) ?_ ?_
                rotate_left
                · show Act.put _ (some 72) _ = _
                  simp only [Act.put, List.setIfInBounds_toArray, List.set_cons_zero, List.set_cons_succ, i64_w, i32_w]
                  rfl
                refine one_ (i := 4) (N := some 73) (tfA 5 8) rfl rfl (one_of HT_.out (by kernel_rfl)) (by decide) (fun K hK => ?_)
                have M21 := Aside0.mk (K21.out.alloc' (.cells #[.int .i64 p21] 3))
                refine value_ (w1 := ?_) (v := ?_) (by rfl) rfl ?_ ?_
                rotate_left 2
                · go_simp
                  constructor
                  · rfl
                  · rfl
                refine hK.out _ _ ((blk_cell (own_swap [_, _, _, _, _, _] [_] M21.out).pt 3).trans rfl) (fun hHeld => ?_)
                clear hK K
                refine norm_ (a' := ?_) ?_ ?_
                rotate_left
                · show Act.put _ (some 73) _ = _
                  simp only [Act.put, List.setIfInBounds_toArray, List.set_cons_zero, List.set_cons_succ, i64_w, i32_w]
                  rfl
                refine one_ (i := 5) (N := some 74) (tfA 6 8) rfl rfl (one_of HT_.out (by kernel_rfl)) (by decide) (fun K hK => ?_)
                refine own_append_step (w0 := w) (Kd.int .i64) (by rfl) (.tmp 70) (.tmp 73) 24 3 (.int .i64 0) 8 rfl Tryd.underlying24 infoInt rfl (by decide) (by decide) v3 (tlT T k q) p21 [.int .i64 p21] (by first | rfl | (go_simp; done)) (by first | rfl | (go_simp; done)) rfl (own_swap [_, _, _, _] [_] K21.out) HLN21.out ?_
                intro vn21 wb21 ho
                rw [HNX21.out] at ho
                obtain ⟨An21, cn21, rfl, _, _⟩ := ho.reads
                obtain ⟨nn21, hnn21⟩ : ∃ n, n = (tlT T k (q + 1)).length := ⟨_, rfl⟩
                rw [← hnn21] at ho ⊢
                have U21 := Aside0.mk (own_swap [_] [_, _, _, _] ho)
                have fz := blk_frozen (own_swap [_, _, _, _, _, _] [_] U21.out).pt 3
                clear ho hnn21
                refine hK.out _ _ ((blk_cell (own_swap [_, _, _, _, _, _] [_] U21.out).pt 3).trans rfl) (fun hHeld => ?_)
                clear hK K
                refine norm_ (a' := ?_) ?_ ?_
                rotate_left
                · show Act.put _ (some 74) _ = _
                  simp only [Act.put, List.setIfInBounds_toArray, List.set_cons_zero, List.set_cons_succ, i64_w, i32_w]
                  rfl
                refine pure_ (i := 6) (N := some 75) (v := ?_) (a' := ?_) (tfA 7 8) rfl rfl (any_of HT_.out (by kernel_rfl)) (fun _ _ _ h => h) (Or.inl ⟨by rfl, ?_⟩) ?_ ?_
                rotate_left
                · intro w'
                  go_simp
                  with_reducible rfl
                rotate_left
                · simp only [Act.put, List.setIfInBounds_toArray, List.set_cons_zero, List.set_cons_succ, i64_w, i32_w]
                  rfl
                refine last_ (i := 7) (N := none) (tfA 8 8) rfl rfl (one_of HT_.out (by kernel_rfl)) (by decide) (fun K hK => ?_)
                refine skip_ (w1 := ?_) (by rfl) rfl ?_ ?_
                rotate_left
                · go_simp
                  rfl
                refine hK.out _ _ ?_
                clear hK K
                refine done_ (done_of HT_.out (by kernel_rfl)) ?_
                clear hHeld
                have S21 := Aside0.mk (own_swap [_] [_, _, _, _, _, _] ((own_swap [_, _, _, _, _, _] [_] U21.out).set (i := 3) (.slice An21 nn21 cn21)))
                clear fz K21 M21 U21
                refine then_n ?_
                generalize hW : World.setCell wb21 _ _ = wd21 at S21 ⊢
                clear hW
                go_wp2_with fail
                go_roundw
                case rel => exact ⟨q + 1, _, _, _, by omega, by go_num, ⟨S21.out⟩⟩
                case measure => simp [intOf]; omega
              · obtain rfl : q = bb := by omega
                have dl : decide ((q : Int) < (q : Int)) = false := decide_eq_false (by omega)
                have dln : decide (q < q) = false := decide_eq_false (by omega)
                obtain ⟨R, hR⟩ : ∃ R, R = T.extract (6 * k + 10 * q) T.size := ⟨_, rfl⟩
                have hRz : R.size = T.size - (6 * k + 10 * q) := by rw [hR, size_extract' _ _ _ (Nat.le_refl _)]
                have hTz := HCZ2.out
                have hzb : Z ≤ 15360 := by have := HCZ.out; omega
                have hks : G.s.toNat = k := by rw [HSN.out, Int.toNat_natCast]
                have hqb : G.b.toNat = q := by rw [HBB.out, Int.toNat_natCast]
                have hall : allZ R ↔ restZ G T := by
                  unfold allZ restZ
                  rw [hks, hqb]
                  constructor
                  · intro h j h1 h2
                    have := h (j - (6 * k + 10 * q)) (by omega)
                    rw [bn_bt] at this
                    have e := bn_extract T (6 * k + 10 * q) T.size (j - (6 * k + 10 * q)) (by omega) (Nat.le_refl _)
                    rw [← hR, show 6 * k + 10 * q + (j - (6 * k + 10 * q)) = j by omega] at e
                    omega
                  · intro h j hj
                    have := h (6 * k + 10 * q + j) (by omega) (by omega)
                    rw [bn_bt]
                    have e := bn_extract T (6 * k + 10 * q) T.size j (by omega) (Nat.le_refl _)
                    rw [← hR] at e
                    omega
                have hpk : (l.length = snN G ∧ ∀ p ∈ l, p.size = G.y.toNat) := ⟨by rw [HLEN.out, HN.out], fun p hp => by rw [HYN.out, Int.toNat_natCast]; exact HSZ.out p hp⟩
                have HO := Aside0.mk (show Own.Own w wr (Eye BR R :: Ints v0 (flT T k) :: Ints v1 (coT T k q) :: Ints v2 (slT T k q) :: Ints v3 (tlT T k q) :: Boxes B2 B4 B5 G v0 v1 v2 v3 []) from by rw [hR]; exact HO.out)
                have hR6 : R.size ≤ 1000000 := by omega
                by_cases hz : allZ R
                · have hp : takeP G l = (takeD G T, 0) := by
                    unfold takeP
                    rw [if_pos HOK.out, if_pos ⟨hpk.1, hpk.2, by rw [← HT.out]; exact hall.1 hz⟩, ← HT.out]
                  have htd : takeD G T = ⟨flT T k, coT T k q, slT T k q, tlT T k q⟩ := by
                    unfold takeD flT coT slT tlT
                    rw [hks, hqb]
                  rw [htd] at hp
                  have HP := Aside0.mk hp
                  have HE := Aside0.mk (end_yes hR6 hz HO.out)
                  clear hp htd hpk hall hks hqb hzb hTz hRz hR hR6 hz HO
                  go_wp2_with fail
                  refine HE.out.mono ?_
                  rintro e w5 ⟨rfl, ho⟩
                  obtain ⟨a0, d0, rfl, _, _⟩ := (own_swap [_] [_] ho).reads
                  obtain ⟨a1, d1, rfl, _, _⟩ := (own_swap [_, _] [_] ho).reads
                  obtain ⟨a2, d2, rfl, _, _⟩ := (own_swap [_, _, _] [_] ho).reads
                  obtain ⟨a3, d3, rfl, _, _⟩ := (own_swap [_, _, _, _] [_] ho).reads
                  obtain ⟨m0, hm0⟩ : ∃ m, m = (flT T k).length := ⟨_, rfl⟩
                  obtain ⟨m1, hm1⟩ : ∃ m, m = (coT T k q).length := ⟨_, rfl⟩
                  obtain ⟨m2, hm2⟩ : ∃ m, m = (slT T k q).length := ⟨_, rfl⟩
                  obtain ⟨m3, hm3⟩ : ∃ m, m = (tlT T k q).length := ⟨_, rfl⟩
                  rw [← hm0, ← hm1, ← hm2, ← hm3] at ho
                  clear hm0 hm1 hm2 hm3
                  have H6 := Aside0.mk ho
                  have nn1 := own_ne2 (own_swap [_, _, _, _, _] [_, _] ho)
                  have nn2 := nn1.symm
                  obtain ⟨y0, y1, y2, y3, f0, f1, f2, f3⟩ := cells4 (own_swap [_, _, _, _, _, _] [_] ho).pt
                  have z0 := blk_cell (own_swap [_, _, _, _, _] [_] ho).pt 0
                  have g0 := blk_frozen (own_swap [_, _, _, _, _] [_] ho).pt 0
                  simp only [List.getElem?_toArray, List.getElem?_cons_zero] at z0
                  clear ho HE
                  go_wp2_with fail
                  have H7 := (((((own_swap [_, _, _, _, _, _] [_] H6.out).set (i := 0) (.slice a0 m0 d0)).set (i := 1) (.slice a1 m1 d1)).set (i := 2) (.slice a2 m2 d2)).set (i := 3) (.slice a3 m3 d3))
                  have H8 := (own_swap [_, _, _, _, _, _] [_] H7).set (i := 0) (.int .i64 0)
                  clear y0 y1 y2 y3 z0 f0 f1 f2 f3 g0 H6 H7
                  generalize hW : World.setCell _ _ (Value.int .i64 0) = W at H8 ⊢
                  obtain ⟨y0, y1, y2, y3, _, _, _, _⟩ := cells4 H8.drop.pt
                  have z0 := blk_cell H8.pt 0
                  simp only [List.getElem?_toArray, List.getElem?_cons_zero, List.setIfInBounds_toArray, List.set_cons_zero, List.set_cons_succ] at y0 y1 y2 y3 z0
                  refine leaves_cons (f := 27) (args := #[.pointer (some ⟨B4, 0, none⟩), .pointer (some ⟨B5, 0, none⟩)]) (by simp) (by simp [go_sem]) ?_
                  refine (catch_idle B4 B5 _).mono ?_
                  rintro e u' w6 ⟨rfl, rfl, rfl⟩
                  refine ⟨.tuple #[.agg #[.slice a0 m0 d0, .slice a1 m1 d1, .slice a2 m2 d2, .slice a3 m3 d3], .int .i64 0], ?_, ?_⟩
                  · simp [results, Tryd.results9, go_sem, y0, y1, y2, y3, z0]
                  · unfold TakeEnd
                    rw [HP.out]
                    exact ⟨_, _, _, _, rfl, (own_swap [_, _, _, _] [_] H8.drop.drop.drop).drop⟩
                · have hp : takeP G l = (nilD, 130) := by
                    unfold takeP
                    rw [if_pos HOK.out, if_neg]
                    rintro ⟨_, _, q3⟩
                    rw [← HT.out] at q3
                    exact hz (hall.2 q3)
                  have HP := Aside0.mk hp
                  have HE := Aside0.mk (end_no hR6 hz HO.out)
                  clear hp hpk hall hks hqb hzb hTz hRz hR hR6 hz HO
                  go_wp2_with fail
                  refine HE.out.mono ?_
                  rintro e w5 ⟨rfl, ho⟩
                  exact door_no HP.out rfl rfl (own_swap [_, _, _, _, _, _] [_] ho |> own_swap [_] [_, _, _, _, _] |> fun h => own_swap [_, _, _, _, _] [_, _] h)
  · have e1 : ((l.length : Int) == (N : Int)) = false := by rw [beq_eq_false_iff_ne]; omega
    have e2 : (l.length == N) = false := by rw [beq_eq_false_iff_ne]; exact hlen
    have hp : takeP G l = (nilD, 130) := by
      unfold takeP
      rw [if_pos HOK.out, if_neg (fun q => hlen (by rw [HN.out]; exact q.1))]
    have HP := Aside0.mk hp
    clear hp
    go_wp2_with fail
    exact door_no HP.out rfl rfl H2.out.pull2
theorem take_calls {w : World} (G : G6) (A : Option Addr) (c : Nat) (l : List ByteArray) (hb : (Lit.int .i64 G.b).wf = true) (hl : (Lit.int .i64 G.l).wf = true) (hc : l.length ≤ c) (hr : Kd.C Kd.string w A l.length l) :
    Calls Tryd.prog 9 #[geoV G, .slice A l.length c] w (TakeEnd w G l) := by
  by_cases hok : G.Ok
  · exact take_ok G A c l hb hl hok hc hr
  · exact take_geo G A c l hb hl hok
end Go.Proofs.YteofihmeiikhbaaDoor.PG
end
