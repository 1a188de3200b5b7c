/- The law's proof: words, contracts of the functions that it reaches, plain lemmas. -/
import Derived.ArgAppend
import Derived.Below
import Derived.BigQuiet
import Derived.Carry
import Derived.Deep.AppendLies
import Derived.Deep.CutBlock
import Derived.Deep.DeepCutAuto
import Derived.Deep.Draws
import Derived.Deep.LoopGhost
import Derived.Deep.OwnRows
import Derived.Deep.QuietTactic
import Derived.Deep.RegionHeld3
import Derived.Deep.RegionWith
import Derived.KernelRfl
import Derived.Laws.BitsLemmas
import Derived.Laws.BytesArg
import Derived.Laws.IdiomCopy
import Derived.Laws.MakeOwn
import Derived.Laws.OwnMore
import Derived.Laws.Rows
import Derived.Laws.Slices
import Derived.Lib.AppendStr
import Derived.Lib.BufferMore
import Derived.Lib.ConvBytes
import Derived.Lib.Hide
import Derived.Lib.LazyBuf
import Derived.Maps.AppendAt
import Derived.OpenShut
import Derived.OrdersHeld
import Derived.Outline
import Derived.OwnWalk
import Derived.OwnWalkIn
import Derived.RegionTactic
import Derived.RowKit3
import Derived.StillTailTactics
import Derived.Tactics
import Derived.WalkKit
import Derived.WideLaws
import Derived.Test.YtdohaocbhcniaaaDoorSu14
import Derived.Test.YtdohaocbhcniaaaDoorSu13
import Derived.Test.YtdohaocbhcniaaaDoorSu15
import Derived.Shelf.Strings.BuilderF
import Derived.Shelf.Strings.Repeat
import Derived.Test.YtdohaocbhcniaaaDoorSu9
import Derived.Test.YtdohaocbhcniaaaDoorSu10
section
/- Package sheet, by hand: a page. -/
set_option linter.unusedVariables false
set_option linter.unusedSimpArgs false
namespace Go.Proofs.YtdohaocbhcniaaaDoor.PG
open Go.RowKit Go.Shelf Go.Proofs.YtdohaocbhcniaaaDoorW.PrintWords Go.Proofs.YtdohaocbhcniaaaDoor.Mem Go.Proofs.YtdohaocbhcniaaaDoor.Own Go.Proofs.YtdohaocbhcniaaaDoor.Hw

/-- How many, and so many of the records. -/
def catR (l : List S30) : Nat → ByteArray
  | 0 => ⟨#[UInt8.ofNat l.length]⟩
  | i + 1 => catR l i ++ recS (l.getD i z30)
theorem catR_size (l : List S30) : ∀ i, (catR l i).size = 1 + 9 * i
  | 0 => rfl
  | i + 1 => by
    show (catR l i ++ recS _).size = _
    rw [ByteArray.size_append, catR_size l i, recS_size]
    omega
def zeroS (m : Nat) : ByteArray := ⟨(Lib.repeatL [0] m).toArray⟩
theorem zeroS_size (m : Nat) : (zeroS m).size = m := by
  show (Lib.repeatL [0] m).toArray.size = m
  rw [List.size_toArray, Lib.repeatL_length]
  simp
def pageB (n : Nat) (l : List S30) : ByteArray := catR l l.length ++ zeroS (n - (1 + 9 * l.length))
def allR (l : List S30) : Prop := ∀ j, j < l.length → mayR (l.getD j z30)
open Classical in
noncomputable def pageV (n : Nat) (l : List S30) : ByteArray × Int := if allR l then (pageB n l, 0) else (⟨#[]⟩, 110)
theorem u8_of (n : Nat) (h : n < 256) : ((UInt8.ofNat n).toNat : Int) = (n : Int) := by
  rw [UInt8.toNat_ofNat']
  omega
section
variable {w0 w : World} {b : Nat} {s : ByteArray} {L : List Asn}
theorem own_byte (h : Own.Own w0 w (BldA b s :: L)) (hL : Away L) (c : UInt8) (hl : s.size + 1 ≤ 140737488355328) :
    Calls Tryd.prog 57 #[.pointer (some ⟨b, 0, none⟩), .int .u8 (c.toNat : Int)] w fun e w' => e = .returned .nilIface ∧ Own.Own w0 w' (BldA b (s.push c) :: L) := by
  refine (Any.Builder_WriteByte_k lays167 extra167 w0.heap.size b (Lib.strCells s) (c.toNat : Int) w (bld_isF h) (by rw [Lib.strCells_length]; exact hl) h.size).mono ?_
  rintro e w' ⟨h1, h2, h3, h4⟩
  refine ⟨h1, bld_after h hL (.inr ?_) h3 h4⟩
  rw [strCells_push]
  exact h2
theorem own_len (h : Own.Own w0 w (BldA b s :: L)) :
    Calls Tryd.prog 60 #[.pointer (some ⟨b, 0, none⟩)] w fun e w' => e = .returned (.int .i64 s.size) ∧ w' = w := by
  have := Any.Builder_Len_f lays170 w0.heap.size b (Lib.strCells s) w (bld_isF h)
  rw [Lib.strCells_length] at this
  exact this
end
set_option maxHeartbeats 4000000 in
set_option maxRecDepth 100000 in
theorem page_calls (A : Option Addr) (c : Nat) (l : List S30) (n : Nat) (w : World) (hn : n ≤ 256) (h1 : 1 ≤ l.length) (hl : 1 + 9 * l.length ≤ n) (hA : Kd.C k30 w A l.length l) :
    Calls Tryd.prog 30 #[.slice A l.length c, .int .i64 n] w fun e w' => e = .returned (.tuple #[.string (pageV n l).1, .int .i64 (pageV n l).2]) ∧ Below w.heap.size w w' := by
  obtain ⟨ad, rfl, _⟩ := at_T30 hA 0 (by omega) (by omega)
  have HA := Aside0.mk hA
  have hby := own_byte (own_bld (Own.Own.new w)) Away.nil (UInt8.ofNat l.length) (by show 0 + 1 ≤ _; omega)
  rw [u8_of _ (by omega)] at hby
  have HBY := Aside0.mk hby
  have hcv : (l.length : Int) % 256 = (l.length : Int) := by omega
  clear hA hby
  go_enter Tryd.func30, Tryd.ntmps30
  go_wp2_with fail
  refine HBY.out.mono ?_
  rintro e w1 ⟨rfl, hb1⟩
  have H1 : Aside0 (Own.Own w w1 [BldA w.heap.size (catR l 0)]) := ⟨hb1⟩
  clear hb1 HBY hcv
  go_wp2_with fail
  go_loopw [17] (fun v17 wr => ∃ (i : Nat), i ≤ l.length ∧ v17 = .int .i64 i ∧ Aside0 (∀ j, j < i → mayR (l.getD j z30)) ∧ Aside0 (Own.Own w wr [BldA w.heap.size (catR l i)])) (fun v17 _ => l.length - (intOf v17).toNat)
  case atStart => exact ⟨0, by omega, rfl, ⟨fun j hj => by omega⟩, H1⟩
  case round =>
    clear H1
    obtain ⟨i, hin, rfl, HM, HO⟩ := hrel
    by_cases hlt : i < l.length
    · have dl : decide ((i : Int) < (l.length : Int)) = true := decide_eq_true (by omega)
      have dln : decide (i < l.length) = true := decide_eq_true hlt
      obtain ⟨ad', e', x0, x1, x2⟩ := at_T30 (Kd.C_below HA.out HO.out.below) (i : Int) (by omega) (by omega)
      obtain rfl : ad = ad' := Option.some.inj e'
      obtain ⟨x, hx⟩ : ∃ x, x = l.getD i z30 := ⟨_, rfl⟩
      have hx' : rd_T30 l (i : Int) = x := by rw [hx]; unfold rd_T30; rw [Int.toNat_natCast]
      rw [hx', Int.toNat_natCast] at x0 x1 x2
      have HX := Aside0.mk hx
      clear hx hx' e'
      have g1 : (0 ≤ (i : Int)) = True := eq_true (by omega)
      have g2 : ((i : Int) < (l.length : Nat)) = True := eq_true (by omega)
      have g3 : (i < l.length) = True := eq_true hlt
      have ha := HO.out.alloc' (.cells #[.int .i64 x.f0, .int .i64 x.f1, .int .i64 x.f2] 30)
      have H2 := Aside0.mk ha
      clear ha HO
      go_wp2_with fail
      clear x0 x1 x2 dl dln
      refine (rec_Put.calls 2 x.f0 x.f1 x.f2 (recB x).1 (recB x).2 _ (rput_is x 0)).mono ?_
      rintro e w2 ⟨rfl, hb⟩
      have H3 := Aside0.mk (H2.out.move hb)
      clear hb H2
      by_cases hm : mayR x
      · rw [show recB x = (recS x, 0) from if_pos hm]
        go_wp2_with fail
        refine (own_write (t := recS x) H3.out Away.nil (by rw [catR_size, recS_size]; omega)).mono ?_
        rintro e w3 ⟨rfl, hb⟩
        have H4 := Aside0.mk hb
        clear hb H3
        go_wp2_with fail
        go_roundw
        case rel =>
          refine ⟨i + 1, by omega, by go_num, ⟨fun j hj => ?_⟩, ⟨?_⟩⟩
          · by_cases e : j = i
            · rw [e, ← HX.out]; exact hm
            · exact HM.out j (by omega)
          · show Own.Own _ _ [BldA _ (catR l i ++ recS (l.getD i z30))]
            rw [← HX.out]
            exact H4.out
        case measure => simp [intOf]; omega
      · rw [show recB x = (⟨#[]⟩, 110) from if_neg hm]
        have hV : pageV n l = (⟨#[]⟩, 110) := if_neg (fun q => hm (by rw [HX.out]; exact q i hlt))
        have HV := Aside0.mk hV
        clear hV
        go_wp2_with fail
        go_ret2
        exact ⟨by rw [HV.out]; rfl, H3.out.below⟩
    · obtain rfl : i = l.length := by omega
      have hV : pageV n l = (pageB n l, 0) := if_pos HM.out
      have HV := Aside0.mk hV
      clear hV
      have dl : decide ((l.length : Int) < (l.length : Int)) = false := decide_eq_false (by omega)
      have dln : decide (l.length < l.length) = false := decide_eq_false (by omega)
      go_wp2_with fail
      refine (own_string HO.out Away.nil (by rw [catR_size]; omega)).mono ?_
      rintro e w2 ⟨rfl, hb⟩
      have H2 := Aside0.mk hb
      clear hb HO dl dln
      go_wp2_with fail
      refine (own_len H2.out).mono ?_
      rintro e w3 ⟨rfl, rfl⟩
      go_wp2_with fail
      rw [show wrap64 ((n : Int) - ((catR l l.length).size : Nat)) = ((n - (1 + 9 * l.length) : Nat) : Int) from by rw [catR_size]; unfold wrap64; omega]
      refine (Any.strings_Repeat lays105 extra105 ⟨#[0]⟩ (n - (1 + 9 * l.length)) _ (by omega) (by show 1 * _ ≤ _; omega)).mono ?_
      rintro e w4 ⟨rfl, hb⟩
      have H4 := Aside0.mk (H2.out.move hb)
      have hz := catR_size l l.length
      have hz2 := zeroS_size (n - (1 + 9 * l.length))
      rw [show (⟨(Lib.repeatL (⟨#[0]⟩ : ByteArray).data.toList (n - (1 + 9 * l.length))).toArray⟩ : ByteArray) = zeroS (n - (1 + 9 * l.length)) from rfl]
      have hq : (9223372036854775807 < (catR l l.length).size + (zeroS (n - (1 + 9 * l.length))).size) = False := eq_false (by omega)
      clear hb H2
      go_wp2_with fail
      go_ret2
      exact ⟨by rw [HV.out]; rfl, H4.out.below⟩
end Go.Proofs.YtdohaocbhcniaaaDoor.PG
end

section
/- Package sheet, by hand: Pack. -/
set_option linter.unusedVariables false
set_option linter.unusedSimpArgs false
namespace Go.Proofs.YtdohaocbhcniaaaDoor.PG
open Go.RowKit Go.Shelf Go.Proofs.YtdohaocbhcniaaaDoorW.PrintWords Go.Proofs.YtdohaocbhcniaaaDoor.Mem Go.Proofs.YtdohaocbhcniaaaDoor.Own Go.Proofs.YtdohaocbhcniaaaDoor.Hw

theorem own_append {P : Program} {ops : Array Oper} {rest : List Oper} {o : Oper} {a : Act} {Q : Exit → Act → World → Prop} {α : Type} {w0 W : World} {L : List Asn} (d : Kd α) (hgd : o.guard = none) (s x : Operand) (t e : TypeId) (z : Value) (bytes : Nat)
    (ho : o.op = .call { callee := .builtin .append, args := #[s, x], argTypes := #[t, t] })
    (ht : P.underlying t = some (.slice e)) (hinfo : (P.info? e).map (fun i => (i.zero, i.size, i.bytes)) = some (some z, d.sz, bytes)) (hz : z.cells.size = d.sz) (hs0 : 0 < d.sz) (hb0 : 0 < bytes)
    (v : Value) (xs : List α) (p : α) (cs : List Value) (hs : a.eval s = v) (hx : a.eval x = .slice (some ⟨W.heap.size, 0, none⟩) 1 1) (hp : d.M W w0.heap.size (fun _ => False) p cs)
    (HO : Own w0 W (Row d e v xs :: L)) (hl : (xs.length + 1) * bytes ≤ 140737488355328)
    (h : ∀ v1 w1, Own w0 w1 (Row d e v1 (xs ++ [p]) :: L) → wpList P ops Q rest (a.put o.dst v1) w1) :
    wpList P ops Q (o :: rest) a (W.alloc (.cells cs.toArray e)) := by
  obtain ⟨S, hS, hk, f⟩ := HO.head
  refine Kd.R_append d (w0 := W) w0.heap.size hgd s x t e z bytes ho ht hinfo hz hs0 hb0 v xs p cs (fun k => S k ∨ W.heap.size ≤ k) (fun _ => False) hs hx hp (fun k hk => hk.elim) (fun k hk => .inr hk) (Kd.R_mono hS (fun k hk => .inl hk)) (Below.refl _ _) HO.size hl ?_
  intro v1 w1 hR hB hG hat
  refine h v1 w1 (f w1 [Row d e v1 (xs ++ [p])] ⟨hB, hG.size, fun k hk1 hk2 => hG.block k hk1 (fun he => hk2 ?_)⟩ (Hold.one hR))
  exact hS.1 k he.symm
theorem infoStr : (Tryd.prog.info? 9).map (fun i => (i.zero, i.size, i.bytes)) = some (some (.string ⟨#[]⟩), 1, 16) := by kernel_rfl
/-- How many a page holds. -/
def holdV (n : Int) : Int := if n < 16 ∨ 256 < n then 0 else (n - 1) / 9
theorem hold_is (n : Int) : sheet_Hold.f n = some (holdV n) := by
  unfold sheet_Hold.f holdV
  by_cases h1 : n < 16
  · rw [if_pos h1, if_pos (.inl h1)]
  · rw [if_neg h1]
    by_cases h2 : n > 256
    · rw [if_pos h2, if_pos (.inr h2)]
    · rw [if_neg h2, if_neg (by omega), sw64 (n - 1) (by omega), Int.tdiv_eq_ediv_of_nonneg (by omega), sw64 _ (by omega)]
open Classical in
/-- The pages of records, h a page. -/
noncomputable def packV (h n : Nat) : Nat → List S30 → List ByteArray → List ByteArray × Int
  | 0, _, out => (out, 0)
  | f + 1, l, out => if l.length = 0 then (out, 0) else if allR (l.take h) then packV h n f (l.drop h) (out ++ [pageB n (l.take h)]) else ([], 110)
def lenOf : Value → Nat
  | .slice _ n _ => n
  | _ => 0
abbrev Txt (v : Value) (ts : List ByteArray) : Asn := Row Kd.string 9 v ts
section
variable {w0 w : World} {L : List Asn}
set_option maxHeartbeats 4000000 in
set_option maxRecDepth 100000 in
theorem pack_no (A : Option Addr) (c : Nat) (l : List S30) (n : Int) (h0 : holdV n = 0) (HO : Own w0 w L) :
    Calls Tryd.prog 9 #[.slice A l.length c, .int .i64 n] w fun e w' => ∃ v, e = .returned (.tuple #[v, .int .i64 2]) ∧ Own w0 w' (Txt v [] :: L) := by
  have HA := Aside0.mk HO
  clear HO
  go_enter Tryd.func9, Tryd.ntmps9
  go_wp2_with fail
  refine (sheet_Hold.calls n 0 _ (by rw [hold_is, h0])).mono ?_
  rintro e w1 ⟨rfl, hb⟩
  go_wp2_with fail
  go_ret2
  refine ⟨_, rfl, ?_⟩
  have h1 := HA.out.move hb.below
  exact h1.fresh (R := [Txt (.slice none 0 0) []]) (Below.refl _ _) (Hold.one (Kd.R_nil _ _ _ _ _))
set_option maxHeartbeats 4000000 in
set_option maxRecDepth 100000 in
theorem pack_yes (A : Option Addr) (c : Nat) (l : List S30) (n H : Nat) (h16 : 16 ≤ n) (h256 : n ≤ 256) (hH : H = (n - 1) / 9) (hA : Kd.C k30 w0 A l.length l) (hc : l.length ≤ c) (hl : l.length ≤ 1000) (HO : Own w0 w L) :
    Calls Tryd.prog 9 #[.slice A l.length c, .int .i64 n] w fun e w' => ∃ v, e = .returned (.tuple #[v, .int .i64 (packV H n (l.length + 1) l []).2]) ∧ Own w0 w' (Txt v (packV H n (l.length + 1) l []).1 :: L) := by
  have hh : sheet_Hold.f (n : Int) = some (H : Int) := by rw [hold_is]; unfold holdV; rw [if_neg (by omega)]; congr 1; omega
  have HS := Aside0.mk (show Own w0 w (Txt (.slice none 0 0) [] :: L) from HO.fresh (R := [Txt (.slice none 0 0) []]) (Below.refl _ _) (Hold.one (Kd.R_nil _ _ _ _ _)))
  have HC := Aside0.mk (And.intro hA hc)
  have H1 : 1 ≤ H := by omega
  have H9 : 1 + 9 * H ≤ n := by omega
  have H28 : H ≤ 28 := by omega
  clear HO hA hc hH
  go_enter Tryd.func9, Tryd.ntmps9
  go_wp2_with fail
  refine (sheet_Hold.calls n H _ hh).mono ?_
  rintro e w1 ⟨rfl, hb⟩
  have H2 := Aside0.mk (HS.out.move hb.below)
  clear hb HS hh
  have e0 : ((H : Int) == 0) = false := beq_eq_false_iff_ne.2 (by omega)
  have e0n : (H == 0) = false := beq_eq_false_iff_ne.2 (by omega)
  go_wp2_with fail
  clear e0 e0n
  go_loopw [0, 7] (fun v0 v7 wr => ∃ (A : Option Addr) (c f : Nat) (r : List S30) (ts : List ByteArray), v0 = .slice A r.length c ∧ r.length < f ∧ ts.length + r.length ≤ l.length ∧ Aside0 (Kd.C k30 w0 A r.length r ∧ r.length ≤ c) ∧ Aside0 (packV H n f r ts = packV H n (l.length + 1) l []) ∧ Aside0 (Own w0 wr (Txt v7 ts :: L))) (fun v0 _ _ => lenOf v0)
  case atStart => exact ⟨A, c, l.length + 1, l, [], rfl, by omega, by simp, HC, ⟨rfl⟩, H2⟩
  case round =>
    clear H2 HC
    obtain ⟨A1, c1, f, r, ts, rfl, hf, hts, HC, HP, HO⟩ := hrel
    obtain ⟨g, rfl⟩ : ∃ g, f = g + 1 := ⟨f - 1, by omega⟩
    by_cases hr : 0 < r.length
    · have dl : decide ((r.length : Int) > 0) = true := decide_eq_true (by omega)
      have dl2 : decide (0 < (r.length : Int)) = true := decide_eq_true (by omega)
      have dln : decide (0 < r.length) = true := decide_eq_true hr
      obtain ⟨k, hk⟩ : ∃ k, k = min H r.length := ⟨_, rfl⟩
      have hmin : min (H : Int) (r.length : Int) = (k : Int) := by omega
      have hk1 : 1 ≤ k := by omega
      have hkr : k ≤ r.length := by omega
      have hkc := HC.out.2
      have HK := Aside0.mk hk
      clear hk
      go_wp2_with fail
      have htk : (r.take k).length = k := by rw [List.length_take]; omega
      have hpc := page_calls A1 k (r.take k) n wr h256 (by omega) (by omega) (Kd.C_below (Kd.C_take HC.out.1 hkr) HO.out.below)
      rw [htk] at hpc
      refine hpc.mono ?_
      rintro e w2 ⟨rfl, hb⟩
      have H3 := Aside0.mk (HO.out.move hb)
      clear hb HO hpc htk dl dl2 dln hmin
      by_cases hal : allR (r.take k)
      · rw [show pageV n (r.take k) = (pageB n (r.take k), 0) from if_pos hal]
        have hp : packV H n (g + 1) r ts = packV H n g (r.drop k) (ts ++ [pageB n (r.take k)]) := by
          have hm : r.take H = r.take k ∧ r.drop H = r.drop k := by
            by_cases q : H ≤ r.length
            · have : k = H := by have := HK.out; omega
              rw [this]; exact ⟨rfl, rfl⟩
            · have : k = r.length := by have := HK.out; omega
              rw [this, List.take_of_length_le (by omega), List.take_of_length_le (Nat.le_refl _), List.drop_of_length_le (by omega), List.drop_of_length_le (Nat.le_refl _)]
              exact ⟨rfl, rfl⟩
          show (if r.length = 0 then _ else _) = _
          rw [if_neg (by omega), hm.1, hm.2, if_pos hal]
        rw [hp] at HP
        obtain ⟨P, hP⟩ : ∃ P, P = pageB n (r.take k) := ⟨_, rfl⟩
        rw [← hP] at HP ⊢
        clear hP hp
        have hlp : (ts.length + 1) * 16 ≤ 140737488355328 := by omega
        go_wp2_with (at_builtin; refine own_append (w0 := w0) Kd.string rfl (.tmp 34) (.tmp 36) 24 9 (.string ⟨#[]⟩) 16 rfl Tryd.underlying24 infoStr rfl (by decide) (by decide) u7 ts P [.string P] (by first | rfl | (go_simp; done)) (by first | rfl | (go_simp; done)) rfl H3.out hlp ?_; intro v1 w4 ho)
        have H4 := Aside0.mk ho
        clear ho H3 hlp
        have hdl : (r.drop k).length = r.length - k := List.length_drop
        go_roundw
        case rel => exact ⟨(if c1 = k then A1 else A1.map (·.add (k * 3))), c1 - k, g, r.drop k, ts ++ [P], by rw [hdl], by omega, by rw [List.length_append, hdl]; show ts.length + 1 + (r.length - k) ≤ _; omega, ⟨Kd.C_drop HC.out.1 hkr hkc, by omega⟩, HP, H4⟩
        case measure => show r.length - k < r.length; omega
      · rw [show pageV n (r.take k) = (⟨#[]⟩, 110) from if_neg hal]
        have hp : packV H n (g + 1) r ts = ([], 110) := by
          have hm : r.take H = r.take k := by
            by_cases q : H ≤ r.length
            · have : k = H := by have := HK.out; omega
              rw [this]
            · have : k = r.length := by have := HK.out; omega
              rw [this, List.take_of_length_le (by omega), List.take_of_length_le (Nat.le_refl _)]
          show (if r.length = 0 then _ else _) = _
          rw [if_neg (by omega), hm, if_neg hal]
        rw [hp] at HP
        go_wp2_with fail
        go_ret2
        rw [← HP.out]
        exact ⟨_, rfl, H3.out.drop.fresh (R := [Txt (.slice none 0 0) []]) (Below.refl _ _) (Hold.one (Kd.R_nil _ _ _ _ _))⟩
    · have dl : decide ((r.length : Int) > 0) = false := decide_eq_false (by omega)
      have dl2 : decide (0 < (r.length : Int)) = false := decide_eq_false (by omega)
      have dln : decide (0 < r.length) = false := decide_eq_false hr
      have hp : packV H n (g + 1) r ts = (ts, 0) := if_pos (by omega)
      rw [hp] at HP
      go_wp2_with fail
      go_ret2
      rw [← HP.out]
      exact ⟨_, rfl, HO.out⟩
end
end Go.Proofs.YtdohaocbhcniaaaDoor.PG
end

section
/- Package sheet, by hand: Unpack. -/
set_option linter.unusedVariables false
set_option linter.unusedSimpArgs false
namespace Go.Proofs.YtdohaocbhcniaaaDoor.PG
open Go.RowKit Go.Shelf Go.Proofs.YtdohaocbhcniaaaDoorW.PrintWords Go.Proofs.YtdohaocbhcniaaaDoor.Mem Go.Proofs.YtdohaocbhcniaaaDoor.Own Go.Proofs.YtdohaocbhcniaaaDoor.Hw

/-- The records of so many. -/
def recAt (s : ByteArray) (j : Nat) : S30 := takeR (s.extract (1 + 9 * j) (1 + 9 * (j + 1)))
def recsV (s : ByteArray) (n : Nat) : List S30 := (List.range n).map (recAt s)
theorem recsV_length (s : ByteArray) (n : Nat) : (recsV s n).length = n := by unfold recsV; rw [List.length_map, List.length_range]
theorem recsV_next (s : ByteArray) (n : Nat) : recsV s (n + 1) = recsV s n ++ [recAt s n] := by unfold recsV; rw [List.range_succ, List.map_append]; rfl
def fitU (s : ByteArray) : Prop := 1 ≤ bn s 0 ∧ (bn s 0 : Int) ≤ holdV s.size ∧ allZ (s.extract (1 + 9 * bn s 0) s.size) ∧ ∀ j, j < bn s 0 → mayR (recAt s j)
open Classical in
noncomputable def unpV (s : ByteArray) : List S30 × Int := if holdV s.size = 0 then ([], 2) else if fitU s then (recsV s (bn s 0), 0) else ([], 3)
theorem unpV_yes {s : ByteArray} (h0 : ¬ holdV s.size = 0) (h : fitU s) : unpV s = (recsV s (bn s 0), 0) := by unfold unpV; rw [if_neg h0, if_pos h]
theorem unpV_no {s : ByteArray} (h0 : ¬ holdV s.size = 0) (h : ¬ fitU s) : unpV s = ([], 3) := by unfold unpV; rw [if_neg h0, if_neg h]
abbrev Recs (v : Value) (xs : List S30) : Asn := Row k30 30 v xs
theorem infoRec : (Tryd.prog.info? 30).map (fun i => (i.zero, i.size, i.bytes)) = some (some (.agg #[.int .i64 0, .int .i64 0, .int .i64 0]), 3, 24) := by kernel_rfl
theorem emp_y (x : ByteArray) (h : x.size = 0) : x.toList.isEmpty = true := by
  rw [ByteArray.toList_eq, List.isEmpty_iff, ← List.length_eq_zero_iff]
  exact h
theorem emp_n (x : ByteArray) (h : x.size ≠ 0) : x.toList.isEmpty = false := by
  rw [ByteArray.toList_eq]
  cases hx : x.data.toList with
  | nil => exact absurd (by show x.data.size = 0; rw [← Array.length_toList, hx]; rfl) h
  | cons a l => rfl
section
variable {w0 w : World} {L : List Asn}
theorem nilR (h : Own w0 w L) : Own w0 w (Recs (.slice none 0 0) [] :: L) := h.fresh (R := [Recs (.slice none 0 0) []]) (Below.refl _ _) (Hold.one (Kd.R_nil _ _ _ _ _))
set_option maxHeartbeats 4000000 in
set_option maxRecDepth 100000 in
theorem unpack_own (s : ByteArray) (hs : s.size ≤ 140737488355328) (HO : Own w0 w L) :
    Calls Tryd.prog 12 #[.string s] w fun e w' => ∃ v, e = .returned (.tuple #[v, .int .i64 (unpV s).2]) ∧ Own w0 w' (Recs v (unpV s).1 :: L) := by
  have HA := Aside0.mk HO
  clear HO
  by_cases h0 : holdV s.size = 0
  · have hV : unpV s = ([], 2) := if_pos h0
    rw [hV]
    have HH := Aside0.mk (show sheet_Hold.f (s.size : Int) = some 0 from by rw [hold_is, h0])
    clear h0 hV
    go_enter Tryd.func12, Tryd.ntmps12
    go_wp2_with fail
    refine (sheet_Hold.calls _ 0 _ HH.out).mono ?_
    rintro e w1 ⟨rfl, hb⟩
    have H1 := Aside0.mk (HA.out.move hb.below)
    clear hb HA
    go_wp2_with fail
    go_ret2
    exact ⟨_, rfl, nilR H1.out⟩
  have hsz : 16 ≤ s.size ∧ s.size ≤ 256 := by unfold holdV at h0; split at h0 <;> omega
  obtain ⟨H, hH⟩ : ∃ H : Nat, holdV s.size = (H : Int) ∧ H = (s.size - 1) / 9 := ⟨(s.size - 1) / 9, by unfold holdV; rw [if_neg (by omega)]; omega, rfl⟩
  have HH := Aside0.mk (show sheet_Hold.f (s.size : Int) = some (H : Int) from by rw [hold_is, hH.1])
  have h1 : 1 ≤ H := by omega
  have hHs : 1 + 9 * H ≤ s.size := by omega
  have HY := Lib.hid h0
  obtain ⟨n, hn⟩ : ∃ n, n = bn s 0 := ⟨_, rfl⟩
  have hb0 : (s[0]'(by omega)).toNat = n := by rw [hn, bn_at s 0 (by omega)]
  have hn256 : n < 256 := by rw [hn]; exact bn_lt s 0
  have e0 : ((H : Int) == 0) = false := beq_eq_false_iff_ne.2 (by omega)
  have e0n : (H == 0) = false := beq_eq_false_iff_ne.2 (by omega)
  by_cases hn1 : n < 1
  · have hV : unpV s = ([], 3) := unpV_no h0 (fun q => by have := q.1; omega)
    rw [hV]
    have d1 : decide ((n : Int) < 1) = true := decide_eq_true (by omega)
    have d1n : decide (n < 1) = true := decide_eq_true hn1
    clear hV hH h0 hn
    go_enter Tryd.func12, Tryd.ntmps12
    go_wp2_with fail
    refine (sheet_Hold.calls _ _ _ HH.out).mono ?_
    rintro e w1 ⟨rfl, hb⟩
    have H1 := Aside0.mk (HA.out.move hb.below)
    clear hb HA
    go_wp2_with fail
    go_ret2
    exact ⟨_, rfl, nilR H1.out⟩
  have d1 : decide ((n : Int) < 1) = false := decide_eq_false (by omega)
  have d1n : decide (n < 1) = false := decide_eq_false hn1
  by_cases hnH : H < n
  · have hV : unpV s = ([], 3) := unpV_no h0 (fun q => by have := q.2.1; rw [hH.1] at this; omega)
    rw [hV]
    have d2 : decide ((n : Int) > (H : Int)) = true := decide_eq_true (by omega)
    have d2b : decide ((H : Int) < (n : Int)) = true := decide_eq_true (by omega)
    have d2n : decide (H < n) = true := decide_eq_true hnH
    clear hV hH h0 hn
    go_enter Tryd.func12, Tryd.ntmps12
    go_wp2_with fail
    refine (sheet_Hold.calls _ _ _ HH.out).mono ?_
    rintro e w1 ⟨rfl, hb⟩
    have H1 := Aside0.mk (HA.out.move hb.below)
    clear hb HA
    go_wp2_with fail
    go_ret2
    exact ⟨_, rfl, nilR H1.out⟩
  have d2 : decide ((n : Int) > (H : Int)) = false := decide_eq_false (by omega)
  have d2b : decide ((H : Int) < (n : Int)) = false := decide_eq_false (by omega)
  have d2n : decide (H < n) = false := decide_eq_false hnH
  have hnn : 1 + 9 * n ≤ s.size := by omega
  have HN := Lib.hid hn
  have HHH := Lib.hid hH.1
  clear hH h0 hn
  go_enter Tryd.func12, Tryd.ntmps12
  go_wp2_with fail
  refine (sheet_Hold.calls _ _ _ HH.out).mono ?_
  rintro e w1 ⟨rfl, hb⟩
  have H1 := Aside0.mk (HA.out.move hb.below)
  clear hb HA
  go_wp2_with fail
  refine (trim_calls (s.extract (1 + 9 * n) s.size) _ (by rw [ByteArray.size_extract]; omega)).mono ?_
  rintro e w2 ⟨⟨t, rfl, ht⟩, hb⟩
  have H2 := Aside0.mk (H1.out.move hb)
  clear hb H1
  by_cases hz : t.size = 0
  · have he := emp_y t hz
    have HALL := Aside0.mk (ht.1 hz)
    have H3 := Aside0.mk (nilR H2.out)
    clear ht hz H2
    go_wp2_with fail
    clear d1 d1n d2 d2b d2n e0 e0n hb0 he
    go_loopw [35, 6] (fun v35 v6 wr => ∃ (i : Nat), i ≤ n ∧ v35 = .int .i64 i ∧ Aside0 (∀ j, j < i → mayR (recAt s j)) ∧ Aside0 (Own w0 wr (Recs v6 (recsV s i) :: L))) (fun v35 _ _ => n - (intOf v35).toNat)
    case atStart => exact ⟨0, by omega, rfl, ⟨fun j hj => by omega⟩, H3⟩
    case round =>
      clear H3
      obtain ⟨i, hin, rfl, HM, HO⟩ := hrel
      by_cases hlt : i < n
      · have dl : decide ((i : Int) < (n : Int)) = true := decide_eq_true (by omega)
        have dln : decide (i < n) = true := decide_eq_true hlt
        have q1 : (1 + 9 * (i : Int)) ≤ 1 + 9 * ((i : Int) + 1) := by omega
        have q2 : 1 + 9 * ((i : Int) + 1) ≤ (s.size : Nat) := by omega
        have q3 : (0 : Int) ≤ 1 + 9 * (i : Int) := by omega
        have q4 : (0 : Int) ≤ 1 + 9 * ((i : Int) + 1) := by omega
        have hz9 : (s.extract (1 + 9 * i) (1 + 9 * (i + 1))).size = 9 := by rw [ByteArray.size_extract]; omega
        have htk := take_is _ hz9 20 (by omega)
        have hlr : ((recsV s i).length + 1) * 24 ≤ 140737488355328 := by rw [recsV_length]; omega
        have HLR := Lib.hid hlr
        clear hlr hz9
        by_cases hm : mayR (recAt s i)
        · obtain ⟨x, hx⟩ : ∃ x, x = recAt s i := ⟨_, rfl⟩
          have htk' : rec_Take.f 20 (s.extract (1 + 9 * i) (1 + 9 * (i + 1))) = some (x.f0, x.f1, x.f2, (0 : Int)) := by rw [htk, hx]; exact if_pos hm
          have HTK := Aside0.mk htk'
          have HX := Aside0.mk hx
          clear htk htk' hx
          go_wp2_with fail
          refine (rec_Take.calls 20 _ _ _ _ _ _ HTK.out).mono ?_
          rintro e w3 ⟨rfl, hb⟩
          have H5 := Aside0.mk ((HO.out.move hb).alloc' (.cells #[.int .i64 x.f0, .int .i64 x.f1, .int .i64 x.f2] 30))
          clear hb HO
          go_wp2_with (at_builtin; refine own_append (w0 := w0) k30 rfl (.tmp 53) (.tmp 55) 22 30 (.agg #[.int .i64 0, .int .i64 0, .int .i64 0]) 24 rfl Tryd.underlying22 infoRec rfl (by decide) (by decide) u6 (recsV s i) x [.int .i64 x.f0, .int .i64 x.f1, .int .i64 x.f2] (by first | rfl | (go_simp; done)) (by first | rfl | (go_simp; done)) (k30_mkM _ _ _ x) H5.out HLR.out ?_; intro v1 w4 ho)
          have H6 := Aside0.mk ho
          clear ho H5
          go_roundw
          case rel =>
            refine ⟨i + 1, by omega, by go_num, ⟨fun j hj => ?_⟩, ⟨?_⟩⟩
            · by_cases e : j = i
              · rw [e]; exact hm
              · exact HM.out j (by omega)
            · rw [recsV_next, ← HX.out]
              exact H6.out
          case measure => simp [intOf]; omega
        · have htk' : rec_Take.f 20 (s.extract (1 + 9 * i) (1 + 9 * (i + 1))) = some ((0 : Int), (0 : Int), (0 : Int), (3 : Int)) := by rw [htk]; exact if_neg hm
          have HTK := Aside0.mk htk'
          have hV : unpV s = ([], 3) := unpV_no HY.out (fun q => hm (q.2.2.2 i (by rw [← HN.out]; exact hlt)))
          have HV := Aside0.mk hV
          clear htk htk' hV
          go_wp2_with fail
          refine (rec_Take.calls 20 _ _ _ _ _ _ HTK.out).mono ?_
          rintro e w3 ⟨rfl, hb⟩
          have H5 := Aside0.mk ((HO.out.move hb).alloc' (.cells #[.int .i64 0, .int .i64 0, .int .i64 0] 30))
          clear hb HO
          go_wp2_with fail
          go_ret2
          rw [HV.out]
          exact ⟨_, rfl, nilR H5.out.drop⟩
      · obtain rfl : i = n := by omega
        have hV : unpV s = (recsV s (bn s 0), 0) := unpV_yes HY.out ⟨by rw [← HN.out]; omega, by rw [← HN.out, HHH.out]; omega, by rw [← HN.out]; exact HALL.out, by rw [← HN.out]; exact HM.out⟩
        rw [← HN.out] at hV
        have HV := Aside0.mk hV
        clear hV
        have dl : decide ((i : Int) < (i : Int)) = false := decide_eq_false (by omega)
        have dln : decide (i < i) = false := decide_eq_false (by omega)
        go_wp2_with fail
        go_ret2
        rw [HV.out]
        exact ⟨_, rfl, HO.out⟩
  · have he := emp_n t hz
    have hV : unpV s = ([], 3) := unpV_no HY.out (fun q => hz (ht.2 (by rw [HN.out]; exact q.2.2.1)))
    have HV := Aside0.mk hV
    clear hV ht hz
    go_wp2_with fail
    go_ret2
    rw [HV.out]
    exact ⟨_, rfl, nilR H2.out⟩
end
end Go.Proofs.YtdohaocbhcniaaaDoor.PG
end

section
/- Package sheet, in plain words: the records of pages, one by one. -/
set_option linter.unusedVariables false
set_option linter.unusedSimpArgs false
namespace Go.Proofs.YtdohaocbhcniaaaDoor.PG
open Go.RowKit Go.Shelf Go.Proofs.YtdohaocbhcniaaaDoorW.PrintWords Go.Proofs.YtdohaocbhcniaaaDoor.Mem Go.Proofs.YtdohaocbhcniaaaDoor.Own Go.Proofs.YtdohaocbhcniaaaDoor.Hw

def pgAt (ps : List ByteArray) (i : Nat) : ByteArray := rdOf ByteArray.empty ps (i : Int)
/-- What is told of the first i pages, and whether all of them are whole. -/
noncomputable def stU (ps : List ByteArray) : Nat → List (Nat × S30) × Bool
  | 0 => ([], true)
  | i + 1 => if (stU ps i).2 = true ∧ (unpV (pgAt ps i)).2 = 0 then ((stU ps i).1 ++ (unpV (pgAt ps i)).1.map (fun r => (i, r)), true) else ((stU ps i).1, false)
theorem stU_yes {ps : List ByteArray} {i : Nat} (h1 : (stU ps i).2 = true) (h2 : (unpV (pgAt ps i)).2 = 0) : stU ps (i + 1) = ((stU ps i).1 ++ (unpV (pgAt ps i)).1.map (fun r => (i, r)), true) := if_pos ⟨h1, h2⟩
theorem stU_no {ps : List ByteArray} {i : Nat} (h : ¬ ((stU ps i).2 = true ∧ (unpV (pgAt ps i)).2 = 0)) : stU ps (i + 1) = ((stU ps i).1, false) := if_neg h
theorem stU_stuck {ps : List ByteArray} {i : Nat} (h : (stU ps i).2 = false) : ∀ d, stU ps (i + d) = stU ps i
  | 0 => rfl
  | d + 1 => by
    have ih := stU_stuck h d
    rw [← Nat.add_assoc, stU_no (by rw [ih, h]; simp), ih, ← h]
theorem stU_pre (ps : List ByteArray) (i : Nat) : ∀ d, ∃ t, (stU ps (i + d)).1 = (stU ps i).1 ++ t
  | 0 => ⟨[], by simp⟩
  | d + 1 => by
    obtain ⟨t, ht⟩ := stU_pre ps i d
    rw [← Nat.add_assoc]
    by_cases h : (stU ps (i + d)).2 = true ∧ (unpV (pgAt ps (i + d))).2 = 0
    · rw [stU_yes h.1 h.2]
      exact ⟨t ++ _, by show (stU ps (i + d)).1 ++ _ = _; rw [ht, List.append_assoc]⟩
    · rw [stU_no h]
      exact ⟨t, ht⟩
theorem unpV_len (s : ByteArray) : (unpV s).1.length ≤ 255 := by
  have := bn_lt s 0
  unfold unpV
  split
  · exact Nat.zero_le _
  · split
    · show (recsV s (bn s 0)).length ≤ 255
      rw [recsV_length]; omega
    · exact Nat.zero_le _
theorem stU_len (ps : List ByteArray) : ∀ i, (stU ps i).1.length ≤ 255 * i
  | 0 => Nat.le_refl _
  | i + 1 => by
    have ih := stU_len ps i
    have h := unpV_len (pgAt ps i)
    by_cases hy : (stU ps i).2 = true ∧ (unpV (pgAt ps i)).2 = 0
    · rw [stU_yes hy.1 hy.2]
      show ((stU ps i).1 ++ _).length ≤ _
      rw [List.length_append, List.length_map]
      omega
    · rw [stU_no hy]
      show (stU ps i).1.length ≤ _
      omega
/-- All that is told of so many pages. -/
noncomputable def flatU (ps : List ByteArray) : List (Nat × S30) := (stU ps ps.length).1
theorem flatU_at {ps : List ByteArray} {i : Nat} (hi : i < ps.length) (h1 : (stU ps i).2 = true) (h2 : (unpV (pgAt ps i)).2 = 0) (j : Nat) (hj : j < (unpV (pgAt ps i)).1.length) :
    (flatU ps)[(stU ps i).1.length + j]? = some (i, (unpV (pgAt ps i)).1.getD j z30) := by
  obtain ⟨t, ht⟩ := stU_pre ps (i + 1) (ps.length - (i + 1))
  rw [show i + 1 + (ps.length - (i + 1)) = ps.length by omega] at ht
  have ht' : flatU ps = ((stU ps i).1 ++ (unpV (pgAt ps i)).1.map (fun r => (i, r))) ++ t := by unfold flatU; rw [ht, stU_yes h1 h2]
  rw [ht', List.append_assoc, List.getElem?_append_right (by omega), show (stU ps i).1.length + j - (stU ps i).1.length = j by omega, List.getElem?_append_left (by rw [List.length_map]; exact hj), List.getElem?_map, List.getD_eq_getElem?_getD,
    List.getElem?_eq_getElem hj]
  rfl
theorem flatU_end {ps : List ByteArray} {i : Nat} (hi : i < ps.length) (h2 : ¬ (unpV (pgAt ps i)).2 = 0) : flatU ps = (stU ps i).1 := by
  have h := stU_no (ps := ps) (i := i) (fun h => h2 h.2)
  have h3 := stU_stuck (ps := ps) (i := i + 1) (by rw [h]) (ps.length - (i + 1))
  rw [show i + 1 + (ps.length - (i + 1)) = ps.length by omega] at h3
  unfold flatU
  rw [h3, h]
/-- How many of a page's records count. -/
noncomputable def takeN (ps : List ByteArray) (i : Nat) : Nat := if (stU ps (i + 1)).2 then (unpV (pgAt ps i)).1.length else 0
theorem takeN_le (ps : List ByteArray) (i : Nat) : takeN ps i ≤ (unpV (pgAt ps i)).1.length := by
  unfold takeN
  split
  · exact Nat.le_refl _
  · exact Nat.zero_le _
theorem stU_next (ps : List ByteArray) (i : Nat) : (stU ps (i + 1)).1 = (stU ps i).1 ++ ((unpV (pgAt ps i)).1.take (takeN ps i)).map (fun r => (i, r)) := by
  by_cases h : (stU ps i).2 = true ∧ (unpV (pgAt ps i)).2 = 0
  · have e := stU_yes h.1 h.2
    unfold takeN
    rw [e, if_pos rfl, List.take_length]
  · have e := stU_no h
    unfold takeN
    rw [e, if_neg (by simp), List.take_zero, List.map_nil, List.append_nil]
noncomputable def wantU (ps : List ByteArray) (i : Nat) : List S30 := (stU ps i).1.map (·.2)
noncomputable def plcU (ps : List ByteArray) (i : Nat) : List Int := (stU ps i).1.map (fun d => (d.1 : Int))
theorem wantU_next (ps : List ByteArray) (i : Nat) : wantU ps (i + 1) = wantU ps i ++ (unpV (pgAt ps i)).1.take (takeN ps i) := by
  unfold wantU
  rw [stU_next, List.map_append, List.map_map]
  congr 1
  exact List.map_id' _
theorem plcU_next (ps : List ByteArray) (i : Nat) : plcU ps (i + 1) = plcU ps i ++ List.replicate (takeN ps i) (i : Int) := by
  unfold plcU
  rw [stU_next, List.map_append, List.map_map]
  congr 1
  have : (fun (d : Nat × S30) => (d.1 : Int)) ∘ (fun r => (i, r)) = fun _ => (i : Int) := rfl
  rw [this, List.map_const', List.length_take, Nat.min_eq_left (takeN_le ps i)]
end Go.Proofs.YtdohaocbhcniaaaDoor.PG
end

section
/- Pages of records there and back, in plain words. -/
set_option linter.unusedVariables false
set_option linter.unusedSimpArgs false
namespace Go.Proofs.YtdohaocbhcniaaaDoor.PG
open Go.RowKit Go.Shelf Go.Proofs.YtdohaocbhcniaaaDoorW.PrintWords Go.Proofs.YtdohaocbhcniaaaDoor.Mem Go.Proofs.YtdohaocbhcniaaaDoor.Own Go.Proofs.YtdohaocbhcniaaaDoor.Hw

theorem one_bn (c : UInt8) : bn ⟨#[c]⟩ 0 = c.toNat := by
  have h : 0 < (⟨#[c]⟩ : ByteArray).size := by show 0 < 1; omega
  rw [bn_at _ 0 h]
  rfl
theorem catR_bn0 (l : List S30) : ∀ m, bn (catR l m) 0 = l.length % 256
  | 0 => by
    show bn ⟨#[UInt8.ofNat l.length]⟩ 0 = _
    rw [one_bn, UInt8.toNat_ofNat']
  | m + 1 => by
    show bn (catR l m ++ recS _) 0 = _
    rw [bn_append, if_pos (by rw [catR_size]; omega), catR_bn0 l m]
theorem catR_bn (l : List S30) : ∀ m j b, j < m → b < 9 → bn (catR l m) (1 + 9 * j + b) = bn (recS (l.getD j z30)) b
  | 0, j, b, h, _ => by omega
  | m + 1, j, b, h, hb => by
    show bn (catR l m ++ recS (l.getD m z30)) _ = _
    rw [bn_append, catR_size]
    by_cases e : j = m
    · rw [if_neg (by omega), e, show 1 + 9 * m + b - (1 + 9 * m) = b by omega]
    · rw [if_pos (by omega), catR_bn l m j b (by omega) hb]
theorem zeroS_bn : ∀ m i, bn (zeroS m) i = 0
  | 0, i => bn_out _ _ (Nat.zero_le _)
  | m + 1, i => by
    have e : zeroS (m + 1) = ⟨#[0]⟩ ++ zeroS m := by
      apply ByteArray.ext
      rw [ByteArray.data_append]
      simp [zeroS, Lib.repeatL]
    rw [e, bn_append]
    by_cases h : i < (⟨#[0]⟩ : ByteArray).size
    · rw [if_pos h]
      have : i = 0 := by have h2 : i < 1 := h; omega
      rw [this, one_bn]
      rfl
    · rw [if_neg h]
      exact zeroS_bn m _
theorem bt_bn0 (s : ByteArray) (i : Nat) : bt s (i : Int) = 0 ↔ bn s i = 0 := by
  rw [bn_bt]
  omega
theorem rec_ext (s : ByteArray) (j b : Nat) (h : 1 + 9 * (j + 1) ≤ s.size) (hb : b < 9) : bn (s.extract (1 + 9 * j) (1 + 9 * (j + 1))) b = bn s (1 + 9 * j + b) := bn_extract s _ _ b (by omega) h
/-- A page of records is unpacked to them. -/
theorem page_unp (n : Nat) (c : List S30) (h16 : 16 ≤ n) (h256 : n ≤ 256) (h1 : 1 ≤ c.length) (hc : c.length ≤ (n - 1) / 9) (hal : allR c) : (pageB n c).size = n ∧ unpV (pageB n c) = (c, 0) := by
  have hsz : (pageB n c).size = n := by
    unfold pageB
    rw [ByteArray.size_append, catR_size, zeroS_size]
    omega
  have hb0 : bn (pageB n c) 0 = c.length := by
    unfold pageB
    rw [bn_append, if_pos (by rw [catR_size]; omega), catR_bn0, Nat.mod_eq_of_lt (by omega)]
  have hrec : ∀ j, j < c.length → recAt (pageB n c) j = c.getD j z30 := by
    intro j hj
    have hx : (pageB n c).extract (1 + 9 * j) (1 + 9 * (j + 1)) = recS (c.getD j z30) := by
      refine bext (by rw [ByteArray.size_extract, hsz, recS_size]; omega) (fun b hb => ?_)
      rw [ByteArray.size_extract, hsz] at hb
      rw [rec_ext _ _ _ (by rw [hsz]; omega) (by omega)]
      unfold pageB
      rw [bn_append, if_pos (by rw [catR_size]; omega), catR_bn _ _ _ _ hj (by omega)]
    unfold recAt
    rw [hx, take_rec _ (hal j hj)]
  have hh : holdV (pageB n c).size = ((n - 1) / 9 : Nat) := by rw [hsz]; unfold holdV; rw [if_neg (by omega)]; omega
  have hf : fitU (pageB n c) := by
    refine ⟨by rw [hb0]; exact h1, by rw [hb0, hh]; omega, ?_, fun j hj => ?_⟩
    · intro i hi
      rw [hb0, hsz, ByteArray.size_extract, hsz] at hi
      rw [hb0, hsz, bt_ext _ _ _ _ (by rw [hsz]; exact Nat.le_refl _) (by omega), bt_bn0]
      unfold pageB
      rw [bn_append, catR_size, if_neg (by omega), zeroS_bn]
    · rw [hb0] at hj
      rw [hrec j hj]
      exact hal j hj
  refine ⟨hsz, ?_⟩
  rw [unpV_yes (by rw [hh]; omega) hf, hb0]
  congr 1
  refine List.ext_getElem? fun j => ?_
  by_cases hj : j < c.length
  · unfold recsV
    rw [List.getElem?_map, List.getElem?_range hj]
    show some (recAt _ j) = _
    rw [hrec j hj, List.getD_eq_getElem?_getD, List.getElem?_eq_getElem hj]
    rfl
  · rw [List.getElem?_eq_none (by rw [recsV_length]; omega), List.getElem?_eq_none (by omega)]
end Go.Proofs.YtdohaocbhcniaaaDoor.PG
end

section
/- The document's Hold. -/
set_option linter.unusedVariables false
set_option linter.unusedSimpArgs false
namespace Go.Proofs.YtdohaocbhcniaaaDoor.PG
open Go.RowKit Go.Proofs.YtdohaocbhcniaaaDoor.Hw Go.Proofs.YtdohaocbhcniaaaDoorW.PrintWords Go.Proofs.YtdohaocbhcniaaaDoorW.PrintLast

theorem refhold_loop (n : Nat) (h256 : n ≤ 256) : ∀ d j k : Nat, j + d = (n - 1) / 9 → 16 ≤ n → deckleref12_Hold.l0 (d + 1 + k) (n : Int) (j : Int) = some (((n - 1) / 9 : Nat) : Int)
  | 0, j, k, h, h16 => by
    rw [show 0 + 1 + k = k + 1 by omega, deckleref12_Hold.l0, sw64 ((j : Int) + 1) (by omega), sw64 (9 * ((j : Int) + 1)) (by omega), sw64 (1 + 9 * ((j : Int) + 1)) (by omega), if_neg (by omega)]
    congr 1
    omega
  | d + 1, j, k, h, h16 => by
    have ih := refhold_loop n h256 d (j + 1) k (by omega) h16
    rw [show d + 1 + 1 + k = (d + 1 + k) + 1 by omega, deckleref12_Hold.l0, sw64 ((j : Int) + 1) (by omega), sw64 (9 * ((j : Int) + 1)) (by omega), sw64 (1 + 9 * ((j : Int) + 1)) (by omega), if_pos (by omega)]
    exact ih
theorem refhold_is (n : Int) (k : Nat) (hk : 40 ≤ k) : deckleref12_Hold.f k n = some (holdV n) := by
  unfold deckleref12_Hold.f holdV
  by_cases h1 : n < 16
  · rw [if_pos h1, if_pos (.inl h1)]
    obtain ⟨q, rfl⟩ : ∃ q, k = q + 1 := ⟨k - 1, by omega⟩
    rw [deckleref12_Hold.j0, if_pos rfl]
  · rw [if_neg h1]
    obtain ⟨q, rfl⟩ : ∃ q, k = q + 1 := ⟨k - 1, by omega⟩
    rw [deckleref12_Hold.j0]
    by_cases h2 : n > 256
    · rw [decide_eq_true h2, if_pos rfl, if_pos (.inr h2)]
    · rw [decide_eq_false h2, if_neg (by decide), if_neg (by omega)]
      obtain ⟨m, rfl⟩ := Int.eq_ofNat_of_zero_le (show 0 ≤ n by omega)
      obtain ⟨r, hr⟩ : ∃ r, q = (m - 1) / 9 + 1 + r := ⟨q - ((m - 1) / 9 + 1), by omega⟩
      have := refhold_loop m (by omega) ((m - 1) / 9) 0 r (by omega) (by omega)
      rw [hr]
      rw [show ((0 : Nat) : Int) = 0 from rfl] at this
      rw [this]
      congr 1
      omega
end Go.Proofs.YtdohaocbhcniaaaDoor.PG
end

section
/- The document's Unpack, in plain words: the same. -/
set_option linter.unusedVariables false
set_option linter.unusedSimpArgs false
namespace Go.Proofs.YtdohaocbhcniaaaDoor.PG
open Go.RowKit Go.Shelf Go.Proofs.YtdohaocbhcniaaaDoorW.PrintWords Go.Proofs.YtdohaocbhcniaaaDoor.Mem Go.Proofs.YtdohaocbhcniaaaDoor.Own Go.Proofs.YtdohaocbhcniaaaDoor.Hw

theorem getref_loop (s : ByteArray) (h7 : s.size ≤ 7) : ∀ d i k : Nat, i + d = s.size → deckleref01_Get.l0 (d + 1 + k) s ((leV s i : Nat) : Int) ((256 ^ i : Nat) : Int) (i : Int) = some (((leV s s.size : Nat) : Int), 0)
  | 0, i, k, h => by
    obtain rfl : i = s.size := by omega
    rw [show 0 + 1 + k = k + 1 by omega, deckleref01_Get.l0, if_neg (by omega)]
  | d + 1, i, k, h => by
    have ih := getref_loop s h7 d (i + 1) k (by omega)
    have p7 : (256 : Nat) ^ 7 = 72057594037927936 := by decide
    have p1 : 256 ^ i ≤ 256 ^ 6 := Nat.pow_le_pow_right (by decide) (by omega)
    have p6 : (256 : Nat) ^ 6 = 281474976710656 := by decide
    have hl := leV_lt s (i + 1)
    have p2 : 256 ^ (i + 1) ≤ 256 ^ 7 := Nat.pow_le_pow_right (by decide) (by omega)
    have hb := bn_lt s i
    have hs : leV s (i + 1) = leV s i + bn s i * 256 ^ i := rfl
    have hm : bn s i * 256 ^ i ≤ 256 * 256 ^ i := Nat.mul_le_mul_right _ (by omega)
    have q : (2 : Int) ^ 64 = 18446744073709551616 := by decide
    have w1 : IntKind.u64.wrap ((bn s i : Nat) : Int) = ((bn s i : Nat) : Int) := wraps_u64 _ (by omega) (by rw [q]; omega)
    have e1 : IntKind.u64.wrap (IntKind.u64.wrap (bt s (i : Int)) * ((256 ^ i : Nat) : Int)) = ((bn s i * 256 ^ i : Nat) : Int) := by
      rw [bn_bt, w1, ← Int.natCast_mul]
      exact wraps_u64 _ (Int.natCast_nonneg _) (by rw [q]; omega)
    have e2 : IntKind.u64.wrap (((leV s i : Nat) : Int) + ((bn s i * 256 ^ i : Nat) : Int)) = ((leV s (i + 1) : Nat) : Int) := by
      rw [hs, ← Int.natCast_add]
      exact wraps_u64 _ (Int.natCast_nonneg _) (by rw [q]; omega)
    have e3 : IntKind.u64.wrap (((256 ^ i : Nat) : Int) * 256) = ((256 ^ (i + 1) : Nat) : Int) := by
      rw [Nat.pow_succ, Int.natCast_mul]
      exact wraps_u64 _ (by omega) (by rw [q]; omega)
    rw [show d + 1 + 1 + k = (d + 1 + k) + 1 by omega, deckleref01_Get.l0, if_pos (by omega), if_pos (by omega), e1, e2, e3, sw64 ((i : Int) + 1) (by omega)]
    exact ih
theorem of_is (s : ByteArray) (h1 : 1 ≤ s.size) (h7 : s.size ≤ 7) (k : Nat) (hk : 20 ≤ k) : deckleref04_Of.f k s = some ((leV s s.size : Nat) : Int) := by
  have hlt := leV_lt s s.size
  have p1 : (256 : Nat) ^ s.size ≤ 256 ^ 7 := Nat.pow_le_pow_right (by decide) h7
  have p4 : (256 : Nat) ^ 7 = 72057594037927936 := by decide
  obtain ⟨q, rfl⟩ : ∃ q, k = s.size + 1 + q + 1 := ⟨k - s.size - 2, by omega⟩
  have := getref_loop s h7 s.size 0 q (by omega)
  unfold deckleref04_Of.f deckleref01_Get.f
  rw [if_neg (by omega), show decide ((s.size : Int) > 8) = false from decide_eq_false (by omega), deckleref01_Get.j0, if_neg (by decide)]
  rw [show ((leV s 0 : Nat) : Int) = 0 from rfl, show ((256 ^ 0 : Nat) : Int) = 1 from rfl, show ((0 : Nat) : Int) = 0 from rfl] at this
  rw [this, Option.bind_some, w64' _ (by constructor <;> simp only <;> omega)]
theorem reftake_is (s : ByteArray) (hs : s.size = 9) (k : Nat) (hk : 30 ≤ k) : deckleref11_Take.f k s = if mayR (takeR s) then some ((takeR s).f0, (takeR s).f1, (takeR s).f2, (0 : Int)) else some ((0 : Int), (0 : Int), (0 : Int), (3 : Int)) := by
  have z2 := size_extract' s 1 3 (by omega)
  have z3 := size_extract' s 3 9 (by omega)
  have hb := bn_lt s 0
  have e1 : wrap64 (bt s 0) = ((bn s 0 : Nat) : Int) := by
    have := bn_bt s 0
    rw [show ((0 : Nat) : Int) = 0 from rfl] at this
    rw [this, sw64 _ (by omega)]
  unfold deckleref11_Take.f
  obtain ⟨q, rfl⟩ : ∃ q, k = q + 1 := ⟨k - 1, by omega⟩
  rw [if_pos (by omega), if_pos (by omega), if_pos (by decide), if_pos (by omega), of_is _ (by omega) (by omega) _ (by omega), Option.bind_some, if_pos (by decide), if_pos (by omega), of_is _ (by omega) (by omega) _ (by omega), Option.bind_some, z2, z3, e1]
  have hm' : deckleref11_May.f (q + 1) ((bn s 0 : Nat) : Int) ((leV (s.extract 1 3) (3 - 1) : Nat) : Int) ((leV (s.extract 3 9) (9 - 3) : Nat) : Int) = some (decide (mayR (takeR s))) := refmay_is (takeR s) q
  rw [hm', Option.bind_some]
  by_cases h : mayR (takeR s)
  · rw [decide_eq_true h, if_pos rfl, if_pos h]
    rfl
  · rw [decide_eq_false h, if_neg (by decide), if_neg h]
open Classical in
theorem refz_loop (s : ByteArray) (xs : List S30) (hs : s.size ≤ 256) : ∀ d i k : Nat, i + d = s.size → deckleref12_Unpack.l1 (d + 1 + k) s xs (i : Int) = if ∀ j, i ≤ j → j < s.size → bt s (j : Int) = 0 then some (xs, 0) else some ([], 3)
  | 0, i, k, h => by rw [show 0 + 1 + k = k + 1 by omega, deckleref12_Unpack.l1, if_neg (by omega), if_pos (fun j h1 h2 => by omega)]
  | d + 1, i, k, h => by
    have ih := refz_loop s xs hs d (i + 1) k (by omega)
    rw [show d + 1 + 1 + k = (d + 1 + k) + 1 by omega, deckleref12_Unpack.l1, if_pos (by omega), if_pos (by omega)]
    by_cases hb : bt s (i : Int) = 0
    · rw [if_pos hb, sw64 ((i : Int) + 1) (by omega)]
      refine ih.trans ?_
      by_cases q : ∀ j, i ≤ j → j < s.size → bt s (j : Int) = 0
      · rw [if_pos q, if_pos (fun j h1 h2 => q j (by omega) h2)]
      · rw [if_neg q, if_neg (fun z => q fun j h1 h2 => by
          by_cases e : j = i
          · rw [e]; exact hb
          · exact z j (by omega) h2)]
    · rw [if_neg hb, if_neg (fun z => hb (z i (Nat.le_refl _) (by omega)))]
open Classical in
theorem refu_loop (s : ByteArray) (n : Nat) (hs : s.size ≤ 256) (hn : 1 + 9 * n ≤ s.size) : ∀ d i k : Nat, i + d = n → 300 ≤ k → deckleref12_Unpack.l0 (d + 1 + k) s (n : Int) (recsV s i) (i : Int) = if ∀ j, i ≤ j → j < n → mayR (recAt s j) then deckleref12_Unpack.l1 k s (recsV s n) ((1 + 9 * n : Nat) : Int) else some ([], 3)
  | 0, i, k, h, hk => by
    obtain rfl : i = n := by omega
    rw [show 0 + 1 + k = k + 1 by omega, deckleref12_Unpack.l0, if_neg (by omega), if_pos (fun j h1 h2 => by omega), sw64 (9 * (i : Int)) (by omega), sw64 (1 + 9 * (i : Int)) (by omega)]
    congr 1
  | d + 1, i, k, h, hk => by
    have ih := refu_loop s n hs hn d (i + 1) k (by omega) hk
    have hz9 : (s.extract (1 + 9 * i) (1 + 9 * (i + 1))).size = 9 := by rw [ByteArray.size_extract]; omega
    have e1 : (1 + 9 * (i : Int)).toNat = 1 + 9 * i := by omega
    have e2 : (10 + 9 * (i : Int)).toNat = 1 + 9 * (i + 1) := by omega
    rw [show d + 1 + 1 + k = (d + 1 + k) + 1 by omega, deckleref12_Unpack.l0, if_pos (by omega), sw64 (9 * (i : Int)) (by omega), sw64 (1 + 9 * (i : Int)) (by omega), sw64 (10 + 9 * (i : Int)) (by omega), if_pos (by omega), if_pos (by omega), if_pos (by omega), e1, e2, reftake_is _ hz9 _ (by omega)]
    by_cases hm : mayR (recAt s i)
    · have hm' : mayR (takeR (s.extract (1 + 9 * i) (1 + 9 * (i + 1)))) := hm
      rw [if_pos hm', Option.bind_some, if_pos rfl, if_pos (by rw [recsV_length]; omega), sw64 ((i : Int) + 1) (by omega)]
      rw [recsV_next] at ih
      refine Eq.trans ?_ (ih.trans ?_)
      · rfl
      · by_cases q : ∀ j, i ≤ j → j < n → mayR (recAt s j)
        · rw [if_pos q, if_pos (fun j h1 h2 => q j (by omega) h2)]
        · rw [if_neg q, if_neg (fun z => q fun j h1 h2 => by
            by_cases e : j = i
            · rw [e]; exact hm
            · exact z j (by omega) h2)]
    · have hm' : ¬ mayR (takeR (s.extract (1 + 9 * i) (1 + 9 * (i + 1)))) := hm
      rw [if_neg hm', Option.bind_some, if_neg (by decide), if_neg (fun z => hm (z i (Nat.le_refl _) (by omega)))]
open Classical in
theorem refunp_is (s : ByteArray) (k : Nat) (hk : 2000 ≤ k) : deckleref12_Unpack.f k s = some (unpV s) := by
  unfold deckleref12_Unpack.f
  rw [refhold_is _ k (by omega), Option.bind_some]
  by_cases h0 : holdV s.size = 0
  · rw [if_pos h0]
    have : unpV s = ([], 2) := if_pos h0
    rw [this]
  · have hsz : 16 ≤ s.size ∧ s.size ≤ 256 := by unfold holdV at h0; split at h0 <;> omega
    have hh : holdV s.size = ((s.size - 1) / 9 : Nat) := by unfold holdV; rw [if_neg (by omega)]; omega
    have hb := bn_lt s 0
    have e1 : wrap64 (bt s 0) = ((bn s 0 : Nat) : Int) := by
      have := bn_bt s 0
      rw [show ((0 : Nat) : Int) = 0 from rfl] at this
      rw [this, sw64 _ (by omega)]
    obtain ⟨q, rfl⟩ : ∃ q, k = q + 1 := ⟨k - 1, by omega⟩
    rw [if_neg h0, if_pos (by omega), e1, hh]
    by_cases hn : bn s 0 < 1
    · rw [if_pos (by omega), deckleref12_Unpack.j0, if_pos rfl, unpV_no h0 (fun z => by have := z.1; omega)]
    · rw [if_neg (by omega), deckleref12_Unpack.j0]
      by_cases hH : (s.size - 1) / 9 < bn s 0
      · rw [decide_eq_true (by omega), if_pos rfl, unpV_no h0 (fun z => by have := z.2.1; rw [hh] at this; omega)]
      · rw [decide_eq_false (by omega), if_neg (by decide)]
        obtain ⟨r, rfl⟩ : ∃ r, q = bn s 0 + 1 + ((s.size - (1 + 9 * bn s 0)) + 1 + r) := ⟨q - (bn s 0 + 1) - ((s.size - (1 + 9 * bn s 0)) + 1), by omega⟩
        have hl := refu_loop s (bn s 0) hsz.2 (by omega) (bn s 0) 0 ((s.size - (1 + 9 * bn s 0)) + 1 + r) (by omega) (by omega)
        rw [show recsV s 0 = [] from rfl, show ((0 : Nat) : Int) = 0 from rfl] at hl
        rw [hl, refz_loop s (recsV s (bn s 0)) hsz.2 (s.size - (1 + 9 * bn s 0)) (1 + 9 * bn s 0) r (by omega)]
        by_cases hm : ∀ j, 0 ≤ j → j < bn s 0 → mayR (recAt s j)
        · rw [if_pos hm]
          by_cases hz : ∀ j, 1 + 9 * bn s 0 ≤ j → j < s.size → bt s (j : Int) = 0
          · rw [if_pos hz, unpV_yes h0 ⟨by omega, by rw [hh]; omega, fun i hi => by
              rw [ByteArray.size_extract] at hi
              rw [bt_ext s _ s.size i (Nat.le_refl _) (by omega)]
              exact hz _ (by omega) (by omega), fun j hj => hm j (Nat.zero_le _) hj⟩]
          · rw [if_neg hz, unpV_no h0 (fun z => hz fun j h1 h2 => by
              have := z.2.2.1 (j - (1 + 9 * bn s 0)) (by rw [ByteArray.size_extract]; omega)
              rw [bt_ext s _ s.size _ (Nat.le_refl _) (by omega), show 1 + 9 * bn s 0 + (j - (1 + 9 * bn s 0)) = j by omega] at this
              exact this)]
        · rw [if_neg hm, unpV_no h0 (fun z => hm fun j _ hj => z.2.2.2 j hj)]
end Go.Proofs.YtdohaocbhcniaaaDoor.PG
end

section
/- decklebook.SpoilRecs, by hand: what it leaves of a row of one's own is not told. -/
set_option linter.unusedVariables false
set_option linter.unusedSimpArgs false
namespace Go.Proofs.YtdohaocbhcniaaaDoor.PG
open Go.RowKit Go.Shelf Go.Proofs.YtdohaocbhcniaaaDoorW.PrintWords Go.Proofs.YtdohaocbhcniaaaDoor.Mem Go.Proofs.YtdohaocbhcniaaaDoor.Own Go.Proofs.YtdohaocbhcniaaaDoor.Hw

section
variable {w0 w : World} {L : List Asn}
/-- A row that is not empty, as its block. -/
theorem row_block {v : Value} {xs : List S30} (h : Own w0 w (Recs v xs :: L)) (hn : 0 < xs.length) : ∃ g c cs, v = .slice (some ⟨g, 0, none⟩) xs.length c ∧ 3 * xs.length ≤ cs.size ∧ Own w0 w (Pt g (.cells cs 30) :: L) := by
  obtain ⟨S, hs, hb, f⟩ := h.head
  obtain ⟨g, c, e, h1, h2, cs, hc⟩ := Kd.R_form hs hn
  obtain ⟨A, c', e', _, hr⟩ := Kd.R_reads hs
  rw [e] at e'
  injection e' with e1 e2 e3
  subst e1
  refine ⟨g, c, cs, e, ?_, f w [Pt g (.cells cs 30)] (Mod.refl _ _ _) (Hold.one ⟨hc, .inl (hs.1 g (by rw [e]; rfl))⟩)⟩
  obtain ⟨ad, e4, x0, x1, x2⟩ := at_T30 hr ((xs.length - 1 : Nat) : Int) (by omega) (by omega)
  obtain rfl := Option.some.inj e4
  rw [Int.toNat_natCast, add_plain] at x2
  have x2' : w.cell? ⟨g, (xs.length - 1) * 3 + 2, none⟩ = some (.int .i64 (rd_T30 xs ((xs.length - 1 : Nat) : Int)).f2) := x2
  rw [blk_cell hc] at x2'
  have := (Array.getElem?_eq_some_iff.1 x2').1
  omega
set_option maxHeartbeats 4000000 in
set_option maxRecDepth 100000 in
theorem spoilR_own (v : Value) (xs : List S30) (hl : xs.length ≤ 1000) (HO : Own w0 w (Recs v xs :: L)) :
    Calls Tryd.prog 15 #[v] w fun e w' => e = .returned (.tuple #[]) ∧ Own w0 w' L := by
  by_cases h0 : xs.length = 0
  · obtain ⟨A, c, rfl, _, _⟩ := HO.reads
    rw [h0] at HO ⊢
    have HA := Aside0.mk HO
    clear HO
    go_enter Tryd.func15, Tryd.ntmps15
    go_wp2_with fail
    go_loopw [5] (fun v5 wr => v5 = .int .i64 0 ∧ wr = w) (fun _ _ => 0)
    case atStart => exact ⟨rfl, rfl⟩
    case round =>
      obtain ⟨rfl, rfl⟩ := hrel
      go_wp2_with fail
      exact bodyPost_end (v := .tuple #[]) (by simp [results, Tryd.results15, go_sem]) rfl ⟨rfl, HA.out.drop⟩
  · obtain ⟨g, c, cs, rfl, hcs, ho⟩ := row_block HO (by omega)
    have HA := Aside0.mk ho
    obtain ⟨n, hn⟩ : ∃ n, n = xs.length := ⟨_, rfl⟩
    rw [← hn] at hcs ⊢
    have hn1 : n ≤ 1000 := by omega
    clear HO ho h0 hl hn
    go_enter Tryd.func15, Tryd.ntmps15
    go_wp2_with fail
    go_loopw [5] (fun v5 wr => ∃ (i : Nat) (cs : Array Value), i ≤ n ∧ v5 = .int .i64 i ∧ 3 * n ≤ cs.size ∧ Aside0 (Own w0 wr (Pt g (.cells cs 30) :: L))) (fun v5 _ => n - (intOf v5).toNat)
    case atStart => exact ⟨0, cs, by omega, rfl, hcs, HA⟩
    case round =>
      clear HA hcs
      obtain ⟨i, cs, hin, rfl, hcs, HO⟩ := hrel
      by_cases hlt : i < n
      · have dl : decide ((i : Int) < (n : Int)) = true := decide_eq_true (by omega)
        have dln : decide (i < n) = true := decide_eq_true hlt
        have hp := HO.out.pt
        obtain ⟨u0, hu0⟩ : ∃ u, cs[i * 3]? = some u := ⟨_, Array.getElem?_eq_getElem (by omega)⟩
        obtain ⟨u1, hu1⟩ : ∃ u, cs[i * 3 + 1]? = some u := ⟨_, Array.getElem?_eq_getElem (by omega)⟩
        obtain ⟨u2, hu2⟩ : ∃ u, cs[i * 3 + 2]? = some u := ⟨_, Array.getElem?_eq_getElem (by omega)⟩
        have x0 := (blk_cell hp (i * 3)).trans hu0
        have x1 := (blk_cell hp (i * 3 + 1)).trans hu1
        have x2 := (blk_cell hp (i * 3 + 2)).trans hu2
        have f0 := blk_frozen hp (i * 3)
        have f1 := blk_frozen hp (i * 3 + 1)
        have f2 := blk_frozen hp (i * 3 + 2)
        have g1 : (0 ≤ (i : Int)) = True := eq_true (by omega)
        have g2 : ((i : Int) < (n : Nat)) = True := eq_true (by omega)
        have g3 : (i < n) = True := eq_true hlt
        clear hp hu0 hu1 hu2
        go_wp2_with fail
        go_roundw
        case rel => refine ⟨i + 1, _, by omega, by go_num, by simp only [Array.size_setIfInBounds]; exact hcs, ⟨((HO.out.set (i := i * 3) _).set (i := i * 3 + 1) _).set (i := i * 3 + 2) _⟩⟩
        case measure => simp [intOf]; omega
      · obtain rfl : i = n := by omega
        have dl : decide ((i : Int) < (i : Int)) = false := decide_eq_false (by omega)
        have dln : decide (i < i) = false := decide_eq_false (by omega)
        go_wp2_with fail
        exact bodyPost_end (v := .tuple #[]) (by simp [results, Tryd.results15, go_sem]) rfl ⟨rfl, HO.out.drop⟩
end
end Go.Proofs.YtdohaocbhcniaaaDoor.PG
end

section
/- The law SheetBack: its pages, in plain words; a row behind a row. -/
set_option linter.unusedVariables false
set_option linter.unusedSimpArgs false
namespace Go.Proofs.YtdohaocbhcniaaaDoor.PG
open Go.RowKit Go.Shelf Go.Proofs.YtdohaocbhcniaaaDoorW.PrintWords Go.Proofs.YtdohaocbhcniaaaDoor.Mem Go.Proofs.YtdohaocbhcniaaaDoor.Own Go.Proofs.YtdohaocbhcniaaaDoor.Hw

theorem own_append_rows {P : Program} {ops : Array Oper} {rest : List Oper} {o : Oper} {a : Act} {Q : Exit → Act → World → Prop} {α : Type} {w0 W : World} {L : List Asn} (d : Kd α) (hgd : o.guard = none) (s x : Operand) (t e : TypeId) (z : Value) (bytes : Nat)
    (ho : o.op = .call { callee := .builtin .append, args := #[s, x], argTypes := #[t, t] })
    (ht : P.underlying t = some (.slice e)) (hinfo : (P.info? e).map (fun i => (i.zero, i.size, i.bytes)) = some (some z, d.sz, bytes)) (hz : z.cells.size = d.sz) (hs0 : 0 < d.sz) (hb0 : 0 < bytes)
    (v : Value) (xs ys : List α) (A : Option Addr) (m c : Nat) (hs : a.eval s = v) (hx : a.eval x = .slice A m c) (hys : d.C W A m ys) (hKM : ∀ x cs, d.K W x cs → d.M W w0.heap.size (fun _ => False) x cs)
    (HO : Own w0 W (Row d e v xs :: L)) (hl : (xs.length + m) * bytes ≤ 140737488355328)
    (h : ∀ v1 w1, Own w0 w1 (Row d e v1 (xs ++ ys) :: L) → wpList P ops Q rest (a.put o.dst v1) w1) :
    wpList P ops Q (o :: rest) a W := by
  obtain ⟨S, hS, hk, f⟩ := HO.head
  refine Kd.R_append_rows d (w0 := W) w0.heap.size hgd s x t e z bytes ho ht hinfo hz hs0 hb0 v xs ys A m c (fun k => S k ∨ W.heap.size ≤ k) (fun _ => False) hs hx (Kd.R_mono hS (fun k hk => .inl hk)) hys hKM (fun k hk => hk.elim) (fun k hk => .inr hk) (Below.refl _ _) HO.size hl ?_
  intro v1 w1 hR hB hG hat
  refine h v1 w1 (f w1 [Row d e v1 (xs ++ ys)] ⟨hB, hG.size, fun k hk1 hk2 => hG.block k hk1 (fun he => hk2 ?_)⟩ (Hold.one hR))
  exact hS.1 k he.symm
/-- The records of a page. -/
def chunk (H : Nat) (l : List S30) (j : Nat) : List S30 := (l.drop (H * j)).take H
def pagesN (H : Nat) (l : List S30) : Nat := (l.length + H - 1) / H
theorem chunk_drop (H : Nat) (l : List S30) (j : Nat) : chunk H (l.drop H) j = chunk H l (j + 1) := by
  unfold chunk
  rw [List.drop_drop, show H + H * j = H * (j + 1) by rw [Nat.mul_add]; omega]
theorem pagesN_step (H : Nat) (l : List S30) (h1 : 1 ≤ H) (hl : l.length ≠ 0) : pagesN H l = pagesN H (l.drop H) + 1 := by
  unfold pagesN
  rw [List.length_drop]
  by_cases h : H ≤ l.length
  · rw [show l.length + H - 1 = (l.length - H + H - 1) + H by omega, Nat.add_div_right _ (by omega)]
  · rw [show l.length - H + H - 1 = H - 1 by omega, Nat.div_eq_of_lt (show H - 1 < H by omega), show l.length + H - 1 = (l.length - 1) + H by omega, Nat.add_div_right _ (by omega), Nat.div_eq_of_lt (by omega)]
theorem allR_split (H : Nat) (l : List S30) : allR l ↔ allR (l.take H) ∧ allR (l.drop H) := by
  constructor
  · intro h
    constructor
    · intro j hj
      rw [List.length_take] at hj
      rw [List.getD_eq_getElem?_getD, List.getElem?_take, if_pos (by omega), ← List.getD_eq_getElem?_getD]
      exact h j (by omega)
    · intro j hj
      rw [List.length_drop] at hj
      rw [List.getD_eq_getElem?_getD, List.getElem?_drop, ← List.getD_eq_getElem?_getD]
      exact h _ (by omega)
  · rintro ⟨h1, h2⟩ j hj
    by_cases q : j < H
    · have := h1 j (by rw [List.length_take]; omega)
      rw [List.getD_eq_getElem?_getD, List.getElem?_take, if_pos q, ← List.getD_eq_getElem?_getD] at this
      exact this
    · have := h2 (j - H) (by rw [List.length_drop]; omega)
      rw [List.getD_eq_getElem?_getD, List.getElem?_drop, ← List.getD_eq_getElem?_getD, show H + (j - H) = j by omega] at this
      exact this
open Classical in
theorem pack_all (H n : Nat) (h1 : 1 ≤ H) : ∀ (f : Nat) (l : List S30) (ts : List ByteArray), l.length < f → (allR l → packV H n f l ts = (ts ++ (List.range (pagesN H l)).map (fun j => pageB n (chunk H l j)), 0)) ∧ (¬ allR l → packV H n f l ts = ([], 110))
  | 0, l, ts, h => by omega
  | f + 1, l, ts, h => by
    have e : packV H n (f + 1) l ts = if l.length = 0 then (ts, 0) else if allR (l.take H) then packV H n f (l.drop H) (ts ++ [pageB n (l.take H)]) else ([], 110) := by
      show (if l.length = 0 then _ else _) = _
      rfl
    rw [e]
    by_cases h0 : l.length = 0
    · rw [if_pos h0]
      refine ⟨fun _ => ?_, fun q => absurd (fun j hj => by omega) q⟩
      have : pagesN H l = 0 := by unfold pagesN; rw [h0, Nat.div_eq_of_lt (by omega)]
      rw [this, List.range_zero, List.map_nil, List.append_nil]
    · rw [if_neg h0]
      obtain ⟨ih1, ih2⟩ := pack_all H n h1 f (l.drop H) (ts ++ [pageB n (l.take H)]) (by rw [List.length_drop]; omega)
      have hs := allR_split H l
      by_cases ht : allR (l.take H)
      · rw [if_pos ht]
        refine ⟨fun q => ?_, fun q => ih2 (fun z => q (hs.2 ⟨ht, z⟩))⟩
        rw [ih1 (hs.1 q).2, pagesN_step H l h1 h0, List.range_succ_eq_map, List.map_cons, List.map_map, List.append_assoc]
        have c0 : chunk H l 0 = l.take H := by unfold chunk; rw [Nat.mul_zero, List.drop_zero]
        rw [c0]
        congr 1
        congr 1
        show pageB n (l.take H) :: _ = _
        congr 1
        apply List.map_congr_left
        intro j _
        show pageB n (chunk H (l.drop H) j) = pageB n (chunk H l (j + 1))
        rw [chunk_drop]
      · rw [if_neg ht]
        exact ⟨fun q => absurd (hs.1 q).1 ht, fun _ => rfl⟩
/-- What stands in a chunk. -/
theorem chunk_ok (H : Nat) (l : List S30) (j : Nat) (h1 : 1 ≤ H) (hj : j < pagesN H l) (hal : allR l) : 1 ≤ (chunk H l j).length ∧ (chunk H l j).length ≤ H ∧ allR (chunk H l j) ∧ l.take (H * j) ++ chunk H l j = l.take (H * (j + 1)) := by
  have hm : H * j < l.length := by
    unfold pagesN at hj
    have h2 := (Nat.le_div_iff_mul_le (show 0 < H by omega)).1 (show j + 1 ≤ (l.length + H - 1) / H from hj)
    rw [Nat.add_mul, Nat.one_mul, Nat.mul_comm j H] at h2
    omega
  have hlen : (chunk H l j).length = min H (l.length - H * j) := by unfold chunk; rw [List.length_take, List.length_drop]
  refine ⟨by omega, by omega, ?_, ?_⟩
  · exact ((allR_split H _).1 ((allR_split (H * j) l).1 hal).2).1
  · unfold chunk
    rw [← List.take_add, show H * j + H = H * (j + 1) by rw [Nat.mul_add]; omega]
theorem pages_end (H : Nat) (l : List S30) (h1 : 1 ≤ H) : l.take (H * pagesN H l) = l := by
  refine List.take_of_length_le ?_
  unfold pagesN
  have := Nat.div_add_mod (l.length + H - 1) H
  have h2 := Nat.mod_lt (l.length + H - 1) (show H > 0 by omega)
  omega
/-- The same records. -/
theorem sameR_loop (l : List S30) (hl : l.length ≤ 1000) : ∀ d i k : Nat, i + d = l.length → decklebook_SameRecs.l0 (d + 1 + k) l l true (i : Int) = some true
  | 0, i, k, h => by rw [show 0 + 1 + k = k + 1 by omega, decklebook_SameRecs.l0, if_pos rfl, if_neg (by omega)]
  | d + 1, i, k, h => by
    rw [show d + 1 + 1 + k = (d + 1 + k) + 1 by omega, decklebook_SameRecs.l0, if_pos rfl, if_pos (by omega), if_pos (by omega), if_pos (by omega), beq_self_eq_true, beq_self_eq_true, beq_self_eq_true, sw64 ((i : Int) + 1) (by omega)]
    exact sameR_loop l hl d (i + 1) k (by omega)
theorem sameR_is (l : List S30) (hl : l.length ≤ 1000) : decklebook_SameRecs.f (l.length + 1) l l = some true := by
  unfold decklebook_SameRecs.f
  rw [beq_self_eq_true]
  exact sameR_loop l hl l.length 0 0 (by omega)
end Go.Proofs.YtdohaocbhcniaaaDoor.PG
end

section
/- The laws of sheets: works, by hand. -/
set_option linter.unusedVariables false
set_option linter.unusedSimpArgs false
namespace Go.Proofs.YtdohaocbhcniaaaDoor.PG
open Go.RowKit Go.Shelf Go.Proofs.YtdohaocbhcniaaaDoorW.PrintWords Go.Proofs.YtdohaocbhcniaaaDoor.Mem Go.Proofs.YtdohaocbhcniaaaDoor.Own Go.Proofs.YtdohaocbhcniaaaDoor.Hw

section
variable {w0 w : World} {L : List Asn}
theorem cell_s {b c n : Nat} {ys : List ByteArray} (h : Own w0 w (Txt (.slice (some ⟨b, 0, none⟩) n c) ys :: L)) (hn : ys.length = n) (i : Nat) (hi : i < n) : w.cell? ⟨b, i, none⟩ = some (.string (ys.getD i ⟨#[]⟩)) ∧ w.frozen? ⟨b, i, none⟩ = false := by
  subst hn
  obtain ⟨S, hs, hb, f⟩ := h.head
  have hp := Kd.R_cell (enc := Value.string) (h1 := fun _ => rfl) (⟨#[]⟩ : ByteArray) hs (i : Int) (by omega) (by omega)
  rw [Int.toNat_natCast] at hp
  exact hp
def wr1 : S30 := ⟨1, 1, 2⟩
theorem lit3 {W : World} {b : Nat} {x : S30} (h : W.heap[b]? = some (.cells #[.int .i64 x.f0, .int .i64 x.f1, .int .i64 x.f2, .int .i64 x.f0, .int .i64 x.f1, .int .i64 x.f2, .int .i64 x.f0, .int .i64 x.f1, .int .i64 x.f2] 30 (0, 0))) : Kd.C k30 W (some ⟨b, 0, none⟩) 3 [x, x, x] := by
  refine ⟨rfl, by decide, fun _ => ⟨_, rfl, fun j p hj => ?_⟩⟩
  have hp : p = x ∧ j < 3 := by
    rcases j with _ | _ | _ | j
    · exact ⟨(Option.some.inj hj).symm, by omega⟩
    · exact ⟨(Option.some.inj hj).symm, by omega⟩
    · exact ⟨(Option.some.inj hj).symm, by omega⟩
    · simp at hj
  obtain ⟨rfl, hj3⟩ := hp
  refine ⟨_, rfl, k30_mk W p, fun i u hu => ?_⟩
  have hi : i < 3 := by
    rcases i with _ | _ | _ | i
    · omega
    · omega
    · omega
    · simp at hu
  rw [show k30.sz = 3 from rfl, add_plain, blk_cell h]
  rcases (by omega : j = 0 ∨ j = 1 ∨ j = 2) with rfl | rfl | rfl <;> rcases (by omega : i = 0 ∨ i = 1 ∨ i = 2) with rfl | rfl | rfl <;> exact hu
open Classical in
theorem pack_wk : ∃ p q, packV 2 24 4 [wr1, wr1, wr1] [] = ([p, q], 0) ∧ q.size = 24 := by
  have hm : mayR wr1 := by decide
  have a1 : allR [wr1, wr1] := fun j hj => by
    rcases (show j = 0 ∨ j = 1 by have : j < 2 := hj; omega) with rfl | rfl <;> exact hm
  have a2 : allR [wr1] := fun j hj => by
    obtain rfl : j = 0 := by have : j < 1 := hj; omega
    exact hm
  refine ⟨pageB 24 [wr1, wr1], pageB 24 [wr1], ?_, ?_⟩
  · show (if ([wr1, wr1, wr1] : List S30).length = 0 then _ else if allR [wr1, wr1] then packV 2 24 3 [wr1] ([] ++ [pageB 24 [wr1, wr1]]) else _) = _
    rw [if_neg (by decide), if_pos a1]
    show (if ([wr1] : List S30).length = 0 then _ else if allR [wr1] then packV 2 24 2 [] (([] ++ [pageB 24 [wr1, wr1]]) ++ [pageB 24 [wr1]]) else _) = _
    rw [if_neg (by decide), if_pos a2]
    rfl
  · show (catR [wr1] 1 ++ zeroS (24 - (1 + 9 * 1))).size = 24
    rw [ByteArray.size_append, catR_size, zeroS_size]
set_option maxHeartbeats 4000000 in
set_option maxRecDepth 100000 in
theorem works_calls (w : World) :
    Calls Tryd.prog 8 #[] w fun e w' => e = .returned (.bool true) ∧ Below w.heap.size w w' := by
  obtain ⟨p, q, hp, hq⟩ := pack_wk
  have HP := Lib.hid hp
  have HQ := Lib.hid hq
  have hlw : ((w.alloc (.cells #[.int .i64 1, .int .i64 1, .int .i64 2] 30)).alloc (.cells #[.int .i64 1, .int .i64 1, .int .i64 2, .int .i64 1, .int .i64 1, .int .i64 2, .int .i64 1, .int .i64 1, .int .i64 2] 30)).heap[w.heap.size + 1]? = some (.cells #[.int .i64 1, .int .i64 1, .int .i64 2, .int .i64 1, .int .i64 1, .int .i64 2, .int .i64 1, .int .i64 1, .int .i64 2] 30 (0, 0)) := by
    have := heap_alloc_new (w.alloc (.cells #[.int .i64 1, .int .i64 1, .int .i64 2] 30)) (.cells #[.int .i64 1, .int .i64 1, .int .i64 2, .int .i64 1, .int .i64 1, .int .i64 2, .int .i64 1, .int .i64 1, .int .i64 2] 30)
    rw [World.size_alloc] at this
    exact this
  have HPK := Aside0.mk (pack_yes (w0 := (w.alloc (.cells #[.int .i64 1, .int .i64 1, .int .i64 2] 30)).alloc (.cells #[.int .i64 1, .int .i64 1, .int .i64 2, .int .i64 1, .int .i64 1, .int .i64 2, .int .i64 1, .int .i64 1, .int .i64 2] 30)) (L := []) (some ⟨w.heap.size + 1, 0, none⟩) 3 [wr1, wr1, wr1] 24 2 (by omega) (by omega) rfl (lit3 (x := wr1) hlw) (by decide) (by decide) (Own.new _))
  have HB := Aside0.mk (((Below.refl w.heap.size w).alloc (Nat.le_refl _) (.cells #[.int .i64 1, .int .i64 1, .int .i64 2] 30)).alloc (by rw [World.size_alloc]; omega) (.cells #[.int .i64 1, .int .i64 1, .int .i64 2, .int .i64 1, .int .i64 1, .int .i64 2, .int .i64 1, .int .i64 1, .int .i64 2] 30))
  clear hp hq hlw
  go_enter Tryd.func8, Tryd.ntmps8
  go_wp2_with fail
  refine HPK.out.mono ?_
  rintro e w1 ⟨v, rfl, ho⟩
  rw [show ([wr1, wr1, wr1] : List S30).length + 1 = 4 from rfl, HP.out] at ho
  rw [show ([wr1, wr1, wr1] : List S30).length + 1 = 4 from rfl, HP.out]
  have H1 := Aside0.mk ho
  obtain ⟨S, hs, _, _⟩ := ho.head
  obtain ⟨g, c, rfl, _⟩ := Kd.R_form hs (by show 0 < 2; omega)
  have hx' : w1.cell? ⟨g, 1, none⟩ = some (.string q) := (cell_s ho rfl 1 (by show 1 < 2; omega)).1
  clear hs ho HPK
  go_wp2_with fail
  refine (sheet_Hold.calls 24 2 _ (by rw [hold_is]; rfl)).mono ?_
  rintro e w2 ⟨rfl, hb⟩
  have H2 := Aside0.mk (H1.out.move hb.below)
  have hx2 : w2.cell? ⟨g, 1, none⟩ = some (.string q) := (hb.below.cell (World.block_lt_of_cell? _ _ hx')).trans hx'
  have hq : q.size = 24 := HQ.out
  clear hx' hb H1
  go_wp2_with fail
  go_ret
  exact ⟨rfl, HB.out.trans (H2.out.below.mono HB.out.size)⟩
end
end Go.Proofs.YtdohaocbhcniaaaDoor.PG
end
