/- The law's proof: words, contracts of the functions that it reaches, plain lemmas. -/
import Derived.ArgAppend
import Derived.Below
import Derived.BigQuiet
import Derived.Carry
import Derived.Deep.AppendLies
import Derived.Deep.CutBlock
import Derived.Deep.DeepCutAuto
import Derived.Deep.Draws
import Derived.Deep.LoopGhost
import Derived.Deep.OwnRows
import Derived.Deep.QuietTactic
import Derived.Deep.RegionHeld3
import Derived.Deep.RegionWith
import Derived.KernelRfl
import Derived.Laws.BitsLemmas
import Derived.Laws.BytesArg
import Derived.Laws.IdiomCopy
import Derived.Laws.MakeOwn
import Derived.Laws.OwnMore
import Derived.Laws.Rows
import Derived.Laws.Slices
import Derived.Lib.AppendStr
import Derived.Lib.BufferMore
import Derived.Lib.ConvBytes
import Derived.Lib.Hide
import Derived.Lib.LazyBuf
import Derived.Maps.AppendAt
import Derived.OpenShut
import Derived.OrdersHeld
import Derived.Outline
import Derived.OwnWalk
import Derived.OwnWalkIn
import Derived.RegionTactic
import Derived.RowKit3
import Derived.StillTailTactics
import Derived.Tactics
import Derived.WalkKit
import Derived.WideLaws
import Derived.Test.YtdohaocbhcniaaaSp9
import Derived.Test.YtdohaocbhcniaaaSp8
import Derived.Test.YtdohaocbhcniaaaSp10
import Derived.Shelf.Strings.BuilderF
import Derived.Shelf.Strings.Repeat
import Derived.Test.YtdohaocbhcniaaaSp6
section
/- Package sheet, by hand: a page. -/
set_option linter.unusedVariables false
set_option linter.unusedSimpArgs false
namespace Go.Proofs.Ytdohaocbhcniaaa.PG
open Go.RowKit Go.Shelf Go.Proofs.YtdohaocbhcniaaaW.PrintWords Go.Proofs.Ytdohaocbhcniaaa.Mem Go.Proofs.Ytdohaocbhcniaaa.Own Go.Proofs.Ytdohaocbhcniaaa.Hw

/-- How many, and so many of the records. -/
def catR (l : List S33) : Nat → ByteArray
  | 0 => ⟨#[UInt8.ofNat l.length]⟩
  | i + 1 => catR l i ++ recS (l.getD i z33)
theorem catR_size (l : List S33) : ∀ i, (catR l i).size = 1 + 9 * i
  | 0 => rfl
  | i + 1 => by
    show (catR l i ++ recS _).size = _
    rw [ByteArray.size_append, catR_size l i, recS_size]
    omega
def zeroS (m : Nat) : ByteArray := ⟨(Lib.repeatL [0] m).toArray⟩
theorem zeroS_size (m : Nat) : (zeroS m).size = m := by
  show (Lib.repeatL [0] m).toArray.size = m
  rw [List.size_toArray, Lib.repeatL_length]
  simp
def pageB (n : Nat) (l : List S33) : ByteArray := catR l l.length ++ zeroS (n - (1 + 9 * l.length))
def allR (l : List S33) : Prop := ∀ j, j < l.length → mayR (l.getD j z33)
open Classical in
noncomputable def pageV (n : Nat) (l : List S33) : ByteArray × Int := if allR l then (pageB n l, 0) else (⟨#[]⟩, 110)
theorem u8_of (n : Nat) (h : n < 256) : ((UInt8.ofNat n).toNat : Int) = (n : Int) := by
  rw [UInt8.toNat_ofNat']
  omega
section
variable {w0 w : World} {b : Nat} {s : ByteArray} {L : List Asn}
theorem own_byte (h : Own.Own w0 w (BldA b s :: L)) (hL : Away L) (c : UInt8) (hl : s.size + 1 ≤ 140737488355328) :
    Calls Try.prog 13 #[.pointer (some ⟨b, 0, none⟩), .int .u8 (c.toNat : Int)] w fun e w' => e = .returned .nilIface ∧ Own.Own w0 w' (BldA b (s.push c) :: L) := by
  refine (Any.Builder_WriteByte_k lays167 extra167 w0.heap.size b (Lib.strCells s) (c.toNat : Int) w (bld_isF h) (by rw [Lib.strCells_length]; exact hl) h.size).mono ?_
  rintro e w' ⟨h1, h2, h3, h4⟩
  refine ⟨h1, bld_after h hL (.inr ?_) h3 h4⟩
  rw [strCells_push]
  exact h2
theorem own_len (h : Own.Own w0 w (BldA b s :: L)) :
    Calls Try.prog 18 #[.pointer (some ⟨b, 0, none⟩)] w fun e w' => e = .returned (.int .i64 s.size) ∧ w' = w := by
  have := Any.Builder_Len_f lays170 w0.heap.size b (Lib.strCells s) w (bld_isF h)
  rw [Lib.strCells_length] at this
  exact this
end
set_option maxHeartbeats 4000000 in
set_option maxRecDepth 100000 in
theorem page_calls (A : Option Addr) (c : Nat) (l : List S33) (n : Nat) (w : World) (hn : n ≤ 256) (h1 : 1 ≤ l.length) (hl : 1 + 9 * l.length ≤ n) (hA : Kd.C k33 w A l.length l) :
    Calls Try.prog 11 #[.slice A l.length c, .int .i64 n] w fun e w' => e = .returned (.tuple #[.string (pageV n l).1, .int .i64 (pageV n l).2]) ∧ Below w.heap.size w w' := by
  obtain ⟨ad, rfl, _⟩ := at_T33 hA 0 (by omega) (by omega)
  have HA := Aside0.mk hA
  have hby := own_byte (own_bld (Own.Own.new w)) Away.nil (UInt8.ofNat l.length) (by show 0 + 1 ≤ _; omega)
  rw [u8_of _ (by omega)] at hby
  have HBY := Aside0.mk hby
  have hcv : (l.length : Int) % 256 = (l.length : Int) := by omega
  clear hA hby
  go_enter Try.func11, Try.ntmps11
  go_wp2_with fail
  refine HBY.out.mono ?_
  rintro e w1 ⟨rfl, hb1⟩
  have H1 : Aside0 (Own.Own w w1 [BldA w.heap.size (catR l 0)]) := ⟨hb1⟩
  clear hb1 HBY hcv
  go_wp2_with fail
  go_loopw [17] (fun v17 wr => ∃ (i : Nat), i ≤ l.length ∧ v17 = .int .i64 i ∧ Aside0 (∀ j, j < i → mayR (l.getD j z33)) ∧ Aside0 (Own.Own w wr [BldA w.heap.size (catR l i)])) (fun v17 _ => l.length - (intOf v17).toNat)
  case atStart => exact ⟨0, by omega, rfl, ⟨fun j hj => by omega⟩, H1⟩
  case round =>
    clear H1
    obtain ⟨i, hin, rfl, HM, HO⟩ := hrel
    by_cases hlt : i < l.length
    · have dl : decide ((i : Int) < (l.length : Int)) = true := decide_eq_true (by omega)
      have dln : decide (i < l.length) = true := decide_eq_true hlt
      obtain ⟨ad', e', x0, x1, x2⟩ := at_T33 (Kd.C_below HA.out HO.out.below) (i : Int) (by omega) (by omega)
      obtain rfl : ad = ad' := Option.some.inj e'
      obtain ⟨x, hx⟩ : ∃ x, x = l.getD i z33 := ⟨_, rfl⟩
      have hx' : rd_T33 l (i : Int) = x := by rw [hx]; unfold rd_T33; rw [Int.toNat_natCast]
      rw [hx', Int.toNat_natCast] at x0 x1 x2
      have HX := Aside0.mk hx
      clear hx hx' e'
      have g1 : (0 ≤ (i : Int)) = True := eq_true (by omega)
      have g2 : ((i : Int) < (l.length : Nat)) = True := eq_true (by omega)
      have g3 : (i < l.length) = True := eq_true hlt
      have ha := HO.out.alloc' (.cells #[.int .i64 x.f0, .int .i64 x.f1, .int .i64 x.f2] 33)
      have H2 := Aside0.mk ha
      clear ha HO
      go_wp2_with fail
      clear x0 x1 x2 dl dln
      refine (rec_Put.calls 2 x.f0 x.f1 x.f2 (recB x).1 (recB x).2 _ (rput_is x 0)).mono ?_
      rintro e w2 ⟨rfl, hb⟩
      have H3 := Aside0.mk (H2.out.move hb)
      clear hb H2
      by_cases hm : mayR x
      · rw [show recB x = (recS x, 0) from if_pos hm]
        go_wp2_with fail
        refine (own_write (t := recS x) H3.out Away.nil (by rw [catR_size, recS_size]; omega)).mono ?_
        rintro e w3 ⟨rfl, hb⟩
        have H4 := Aside0.mk hb
        clear hb H3
        go_wp2_with fail
        go_roundw
        case rel =>
          refine ⟨i + 1, by omega, by go_num, ⟨fun j hj => ?_⟩, ⟨?_⟩⟩
          · by_cases e : j = i
            · rw [e, ← HX.out]; exact hm
            · exact HM.out j (by omega)
          · show Own.Own _ _ [BldA _ (catR l i ++ recS (l.getD i z33))]
            rw [← HX.out]
            exact H4.out
        case measure => simp [intOf]; omega
      · rw [show recB x = (⟨#[]⟩, 110) from if_neg hm]
        have hV : pageV n l = (⟨#[]⟩, 110) := if_neg (fun q => hm (by rw [HX.out]; exact q i hlt))
        have HV := Aside0.mk hV
        clear hV
        go_wp2_with fail
        go_ret2
        exact ⟨by rw [HV.out]; rfl, H3.out.below⟩
    · obtain rfl : i = l.length := by omega
      have hV : pageV n l = (pageB n l, 0) := if_pos HM.out
      have HV := Aside0.mk hV
      clear hV
      have dl : decide ((l.length : Int) < (l.length : Int)) = false := decide_eq_false (by omega)
      have dln : decide (l.length < l.length) = false := decide_eq_false (by omega)
      go_wp2_with fail
      refine (own_string HO.out Away.nil (by rw [catR_size]; omega)).mono ?_
      rintro e w2 ⟨rfl, hb⟩
      have H2 := Aside0.mk hb
      clear hb HO dl dln
      go_wp2_with fail
      refine (own_len H2.out).mono ?_
      rintro e w3 ⟨rfl, rfl⟩
      go_wp2_with fail
      rw [show wrap64 ((n : Int) - ((catR l l.length).size : Nat)) = ((n - (1 + 9 * l.length) : Nat) : Int) from by rw [catR_size]; unfold wrap64; omega]
      refine (Any.strings_Repeat lays105 extra105 ⟨#[0]⟩ (n - (1 + 9 * l.length)) _ (by omega) (by show 1 * _ ≤ _; omega)).mono ?_
      rintro e w4 ⟨rfl, hb⟩
      have H4 := Aside0.mk (H2.out.move hb)
      have hz := catR_size l l.length
      have hz2 := zeroS_size (n - (1 + 9 * l.length))
      rw [show (⟨(Lib.repeatL (⟨#[0]⟩ : ByteArray).data.toList (n - (1 + 9 * l.length))).toArray⟩ : ByteArray) = zeroS (n - (1 + 9 * l.length)) from rfl]
      have hq : (9223372036854775807 < (catR l l.length).size + (zeroS (n - (1 + 9 * l.length))).size) = False := eq_false (by omega)
      clear hb H2
      go_wp2_with fail
      go_ret2
      exact ⟨by rw [HV.out]; rfl, H4.out.below⟩
end Go.Proofs.Ytdohaocbhcniaaa.PG
end

section
/- Package sheet, by hand: Pack. -/
set_option linter.unusedVariables false
set_option linter.unusedSimpArgs false
namespace Go.Proofs.Ytdohaocbhcniaaa.PG
open Go.RowKit Go.Shelf Go.Proofs.YtdohaocbhcniaaaW.PrintWords Go.Proofs.Ytdohaocbhcniaaa.Mem Go.Proofs.Ytdohaocbhcniaaa.Own Go.Proofs.Ytdohaocbhcniaaa.Hw

theorem own_append {P : Program} {ops : Array Oper} {rest : List Oper} {o : Oper} {a : Act} {Q : Exit → Act → World → Prop} {α : Type} {w0 W : World} {L : List Asn} (d : Kd α) (hgd : o.guard = none) (s x : Operand) (t e : TypeId) (z : Value) (bytes : Nat)
    (ho : o.op = .call { callee := .builtin .append, args := #[s, x], argTypes := #[t, t] })
    (ht : P.underlying t = some (.slice e)) (hinfo : (P.info? e).map (fun i => (i.zero, i.size, i.bytes)) = some (some z, d.sz, bytes)) (hz : z.cells.size = d.sz) (hs0 : 0 < d.sz) (hb0 : 0 < bytes)
    (v : Value) (xs : List α) (p : α) (cs : List Value) (hs : a.eval s = v) (hx : a.eval x = .slice (some ⟨W.heap.size, 0, none⟩) 1 1) (hp : d.M W w0.heap.size (fun _ => False) p cs)
    (HO : Own w0 W (Row d e v xs :: L)) (hl : (xs.length + 1) * bytes ≤ 140737488355328)
    (h : ∀ v1 w1, Own w0 w1 (Row d e v1 (xs ++ [p]) :: L) → wpList P ops Q rest (a.put o.dst v1) w1) :
    wpList P ops Q (o :: rest) a (W.alloc (.cells cs.toArray e)) := by
  obtain ⟨S, hS, hk, f⟩ := HO.head
  refine Kd.R_append d (w0 := W) w0.heap.size hgd s x t e z bytes ho ht hinfo hz hs0 hb0 v xs p cs (fun k => S k ∨ W.heap.size ≤ k) (fun _ => False) hs hx hp (fun k hk => hk.elim) (fun k hk => .inr hk) (Kd.R_mono hS (fun k hk => .inl hk)) (Below.refl _ _) HO.size hl ?_
  intro v1 w1 hR hB hG hat
  refine h v1 w1 (f w1 [Row d e v1 (xs ++ [p])] ⟨hB, hG.size, fun k hk1 hk2 => hG.block k hk1 (fun he => hk2 ?_)⟩ (Hold.one hR))
  exact hS.1 k he.symm
/-- How many a page holds. -/
def holdV (n : Int) : Int := if n < 16 ∨ 256 < n then 0 else (n - 1) / 9
theorem hold_is (n : Int) : sheet_Hold.f n = some (holdV n) := by
  unfold sheet_Hold.f holdV
  by_cases h1 : n < 16
  · rw [if_pos h1, if_pos (.inl h1)]
  · rw [if_neg h1]
    by_cases h2 : n > 256
    · rw [if_pos h2, if_pos (.inr h2)]
    · rw [if_neg h2, if_neg (by omega), sw64 (n - 1) (by omega), Int.tdiv_eq_ediv_of_nonneg (by omega), sw64 _ (by omega)]
open Classical in
/-- The pages of records, h a page. -/
noncomputable def packV (h n : Nat) : Nat → List S33 → List ByteArray → List ByteArray × Int
  | 0, _, out => (out, 0)
  | f + 1, l, out => if l.length = 0 then (out, 0) else if allR (l.take h) then packV h n f (l.drop h) (out ++ [pageB n (l.take h)]) else ([], 110)
def lenOf : Value → Nat
  | .slice _ n _ => n
  | _ => 0
abbrev Txt (v : Value) (ts : List ByteArray) : Asn := Row Kd.string 9 v ts
section
variable {w0 w : World} {L : List Asn}
set_option maxHeartbeats 4000000 in
set_option maxRecDepth 100000 in
theorem pack_no (A : Option Addr) (c : Nat) (l : List S33) (n : Int) (h0 : holdV n = 0) (HO : Own w0 w L) :
    Calls Try.prog 5 #[.slice A l.length c, .int .i64 n] w fun e w' => ∃ v, e = .returned (.tuple #[v, .int .i64 2]) ∧ Own w0 w' (Txt v [] :: L) := by
  have HA := Aside0.mk HO
  clear HO
  go_enter Try.func5, Try.ntmps5
  go_wp2_with fail
  refine (sheet_Hold.calls n 0 _ (by rw [hold_is, h0])).mono ?_
  rintro e w1 ⟨rfl, hb⟩
  go_wp2_with fail
  go_ret2
  refine ⟨_, rfl, ?_⟩
  have h1 := HA.out.move hb.below
  exact h1.fresh (R := [Txt (.slice none 0 0) []]) (Below.refl _ _) (Hold.one (Kd.R_nil _ _ _ _ _))
set_option maxHeartbeats 4000000 in
set_option maxRecDepth 100000 in
theorem pack_yes (A : Option Addr) (c : Nat) (l : List S33) (n H : Nat) (h16 : 16 ≤ n) (h256 : n ≤ 256) (hH : H = (n - 1) / 9) (hA : Kd.C k33 w0 A l.length l) (hc : l.length ≤ c) (hl : l.length ≤ 1000) (HO : Own w0 w L) :
    Calls Try.prog 5 #[.slice A l.length c, .int .i64 n] w fun e w' => ∃ v, e = .returned (.tuple #[v, .int .i64 (packV H n (l.length + 1) l []).2]) ∧ Own w0 w' (Txt v (packV H n (l.length + 1) l []).1 :: L) := by
  have hh : sheet_Hold.f (n : Int) = some (H : Int) := by rw [hold_is]; unfold holdV; rw [if_neg (by omega)]; congr 1; omega
  have HS := Aside0.mk (show Own w0 w (Txt (.slice none 0 0) [] :: L) from HO.fresh (R := [Txt (.slice none 0 0) []]) (Below.refl _ _) (Hold.one (Kd.R_nil _ _ _ _ _)))
  have HC := Aside0.mk (And.intro hA hc)
  have H1 : 1 ≤ H := by omega
  have H9 : 1 + 9 * H ≤ n := by omega
  have H28 : H ≤ 28 := by omega
  clear HO hA hc hH
  go_enter Try.func5, Try.ntmps5
  go_wp2_with fail
  refine (sheet_Hold.calls n H _ hh).mono ?_
  rintro e w1 ⟨rfl, hb⟩
  have H2 := Aside0.mk (HS.out.move hb.below)
  clear hb HS hh
  have e0 : ((H : Int) == 0) = false := beq_eq_false_iff_ne.2 (by omega)
  have e0n : (H == 0) = false := beq_eq_false_iff_ne.2 (by omega)
  go_wp2_with fail
  clear e0 e0n
  go_loopw [0, 7] (fun v0 v7 wr => ∃ (A : Option Addr) (c f : Nat) (r : List S33) (ts : List ByteArray), v0 = .slice A r.length c ∧ r.length < f ∧ ts.length + r.length ≤ l.length ∧ Aside0 (Kd.C k33 w0 A r.length r ∧ r.length ≤ c) ∧ Aside0 (packV H n f r ts = packV H n (l.length + 1) l []) ∧ Aside0 (Own w0 wr (Txt v7 ts :: L))) (fun v0 _ _ => lenOf v0)
  case atStart => exact ⟨A, c, l.length + 1, l, [], rfl, by omega, by simp, HC, ⟨rfl⟩, H2⟩
  case round =>
    clear H2 HC
    obtain ⟨A1, c1, f, r, ts, rfl, hf, hts, HC, HP, HO⟩ := hrel
    obtain ⟨g, rfl⟩ : ∃ g, f = g + 1 := ⟨f - 1, by omega⟩
    by_cases hr : 0 < r.length
    · have dl : decide ((r.length : Int) > 0) = true := decide_eq_true (by omega)
      have dl2 : decide (0 < (r.length : Int)) = true := decide_eq_true (by omega)
      have dln : decide (0 < r.length) = true := decide_eq_true hr
      obtain ⟨k, hk⟩ : ∃ k, k = min H r.length := ⟨_, rfl⟩
      have hmin : min (H : Int) (r.length : Int) = (k : Int) := by omega
      have hk1 : 1 ≤ k := by omega
      have hkr : k ≤ r.length := by omega
      have hkc := HC.out.2
      have HK := Aside0.mk hk
      clear hk
      go_wp2_with fail
      have htk : (r.take k).length = k := by rw [List.length_take]; omega
      have hpc := page_calls A1 k (r.take k) n wr h256 (by omega) (by omega) (Kd.C_below (Kd.C_take HC.out.1 hkr) HO.out.below)
      rw [htk] at hpc
      refine hpc.mono ?_
      rintro e w2 ⟨rfl, hb⟩
      have H3 := Aside0.mk (HO.out.move hb)
      clear hb HO hpc htk dl dl2 dln hmin
      by_cases hal : allR (r.take k)
      · rw [show pageV n (r.take k) = (pageB n (r.take k), 0) from if_pos hal]
        have hp : packV H n (g + 1) r ts = packV H n g (r.drop k) (ts ++ [pageB n (r.take k)]) := by
          have hm : r.take H = r.take k ∧ r.drop H = r.drop k := by
            by_cases q : H ≤ r.length
            · have : k = H := by have := HK.out; omega
              rw [this]; exact ⟨rfl, rfl⟩
            · have : k = r.length := by have := HK.out; omega
              rw [this, List.take_of_length_le (by omega), List.take_of_length_le (Nat.le_refl _), List.drop_of_length_le (by omega), List.drop_of_length_le (Nat.le_refl _)]
              exact ⟨rfl, rfl⟩
          show (if r.length = 0 then _ else _) = _
          rw [if_neg (by omega), hm.1, hm.2, if_pos hal]
        rw [hp] at HP
        obtain ⟨P, hP⟩ : ∃ P, P = pageB n (r.take k) := ⟨_, rfl⟩
        rw [← hP] at HP ⊢
        clear hP hp
        have hlp : (ts.length + 1) * 16 ≤ 140737488355328 := by omega
        go_wp2_with (at_builtin; refine own_append (w0 := w0) Kd.string rfl (.tmp 34) (.tmp 36) 24 9 (.string ⟨#[]⟩) 16 rfl Try.underlying24 info9 rfl (by decide) (by decide) u7 ts P [.string P] (by first | rfl | (go_simp; done)) (by first | rfl | (go_simp; done)) rfl H3.out hlp ?_; intro v1 w4 ho)
        have H4 := Aside0.mk ho
        clear ho H3 hlp
        have hdl : (r.drop k).length = r.length - k := List.length_drop
        go_roundw
        case rel => exact ⟨(if c1 = k then A1 else A1.map (·.add (k * 3))), c1 - k, g, r.drop k, ts ++ [P], by rw [hdl], by omega, by rw [List.length_append, hdl]; show ts.length + 1 + (r.length - k) ≤ _; omega, ⟨Kd.C_drop HC.out.1 hkr hkc, by omega⟩, HP, H4⟩
        case measure => show r.length - k < r.length; omega
      · rw [show pageV n (r.take k) = (⟨#[]⟩, 110) from if_neg hal]
        have hp : packV H n (g + 1) r ts = ([], 110) := by
          have hm : r.take H = r.take k := by
            by_cases q : H ≤ r.length
            · have : k = H := by have := HK.out; omega
              rw [this]
            · have : k = r.length := by have := HK.out; omega
              rw [this, List.take_of_length_le (by omega), List.take_of_length_le (Nat.le_refl _)]
          show (if r.length = 0 then _ else _) = _
          rw [if_neg (by omega), hm, if_neg hal]
        rw [hp] at HP
        go_wp2_with fail
        go_ret2
        rw [← HP.out]
        exact ⟨_, rfl, H3.out.drop.fresh (R := [Txt (.slice none 0 0) []]) (Below.refl _ _) (Hold.one (Kd.R_nil _ _ _ _ _))⟩
    · have dl : decide ((r.length : Int) > 0) = false := decide_eq_false (by omega)
      have dl2 : decide (0 < (r.length : Int)) = false := decide_eq_false (by omega)
      have dln : decide (0 < r.length) = false := decide_eq_false hr
      have hp : packV H n (g + 1) r ts = (ts, 0) := if_pos (by omega)
      rw [hp] at HP
      go_wp2_with fail
      go_ret2
      rw [← HP.out]
      exact ⟨_, rfl, HO.out⟩
end
end Go.Proofs.Ytdohaocbhcniaaa.PG
end

section
/- The document's pages of records, in plain words: the same. -/
set_option linter.unusedVariables false
set_option linter.unusedSimpArgs false
namespace Go.Proofs.Ytdohaocbhcniaaa.PG
open Go.RowKit Go.Proofs.Ytdohaocbhcniaaa.Hw Go.Proofs.YtdohaocbhcniaaaW.PrintWords Go.Proofs.YtdohaocbhcniaaaW.PrintLast

theorem refhold_loop (n : Nat) (h256 : n ≤ 256) : ∀ d j k : Nat, j + d = (n - 1) / 9 → 16 ≤ n → deckleref12_Hold.l0 (d + 1 + k) (n : Int) (j : Int) = some (((n - 1) / 9 : Nat) : Int)
  | 0, j, k, h, h16 => by
    rw [show 0 + 1 + k = k + 1 by omega, deckleref12_Hold.l0, sw64 ((j : Int) + 1) (by omega), sw64 (9 * ((j : Int) + 1)) (by omega), sw64 (1 + 9 * ((j : Int) + 1)) (by omega), if_neg (by omega)]
    congr 1
    omega
  | d + 1, j, k, h, h16 => by
    have ih := refhold_loop n h256 d (j + 1) k (by omega) h16
    rw [show d + 1 + 1 + k = (d + 1 + k) + 1 by omega, deckleref12_Hold.l0, sw64 ((j : Int) + 1) (by omega), sw64 (9 * ((j : Int) + 1)) (by omega), sw64 (1 + 9 * ((j : Int) + 1)) (by omega), if_pos (by omega)]
    exact ih
theorem refhold_is (n : Int) (k : Nat) (hk : 40 ≤ k) : deckleref12_Hold.f k n = some (holdV n) := by
  unfold deckleref12_Hold.f holdV
  by_cases h1 : n < 16
  · rw [if_pos h1, if_pos (.inl h1)]
    obtain ⟨q, rfl⟩ : ∃ q, k = q + 1 := ⟨k - 1, by omega⟩
    rw [deckleref12_Hold.j0, if_pos rfl]
  · rw [if_neg h1]
    obtain ⟨q, rfl⟩ : ∃ q, k = q + 1 := ⟨k - 1, by omega⟩
    rw [deckleref12_Hold.j0]
    by_cases h2 : n > 256
    · rw [decide_eq_true h2, if_pos rfl, if_pos (.inr h2)]
    · rw [decide_eq_false h2, if_neg (by decide), if_neg (by omega)]
      obtain ⟨m, rfl⟩ := Int.eq_ofNat_of_zero_le (show 0 ≤ n by omega)
      obtain ⟨r, hr⟩ : ∃ r, q = (m - 1) / 9 + 1 + r := ⟨q - ((m - 1) / 9 + 1), by omega⟩
      have := refhold_loop m (by omega) ((m - 1) / 9) 0 r (by omega) (by omega)
      rw [hr]
      rw [show ((0 : Nat) : Int) = 0 from rfl] at this
      rw [this]
      congr 1
      omega
theorem zeroS_next (s : ByteArray) (m : Nat) : (s ++ strOfNums [0]) ++ zeroS m = s ++ zeroS (m + 1) := by
  rw [ByteArray.append_assoc]
  congr 1
theorem ref_l2 (l : List S33) (n : Nat) (H at_ kk : Int) (ts : List ByteArray) (hn : n ≤ 256) (hts : ts.length ≤ 1000) : ∀ (d : Nat) (s : ByteArray) (K : Nat), s.size + d = n → deckleref12_Pack.l2 (d + 1 + K) l n H ts at_ kk s = deckleref12_Pack.l0 K l n H (ts ++ [s ++ zeroS d]) (wrap64 (at_ + kk))
  | 0, s, K, h => by
    rw [show 0 + 1 + K = K + 1 by omega, deckleref12_Pack.l2, if_neg (by omega), if_pos (by omega)]
    have : s ++ zeroS 0 = s := by
      apply ByteArray.ext
      simp [zeroS, Lib.repeatL]
    rw [this]
  | d + 1, s, K, h => by
    have hz : (strOfNums [0]).size = 1 := rfl
    have ih := ref_l2 l n H at_ kk ts hn hts d (s ++ strOfNums [0]) K (by rw [ByteArray.size_append, hz]; omega)
    rw [show d + 1 + 1 + K = (d + 1 + K) + 1 by omega, deckleref12_Pack.l2, if_pos (by omega), Option.bind_some, hz, if_pos (by omega), ih, zeroS_next]
section
variable (l c : List S33) (n : Nat) (H : Int) (a : Nat) (ts : List ByteArray) (hc : c.length ≤ 28) (hal : a + c.length ≤ l.length) (hl : l.length ≤ 1000) (hrd : ∀ i, i < c.length → l.getD (a + i) z33 = c.getD i z33)
include hc hal hl hrd
theorem ref_l1 : ∀ d i K : Nat, i + d = c.length → 20 ≤ K → (∀ j, i ≤ j → j < c.length → mayR (c.getD j z33)) → deckleref12_Pack.l1 (d + 1 + K) l n H ts a c.length (catR c i) i = deckleref12_Pack.l2 K l n H ts a c.length (catR c c.length)
  | 0, i, K, h, _, _ => by
    obtain rfl : i = c.length := by omega
    rw [show 0 + 1 + K = K + 1 by omega, deckleref12_Pack.l1, if_neg (by omega)]
  | d + 1, i, K, h, hK, hm => by
    have ih := ref_l1 d (i + 1) K (by omega) hK (fun j h1 h2 => hm j (by omega) h2)
    have hx : rd_T33 l ((a : Int) + (i : Int)) = c.getD i z33 := by
      unfold rd_T33
      rw [show ((a : Int) + (i : Int)).toNat = a + i by omega, hrd i (by omega)]
    have hb : recB (c.getD i z33) = (recS (c.getD i z33), 0) := if_pos (hm i (Nat.le_refl _) (by omega))
    rw [show d + 1 + 1 + K = (d + 1 + K) + 1 by omega, deckleref12_Pack.l1, if_pos (by omega), sw64 ((a : Int) + (i : Int)) (by omega), if_pos (by omega), if_pos (by omega), hx, refput_is _ _ (by omega), Option.bind_some, hb, if_pos rfl, catR_size, recS_size, if_pos (by omega), sw64 ((i : Int) + 1) (by omega)]
    exact ih
theorem ref_l1_no : ∀ d i K : Nat, i + d = c.length → 20 ≤ K → (∃ j, i ≤ j ∧ j < c.length ∧ ¬ mayR (c.getD j z33)) → deckleref12_Pack.l1 (d + 1 + K) l n H ts a c.length (catR c i) i = some ([], 110)
  | 0, i, K, h, _, ⟨j, h1, h2, _⟩ => by omega
  | d + 1, i, K, h, hK, ⟨j, h1, h2, h3⟩ => by
    have hx : rd_T33 l ((a : Int) + (i : Int)) = c.getD i z33 := by
      unfold rd_T33
      rw [show ((a : Int) + (i : Int)).toNat = a + i by omega, hrd i (by omega)]
    rw [show d + 1 + 1 + K = (d + 1 + K) + 1 by omega, deckleref12_Pack.l1, if_pos (by omega), sw64 ((a : Int) + (i : Int)) (by omega), if_pos (by omega), if_pos (by omega), hx, refput_is _ _ (by omega), Option.bind_some]
    by_cases hm : mayR (c.getD i z33)
    · have hb : recB (c.getD i z33) = (recS (c.getD i z33), 0) := if_pos hm
      have hne : i ≠ j := fun e => h3 (e ▸ hm)
      have ih := ref_l1_no d (i + 1) K (by omega) hK ⟨j, by omega, h2, h3⟩
      rw [hb, if_pos rfl, catR_size, recS_size, if_pos (by omega), sw64 ((i : Int) + 1) (by omega)]
      exact ih
    · have hb : recB (c.getD i z33) = (⟨#[]⟩, 110) := if_neg hm
      rw [hb, if_neg (by decide)]
end
theorem getD_take_drop (l : List S33) (a k i : Nat) (h : i < k) : ((l.drop a).take k).getD i z33 = l.getD (a + i) z33 := by
  rw [List.getD_eq_getElem?_getD, List.getElem?_take, if_pos h, List.getElem?_drop, List.getD_eq_getElem?_getD]
theorem ref_l0 (l : List S33) (n H : Nat) (hn : n ≤ 256) (hl : l.length ≤ 1000) (H1 : 1 ≤ H) (H28 : H ≤ 28) (H9 : 1 + 9 * H ≤ n) : ∀ (f a K : Nat) (ts : List ByteArray), a ≤ l.length → l.length - a < f → 400 * f ≤ K → ts.length + (l.length - a) ≤ 1000 → deckleref12_Pack.l0 K l n H ts a = some (packV H n f (l.drop a) ts)
  | 0, a, K, ts, h1, h2, _, _ => by omega
  | f + 1, a, K, ts, h1, h2, hK, hts => by
    obtain ⟨K, rfl⟩ : ∃ q, K = q + 1 := ⟨K - 1, by omega⟩
    have hdl : (l.drop a).length = l.length - a := List.length_drop
    rw [deckleref12_Pack.l0]
    show _ = some (if (l.drop a).length = 0 then _ else _)
    by_cases hr : a < l.length
    · rw [if_pos (by omega), if_neg (by omega)]
      obtain ⟨k, hk⟩ : ∃ k, k = min H (l.length - a) := ⟨_, rfl⟩
      have hmn : mn (H : Int) (wrap64 ((l.length : Int) - (a : Int))) = (k : Int) := by
        rw [sw64 _ (by omega)]
        unfold mn
        split <;> omega
      have htd : (l.drop a).take H = (l.drop a).take k ∧ (l.drop a).drop H = l.drop (a + k) := by
        by_cases q : H ≤ l.length - a
        · have : k = H := by omega
          rw [this, List.drop_drop]; exact ⟨rfl, rfl⟩
        · exact ⟨by rw [List.take_of_length_le (by rw [hdl]; omega), List.take_of_length_le (by rw [hdl]; omega)], by rw [List.drop_of_length_le (by rw [hdl]; omega), List.drop_of_length_le (by omega)]⟩
      obtain ⟨c, hc⟩ : ∃ c, c = (l.drop a).take k := ⟨_, rfl⟩
      have hcl : c.length = k := by rw [hc, List.length_take]; omega
      have hrd : ∀ i, i < c.length → l.getD (a + i) z33 = c.getD i z33 := fun i hi => by rw [hc, getD_take_drop _ _ _ _ (by omega)]
      rw [hmn, htd.1, htd.2, ← hc]
      have h0 : strOfNums [(k : Int) % 256] = catR c 0 := by
        show strOfNums [(k : Int) % 256] = ⟨#[UInt8.ofNat c.length]⟩
        rw [hcl, show (k : Int) % 256 = (k : Int) by omega]
        rfl
      rw [h0]
      obtain ⟨K1, hK1⟩ : ∃ q, K = k + 1 + q := ⟨K - (k + 1), by omega⟩
      rw [hK1]
      by_cases hal : allR c
      · rw [if_pos hal]
        have e1 := ref_l1 l c n H a ts (by omega) (by omega) hl hrd k 0 K1 (by omega) (by omega) (fun j _ hj => hal j hj)
        rw [hcl, show ((0 : Nat) : Int) = 0 from rfl] at e1
        rw [e1]
        have hsz := catR_size c k
        obtain ⟨K2, hK2⟩ : ∃ q, K1 = (n - (1 + 9 * k)) + 1 + q := ⟨K1 - ((n - (1 + 9 * k)) + 1), by omega⟩
        rw [hK2, ref_l2 l n H a k ts hn (by omega) (n - (1 + 9 * k)) (catR c k) K2 (by omega), sw64 ((a : Int) + (k : Int)) (by omega)]
        have ih := ref_l0 l n H hn hl H1 H28 H9 f (a + k) K2 (ts ++ [pageB n c]) (by omega) (by omega) (by omega) (by rw [List.length_append]; show ts.length + 1 + _ ≤ _; omega)
        have hpb : pageB n c = catR c k ++ zeroS (n - (1 + 9 * k)) := by unfold pageB; rw [hcl]
        rw [← hpb]
        exact ih
      · rw [if_neg hal]
        have hex : ∃ j, 0 ≤ j ∧ j < c.length ∧ ¬ mayR (c.getD j z33) := Classical.byContradiction fun q => hal fun j hj => Classical.byContradiction fun q2 => q ⟨j, Nat.zero_le _, hj, q2⟩
        have e1 := ref_l1_no l c n H a ts (by omega) (by omega) hl hrd k 0 K1 (by omega) (by omega) hex
        rw [hcl, show ((0 : Nat) : Int) = 0 from rfl] at e1
        rw [e1]
    · rw [if_neg (by omega), if_pos (by omega)]
theorem refpack_no (l : List S33) (n : Int) (h : holdV n = 0) (K : Nat) (hK : 100 ≤ K) : deckleref12_Pack.f K l n = some ([], 2) := by
  unfold deckleref12_Pack.f
  rw [refhold_is n K (by omega), Option.bind_some, h, if_pos rfl]
theorem refpack_is (l : List S33) (n H : Nat) (h16 : 16 ≤ n) (h256 : n ≤ 256) (hH : H = (n - 1) / 9) (hl : l.length ≤ 200) (K : Nat) (hK : 100000 ≤ K) : deckleref12_Pack.f K l n = some (packV H n (l.length + 1) l []) := by
  have hh : holdV (n : Int) = (H : Int) := by unfold holdV; rw [if_neg (by omega)]; omega
  unfold deckleref12_Pack.f
  rw [refhold_is n K (by omega), Option.bind_some, hh, if_neg (by omega)]
  have := ref_l0 l n H h256 (by omega) (by omega) (by omega) (by omega) (l.length + 1) 0 K [] (by omega) (by omega) (by omega) (by show 0 + _ ≤ _; omega)
  rw [show ((0 : Nat) : Int) = 0 from rfl, List.drop_zero] at this
  exact this
/-- The same texts. -/
theorem same_loop (l : List ByteArray) (hl : l.length ≤ 1000) : ∀ d i k : Nat, i + d = l.length → decklebook_SameTexts.l0 (d + 1 + k) l l true (i : Int) = some true
  | 0, i, k, h => by rw [show 0 + 1 + k = k + 1 by omega, decklebook_SameTexts.l0, if_pos rfl, if_neg (by omega)]
  | d + 1, i, k, h => by
    rw [show d + 1 + 1 + k = (d + 1 + k) + 1 by omega, decklebook_SameTexts.l0, if_pos rfl, if_pos (by omega), if_pos (by omega), if_pos (by omega), beq_self_eq_true, sw64 ((i : Int) + 1) (by omega)]
    exact same_loop l hl d (i + 1) k (by omega)
theorem same_is (l : List ByteArray) (hl : l.length ≤ 1000) : decklebook_SameTexts.f (l.length + 1) l l = some true := by
  unfold decklebook_SameTexts.f
  rw [beq_self_eq_true]
  exact same_loop l hl l.length 0 0 (by omega)
theorem pack_len (H n : Nat) : ∀ (f : Nat) (l : List S33) (ts : List ByteArray), 1 ≤ H → (packV H n f l ts).1.length ≤ ts.length + l.length
  | 0, l, ts, _ => by show ts.length ≤ _; omega
  | f + 1, l, ts, h => by
    show (if l.length = 0 then (ts, (0 : Int)) else _).1.length ≤ _
    split
    · show ts.length ≤ _; omega
    · split
      · have ih := pack_len H n f (l.drop H) (ts ++ [pageB n (l.take H)]) h
        rw [List.length_append, List.length_drop] at ih
        have : [pageB n (l.take H)].length = 1 := rfl
        omega
      · show (0 : Nat) ≤ _; omega
end Go.Proofs.Ytdohaocbhcniaaa.PG
end

section
/- The law SheetPacks, by hand: the walk. -/
set_option linter.unusedVariables false
set_option linter.unusedSimpArgs false
namespace Go.Proofs.Ytdohaocbhcniaaa.PG
open Go.RowKit Go.Shelf Go.Proofs.YtdohaocbhcniaaaW.PrintWords Go.Proofs.Ytdohaocbhcniaaa.Mem Go.Proofs.Ytdohaocbhcniaaa.Own Go.Proofs.Ytdohaocbhcniaaa.Hw

def spS : ByteArray := ⟨#[115, 112, 111, 105, 108, 116]⟩
section
variable {w0 w : World} {L : List Asn}
theorem put_s {b c n : Nat} {ys : List ByteArray} (h : Own w0 w (Txt (.slice (some ⟨b, 0, none⟩) n c) ys :: L)) (hn : ys.length = n) (i : Nat) (x : ByteArray) : Own w0 (w.setCell ⟨b, i, none⟩ (.string x)) (Txt (.slice (some ⟨b, 0, none⟩) n c) (ys.set i x) :: L) := by
  subst hn
  obtain ⟨S, hs, hb, f⟩ := h.head
  have hp := (Kd.R_put (enc := Value.string) (h1 := fun _ => rfl) hs (i : Int) x).1
  rw [Int.toNat_natCast] at hp
  exact f _ [_] ((Mod.refl _ _ _).setCell (p := ⟨b, i, none⟩) (hb b (hs.1 b rfl)).1 (.inl (hs.1 b rfl)) _) (Hold.one (Kd.R_mono hp (fun k hk => .inl hk)))
theorem cell_s {b c n : Nat} {ys : List ByteArray} (h : Own w0 w (Txt (.slice (some ⟨b, 0, none⟩) n c) ys :: L)) (hn : ys.length = n) (i : Nat) (hi : i < n) : w.cell? ⟨b, i, none⟩ = some (.string (ys.getD i ⟨#[]⟩)) ∧ w.frozen? ⟨b, i, none⟩ = false := by
  subst hn
  obtain ⟨S, hs, hb, f⟩ := h.head
  have hp := Kd.R_cell (enc := Value.string) (h1 := fun _ => rfl) (⟨#[]⟩ : ByteArray) hs (i : Int) (by omega) (by omega)
  rw [Int.toNat_natCast] at hp
  exact hp
set_option maxHeartbeats 4000000 in
set_option maxRecDepth 100000 in
theorem spoil_own (v : Value) (ts : List ByteArray) (hl : ts.length ≤ 1000) (HO : Own w0 w (Txt v ts :: L)) :
    Calls Try.prog 10 #[v] w fun e w' => e = .returned (.tuple #[]) ∧ ∃ ts', Own w0 w' (Txt v ts' :: L) := by
  by_cases h0 : ts.length = 0
  · obtain ⟨A, c, rfl, _, _⟩ := HO.reads
    rw [h0] at HO ⊢
    have HA := Aside0.mk HO
    clear HO
    go_enter Try.func10, Try.ntmps10
    go_wp2_with fail
    go_loopw [5] (fun v5 wr => v5 = .int .i64 0 ∧ wr = w) (fun _ _ => 0)
    case atStart => exact ⟨rfl, rfl⟩
    case round =>
      obtain ⟨rfl, rfl⟩ := hrel
      go_wp2_with fail
      exact bodyPost_end (v := .tuple #[]) (by simp [results, Try.results10, go_sem]) rfl ⟨rfl, _, HA.out⟩
  · obtain ⟨S, hs, hb, f⟩ := HO.head
    obtain ⟨g, c, rfl, _⟩ := Kd.R_form hs (by omega)
    have HA := Aside0.mk HO
    obtain ⟨n, hn⟩ : ∃ n, n = ts.length := ⟨_, rfl⟩
    rw [← hn] at HA ⊢
    have HN := Lib.hid hn
    have hn1 : n ≤ 1000 := by omega
    clear HO hs hb f h0 hl hn
    go_enter Try.func10, Try.ntmps10
    go_wp2_with fail
    go_loopw [5] (fun v5 wr => ∃ (i : Nat) (ys : List ByteArray), i ≤ n ∧ v5 = .int .i64 i ∧ ys.length = n ∧ Aside0 (Own w0 wr (Txt (.slice (some ⟨g, 0, none⟩) n c) ys :: L))) (fun v5 _ => n - (intOf v5).toNat)
    case atStart => exact ⟨0, ts, by omega, rfl, HN.out.symm, HA⟩
    case round =>
      clear HA
      obtain ⟨i, ys, hin, rfl, hys, HO⟩ := hrel
      have HYS := Lib.hid hys
      clear hys
      by_cases hlt : i < n
      · have dl : decide ((i : Int) < (n : Int)) = true := decide_eq_true (by omega)
        have dln : decide (i < n) = true := decide_eq_true hlt
        obtain ⟨x0, f0⟩ := cell_s HO.out HYS.out i hlt
        have g1 : (0 ≤ (i : Int)) = True := eq_true (by omega)
        have g2 : ((i : Int) < (n : Nat)) = True := eq_true (by omega)
        have g3 : (i < n) = True := eq_true hlt
        go_wp2_with fail
        go_roundw
        case rel => exact ⟨i + 1, ys.set i spS, by omega, by go_num, by rw [List.length_set]; exact HYS.out, ⟨put_s HO.out HYS.out i spS⟩⟩
        case measure => simp [intOf]; omega
      · obtain rfl : i = n := by omega
        have dl : decide ((i : Int) < (i : Int)) = false := decide_eq_false (by omega)
        have dln : decide (i < i) = false := decide_eq_false (by omega)
        go_wp2_with fail
        exact bodyPost_end (v := .tuple #[]) (by simp [results, Try.results10, go_sem]) rfl ⟨rfl, _, HO.out⟩
def wr1 : S33 := ⟨1, 1, 2⟩
theorem lit3 {W : World} {b : Nat} {x : S33} (h : W.heap[b]? = some (.cells #[.int .i64 x.f0, .int .i64 x.f1, .int .i64 x.f2, .int .i64 x.f0, .int .i64 x.f1, .int .i64 x.f2, .int .i64 x.f0, .int .i64 x.f1, .int .i64 x.f2] 33 (0, 0))) : Kd.C k33 W (some ⟨b, 0, none⟩) 3 [x, x, x] := by
  refine ⟨rfl, by decide, fun _ => ⟨_, rfl, fun j p hj => ?_⟩⟩
  have hp : p = x ∧ j < 3 := by
    rcases j with _ | _ | _ | j
    · exact ⟨(Option.some.inj hj).symm, by omega⟩
    · exact ⟨(Option.some.inj hj).symm, by omega⟩
    · exact ⟨(Option.some.inj hj).symm, by omega⟩
    · simp at hj
  obtain ⟨rfl, hj3⟩ := hp
  refine ⟨_, rfl, k33_mk W p, fun i u hu => ?_⟩
  have hi : i < 3 := by
    rcases i with _ | _ | _ | i
    · omega
    · omega
    · omega
    · simp at hu
  rw [show k33.sz = 3 from rfl, add_plain, blk_cell h]
  rcases (by omega : j = 0 ∨ j = 1 ∨ j = 2) with rfl | rfl | rfl <;> rcases (by omega : i = 0 ∨ i = 1 ∨ i = 2) with rfl | rfl | rfl <;> exact hu
open Classical in
theorem pack_wk : ∃ p q, packV 2 24 4 [wr1, wr1, wr1] [] = ([p, q], 0) ∧ q.size = 24 := by
  have hm : mayR wr1 := by decide
  have a1 : allR [wr1, wr1] := fun j hj => by
    rcases (show j = 0 ∨ j = 1 by have : j < 2 := hj; omega) with rfl | rfl <;> exact hm
  have a2 : allR [wr1] := fun j hj => by
    obtain rfl : j = 0 := by have : j < 1 := hj; omega
    exact hm
  refine ⟨pageB 24 [wr1, wr1], pageB 24 [wr1], ?_, ?_⟩
  · show (if ([wr1, wr1, wr1] : List S33).length = 0 then _ else if allR [wr1, wr1] then packV 2 24 3 [wr1] ([] ++ [pageB 24 [wr1, wr1]]) else _) = _
    rw [if_neg (by decide), if_pos a1]
    show (if ([wr1] : List S33).length = 0 then _ else if allR [wr1] then packV 2 24 2 [] (([] ++ [pageB 24 [wr1, wr1]]) ++ [pageB 24 [wr1]]) else _) = _
    rw [if_neg (by decide), if_pos a2]
    rfl
  · show (catR [wr1] 1 ++ zeroS (24 - (1 + 9 * 1))).size = 24
    rw [ByteArray.size_append, catR_size, zeroS_size]
set_option maxHeartbeats 4000000 in
set_option maxRecDepth 100000 in
theorem works_calls (w : World) :
    Calls Try.prog 4 #[] w fun e w' => e = .returned (.bool true) ∧ Below w.heap.size w w' := by
  obtain ⟨p, q, hp, hq⟩ := pack_wk
  have HP := Lib.hid hp
  have HQ := Lib.hid hq
  have hlw : ((w.alloc (.cells #[.int .i64 1, .int .i64 1, .int .i64 2] 33)).alloc (.cells #[.int .i64 1, .int .i64 1, .int .i64 2, .int .i64 1, .int .i64 1, .int .i64 2, .int .i64 1, .int .i64 1, .int .i64 2] 33)).heap[w.heap.size + 1]? = some (.cells #[.int .i64 1, .int .i64 1, .int .i64 2, .int .i64 1, .int .i64 1, .int .i64 2, .int .i64 1, .int .i64 1, .int .i64 2] 33 (0, 0)) := by
    have := heap_alloc_new (w.alloc (.cells #[.int .i64 1, .int .i64 1, .int .i64 2] 33)) (.cells #[.int .i64 1, .int .i64 1, .int .i64 2, .int .i64 1, .int .i64 1, .int .i64 2, .int .i64 1, .int .i64 1, .int .i64 2] 33)
    rw [World.size_alloc] at this
    exact this
  have HPK := Aside0.mk (pack_yes (w0 := (w.alloc (.cells #[.int .i64 1, .int .i64 1, .int .i64 2] 33)).alloc (.cells #[.int .i64 1, .int .i64 1, .int .i64 2, .int .i64 1, .int .i64 1, .int .i64 2, .int .i64 1, .int .i64 1, .int .i64 2] 33)) (L := []) (some ⟨w.heap.size + 1, 0, none⟩) 3 [wr1, wr1, wr1] 24 2 (by omega) (by omega) rfl (lit3 (x := wr1) hlw) (by decide) (by decide) (Own.new _))
  have HB := Aside0.mk (((Below.refl w.heap.size w).alloc (Nat.le_refl _) (.cells #[.int .i64 1, .int .i64 1, .int .i64 2] 33)).alloc (by rw [World.size_alloc]; omega) (.cells #[.int .i64 1, .int .i64 1, .int .i64 2, .int .i64 1, .int .i64 1, .int .i64 2, .int .i64 1, .int .i64 1, .int .i64 2] 33))
  clear hp hq hlw
  go_enter Try.func4, Try.ntmps4
  go_wp2_with fail
  refine HPK.out.mono ?_
  rintro e w1 ⟨v, rfl, ho⟩
  rw [show ([wr1, wr1, wr1] : List S33).length + 1 = 4 from rfl, HP.out] at ho
  rw [show ([wr1, wr1, wr1] : List S33).length + 1 = 4 from rfl, HP.out]
  have H1 := Aside0.mk ho
  obtain ⟨S, hs, _, _⟩ := ho.head
  obtain ⟨g, c, rfl, _⟩ := Kd.R_form hs (by show 0 < 2; omega)
  have hx' : w1.cell? ⟨g, 1, none⟩ = some (.string q) := (cell_s ho rfl 1 (by show 1 < 2; omega)).1
  clear hs ho HPK
  go_wp2_with fail
  refine (sheet_Hold.calls 24 2 _ (by rw [hold_is]; rfl)).mono ?_
  rintro e w2 ⟨rfl, hb⟩
  have H2 := Aside0.mk (H1.out.move hb.below)
  have hx2 : w2.cell? ⟨g, 1, none⟩ = some (.string q) := (hb.below.cell (World.block_lt_of_cell? _ _ hx')).trans hx'
  have hq : q.size = 24 := HQ.out
  clear hx' hb H1
  go_wp2_with fail
  go_ret
  exact ⟨rfl, HB.out.trans (H2.out.below.mono HB.out.size)⟩
def decklelaw12_SheetPacks.f (l0 : List S33) (a1 : Int) : Option Bool := some true
set_option maxHeartbeats 4000000 in
set_option maxRecDepth 100000 in
theorem packs_many (A0 : Option Addr) (c0 : Nat) (l0 : List S33) (a1 : Int) (w : World) (h : 200 < l0.length) :
    Calls Try.prog 3 #[.slice A0 l0.length c0, .int .i64 a1] w fun e w' => e = .returned (.bool true) ∧ Below w.heap.size w w' := by
  have d1 : decide ((l0.length : Int) > 200) = true := decide_eq_true (by omega)
  have d2 : decide (200 < (l0.length : Int)) = true := decide_eq_true (by omega)
  have d3 : decide (200 < l0.length) = true := decide_eq_true h
  go_enter Try.func3, Try.ntmps3
  go_wp2_with fail
  refine (works_calls _).mono ?_
  rintro e w1 ⟨rfl, hb⟩
  go_wp2_with fail
  go_ret
  exact ⟨rfl, hb⟩
set_option maxHeartbeats 4000000 in
set_option maxRecDepth 100000 in
theorem packs_few (A0 : Option Addr) (c0 : Nat) (l0 : List S33) (a1 : Int) (w : World) (hr0 : Kd.C k33 w A0 l0.length l0) (hc0 : l0.length ≤ c0) (h : ¬ 200 < l0.length) :
    Calls Try.prog 3 #[.slice A0 l0.length c0, .int .i64 a1] w fun e w' => e = .returned (.bool true) ∧ Below w.heap.size w w' := by
  have main : ∃ (ts : List ByteArray) (cd : Int), ts.length ≤ 200 ∧ deckleref12_Pack.f 100000 l0 a1 = some (ts, cd) ∧ ∀ w1 : World, Below w.heap.size w w1 → Calls Try.prog 5 #[.slice A0 l0.length c0, .int .i64 a1] w1 fun e w' => ∃ v, e = .returned (.tuple #[v, .int .i64 cd]) ∧ Own w w' (Txt v ts :: []) := by
    by_cases h0 : holdV a1 = 0
    · exact ⟨[], 2, by show 0 ≤ 200; omega, refpack_no l0 a1 h0 _ (by omega), fun w1 hb => pack_no A0 c0 l0 a1 h0 ((Own.new w).move hb)⟩
    · have hn : 16 ≤ a1 ∧ a1 ≤ 256 := by unfold holdV at h0; split at h0 <;> omega
      obtain ⟨n, rfl⟩ := Int.eq_ofNat_of_zero_le (show 0 ≤ a1 by omega)
      have hl := pack_len ((n - 1) / 9) n (l0.length + 1) l0 [] (by omega)
      exact ⟨_, _, Nat.le_trans hl (by show 0 + _ ≤ _; omega), refpack_is l0 n _ (by omega) (by omega) rfl (by omega) _ (by omega), fun w1 hb => pack_yes A0 c0 l0 n _ (by omega) (by omega) rfl hr0 hc0 (by omega) ((Own.new w).move hb)⟩
  obtain ⟨ts, cd, hts, href, hpk⟩ := main
  have HPK := Aside0.mk hpk
  have HREF := Aside0.mk href
  have HR0 := Aside0.mk hr0
  have HC0 := Lib.hid hc0
  have HTS := Lib.hid hts
  have d1 : decide ((l0.length : Int) > 200) = false := decide_eq_false (by omega)
  have d2 : decide (200 < (l0.length : Int)) = false := decide_eq_false (by omega)
  have d3 : decide (200 < l0.length) = false := decide_eq_false h
  clear hpk href hr0 hc0 hts
  go_enter Try.func3, Try.ntmps3
  go_wp2_with fail
  clear d1 d2 d3
  refine (HPK.out _ (Below.refl _ _)).mono ?_
  rintro e w1 ⟨v, rfl, ho⟩
  have H1 := Aside0.mk ho
  clear ho HPK
  go_wp2_with fail
  refine (deckleref12_Pack.calls 100000 A0 c0 l0 a1 ts cd _ (Kd.C_below HR0.out H1.out.below) HC0.out HREF.out).mono ?_
  rintro e w2 ⟨v2, rfl, hR, hb⟩
  have h2 := H1.out.move hb
  obtain ⟨A1, c1, rfl, hc1, hr1⟩ := Kd.R_reads hR
  obtain ⟨A, c, rfl, hc, hr⟩ := h2.reads
  have H2 := Aside0.mk h2
  have HSM := Aside0.mk (decklebook_SameTexts.calls (ts.length + 1) A c ts A1 c1 ts true w2 hr hc hr1 hc1 (same_is ts (by have := HTS.out; omega)))
  clear hR hb h2 hr hr1 hc hc1 H1
  go_wp2_with fail
  refine HSM.out.mono ?_
  rintro e w3 ⟨rfl, hb⟩
  have H3 := Aside0.mk (H2.out.move hb.below)
  have ecd : (cd == cd) = true := beq_self_eq_true _
  clear hb H2 HSM
  go_wp2_with fail
  refine (sheet_Hold.calls a1 _ _ (hold_is a1)).mono ?_
  rintro e w4 ⟨rfl, hb⟩
  have H4 := Aside0.mk (H3.out.move hb.below)
  clear hb H3
  go_wp2_with fail
  refine (deckleref12_Hold.calls 40 a1 _ _ (refhold_is a1 40 (by omega))).mono ?_
  rintro e w5 ⟨rfl, hb⟩
  have H5 := Aside0.mk (H4.out.move hb.below)
  have ehd : (holdV a1 == holdV a1) = true := beq_self_eq_true _
  clear hb H4
  go_wp2_with fail
  refine (spoil_own _ ts (by have := HTS.out; omega) H5.out).mono ?_
  rintro e w6 ⟨rfl, ts', ho⟩
  have H6 := Aside0.mk ho
  clear ho H5 ecd ehd
  go_wp2_with fail
  refine (works_calls _).mono ?_
  rintro e w7 ⟨rfl, hb⟩
  have H7 := Aside0.mk (H6.out.move hb)
  clear hb H6
  go_wp2_with fail
  go_ret
  exact ⟨rfl, H7.out.below⟩
theorem decklelaw12_SheetPacks.calls (A0 : Option Addr) (c0 : Nat) (l0 : List (S33)) (a1 : Int) (w : World) (hr0 : Kd.C k33 w A0 l0.length l0) (hc0 : l0.length ≤ c0) (h : decklelaw12_SheetPacks.f l0 a1 = some true) :
    Calls Try.prog 3 #[.slice A0 l0.length c0, .int .i64 a1] w fun e w' => e = .returned (.bool true) ∧ Below w.heap.size w w' := by
  by_cases h1 : 200 < l0.length
  · exact packs_many A0 c0 l0 a1 w h1
  · exact packs_few A0 c0 l0 a1 w hr0 hc0 h1
end
end Go.Proofs.Ytdohaocbhcniaaa.PG
end
