/- The law's proof: words, contracts of the functions that it reaches, plain lemmas. -/
import Derived.ArgAppend
import Derived.Below
import Derived.BigQuiet
import Derived.Carry
import Derived.Deep.AppendLies
import Derived.Deep.CutBlock
import Derived.Deep.DeepCutAuto
import Derived.Deep.Draws
import Derived.Deep.LoopGhost
import Derived.Deep.OwnRows
import Derived.Deep.QuietTactic
import Derived.Deep.RegionHeld3
import Derived.Deep.RegionWith
import Derived.KernelRfl
import Derived.Laws.BitsLemmas
import Derived.Laws.BytesArg
import Derived.Laws.IdiomCopy
import Derived.Laws.MakeOwn
import Derived.Laws.OwnMore
import Derived.Laws.Rows
import Derived.Laws.Slices
import Derived.Lib.AppendStr
import Derived.Lib.BufferMore
import Derived.Lib.ConvBytes
import Derived.Lib.Hide
import Derived.Lib.LazyBuf
import Derived.Maps.AppendAt
import Derived.OpenShut
import Derived.OrdersHeld
import Derived.Outline
import Derived.OwnWalk
import Derived.OwnWalkIn
import Derived.RegionTactic
import Derived.RowKit3
import Derived.StillTailTactics
import Derived.Tactics
import Derived.WalkKit
import Derived.WideLaws
import Derived.Test.YtdohaocbhcniaaaDoorSu16
import Derived.Test.YtdohaocbhcniaaaDoorSu11
import Derived.TacticsInMore
import Derived.LoopNIn
import Derived.LoopIn
section
/- Package sheet, by hand: Each and its iterator. -/
set_option linter.unusedVariables false
set_option linter.unusedSimpArgs false
namespace Go.Proofs.YtdohaocbhcniaaaDoor.PG
open Go.RowKit Go.Shelf Go.Proofs.YtdohaocbhcniaaaDoorW.PrintWords Go.Proofs.YtdohaocbhcniaaaDoor.Mem Go.Proofs.YtdohaocbhcniaaaDoor.Own Go.Proofs.YtdohaocbhcniaaaDoor.Hw Go.Proofs.YtdohaocbhcniaaaDoor.Rng

/-- The box of the pages. -/
abbrev BoxS (b : Nat) (v : Value) : Asn := Pt b (.cells #[v] 24)
theorem two_ends {e : Ending} {A B : Prop} (h : (e = .returned (.bool true) ∧ A) ∨ (e = .returned (.bool false) ∧ B)) : ∃ bb : Bool, e = .returned (.bool bb) ∧ (bb = true ∧ A ∨ bb = false ∧ B) := by
  rcases h with ⟨h1, h2⟩ | ⟨h1, h2⟩
  · exact ⟨true, h1, .inl ⟨rfl, h2⟩⟩
  · exact ⟨false, h1, .inr ⟨rfl, h2⟩⟩
theorem hold_perm {w : World} {b : Nat} {L R : List Asn} (hp : L.Perm R) : ∀ S, Hold w b L S → Hold w b R S := by
  induction hp with
  | nil => exact fun _ h => h
  | cons x _ ih => exact fun _ h => Hold.cons ih h
  | swap x y l => exact fun _ h => Hold.swap h
  | trans _ _ ih1 ih2 => exact fun S h => ih2 S (ih1 S h)
theorem own_swap {w0 w : World} (A B : List Asn) {L : List Asn} (h : Own.Own w0 w (A ++ (B ++ L))) : Own.Own w0 w (B ++ (A ++ L)) := by
  refine h.map (hold_perm ?_)
  rw [← List.append_assoc, ← List.append_assoc]
  exact List.Perm.append_right L List.perm_append_comm
section
variable {w0 w : World} {L : List Asn}
set_option maxHeartbeats 2000000 in
set_option maxRecDepth 100000 in
theorem each_own (A : Option Addr) (n c : Nat) (HO : Own.Own w0 w L) : Calls Tryd.prog 16 #[.slice A n c] w fun e w' => ∃ b, e = .returned (.func (.func 36) #[] #[.pointer (some ⟨b, 0, none⟩)]) ∧ Own.Own w0 w' (BoxS b (.slice A n c) :: L) := by
  have HA := Aside0.mk (HO.alloc (.cells #[.slice A n c] 24))
  clear HO
  go_enter Tryd.func16, Tryd.ntmps16
  go_wp2_with fail
  go_ret
  exact ⟨_, rfl, HA.out⟩
end
abbrev EaL (b : Nat) (v : Value) (rest : Nat → List Asn) (k : Nat) (X : List Asn) : List Asn := BoxS b v :: (rest k ++ X)
abbrev recV (x : S30) : Value := .agg #[.int .i64 x.f0, .int .i64 x.f1, .int .i64 x.f2]
theorem behind {w0 w : World} {A : Asn} {L : List Asn} (h : Own.Own w0 w (A :: L)) : Own.Own w0 w (L ++ [A]) := by
  have := own_swap [A] L (L := []) (by rw [List.append_nil]; exact h)
  rwa [List.append_nil] at this
theorem ahead {w0 w : World} {A : Asn} {L : List Asn} (h : Own.Own w0 w (L ++ [A])) : Own.Own w0 w (A :: L) := by
  have := own_swap L [A] (L := []) (by rw [List.append_nil]; exact h)
  rwa [List.append_nil] at this
set_option maxHeartbeats 2000000 in
set_option maxRecDepth 100000 in
theorem each_iter (w0 : World) (b c : Nat) (A : Option Addr) (ps : List ByteArray) (hr : Kd.C Kd.string w0 A ps.length ps) (hn : ps.length ≤ 1000) (hs : ∀ i, i < ps.length → (pgAt ps i).size ≤ 300) (rest : Nat → List Asn) :
    Iterates Tryd.prog w0 36 #[.pointer (some ⟨b, 0, none⟩)] (fun d : Nat × S30 => #[.int .i64 (d.1 : Int), recV d.2]) (EaL b (.slice A ps.length c) rest 0 [])
      (fun (k : Nat × List Asn) d K => (flatU ps)[k.1]? = some d ∧ K = EaL b (.slice A ps.length c) rest k.1 k.2) (fun k d K => K = EaL b (.slice A ps.length c) rest (k.1 + 1) k.2) (fun K => K = EaL b (.slice A ps.length c) rest (flatU ps).length []) := by
  intro l D m o W Left hm HO hY
  have HO := Aside0.mk HO
  have HR := Aside0.mk hr
  have HS := Aside0.mk hs
  have HN := Lib.hid hn
  clear hr hs hn
  have y0 := blk_cell HO.out.drop.drop.pt 0
  simp only [List.getElem?_toArray, List.getElem?_cons_zero] at y0
  refine callsIn_of_wp Tryd.func36 rfl trivial ?_ rfl
  simp only [Tryd.ntmps36, List.size_toArray, List.length_cons, List.length_nil, Nat.reduceAdd, Nat.reduceSub, Array.replicate_succ, Array.replicate_zero, List.push_toArray, List.append_toArray, List.nil_append, List.cons_append]
  gi_wp2
  gi_loopw [11] (fun v11 wr => ∃ i : Nat, i ≤ ps.length ∧ v11 = .int .i64 i ∧ Aside0 ((stU ps i).2 = true) ∧ Aside0 (Own.Own w0 wr (Dfr D :: Pt l o :: EaL b (.slice A ps.length c) rest (stU ps i).1.length []))) (fun v11 _ => ps.length - (intOf v11).toNat)
  case atStart => exact ⟨0, by omega, rfl, ⟨rfl⟩, HO⟩
  case round =>
    clear HO y0
    obtain ⟨i, hi, rfl, HT, HO⟩ := hrel
    have hn := HN.out
    by_cases hlt : i < ps.length
    · have dl : decide ((i : Int) < (ps.length : Int)) = true := decide_eq_true (by omega)
      have dln : decide (i < ps.length) = true := decide_eq_true hlt
      obtain ⟨ad, rfl, x0⟩ := Kd.at_string (Kd.C_below HR.out HO.out.below) (i : Int) (by omega) (by omega)
      obtain ⟨pg, hpg⟩ : ∃ pg, pg = pgAt ps i := ⟨_, rfl⟩
      have hrd : rdOf ByteArray.empty ps (i : Int) = pg := hpg.symm
      rw [hrd, Int.toNat_natCast] at x0
      have hsz := HS.out i hlt
      rw [← hpg] at hsz
      have HPG := Aside0.mk hpg
      have HSZ := Lib.hid hsz
      clear hrd hpg hsz
      have g1 : (0 ≤ (i : Int)) = True := eq_true (by omega)
      have g2 : ((i : Int) < (ps.length : Nat)) = True := eq_true (by omega)
      have g3 : (i < ps.length) = True := eq_true hlt
      gi_wp2_with (fail)
      refine ⟨trivial, ?_⟩
      gi_at_call 12
      refine (callsIn_wide.2 (unpack_own pg (by have := HSZ.out; omega) HO.out)).mono ?_
      rintro e w2 ⟨v, rfl, ho⟩
      obtain ⟨A2, c2, rfl, _, hr2⟩ := ho.reads
      have H2 := Aside0.mk ho
      have HLQ := Aside0.mk (unpV_len pg)
      clear ho HO x0 hr2
      by_cases h2 : (unpV pg).2 = 0
      · obtain ⟨xs, hxs⟩ : ∃ xs, xs = (unpV pg).1 := ⟨_, rfl⟩
        rw [← hxs] at H2 HLQ ⊢
        have HX := Aside0.mk hxs
        have H3 := Aside0.mk (behind H2.out)
        have HZ := Aside0.mk h2
        rw [h2]
        clear hxs H2 h2
        obtain ⟨n, hn2⟩ : ∃ n, n = xs.length := ⟨_, rfl⟩
        rw [← hn2]
        have HN2 := Lib.hid hn2
        clear hn2
        simp only [List.append_nil, List.cons_append] at H3
        gi_wp2_with (fail)
        gi_loopw [25] (fun v25 wr => ∃ j : Nat, j ≤ n ∧ v25 = .int .i64 j ∧ Aside0 (Own.Own w0 wr (Dfr D :: Pt l o :: EaL b (.slice (some ad) ps.length c) rest ((stU ps i).1.length + j) [Recs (.slice A2 xs.length c2) xs]))) (fun v25 _ => n - (intOf v25).toNat)
        case atStart => exact ⟨0, by omega, rfl, H3⟩
        case round =>
          clear H3
          obtain ⟨j, hj, rfl, HO⟩ := hrel
          have hlq := HLQ.out
          rw [← HN2.out] at hlq
          by_cases hlj : j < n
          · have dj : decide ((j : Int) < (n : Int)) = true := decide_eq_true (by omega)
            have djn : decide (j < n) = true := decide_eq_true hlj
            obtain ⟨A3, c3, e3, _, hr3⟩ := (ahead (L := Dfr D :: Pt l o :: BoxS b (.slice (some ad) ps.length c) :: rest ((stU ps i).1.length + j)) HO.out).reads
            injection e3 with e3 e4 e5
            subst e3 e5
            obtain ⟨ad2, rfl, x0, x1, x2⟩ := at_T30 hr3 (j : Int) (by omega) (by rw [← HN2.out]; omega)
            obtain ⟨x, hx⟩ : ∃ x, x = xs.getD j z30 := ⟨_, rfl⟩
            have hx' : rd_T30 xs (j : Int) = x := by rw [hx]; unfold rd_T30; rw [Int.toNat_natCast]
            rw [hx', Int.toNat_natCast] at x0 x1 x2
            have hfl : (flatU ps)[(stU ps i).1.length + j]? = some (i, x) := by
              have := flatU_at hlt HT.out (by rw [← HPG.out]; exact HZ.out) j (by rw [← HPG.out, ← HX.out, ← HN2.out]; exact hlj)
              rw [this, ← HPG.out, ← HX.out, ← hx]
            have HFL := Aside0.mk hfl
            have HA := Aside0.mk (HO.out.alloc' (.cells #[.int .i64 x.f0, .int .i64 x.f1, .int .i64 x.f2] 30))
            clear hx hx' hfl HO hr3 e4
            have f1 : (0 ≤ (j : Int)) = True := eq_true (by omega)
            have f2 : ((j : Int) < (n : Nat)) = True := eq_true (by omega)
            have f3 : (j < n) = True := eq_true hlj
            obtain ⟨fn, tmps, assign, body, hy, hR⟩ := hY ((stU ps i).1.length + j, [Recs (.slice (some ad2) xs.length c2) xs]) (i, x) _ _ ⟨HFL.out, rfl⟩ HA.out
            gi_wp2_with (fail)
            refine hR.mono ?_
            rintro e W2 h2
            obtain ⟨bb, rfl, hbb⟩ := two_ends h2
            have HBB := Aside0.mk hbb
            clear h2 hbb hR hy HA x0 x1 x2
            obtain ⟨⟨rfl, L', rfl, hO⟩ | ⟨rfl, o', L', hl, hO⟩⟩ := HBB
            · have HN := Aside0.mk hO
              clear hO
              gi_wp2
              go_roundw
              case rel => exact ⟨j + 1, by omega, by go_num, HN⟩
              case measure => simp [intOf]; omega
            · have HN := Aside0.mk hO
              clear hO
              gi_wp2
              refine bodyPost_ret (results_none rfl _ _ _) rfl ?_
              exact ⟨⟨_, rfl⟩, .inr ⟨o', L', hl, HN.out⟩⟩
          · obtain rfl : j = n := by omega
            have dj : decide ((j : Int) < (j : Int)) = false := decide_eq_false (by omega)
            have djn : decide (j < j) = false := decide_eq_false (by omega)
            have hst := stU_yes HT.out (by rw [← HPG.out]; exact HZ.out : (unpV (pgAt ps i)).2 = 0)
            rw [← HPG.out, ← HX.out] at hst
            have H4 := Aside0.mk (ahead (L := Dfr D :: Pt l o :: BoxS b (.slice (some ad) ps.length c) :: rest ((stU ps i).1.length + j)) HO.out).drop
            have HST := Aside0.mk hst
            clear hst HO
            gi_wp2
            go_roundw
            case rel =>
              refine ⟨i + 1, by omega, by go_num, ⟨by rw [HST.out]⟩, ⟨?_⟩⟩
              rw [HST.out]
              show Own.Own w0 _ (Dfr D :: Pt l o :: BoxS b (.slice (some ad) ps.length c) :: (rest ((stU ps i).1 ++ xs.map (fun r => (i, r))).length ++ []))
              rw [List.append_nil, List.length_append, List.length_map, ← HN2.out]
              exact H4.out
            case measure => simp [intOf]; omega
      · have hq : ((unpV pg).2 != 0) = true := by simpa using h2
        have hfe := flatU_end hlt (by rw [← HPG.out]; exact h2)
        have HFE := Aside0.mk hfe
        have H3 := Aside0.mk H2.out.drop
        clear H2 h2 hfe
        gi_wp2_with (fail)
        refine bodyPost_ret (results_none rfl _ _ _) rfl ?_
        exact ⟨⟨_, rfl⟩, .inl ⟨_, rfl, by rw [HFE.out]; exact H3.out⟩⟩
    · obtain rfl : i = ps.length := by omega
      have dl : decide ((ps.length : Int) < (ps.length : Int)) = false := decide_eq_false (by omega)
      have dln : decide (ps.length < ps.length) = false := decide_eq_false (by omega)
      gi_wp2
      go_end0
      exact ⟨⟨_, rfl⟩, .inl ⟨_, rfl, HO.out⟩⟩
end Go.Proofs.YtdohaocbhcniaaaDoor.PG
end
