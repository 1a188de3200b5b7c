/- The law's proof: words, contracts of the functions that it reaches, plain lemmas. -/
import Derived.ArgAppend
import Derived.Below
import Derived.BigQuiet
import Derived.Carry
import Derived.Deep.AppendLies
import Derived.Deep.CutBlock
import Derived.Deep.DeepCutAuto
import Derived.Deep.Draws
import Derived.Deep.LoopGhost
import Derived.Deep.OwnRows
import Derived.Deep.QuietTactic
import Derived.Deep.RegionHeld3
import Derived.Deep.RegionWith
import Derived.KernelRfl
import Derived.Laws.BitsLemmas
import Derived.Laws.BytesArg
import Derived.Laws.IdiomCopy
import Derived.Laws.MakeOwn
import Derived.Laws.OwnMore
import Derived.Laws.Rows
import Derived.Laws.Slices
import Derived.Lib.AppendStr
import Derived.Lib.BufferMore
import Derived.Lib.ConvBytes
import Derived.Lib.Hide
import Derived.Lib.LazyBuf
import Derived.Maps.AppendAt
import Derived.OpenShut
import Derived.OrdersHeld
import Derived.Outline
import Derived.OwnWalk
import Derived.OwnWalkIn
import Derived.RegionTactic
import Derived.RowKit3
import Derived.StillTailTactics
import Derived.Tactics
import Derived.WalkKit
import Derived.WideLaws
import Derived.Test.YtdohaocbhcniaaaDoorSa13
import Derived.Test.YtdohaocbhcniaaaDoorSa3
section
/- The law SheetAgain, by hand: the walk. -/
set_option linter.unusedVariables false
set_option linter.unusedSimpArgs false
namespace Go.Proofs.YtdohaocbhcniaaaDoor.PG
open Go.RowKit Go.Shelf Go.Proofs.YtdohaocbhcniaaaDoorW.PrintWords Go.Proofs.YtdohaocbhcniaaaDoor.Mem Go.Proofs.YtdohaocbhcniaaaDoor.Own Go.Proofs.YtdohaocbhcniaaaDoor.Hw

def decklelaw12_SheetAgain.f (a0 : ByteArray) : Option Bool := if a0.size ≤ 140737488355328 then some true else none
theorem own_then {w0 w : World} {L R : List Asn} {w1 : World} (h : Own w0 w L) (h2 : Own w w1 R) : Own w0 w1 (R ++ L) := let ⟨b, _, hs, hk⟩ := h2; h.fresh b (hs.mono (fun k hk' => (hk k hk').1))
set_option maxHeartbeats 4000000 in
set_option maxRecDepth 100000 in
theorem again_no (s : ByteArray) (w : World) (hs : s.size ≤ 140737488355328) (cd : Int) (hcd : (cd == 0) = false) (hV : unpV s = ([], cd)) :
    Calls Tryd.prog 4 #[.string s] w fun e w' => e = .returned (.bool true) ∧ Below w.heap.size w w' := by
  have HV := Aside0.mk hV
  have HS := Lib.hid hs
  have HC := Lib.hid hcd
  clear hV hs hcd
  go_enter Tryd.func4, Tryd.ntmps4
  go_wp2_with fail
  refine (works_calls _).mono ?_
  rintro e w1 ⟨rfl, hb⟩
  have H1 := Aside0.mk ((Own.new w).move hb)
  clear hb
  go_wp2_with fail
  refine (unpack_own s HS.out H1.out).mono ?_
  rintro e w2 ⟨v, rfl, ho⟩
  rw [HV.out] at ho
  rw [HV.out]
  obtain ⟨A, c, rfl, _, _⟩ := ho.reads
  have H2 := Aside0.mk ho
  have hc := HC.out
  clear ho H1
  go_wp2_with fail
  go_ret
  exact ⟨rfl, H2.out.below⟩
set_option maxHeartbeats 4000000 in
set_option maxRecDepth 100000 in
theorem again_yes (s : ByteArray) (w : World) (h16 : 16 ≤ s.size) (h256 : s.size ≤ 256) (hh : holdV s.size = ((s.size - 1) / 9 : Nat)) (hf : fitU s) :
    Calls Tryd.prog 4 #[.string s] w fun e w' => e = .returned (.bool true) ∧ Below w.heap.size w w' := by
  have hn1 := hf.1
  have hnH : bn s 0 ≤ (s.size - 1) / 9 := by have := hf.2.1; rw [hh] at this; omega
  have hV := unpV_yes (s := s) (by rw [hh]; omega) hf
  have hpb := page_back s hf h16 h256 (by omega)
  obtain ⟨l, hl⟩ : ∃ l, l = recsV s (bn s 0) := ⟨_, rfl⟩
  have hll : l.length = bn s 0 := by rw [hl, recsV_length]
  have hal : allR l := by
    intro j hj
    rw [hl]
    unfold recsV
    rw [List.getD_eq_getElem?_getD, List.getElem?_map, List.getElem?_range (by omega)]
    exact hf.2.2.2 j (by omega)
  have hpk := pack_one ((s.size - 1) / 9) s.size l (by omega) (by omega) hal
  rw [← hl] at hV hpb
  rw [hpb] at hpk
  have HV := Aside0.mk hV
  have HPK := Aside0.mk hpk
  obtain ⟨n, hn⟩ : ∃ n, n = l.length := ⟨_, rfl⟩
  have hn2 : 1 ≤ n := by omega
  have hn28 : n ≤ 28 := by omega
  have HN := Lib.hid hn
  clear hV hpb hpk hh hf hn1 hnH hll hal hl hn
  go_enter Tryd.func4, Tryd.ntmps4
  go_wp2_with fail
  refine (works_calls _).mono ?_
  rintro e w1 ⟨rfl, hb⟩
  have H1 := Aside0.mk ((Own.new w).move hb)
  clear hb
  go_wp2_with fail
  refine (unpack_own s (by omega) H1.out).mono ?_
  rintro e w2 ⟨v, rfl, ho⟩
  rw [HV.out] at ho
  rw [HV.out]
  obtain ⟨A, c, rfl, hc, hr⟩ := ho.reads
  have H2 := Aside0.mk ho
  have HR := Aside0.mk hr
  have HC := Lib.hid hc
  clear ho H1 hr hc
  dsimp only at HR HC
  rw [← HN.out]
  go_wp2_with fail
  have hp := pack_yes (w0 := w2) (L := []) A c l s.size ((s.size - 1) / 9) h16 h256 rfl HR.out HC.out (by have := HN.out; omega) (Own.new w2)
  rw [HPK.out, ← HN.out] at hp
  refine hp.mono ?_
  rintro e w3 ⟨v2, rfl, ho⟩
  have H3 := Aside0.mk (own_then H2.out ho)
  obtain ⟨Q, hQ, _, _⟩ := ho.head
  obtain ⟨g, c2, rfl, _⟩ := Kd.R_form hQ (by show 0 < 1; omega)
  have x0 : w3.cell? ⟨g, 0, none⟩ = some (.string s) := (cell_s ho rfl 0 (by show 0 < 1; omega)).1
  have es : (s.toList == s.toList) = true := beq_self_eq_true _
  have dn : decide ((n : Int) ≥ 1) = true := decide_eq_true (by omega)
  have dn2 : decide (1 ≤ (n : Int)) = true := decide_eq_true (by omega)
  have dn3 : decide (1 ≤ n) = true := decide_eq_true hn2
  clear hQ ho hp H2
  go_wp2_with fail
  go_ret
  exact ⟨rfl, H3.out.below⟩
theorem decklelaw12_SheetAgain.calls (a0 : ByteArray) (w : World) (h : decklelaw12_SheetAgain.f a0 = some true) (HL : Aside0 (Hu.Laid w)) :
    Calls Tryd.prog 4 #[.string a0] w fun e w' => e = .returned (.bool true) ∧ Below w.heap.size w w' := by
  have hc0 : a0.size ≤ 140737488355328 := by
    unfold decklelaw12_SheetAgain.f at h
    by_cases q : a0.size ≤ 140737488355328
    · exact q
    · rw [if_neg q] at h; cases h
  by_cases h0 : holdV a0.size = 0
  · exact again_no a0 w hc0 2 rfl (if_pos h0)
  by_cases hf : fitU a0
  · have hsz : 16 ≤ a0.size ∧ a0.size ≤ 256 := by unfold holdV at h0; split at h0 <;> omega
    exact again_yes a0 w hsz.1 hsz.2 (by unfold holdV; rw [if_neg (by omega)]; omega) hf
  · exact again_no a0 w hc0 3 rfl (unpV_no h0 hf)
end Go.Proofs.YtdohaocbhcniaaaDoor.PG
end
