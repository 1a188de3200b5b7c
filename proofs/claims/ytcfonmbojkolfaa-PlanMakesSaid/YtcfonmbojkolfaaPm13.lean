/- The law's proof: words, contracts of the functions that it reaches, plain lemmas. -/
import Derived.Test.YtcfonmbojkolfaaProg
import Derived.Below
import Derived.Carry
import Derived.Deep.Draws
import Derived.Deep.AppendLies
import Derived.Maps.AppendAt
import Derived.OwnWalk
import Derived.Laws.BytesArg
import Derived.Laws.MakeOwn
import Derived.Laws.OwnMore
import Derived.Deep.OwnRows
import Derived.Tactics
import Derived.Lib.ConvBytes
import Derived.Laws.Slices
import Derived.WalkKit
import Derived.KernelRfl
import Derived.RowKit3
import Derived.Deep.LoopGhost
import Derived.Deep.QuietTactic
import Derived.BigQuiet
import Derived.WideLaws
import Derived.Deep.DeepCutAuto
import Derived.Deep.CutBlock
import Derived.Deep.RegionHeld3
import Derived.Deep.RegionWith
import Derived.Laws.Rows
import Derived.Lib.AppendStr
import Derived.ArgAppend
import Derived.Laws.IdiomCopy
import Derived.OrdersHeld
import Derived.Laws.BitsLemmas
import Derived.Outline
import Derived.RegionTactic
import Derived.Lib.Hide
import Derived.StillTailTactics
import Derived.OpenShut
import Derived.Test.YtcfonmbojkolfaaPm3
import Derived.Test.YtcfonmbojkolfaaPm12
import Derived.Test.YtcfonmbojkolfaaPm8
import Derived.Lib.BufferMore
import Derived.Lib.LazyBuf
import Derived.Test.YtcfonmbojkolfaaPm11
import Derived.Shelf.Abstract
import Derived.Shelf.RegionOpen
import Derived.OwnWalkIn
import Derived.TacticsInMore
import Derived.LoopNIn
import Derived.LoopIn
section
/- Package plan, by hand: the iterator of Moves. -/
set_option linter.unusedVariables false
set_option linter.unusedSimpArgs false
namespace Go.Proofs.Ytcfonmbojkolfaa.Plan
open Go.RowKit Go.Proofs.YtcfonmbojkolfaaW.PrintWords Go.Proofs.Ytcfonmbojkolfaa.Mem Go.Proofs.Ytcfonmbojkolfaa.Own Go.Proofs.Ytcfonmbojkolfaa.Maps Go.Proofs.Ytcfonmbojkolfaa.PN Go.Proofs.Ytcfonmbojkolfaa.Rng

abbrev MvL (b g : Nat) (A : Option Addr) (c r : Nat) (S : PlS) (rest : Nat → List Asn) (k : Nat) : List Asn := BoxP b g :: PlO g A c r S (rest k)
theorem two_ends {e : Ending} {A B : Prop} (h : (e = .returned (.bool true) ∧ A) ∨ (e = .returned (.bool false) ∧ B)) : ∃ bb : Bool, e = .returned (.bool bb) ∧ (bb = true ∧ A ∨ bb = false ∧ B) := by
  rcases h with ⟨h1, h2⟩ | ⟨h1, h2⟩
  · exact ⟨true, h1, .inl ⟨rfl, h2⟩⟩
  · exact ⟨false, h1, .inr ⟨rfl, h2⟩⟩
set_option maxHeartbeats 2000000 in
set_option maxRecDepth 100000 in
theorem moves_iter (w0 : World) (b g c r : Nat) (A : Option Addr) (S : PlS) (hn : S.src.length ≤ 1000) (rest : Nat → List Asn) :
    Iterates Try.prog w0 39 #[.pointer (some ⟨b, 0, none⟩)] (fun d : Tri × Tri => #[tri d.1, tri d.2]) (MvL b g A c r S rest 0)
      (fun (k : Nat) d K => k < S.src.length ∧ d = (tOf (rd_T27 S.src k), plcAt S.tg k) ∧ K = MvL b g A c r S rest k) (fun k d K => K = MvL b g A c r S rest (k + 1)) (fun K => K = MvL b g A c r S rest S.src.length) := by
  intro l D m o W Left hm HO hY
  have HO := Aside0.mk HO
  obtain ⟨_, _, x2, _, _, _, _, _⟩ := cells4 HO.out.drop.drop.drop.pt
  have y0 := blk_cell HO.out.drop.drop.pt 0
  refine callsIn_of_wp Try.func39 rfl trivial ?_ rfl
  simp only [Try.ntmps39, List.size_toArray, List.length_cons, List.length_nil, Nat.reduceAdd, Nat.reduceSub, Array.replicate_succ, Array.replicate_zero, List.push_toArray, List.append_toArray, List.nil_append, List.cons_append]
  gi_wp2
  gi_loopw [10] (fun v10 wr => ∃ k : Nat, k ≤ S.src.length ∧ v10 = .int .i64 k ∧ Aside0 (Own.Own w0 wr (Dfr D :: Pt l o :: MvL b g A c r S rest k))) (fun v10 _ => S.src.length - (intOf v10).toNat)
  case atStart => exact ⟨0, by omega, rfl, HO⟩
  case round =>
    clear HO x2 y0
    obtain ⟨k, hk, rfl, HO⟩ := hrel
    by_cases hlt : k < S.src.length
    · have dl : decide ((k : Int) < (S.src.length : Int)) = true := decide_eq_true (by omega)
      obtain ⟨A', c', e1, _, hC⟩ := HO.out.drop.drop.drop.drop.drop.reads
      injection e1 with e1 e2 e3
      subst e1 e3
      obtain ⟨ad, rfl, q0, q1, q2⟩ := at_T27 hC (k : Int) (by omega) (by omega)
      rw [Int.toNat_natCast] at q0 q1 q2
      have HA := Aside0.mk (HO.out.alloc (.cells #[.int .i64 (rd_T27 S.src k).f0, .int .i64 (rd_T27 S.src k).f1, .int .i64 (rd_T27 S.src k).f2] 27))
      have y0 := blk_cell HO.out.drop.drop.pt 0
      simp only [List.getElem?_toArray, List.getElem?_cons_zero] at y0
      have hlt2 := blk_lt HO.out.drop.drop.pt
      gi_wp2_with (fail)
      have hmx : Try.prog.follows .mixedOrders = true := by kernel_rfl
      have hp := HA.out.pt
      have z0 := blk_cell hp 0
      have z1 := blk_cell hp 1
      have z2 := blk_cell hp 2
      clear hp q0 q1 q2 hC
      gi_region_with_o (first | (refine ⟨trivial, ?_⟩; gi_at_call 40; refine (callsIn_wide.2 (at_own (k : Int) (by omega) (by omega) (own_swap [_, _, _, _] [_, _, _] HA.out.drew))).mono ?_; rintro e W1 ⟨rfl, ho⟩; have HB := Aside0.mk (own_swap [_, _, _] [_, _, _, _] ho); have j0 := blk_cell HB.out.pt 0; have j1 := blk_cell HB.out.pt 1; have j2 := blk_cell HB.out.pt 2; simp only [List.getElem?_toArray, List.getElem?_cons_zero, List.getElem?_cons_succ] at j0 j1 j2; obtain ⟨fn, tmps, assign, body, hy, hR⟩ := hY k (tOf (rd_T27 S.src k), plcAt S.tg k) _ _ ⟨hlt, rfl, rfl⟩ HB.out.drop) | (refine hR.mono ?_; rintro e W2 h2; obtain ⟨bb, rfl, hbb⟩ := two_ends h2; have HBB := Aside0.mk hbb; clear h2 hbb hR hy HB))
      all_goals
        clear HA HO y0 hlt2 z0 z1 z2
        obtain ⟨⟨rfl, L', rfl, hO⟩ | ⟨rfl, o', L', hl, hO⟩⟩ := HBB
        · have HN := Aside0.mk hO
          clear hO
          gi_wp2
          go_roundw
          case rel => exact ⟨k + 1, by omega, by go_num, HN⟩
          case measure => simp [intOf]; omega
        · have HN := Aside0.mk hO
          clear hO
          gi_wp2
          refine bodyPost_ret (results_none rfl _ _ _) rfl ?_
          exact ⟨⟨_, rfl⟩, .inr ⟨o', L', hl, HN.out⟩⟩
    · obtain rfl : k = S.src.length := by omega
      have dl : decide (((S.src.length : Nat) : Int) < (S.src.length : Int)) = false := decide_eq_false (by omega)
      gi_wp2
      go_end0
      exact ⟨⟨_, rfl⟩, .inl ⟨_, rfl, HO.out⟩⟩
end Go.Proofs.Ytcfonmbojkolfaa.Plan
end
