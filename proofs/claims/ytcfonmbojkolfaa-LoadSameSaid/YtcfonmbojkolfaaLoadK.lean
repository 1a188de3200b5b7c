/- Package load: what is asked, one by one, by a range over a function. -/
import Derived.Test.YtcfonmbojkolfaaLoadJ
import Derived.Test.YtcfonmbojkolfaaRange
import Derived.Shelf.Abstract
import Derived.Shelf.RegionOpen
import Derived.OwnWalkIn
import Derived.TacticsInMore
import Derived.LoopNIn
import Derived.LoopIn
set_option linter.unusedVariables false
namespace Go.Proofs.Ytcfonmbojkolfaa.LoadA
open Go.RowKit Go.Shelf Go.Proofs.YtcfonmbojkolfaaW.PrintWords Go.Proofs.Ytcfonmbojkolfaa.Mem Go.Proofs.Ytcfonmbojkolfaa.Own Go.Proofs.Ytcfonmbojkolfaa.Rng
attribute [local go_sem] Oper.semAt_some

abbrev BoxL (B gl : Nat) : Asn := Pt B (.cells #[.pointer (some ⟨gl, 0, none⟩)] 69 (0, 0))
abbrev BoxI (B : Nat) (n : Int) : Asn := Pt B (.cells #[.int .i64 n] 3 (0, 0))
section
variable {w0 w : World} {R : List Asn}
set_option maxHeartbeats 1000000 in
theorem take_own (gl : Nat) (n : Int) (HO : Own.Own w0 w R) :
    Calls Try.prog 35 #[.pointer (some ⟨gl, 0, none⟩), .int .i64 n] w fun e w' => ∃ Bl Bn, e = .returned (.func (.func 54) #[] #[.pointer (some ⟨Bn, 0, none⟩), .pointer (some ⟨Bl, 0, none⟩)]) ∧ Own.Own w0 w' (BoxI Bn n :: BoxL Bl gl :: R) := by
  have HA := Aside0.mk ((HO.alloc (.cells #[.pointer (some ⟨gl, 0, none⟩)] 69)).alloc (.cells #[.int .i64 n] 3))
  clear HO
  go_enter Try.func35, Try.ntmps35
  go_wp2_with fail
  go_ret
  have h := HA.out
  rw [World.size_alloc] at h
  exact ⟨_, _, rfl, h⟩
end
/-- What a load needs. -/
structure LdOk (L : Ld) : Prop where
  y0 : 0 ≤ L.y
  y1 : L.y ≤ 256
  m0 : 0 ≤ L.made
  m1 : L.made < 1000
  s0 : 1 ≤ L.s
  s1 : L.s ≤ 10000
  a0 : 0 ≤ L.at_
  a1 : L.at_ < L.s
theorem after_ok {L : Ld} (h : LdOk L) (k : Nat) (hk : k ≤ 1000) : 0 ≤ (after L k).y ∧ (after L k).y ≤ 256 ∧ 0 ≤ (after L k).made ∧ (after L k).made < 1000000 ∧ 1 ≤ (after L k).s ∧ (after L k).s ≤ 10000 ∧ 0 ≤ (after L k).at_ ∧ (after L k).at_ ≤ 10000 := by
  obtain ⟨⟨_, _, h3, h4, _⟩, h8, h9, h10⟩ := after_inv L h.y0 h.s0 h.a0 h.a1 k
  have := h.y0; have := h.y1; have := h.m0; have := h.m1; have := h.s0; have := h.s1
  refine ⟨by omega, by omega, by omega, by omega, by omega, by omega, by omega, by omega⟩
section
variable {w0 w : World} {R : List Asn}
theorem loadk_own (gl gs : Nat) {L : Ld} (h : LdOk L) (k : Nat) (hk : k ≤ 1000) (HO : Own.Own w0 w (LdA gl gs (after L k) :: R)) :
    Calls Try.prog 32 #[.pointer (some ⟨gl, 0, none⟩)] w fun e w' => e = .returned (doP (nextOf (after L k)).1) ∧ Own.Own w0 w' (LdA gl gs (after L (k + 1)) :: R) := by
  obtain ⟨h1, h2, h3, h4, h5, h6, h7, h8⟩ := after_ok h k hk
  exact load_own gl gs _ HO h1 h2 h3 h4 h5 h6 h7 h8
end
/-- The blocks while a load is taken from; rest: what else there is, at each step. -/
abbrev Taken (Bl Bn gl gs : Nat) (n : Int) (L : Ld) (rest : Nat → List Asn) (i k : Nat) : List Asn := BoxI Bn n :: BoxL Bl gl :: LdA gl gs (after L i) :: rest k
theorem hold_perm {w : World} {b : Nat} {L R : List Asn} (hp : L.Perm R) : ∀ S, Hold w b L S → Hold w b R S := by
  induction hp with
  | nil => exact fun _ h => h
  | cons x _ ih => exact fun _ h => Hold.cons ih h
  | swap x y l => exact fun _ h => Hold.swap h
  | trans _ _ ih1 ih2 => exact fun S h => ih2 S (ih1 S h)
theorem own_swap {w0 w : World} (A B : List Asn) {L : List Asn} (h : Own.Own w0 w (A ++ (B ++ L))) : Own.Own w0 w (B ++ (A ++ L)) := by
  refine h.map (hold_perm ?_)
  rw [← List.append_assoc, ← List.append_assoc]
  exact List.Perm.append_right L List.perm_append_comm
set_option maxHeartbeats 2000000 in
set_option maxRecDepth 100000 in
theorem take_iter (w0 : World) (Bl Bn gl gs n : Nat) {L : Ld} (hL : LdOk L) (hn : n ≤ 1000) (rest : Nat → List Asn) :
    Iterates Try.prog w0 54 #[.pointer (some ⟨Bn, 0, none⟩), .pointer (some ⟨Bl, 0, none⟩)] (fun d : DoP => #[doP d]) (Taken Bl Bn gl gs n L rest 0 0)
      (fun (k : Nat) d K => k < n ∧ d = (nextOf (after L k)).1 ∧ K = Taken Bl Bn gl gs n L rest (k + 1) k) (fun k d K => K = Taken Bl Bn gl gs n L rest (k + 1) (k + 1)) (fun K => K = Taken Bl Bn gl gs n L rest n n) := by
  intro l D m o W Left hm HO hY
  have HO := Aside0.mk HO
  refine callsIn_of_wp Try.func54 rfl trivial ?_ rfl
  simp only [Try.ntmps54, List.size_toArray, List.length_cons, List.length_nil, Nat.reduceAdd, Nat.reduceSub, Array.replicate_succ, Array.replicate_zero, List.push_toArray, List.append_toArray, List.nil_append, List.cons_append]
  gi_wp2
  gi_loopw [4] (fun v4 wr => ∃ k : Nat, k ≤ n ∧ v4 = .int .i64 k ∧ Aside0 (Own.Own w0 wr (Dfr D :: Pt l o :: Taken Bl Bn gl gs n L rest k k))) (fun v4 _ => n - (intOf v4).toNat)
  case atStart => exact ⟨0, by omega, rfl, HO⟩
  case round =>
    clear HO
    obtain ⟨k, hk, rfl, HO⟩ := hrel
    have c1 := blk_cell HO.out.drop.drop.pt 0
    have c2 := blk_cell HO.out.drop.drop.drop.pt 0
    simp only [List.getElem?_toArray, List.getElem?_cons_zero] at c1 c2
    by_cases hlt : k < n
    · have dl : decide ((k : Int) < (n : Int)) = true := decide_eq_true (by omega)
      gi_wp2_with (fail)
      refine ⟨trivial, ?_⟩
      gi_at_call 32
      refine (callsIn_wide.2 (loadk_own gl gs hL k (by omega) (own_swap [_, _, _, _] [_] HO.out))).mono ?_
      rintro e W1 ⟨rfl, ho⟩
      have HO2 := Aside0.mk (own_swap [_] [_, _, _, _] ho)
      clear ho HO
      obtain ⟨fn, tmps, assign, body, hy, hR⟩ := hY k _ _ _ ⟨hlt, rfl, rfl⟩ HO2.out
      gi_wp2
      refine hR.mono ?_
      rintro e W2 (⟨rfl, L', rfl, hO⟩ | ⟨rfl, o', L', hl, hO⟩)
      · have HN := Aside0.mk hO
        clear hO HO2
        gi_wp2
        go_roundw
        case rel => exact ⟨k + 1, by omega, by go_num, HN⟩
        case measure => simp [intOf]; omega
      · have HN := Aside0.mk hO
        clear hO HO2
        gi_wp2
        refine bodyPost_ret (results_none rfl _ _ _) rfl ?_
        exact ⟨⟨_, rfl⟩, .inr ⟨o', L', hl, HN.out⟩⟩
    · obtain rfl : k = n := by omega
      have dl : decide ((k : Int) < (k : Int)) = false := decide_eq_false (by omega)
      gi_wp2
      go_end0
      exact ⟨⟨_, rfl⟩, .inl ⟨_, rfl, HO.out⟩⟩
end Go.Proofs.Ytcfonmbojkolfaa.LoadA
