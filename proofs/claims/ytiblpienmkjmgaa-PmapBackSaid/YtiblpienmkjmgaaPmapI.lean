/- Package pmap, by hand: rows of addresses; what is clipped; marks over them. -/
import Derived.Test.YtiblpienmkjmgaaProg
import Derived.Below
import Derived.Carry
import Derived.Deep.Draws
import Derived.Deep.AppendLies
import Derived.Maps.AppendAt
import Derived.OwnWalk
import Derived.Laws.BytesArg
import Derived.Laws.MakeOwn
import Derived.Laws.OwnMore
import Derived.Deep.OwnRows
import Derived.Tactics
import Derived.Lib.ConvBytes
import Derived.Laws.Slices
import Derived.WalkKit
import Derived.KernelRfl
import Derived.RowKit3
import Derived.Deep.LoopGhost
import Derived.Deep.QuietTactic
import Derived.BigQuiet
import Derived.WideLaws
import Derived.Deep.DeepCutAuto
import Derived.Deep.CutBlock
import Derived.Deep.RegionHeld3
import Derived.Deep.RegionWith
import Derived.Laws.Rows
import Derived.Lib.AppendStr
import Derived.ArgAppend
import Derived.Laws.IdiomCopy
import Derived.OrdersHeld
import Derived.Laws.BitsLemmas
import Derived.Outline
import Derived.RegionTactic
import Derived.Lib.Hide
import Derived.StillTailTactics
import Derived.Deep.RegionWith
import Derived.OpenShut
import Derived.Test.YtiblpienmkjmgaaWWords
import Derived.Test.YtiblpienmkjmgaaPmapH
import Derived.Test.YtiblpienmkjmgaaPMx0
set_option linter.unusedVariables false
namespace Go.Proofs.Ytiblpienmkjmgaa.Pmap
open Go.RowKit Go.Proofs.YtiblpienmkjmgaaW.PrintWords Go.Proofs.Ytiblpienmkjmgaa.Mem Go.Proofs.Ytiblpienmkjmgaa.Own Go.Proofs.Ytiblpienmkjmgaa.Maps Go.Proofs.Ytiblpienmkjmgaa.PM

/-- A row of the walk's own whose capacity is told as less than it is. -/
def CRow {α : Type} (d : Kd α) (e : Nat) (v : Value) (xs : List α) : Asn where
  P w b S := ∃ A c n, v = .slice A xs.length n ∧ xs.length ≤ n ∧ d.R e w b S (.slice A xs.length c) xs
  move := fun ⟨A, c, n, hv, hn, h⟩ hm => ⟨A, c, n, hv, hn, Kd.R_step h hm⟩
  cut := fun ⟨A, c, n, hv, hn, h⟩ => ⟨A, c, n, hv, hn, Kd.R_mono (Kd.R_bound h) (fun _ hk => ⟨hk.1, hk.2.2.1⟩)⟩
  mono := fun ⟨A, c, n, hv, hn, h⟩ hs => ⟨A, c, n, hv, hn, Kd.R_mono h hs⟩
  lower := fun ⟨A, c, n, hv, hn, h⟩ hb => ⟨A, c, n, hv, hn, Kd.R_lower h hb⟩
section
variable {α : Type} {d : Kd α} {e : Nat} {w0 w : World} {L : List Asn} {v : Value} {xs : List α}
theorem row_form (h : Own w0 w (Row d e v xs :: L)) : ∃ A c, v = .slice A xs.length c ∧ xs.length ≤ c ∧ Own w0 w (Row d e (.slice A xs.length c) xs :: L) := by
  obtain ⟨A, c, rfl, hc, _⟩ := h.reads
  exact ⟨A, c, rfl, hc, h⟩
theorem row_clip {A : Option Addr} {c : Nat} (h : Own w0 w (Row d e (.slice A xs.length c) xs :: L)) (n : Nat) (hn : xs.length ≤ n) : Own w0 w (CRow d e (.slice A xs.length n) xs :: L) :=
  h.imp (fun _ hs => ⟨A, c, n, rfl, hn, hs⟩)
theorem crow_of (h : Own w0 w (Row d e v xs :: L)) : Own w0 w (CRow d e v xs :: L) := by
  obtain ⟨A, c, rfl, hc, h⟩ := row_form h
  exact row_clip h c hc
theorem crow_form (h : Own w0 w (CRow d e v xs :: L)) : ∃ A c n, v = .slice A xs.length n ∧ xs.length ≤ n ∧ Own w0 w (Row d e (.slice A xs.length c) xs :: L) := by
  obtain ⟨b, S, ⟨S1, S2, ⟨A, c, n, hv, hn, h1⟩, h2⟩, hk⟩ := h
  exact ⟨A, c, n, hv, hn, b, S, ⟨S1, S2, h1, h2⟩, hk⟩
theorem crow_reads (h : Own w0 w (CRow d e v xs :: L)) : ∃ A n, v = .slice A xs.length n ∧ xs.length ≤ n ∧ d.C w A xs.length xs := by
  obtain ⟨A, c, n, hv, hn, h⟩ := crow_form h
  obtain ⟨A', c', hv', _, hC⟩ := h.reads
  injection hv' with h1 h2 h3
  subst h1
  exact ⟨A, n, hv, hn, hC⟩
end
section
variable {w0 w : World} {L : List Asn}
abbrev Ads (v : Value) (xs : List S24) : Asn := Row k24 24 v xs
abbrev CAds (v : Value) (xs : List S24) : Asn := CRow k24 24 v xs
theorem ads_cell {g n c : Nat} {xs : List S24} (h : Own w0 w (Ads (.slice (some ⟨g, 0, none⟩) n c) xs :: L)) (i : Nat) (hi : i < n) :
    (w.cell? ⟨g, i * 3, none⟩ = some (.int .i64 (xs.getD i z24).f0) ∧ w.cell? ⟨g, i * 3 + 1, none⟩ = some (.int .i64 (xs.getD i z24).f1) ∧ w.cell? ⟨g, i * 3 + 2, none⟩ = some (.int .i64 (xs.getD i z24).f2)) ∧
    w.frozen? ⟨g, i * 3, none⟩ = false ∧ w.frozen? ⟨g, i * 3 + 1, none⟩ = false ∧ w.frozen? ⟨g, i * 3 + 2, none⟩ = false := by
  obtain ⟨S, hs, _, _⟩ := h.head
  obtain ⟨cs, hcl, hM, hcc, hfr⟩ := Kd.R_elem hs z24 (i : Int) (by omega) (by omega)
  obtain rfl := k24_openM hM
  rw [Int.toNat_natCast] at hcc hfr
  exact ⟨⟨hcc 0 _ rfl, hcc 1 _ rfl, hcc 2 _ rfl⟩, hfr 0, hfr 1, hfr 2⟩
theorem ads_put {g n c : Nat} {xs : List S24} (h : Own w0 w (Ads (.slice (some ⟨g, 0, none⟩) n c) xs :: L)) (i : Nat) (hi : i < n) (x : S24) :
    Own w0 (((w.setCell ⟨g, i * 3, none⟩ (.int .i64 x.f0)).setCell ⟨g, i * 3 + 1, none⟩ (.int .i64 x.f1)).setCell ⟨g, i * 3 + 2, none⟩ (.int .i64 x.f2)) (Ads (.slice (some ⟨g, 0, none⟩) n c) (xs.set i x) :: L) := by
  obtain ⟨S, hs, hb, f⟩ := h.head
  obtain ⟨cs, hcl, hM, hcc, hfr⟩ := Kd.R_elem hs z24 (i : Int) (by omega) (by omega)
  have hp := (Kd.R_seg hs (i : Int) (by omega) (by omega) (seg := [.int .i64 x.f0, .int .i64 x.f1, .int .i64 x.f2]) (j := 0) hcl hcc (show 3 ≤ 3 from by decide) (x' := x)
    (by have e : (cs.take 0 ++ [Value.int .i64 x.f0, .int .i64 x.f1, .int .i64 x.f2] ++ cs.drop (0 + [Value.int .i64 x.f0, .int .i64 x.f1, .int .i64 x.f2].length)) = [Value.int .i64 x.f0, .int .i64 x.f1, .int .i64 x.f2] := by
          rw [List.drop_of_length_le (by rw [hcl]; exact Nat.le_refl 3)]; simp
        rw [e]; exact k24_mkM _ _ (fun k => S k ∧ k ≠ g) x) (fun k hk => hk)).1
  rw [Int.toNat_natCast] at hp
  have hg : w0.heap.size ≤ g ∧ S g := ⟨(hb g (hs.1 g rfl)).1, hs.1 g rfl⟩
  exact f _ [_] ((((Mod.refl _ _ _).setCell (p := ⟨g, i * 3, none⟩) hg.1 (.inl hg.2) _).setCell (p := ⟨g, i * 3 + 1, none⟩) hg.1 (.inl hg.2) _).setCell (p := ⟨g, i * 3 + 2, none⟩) hg.1 (.inl hg.2) _) (Hold.one (Kd.R_mono hp (fun k hk => .inl hk)))
set_option maxHeartbeats 4000000 in
/-- A row marked all over: of no use any more. -/
theorem spoilAds_own {v : Value} (xs : List S24) (hx : xs.length ≤ 1000000) (HO : Own w0 w (CAds v xs :: L)) :
    Calls Try.prog 30 #[v] w fun e w' => e = .returned (.tuple #[]) ∧ Own w0 w' L := by
  obtain ⟨A, c, n, rfl, hn, HO⟩ := crow_form HO
  have HO := Aside0.mk HO
  have hn' : (xs.length : Int) ≤ n := by omega
  go_enter Try.func30, Try.ntmps30
  go_wp2_with fail
  go_loopw [5] (fun v5 wr => ∃ (i : Nat) (ys : List S24), i ≤ xs.length ∧ v5 = .int .i64 i ∧ ys.length = xs.length ∧ Aside0 (Own w0 wr (Ads (.slice A xs.length c) ys :: L))) (fun v5 _ => xs.length - (intOf v5).toNat)
  case atStart => exact ⟨0, xs, Nat.zero_le _, rfl, rfl, HO⟩
  case round =>
    clear HO
    obtain ⟨i, ys, hi, rfl, hl, HO⟩ := hrel
    by_cases hlt : i < xs.length
    · have dl : decide ((i : Int) < (xs.length : Nat)) = true := decide_eq_true (by omega)
      obtain ⟨g, rfl⟩ : ∃ g, A = some ⟨g, 0, none⟩ := by
        obtain ⟨S, hs, _, _⟩ := HO.out.head
        obtain ⟨g, cap, hv, _⟩ := Kd.R_form hs (by omega)
        injection hv with h1
        exact ⟨g, h1⟩
      have HL := Lib.hid hl
      obtain ⟨⟨z0, z1, z2⟩, f0, f1, f2⟩ := ads_cell HO.out i hlt
      have HN := Aside0.mk (ads_put HO.out i hlt ⟨99, 99, 99⟩)
      clear hl HO
      go_wp2_with fail
      go_roundw
      case rel => exact ⟨i + 1, _, by omega, by go_num, by rw [List.length_set]; exact HL.out, HN⟩
      case measure => simp [intOf]; omega
    · obtain rfl : i = xs.length := by omega
      clear hlt
      go_wp2_with fail
      go_end0
      exact ⟨rfl, HO.out.drop⟩
set_option maxHeartbeats 4000000 in
theorem clip_own {v : Value} (xs : List S24) (hx : xs.length ≤ 1000000) (HO : Own w0 w (Ads v xs :: L)) :
    Calls Try.prog 59 #[v] w fun e w' => ∃ v', e = .returned v' ∧ Own w0 w' (CAds v' xs :: L) := by
  obtain ⟨A, c, rfl, hc, HO⟩ := row_form HO
  have HO := Aside0.mk HO
  have hc' : (xs.length : Int) ≤ c := by omega
  go_enter Try.func59, Try.ntmps59
  go_wp2_with fail
  go_ret
  exact ⟨_, rfl, row_clip HO.out _ (Nat.le_refl _)⟩
end
end Go.Proofs.Ytiblpienmkjmgaa.Pmap
