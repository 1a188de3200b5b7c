/- Contracts of package load's methods, by hand: Next. -/
import Derived.Test.YtcfonmbojkolfaaProg
import Derived.Below
import Derived.Deep.Draws
import Derived.Deep.AppendLies
import Derived.Maps.AppendAt
import Derived.OwnWalk
import Derived.Laws.BytesArg
import Derived.Laws.MakeOwn
import Derived.Laws.OwnMore
import Derived.Deep.OwnRows
import Derived.Tactics
import Derived.Lib.ConvBytes
import Derived.Laws.Slices
import Derived.WalkKit
import Derived.KernelRfl
import Derived.RowKit3
import Derived.Deep.LoopGhost
import Derived.Deep.QuietTactic
import Derived.BigQuiet
import Derived.WideLaws
import Derived.Deep.DeepCutAuto
import Derived.Deep.CutBlock
import Derived.Deep.RegionHeld3
import Derived.Deep.RegionWith
import Derived.Laws.Rows
import Derived.Lib.AppendStr
import Derived.ArgAppend
import Derived.Laws.IdiomCopy
import Derived.OrdersHeld
import Derived.Laws.BitsLemmas
import Derived.RowKit
import Derived.Outline
import Derived.Laws.Closers25b
import Derived.Lib.Hide
import Derived.Test.YtcfonmbojkolfaaWWords
import Derived.Test.YtcfonmbojkolfaaWKept
import Derived.Test.YtcfonmbojkolfaaMem
import Derived.Test.YtcfonmbojkolfaaLoadC

set_option linter.unusedVariables false
namespace Go.Proofs.Ytcfonmbojkolfaa.LoadA
open Go.RowKit Go.Proofs.YtcfonmbojkolfaaW.PrintWords Go.Proofs.Ytcfonmbojkolfaa.Mem

set_option maxHeartbeats 2000000 in
theorem next_h (gl gs B : Nat) (L : Ld) (y : Nat) (ey : L.y = y) (q r x1 x2 : Int) (w : World) (h : LoadAt w gl gs L) (hne : gl ≠ gs) (hBl : B ≤ gl) (hBs : B ≤ gs) (hy : y ≤ 256) (hm : 0 ≤ L.made) (hm2 : L.made < 1000000) (hs : 1 ≤ L.s) (hs2 : L.s ≤ 10000) (ha : 0 ≤ L.at_) (ha2 : L.at_ ≤ 10000)
    (e1 : belowNum L.x 10 = (q, x1)) (e2 : belowNum x1 (1) = (r, x2)) (hq : q < 8) (hd : L.s / 5 < 1) (k1 : (L.kind == 1) = false) (k2 : (L.kind == 2) = true) :
    Calls Try.prog 32 #[.pointer (some ⟨gl, 0, none⟩)] w fun e w' => e = .returned (doV 2 r 0 (strOfNums (dataNums (L.made + 1) y))) ∧ LoadAt w' gl gs { L with made := L.made + 1, x := x2 } ∧ Mod B (fun k => k = gl ∨ k = gs) w w' := by
  obtain ⟨hb, hsrc⟩ := h
  have hgl := blk_lt hb
  have hgs := blk_lt hsrc
  have hn0 : ¬ w.heap.size = gs := by omega
  have hn1 : ¬ gl = w.heap.size := by omega
  have hb' := hb
  unfold BodyAt at hb
  have c3 : w.cell? ⟨gl, 3, none⟩ = some (.int .i64 L.s) := blk_cell hb 3
  have c6 : w.cell? ⟨gl, 6, none⟩ = some (.int .i64 L.kind) := blk_cell hb 6
  have c7 : w.cell? ⟨gl, 7, none⟩ = some (.pointer (some ⟨gs, 0, none⟩)) := blk_cell hb 7
  have c8 : w.cell? ⟨gl, 8, none⟩ = some (.int .i64 L.at_) := blk_cell hb 8
  have c9 : w.cell? ⟨gl, 9, none⟩ = some (.int .i64 L.made) := blk_cell hb 9
  have fz : ∀ o, w.frozen? ⟨gl, o, none⟩ = false := fun o => blk_frozen hb o
  have H1 : BodyAt ((w.setCell ⟨gl, 9, none⟩ (.int .i64 (L.made + 1))).alloc (.cells #[.int .i64 0, .int .i64 0, .int .i64 0, .string ⟨#[]⟩] 73)) gl gs { L with made := L.made + 1 } := by
    have e := blk_set hb 9 (.int .i64 (L.made + 1))
    simp at e
    exact blk_alloc e (.cells #[.int .i64 0, .int .i64 0, .int .i64 0, .string ⟨#[]⟩] 73)
  have HS1 : SrcAt ((w.setCell ⟨gl, 9, none⟩ (.int .i64 (L.made + 1))).alloc (.cells #[.int .i64 0, .int .i64 0, .int .i64 0, .string ⟨#[]⟩] 73)) gs L.x := blk_alloc (set_far hsrc (by omega)) _
  have HN1 : ((w.setCell ⟨gl, 9, none⟩ (.int .i64 (L.made + 1))).alloc (.cells #[.int .i64 0, .int .i64 0, .int .i64 0, .string ⟨#[]⟩] 73)).heap[w.heap.size]? = some (.cells #[.int .i64 0, .int .i64 0, .int .i64 0, .string ⟨#[]⟩] 73) := by simpa using blk_new (w.setCell ⟨gl, 9, none⟩ (.int .i64 (L.made + 1))) _
  have HM1 : Mod B (fun k => k = gl ∨ k = gs) w ((w.setCell ⟨gl, 9, none⟩ (.int .i64 (L.made + 1))).alloc (.cells #[.int .i64 0, .int .i64 0, .int .i64 0, .string ⟨#[]⟩] 73)) := ((Mod.refl B (fun k => k = gl ∨ k = gs) w).setCell hBl (.inl (.inl rfl)) _).alloc (by omega) _
  have A1 := Aside0.mk H1
  have AS1 := Aside0.mk HS1
  have AN1 := Aside0.mk HN1
  have AM1 := Aside0.mk HM1
  have HB' := Aside0.mk hb'
  clear hb hb' H1 HS1 HN1 HM1
  have EY := Lib.hid ey
  clear ey
  have E1 := Lib.hid e1
  clear e1
  have E2 := Lib.hid e2
  clear e2
  have tok1 : True := trivial
  go_enter Try.func32, Try.ntmps32
  go_wp2_with (first | (go_at_call 26; have _t := tok1; refine (sbelow_any gs B _ _ _ _ _ E1.out (by exact AS1.out) hBs (by omega) (by omega)).mono ?_; rintro e w' ⟨rfl, hsrc1, hmod⟩; have kb := hmod.blk A1.out hne; have d3 : w'.cell? ⟨gl, 3, none⟩ = some (.int .i64 L.s) := blk_cell kb 3; have d7 : w'.cell? ⟨gl, 7, none⟩ = some (.pointer (some ⟨gs, 0, none⟩)) := blk_cell kb 7; clear kb; have HM := Aside0.mk hmod; clear hmod tok1 _t) | (go_at_call 26; refine (sbelow_any gs B _ _ _ _ _ E2.out (by exact hsrc1) hBs (by omega) (by omega)).mono ?_; rintro e w2 ⟨rfl, hsrc2, hmod2⟩; have HM2 := Aside0.mk hmod2; clear hmod2) | (go_at_call 52; refine (write_any gl gs { L with made := L.made + 1 } y EY.out _ _ (by exact HM2.out.blk (HM.out.blk A1.out hne) hne) hy (by show 0 ≤ L.made + 1; omega) (by show L.made + 1 ≤ 1000000; omega)).mono ?_; rintro e w3 ⟨rfl, hb3⟩; have k3 := blk_below (by exact HM2.out.blk (HM.out.blk AN1.out hn0) hn0) hb3; (try clear u0 u1 u2 u3 f0 f1 f2 f3); obtain ⟨u0, u1, u2, u3, f0, f1, f2, f3⟩ := cells4 k3; have z3 := blk_lt k3; clear k3; have HB3 := Aside0.mk hb3; clear hb3))
  all_goals
    refine bodyPost_ret (v := doV 2 r 0 (strOfNums (dataNums (L.made + 1) y))) (by simp [results, Try.results32, go_sem, u0, u1, u2, u3]) rfl ⟨rfl, ⟨?_, ?_⟩, ?_⟩
    · exact set_far4 (W := w3) (by exact blk_below (by exact HM2.out.blk (HM.out.blk A1.out hne) hne) HB3.out) (by omega)
    · exact set_far4 (W := w3) (by exact blk_below (by exact hsrc2) HB3.out) (by omega)
    · exact Mod.far4 (((AM1.out.trans HM.out (fun k hk => .inl (.inr hk))).trans HM2.out (fun k hk => .inl (.inr hk))).below' HB3.out (by omega)) (by omega) (Nat.le_refl _)

set_option maxHeartbeats 2000000 in
theorem next_i (gl gs B : Nat) (L : Ld) (y : Nat) (ey : L.y = y) (q r x1 x2 : Int) (w : World) (h : LoadAt w gl gs L) (hne : gl ≠ gs) (hBl : B ≤ gl) (hBs : B ≤ gs) (hy : y ≤ 256) (hm : 0 ≤ L.made) (hm2 : L.made < 1000000) (hs : 1 ≤ L.s) (hs2 : L.s ≤ 10000) (ha : 0 ≤ L.at_) (ha2 : L.at_ ≤ 10000)
    (e1 : belowNum L.x 10 = (q, x1)) (e2 : belowNum x1 (L.s / 5) = (r, x2)) (hq : q < 8) (hd : 1 ≤ L.s / 5) (k1 : (L.kind == 1) = false) (k2 : (L.kind == 2) = true) :
    Calls Try.prog 32 #[.pointer (some ⟨gl, 0, none⟩)] w fun e w' => e = .returned (doV 2 r 0 (strOfNums (dataNums (L.made + 1) y))) ∧ LoadAt w' gl gs { L with made := L.made + 1, x := x2 } ∧ Mod B (fun k => k = gl ∨ k = gs) w w' := by
  obtain ⟨hb, hsrc⟩ := h
  have hgl := blk_lt hb
  have hgs := blk_lt hsrc
  have hn0 : ¬ w.heap.size = gs := by omega
  have hn1 : ¬ gl = w.heap.size := by omega
  have hb' := hb
  unfold BodyAt at hb
  have c3 : w.cell? ⟨gl, 3, none⟩ = some (.int .i64 L.s) := blk_cell hb 3
  have c6 : w.cell? ⟨gl, 6, none⟩ = some (.int .i64 L.kind) := blk_cell hb 6
  have c7 : w.cell? ⟨gl, 7, none⟩ = some (.pointer (some ⟨gs, 0, none⟩)) := blk_cell hb 7
  have c8 : w.cell? ⟨gl, 8, none⟩ = some (.int .i64 L.at_) := blk_cell hb 8
  have c9 : w.cell? ⟨gl, 9, none⟩ = some (.int .i64 L.made) := blk_cell hb 9
  have fz : ∀ o, w.frozen? ⟨gl, o, none⟩ = false := fun o => blk_frozen hb o
  have H1 : BodyAt ((w.setCell ⟨gl, 9, none⟩ (.int .i64 (L.made + 1))).alloc (.cells #[.int .i64 0, .int .i64 0, .int .i64 0, .string ⟨#[]⟩] 73)) gl gs { L with made := L.made + 1 } := by
    have e := blk_set hb 9 (.int .i64 (L.made + 1))
    simp at e
    exact blk_alloc e (.cells #[.int .i64 0, .int .i64 0, .int .i64 0, .string ⟨#[]⟩] 73)
  have HS1 : SrcAt ((w.setCell ⟨gl, 9, none⟩ (.int .i64 (L.made + 1))).alloc (.cells #[.int .i64 0, .int .i64 0, .int .i64 0, .string ⟨#[]⟩] 73)) gs L.x := blk_alloc (set_far hsrc (by omega)) _
  have HN1 : ((w.setCell ⟨gl, 9, none⟩ (.int .i64 (L.made + 1))).alloc (.cells #[.int .i64 0, .int .i64 0, .int .i64 0, .string ⟨#[]⟩] 73)).heap[w.heap.size]? = some (.cells #[.int .i64 0, .int .i64 0, .int .i64 0, .string ⟨#[]⟩] 73) := by simpa using blk_new (w.setCell ⟨gl, 9, none⟩ (.int .i64 (L.made + 1))) _
  have HM1 : Mod B (fun k => k = gl ∨ k = gs) w ((w.setCell ⟨gl, 9, none⟩ (.int .i64 (L.made + 1))).alloc (.cells #[.int .i64 0, .int .i64 0, .int .i64 0, .string ⟨#[]⟩] 73)) := ((Mod.refl B (fun k => k = gl ∨ k = gs) w).setCell hBl (.inl (.inl rfl)) _).alloc (by omega) _
  have A1 := Aside0.mk H1
  have AS1 := Aside0.mk HS1
  have AN1 := Aside0.mk HN1
  have AM1 := Aside0.mk HM1
  have HB' := Aside0.mk hb'
  clear hb hb' H1 HS1 HN1 HM1
  have EY := Lib.hid ey
  clear ey
  have E1 := Lib.hid e1
  clear e1
  have E2 := Lib.hid e2
  clear e2
  have tok1 : True := trivial
  go_enter Try.func32, Try.ntmps32
  go_wp2_with (first | (go_at_call 26; have _t := tok1; refine (sbelow_any gs B _ _ _ _ _ E1.out (by exact AS1.out) hBs (by omega) (by omega)).mono ?_; rintro e w' ⟨rfl, hsrc1, hmod⟩; have kb := hmod.blk A1.out hne; have d3 : w'.cell? ⟨gl, 3, none⟩ = some (.int .i64 L.s) := blk_cell kb 3; have d7 : w'.cell? ⟨gl, 7, none⟩ = some (.pointer (some ⟨gs, 0, none⟩)) := blk_cell kb 7; clear kb; have HM := Aside0.mk hmod; clear hmod tok1 _t) | (go_at_call 26; refine (sbelow_any gs B _ _ _ _ _ E2.out (by exact hsrc1) hBs (by omega) (by omega)).mono ?_; rintro e w2 ⟨rfl, hsrc2, hmod2⟩; have HM2 := Aside0.mk hmod2; clear hmod2) | (go_at_call 52; refine (write_any gl gs { L with made := L.made + 1 } y EY.out _ _ (by exact HM2.out.blk (HM.out.blk A1.out hne) hne) hy (by show 0 ≤ L.made + 1; omega) (by show L.made + 1 ≤ 1000000; omega)).mono ?_; rintro e w3 ⟨rfl, hb3⟩; have k3 := blk_below (by exact HM2.out.blk (HM.out.blk AN1.out hn0) hn0) hb3; (try clear u0 u1 u2 u3 f0 f1 f2 f3); obtain ⟨u0, u1, u2, u3, f0, f1, f2, f3⟩ := cells4 k3; have z3 := blk_lt k3; clear k3; have HB3 := Aside0.mk hb3; clear hb3))
  all_goals
    refine bodyPost_ret (v := doV 2 r 0 (strOfNums (dataNums (L.made + 1) y))) (by simp [results, Try.results32, go_sem, u0, u1, u2, u3]) rfl ⟨rfl, ⟨?_, ?_⟩, ?_⟩
    · exact set_far4 (W := w3) (by exact blk_below (by exact HM2.out.blk (HM.out.blk A1.out hne) hne) HB3.out) (by omega)
    · exact set_far4 (W := w3) (by exact blk_below (by exact hsrc2) HB3.out) (by omega)
    · exact Mod.far4 (((AM1.out.trans HM.out (fun k hk => .inl (.inr hk))).trans HM2.out (fun k hk => .inl (.inr hk))).below' HB3.out (by omega)) (by omega) (Nat.le_refl _)

set_option maxHeartbeats 2000000 in
theorem next_k (gl gs B : Nat) (L : Ld) (y : Nat) (ey : L.y = y) (q r x1 x2 : Int) (w : World) (h : LoadAt w gl gs L) (hne : gl ≠ gs) (hBl : B ≤ gl) (hBs : B ≤ gs) (hy : y ≤ 256) (hm : 0 ≤ L.made) (hm2 : L.made < 1000000) (hs : 1 ≤ L.s) (hs2 : L.s ≤ 10000) (ha : 0 ≤ L.at_) (ha2 : L.at_ ≤ 10000)
    (e1 : belowNum L.x 10 = (q, x1)) (e2 : belowNum x1 (L.s) = (r, x2)) (hq : ¬ q < 8) (k1 : (L.kind == 1) = false) (k2 : (L.kind == 2) = true) :
    Calls Try.prog 32 #[.pointer (some ⟨gl, 0, none⟩)] w fun e w' => e = .returned (doV 2 r 0 (strOfNums (dataNums (L.made + 1) y))) ∧ LoadAt w' gl gs { L with made := L.made + 1, x := x2 } ∧ Mod B (fun k => k = gl ∨ k = gs) w w' := by
  obtain ⟨hb, hsrc⟩ := h
  have hgl := blk_lt hb
  have hgs := blk_lt hsrc
  have hn0 : ¬ w.heap.size = gs := by omega
  have hn1 : ¬ gl = w.heap.size := by omega
  have hb' := hb
  unfold BodyAt at hb
  have c3 : w.cell? ⟨gl, 3, none⟩ = some (.int .i64 L.s) := blk_cell hb 3
  have c6 : w.cell? ⟨gl, 6, none⟩ = some (.int .i64 L.kind) := blk_cell hb 6
  have c7 : w.cell? ⟨gl, 7, none⟩ = some (.pointer (some ⟨gs, 0, none⟩)) := blk_cell hb 7
  have c8 : w.cell? ⟨gl, 8, none⟩ = some (.int .i64 L.at_) := blk_cell hb 8
  have c9 : w.cell? ⟨gl, 9, none⟩ = some (.int .i64 L.made) := blk_cell hb 9
  have fz : ∀ o, w.frozen? ⟨gl, o, none⟩ = false := fun o => blk_frozen hb o
  have H1 : BodyAt ((w.setCell ⟨gl, 9, none⟩ (.int .i64 (L.made + 1))).alloc (.cells #[.int .i64 0, .int .i64 0, .int .i64 0, .string ⟨#[]⟩] 73)) gl gs { L with made := L.made + 1 } := by
    have e := blk_set hb 9 (.int .i64 (L.made + 1))
    simp at e
    exact blk_alloc e (.cells #[.int .i64 0, .int .i64 0, .int .i64 0, .string ⟨#[]⟩] 73)
  have HS1 : SrcAt ((w.setCell ⟨gl, 9, none⟩ (.int .i64 (L.made + 1))).alloc (.cells #[.int .i64 0, .int .i64 0, .int .i64 0, .string ⟨#[]⟩] 73)) gs L.x := blk_alloc (set_far hsrc (by omega)) _
  have HN1 : ((w.setCell ⟨gl, 9, none⟩ (.int .i64 (L.made + 1))).alloc (.cells #[.int .i64 0, .int .i64 0, .int .i64 0, .string ⟨#[]⟩] 73)).heap[w.heap.size]? = some (.cells #[.int .i64 0, .int .i64 0, .int .i64 0, .string ⟨#[]⟩] 73) := by simpa using blk_new (w.setCell ⟨gl, 9, none⟩ (.int .i64 (L.made + 1))) _
  have HM1 : Mod B (fun k => k = gl ∨ k = gs) w ((w.setCell ⟨gl, 9, none⟩ (.int .i64 (L.made + 1))).alloc (.cells #[.int .i64 0, .int .i64 0, .int .i64 0, .string ⟨#[]⟩] 73)) := ((Mod.refl B (fun k => k = gl ∨ k = gs) w).setCell hBl (.inl (.inl rfl)) _).alloc (by omega) _
  have A1 := Aside0.mk H1
  have AS1 := Aside0.mk HS1
  have AN1 := Aside0.mk HN1
  have AM1 := Aside0.mk HM1
  have HB' := Aside0.mk hb'
  clear hb hb' H1 HS1 HN1 HM1
  have EY := Lib.hid ey
  clear ey
  have E1 := Lib.hid e1
  clear e1
  have E2 := Lib.hid e2
  clear e2
  have tok1 : True := trivial
  go_enter Try.func32, Try.ntmps32
  go_wp2_with (first | (go_at_call 26; have _t := tok1; refine (sbelow_any gs B _ _ _ _ _ E1.out (by exact AS1.out) hBs (by omega) (by omega)).mono ?_; rintro e w' ⟨rfl, hsrc1, hmod⟩; have kb := hmod.blk A1.out hne; have d3 : w'.cell? ⟨gl, 3, none⟩ = some (.int .i64 L.s) := blk_cell kb 3; have d7 : w'.cell? ⟨gl, 7, none⟩ = some (.pointer (some ⟨gs, 0, none⟩)) := blk_cell kb 7; clear kb; have HM := Aside0.mk hmod; clear hmod tok1 _t) | (go_at_call 26; refine (sbelow_any gs B _ _ _ _ _ E2.out (by exact hsrc1) hBs (by omega) (by omega)).mono ?_; rintro e w2 ⟨rfl, hsrc2, hmod2⟩; have HM2 := Aside0.mk hmod2; clear hmod2) | (go_at_call 52; refine (write_any gl gs { L with made := L.made + 1 } y EY.out _ _ (by exact HM2.out.blk (HM.out.blk A1.out hne) hne) hy (by show 0 ≤ L.made + 1; omega) (by show L.made + 1 ≤ 1000000; omega)).mono ?_; rintro e w3 ⟨rfl, hb3⟩; have k3 := blk_below (by exact HM2.out.blk (HM.out.blk AN1.out hn0) hn0) hb3; (try clear u0 u1 u2 u3 f0 f1 f2 f3); obtain ⟨u0, u1, u2, u3, f0, f1, f2, f3⟩ := cells4 k3; have z3 := blk_lt k3; clear k3; have HB3 := Aside0.mk hb3; clear hb3))
  all_goals
    refine bodyPost_ret (v := doV 2 r 0 (strOfNums (dataNums (L.made + 1) y))) (by simp [results, Try.results32, go_sem, u0, u1, u2, u3]) rfl ⟨rfl, ⟨?_, ?_⟩, ?_⟩
    · exact set_far4 (W := w3) (by exact blk_below (by exact HM2.out.blk (HM.out.blk A1.out hne) hne) HB3.out) (by omega)
    · exact set_far4 (W := w3) (by exact blk_below (by exact hsrc2) HB3.out) (by omega)
    · exact Mod.far4 (((AM1.out.trans HM.out (fun k hk => .inl (.inr hk))).trans HM2.out (fun k hk => .inl (.inr hk))).below' HB3.out (by omega)) (by omega) (Nat.le_refl _)

/-- Next, whatever the kind. -/
theorem next_load (gl gs B : Nat) (L : Ld) (w : World) (h : LoadAt w gl gs L) (hne : gl ≠ gs) (hBl : B ≤ gl) (hBs : B ≤ gs) (hy0 : 0 ≤ L.y) (hy : L.y ≤ 256) (hm : 0 ≤ L.made) (hm2 : L.made < 1000000) (hs : 1 ≤ L.s) (hs2 : L.s ≤ 10000) (ha : 0 ≤ L.at_) (ha2 : L.at_ ≤ 10000) :
    Calls Try.prog 32 #[.pointer (some ⟨gl, 0, none⟩)] w fun e w' => e = .returned (doP (nextOf L).1) ∧ LoadAt w' gl gs (nextOf L).2 ∧ Mod B (fun k => k = gl ∨ k = gs) w w' := by
  have ey : L.y = (L.y.toNat : Int) := by omega
  have hy' : L.y.toNat ≤ 256 := by omega
  unfold nextOf
  by_cases c1 : L.kind = 1
  · rw [if_pos c1]; exact next_l gl gs B L _ ey w h hne hBl hBs hy' hm hm2 hs hs2 ha ha2 (by simp [c1])
  rw [if_neg c1]
  by_cases c2 : L.kind = 2
  · rw [if_pos c2]
    obtain ⟨q, x1, e1⟩ : ∃ q x1, belowNum L.x 10 = (q, x1) := ⟨_, _, rfl⟩
    rw [e1]
    simp only
    by_cases cq : q < 8
    · rw [if_pos cq]
      by_cases cd : L.s / 5 < 1
      · rw [show max (L.s / 5) 1 = 1 by omega]
        obtain ⟨r, x2, e2⟩ : ∃ r x2, belowNum x1 1 = (r, x2) := ⟨_, _, rfl⟩
        rw [e2]
        exact next_h gl gs B L _ ey q r x1 x2 w h hne hBl hBs hy' hm hm2 hs hs2 ha ha2 e1 e2 cq cd (by simp [c1]) (by simp [c2])
      · rw [show max (L.s / 5) 1 = L.s / 5 by omega]
        obtain ⟨r, x2, e2⟩ : ∃ r x2, belowNum x1 (L.s / 5) = (r, x2) := ⟨_, _, rfl⟩
        rw [e2]
        exact next_i gl gs B L _ ey q r x1 x2 w h hne hBl hBs hy' hm hm2 hs hs2 ha ha2 e1 e2 cq (by omega) (by simp [c1]) (by simp [c2])
    · rw [if_neg cq]
      obtain ⟨r, x2, e2⟩ : ∃ r x2, belowNum x1 L.s = (r, x2) := ⟨_, _, rfl⟩
      rw [e2]
      exact next_k gl gs B L _ ey q r x1 x2 w h hne hBl hBs hy' hm hm2 hs hs2 ha ha2 e1 e2 cq (by simp [c1]) (by simp [c2])
  rw [if_neg c2]
  by_cases c3 : L.kind = 3
  · rw [if_pos c3]; exact next_m gl gs B L _ ey w h hne hBl hBs hy' hm hm2 hs hs2 ha ha2 (by simp [c1]) (by simp [c2]) (by simp [c3])
  rw [if_neg c3]
  obtain ⟨r, x1, e1⟩ : ∃ r x1, belowNum L.x L.s = (r, x1) := ⟨_, _, rfl⟩
  rw [e1]
  exact next_o gl gs B L _ ey r x1 w h hne hBl hBs hy' hm hm2 hs hs2 ha ha2 e1 (by simp [c1]) (by simp [c2]) (by simp [c3])

end Go.Proofs.Ytcfonmbojkolfaa.LoadA
