/- Contracts of package load's methods, by hand: blend and Next. -/
import Derived.Test.YtcfonmbojkolfaaProg
import Derived.Below
import Derived.Deep.Draws
import Derived.Deep.AppendLies
import Derived.Maps.AppendAt
import Derived.OwnWalk
import Derived.Laws.BytesArg
import Derived.Laws.MakeOwn
import Derived.Laws.OwnMore
import Derived.Deep.OwnRows
import Derived.Tactics
import Derived.Lib.ConvBytes
import Derived.Laws.Slices
import Derived.WalkKit
import Derived.KernelRfl
import Derived.RowKit3
import Derived.Deep.LoopGhost
import Derived.Deep.QuietTactic
import Derived.BigQuiet
import Derived.WideLaws
import Derived.Deep.DeepCutAuto
import Derived.Deep.CutBlock
import Derived.Deep.RegionHeld3
import Derived.Deep.RegionWith
import Derived.Laws.Rows
import Derived.Lib.AppendStr
import Derived.ArgAppend
import Derived.Laws.IdiomCopy
import Derived.OrdersHeld
import Derived.Laws.BitsLemmas
import Derived.RowKit
import Derived.Outline
import Derived.Laws.Closers25b
import Derived.Lib.Hide
import Derived.Test.YtcfonmbojkolfaaWWords
import Derived.Test.YtcfonmbojkolfaaWKept
import Derived.Test.YtcfonmbojkolfaaMem
import Derived.Test.YtcfonmbojkolfaaLoadA

set_option linter.unusedVariables false
namespace Go.Proofs.Ytcfonmbojkolfaa.LoadA
open Go.RowKit Go.Proofs.YtcfonmbojkolfaaW.PrintWords Go.Proofs.Ytcfonmbojkolfaa.Mem

set_option maxHeartbeats 1000000 in
theorem blend_a (gl gs B : Nat) (L : Ld) (y : Nat) (ey : L.y = y) (q r x1 x2 : Int) (w : World) (h : LoadAt w gl gs L) (hne : gl ≠ gs) (hBl : B ≤ gl) (hBs : B ≤ gs) (hy : y ≤ 256) (hm : 0 ≤ L.made) (hm2 : L.made ≤ 1000000) (hs : 0 ≤ L.s) (hs2 : L.s ≤ 10000)
    (e1 : belowNum L.x 16 = (q, x1)) (e2 : belowNum x1 L.s = (r, x2)) (hq0 : q < 8) :
    Calls Try.prog 53 #[.pointer (some ⟨gl, 0, none⟩)] w fun e w' => e = .returned (doV 2 r 0 (strOfNums (dataNums L.made y))) ∧ LoadAt w' gl gs { L with x := x2 } ∧ Mod B (fun k => k = gs) w w' := by
  obtain ⟨hb, hsrc⟩ := h
  have hgl := blk_lt hb
  have hgs := blk_lt hsrc
  have hn0 : ¬ w.heap.size = gs := by omega
  have hb' := hb
  unfold BodyAt at hb
  have c3 : w.cell? ⟨gl, 3, none⟩ = some (.int .i64 L.s) := blk_cell hb 3
  have c7 : w.cell? ⟨gl, 7, none⟩ = some (.pointer (some ⟨gs, 0, none⟩)) := blk_cell hb 7
  clear hb
  have HBODY := Aside0.mk hb'
  clear hb'
  have E1 := Lib.hid e1
  clear e1
  have EY := Lib.hid ey
  clear ey
  have E2 := Lib.hid e2
  clear e2
  go_enter Try.func53, Try.ntmps53
  go_wp2_with (go_at_call 26; refine (sbelow_any gs B _ _ _ _ _ E1.out (blk_alloc hsrc _) hBs (by omega) (by omega)).mono ?_; rintro e w' ⟨rfl, hsrc1, hmod⟩; have k1 := hmod.blk (blk_new w (.cells #[.int .i64 0, .int .i64 0, .int .i64 0, .string ⟨#[]⟩] 73)) hn0; obtain ⟨u0, u1, u2, u3, f0, f1, f2, f3⟩ := cells4 k1; have z1 := blk_lt k1; clear k1; have kb := hmod.blk (blk_alloc HBODY.out (.cells #[.int .i64 0, .int .i64 0, .int .i64 0, .string ⟨#[]⟩] 73)) hne; have d3 : w'.cell? ⟨gl, 3, none⟩ = some (.int .i64 L.s) := blk_cell kb 3; have d7 : w'.cell? ⟨gl, 7, none⟩ = some (.pointer (some ⟨gs, 0, none⟩)) := blk_cell kb 7; clear kb; have HM := Aside0.mk hmod; clear hmod)
  go_region_with (first | (go_at_call 26; refine (sbelow_any gs B _ _ _ _ _ E2.out (by exact hsrc1) hBs (by omega) (by omega)).mono ?_; rintro e w2 ⟨rfl, hsrc2, hmod2⟩; have k2 := hmod2.blk (HM.out.blk (blk_new w (.cells #[.int .i64 0, .int .i64 0, .int .i64 0, .string ⟨#[]⟩] 73)) hn0) hn0; clear u0 u1 u2 u3 f0 f1 f2 f3; obtain ⟨u0, u1, u2, u3, f0, f1, f2, f3⟩ := cells4 k2; have z2 := blk_lt k2; clear k2; have HM2 := Aside0.mk hmod2; clear hmod2) | (go_at_call 52; refine (write_any gl gs L y EY.out _ _ (by exact HM2.out.blk (HM.out.blk (blk_alloc HBODY.out _) hne) hne) hy hm hm2).mono ?_; rintro e w3 ⟨rfl, hb3⟩; have k3 := blk_below (HM2.out.blk (HM.out.blk (blk_new w (.cells #[.int .i64 0, .int .i64 0, .int .i64 0, .string ⟨#[]⟩] 73)) hn0) hn0) hb3; clear u0 u1 u2 u3 f0 f1 f2 f3; obtain ⟨u0, u1, u2, u3, f0, f1, f2, f3⟩ := cells4 k3; have z3 := blk_lt k3; clear k3; have HB3 := Aside0.mk hb3; clear hb3))
  all_goals go_wp2
  all_goals
    refine bodyPost_ret (v := doV 2 r 0 (strOfNums (dataNums L.made y))) (by simp [results, Try.results53, go_sem, u0, u1, u2, u3]) rfl ⟨rfl, ⟨?_, ?_⟩, ?_⟩
    · exact set_far4 (W := w3) (by exact blk_below (HM2.out.blk (HM.out.blk (blk_alloc HBODY.out _) hne) hne) HB3.out) (by omega)
    · exact set_far4 (W := w3) (by exact (blk_below hsrc2 HB3.out)) (by omega)
    · exact Mod.far4 ((((((Mod.refl B (fun k => k = gs) w).alloc (by omega) _).then_ HM.out).drew.then_ HM2.out).below' HB3.out (by omega))) (by omega) (Nat.le_refl _)

set_option maxHeartbeats 1000000 in
theorem blend_b (gl gs B : Nat) (L : Ld) (y : Nat) (ey : L.y = y) (q r x1 x2 : Int) (w : World) (h : LoadAt w gl gs L) (hne : gl ≠ gs) (hBl : B ≤ gl) (hBs : B ≤ gs) (hy : y ≤ 256) (hm : 0 ≤ L.made) (hm2 : L.made ≤ 1000000) (hs : 0 ≤ L.s) (hs2 : L.s ≤ 10000)
    (e1 : belowNum L.x 16 = (q, x1)) (e2 : belowNum x1 L.s = (r, x2)) (hq0 : ¬ q < 8) (hq1 : q < 12) :
    Calls Try.prog 53 #[.pointer (some ⟨gl, 0, none⟩)] w fun e w' => e = .returned (doV 1 r 0 ⟨#[]⟩) ∧ LoadAt w' gl gs { L with x := x2 } ∧ Mod B (fun k => k = gs) w w' := by
  obtain ⟨hb, hsrc⟩ := h
  have hgl := blk_lt hb
  have hgs := blk_lt hsrc
  have hn0 : ¬ w.heap.size = gs := by omega
  have hb' := hb
  unfold BodyAt at hb
  have c3 : w.cell? ⟨gl, 3, none⟩ = some (.int .i64 L.s) := blk_cell hb 3
  have c7 : w.cell? ⟨gl, 7, none⟩ = some (.pointer (some ⟨gs, 0, none⟩)) := blk_cell hb 7
  clear hb
  have HBODY := Aside0.mk hb'
  clear hb'
  have E1 := Lib.hid e1
  clear e1
  have EY := Lib.hid ey
  clear ey
  have E2 := Lib.hid e2
  clear e2
  go_enter Try.func53, Try.ntmps53
  go_wp2_with (go_at_call 26; refine (sbelow_any gs B _ _ _ _ _ E1.out (blk_alloc hsrc _) hBs (by omega) (by omega)).mono ?_; rintro e w' ⟨rfl, hsrc1, hmod⟩; have k1 := hmod.blk (blk_new w (.cells #[.int .i64 0, .int .i64 0, .int .i64 0, .string ⟨#[]⟩] 73)) hn0; obtain ⟨u0, u1, u2, u3, f0, f1, f2, f3⟩ := cells4 k1; have z1 := blk_lt k1; clear k1; have kb := hmod.blk (blk_alloc HBODY.out (.cells #[.int .i64 0, .int .i64 0, .int .i64 0, .string ⟨#[]⟩] 73)) hne; have d3 : w'.cell? ⟨gl, 3, none⟩ = some (.int .i64 L.s) := blk_cell kb 3; have d7 : w'.cell? ⟨gl, 7, none⟩ = some (.pointer (some ⟨gs, 0, none⟩)) := blk_cell kb 7; clear kb; have HM := Aside0.mk hmod; clear hmod)
  go_region_with (first | (go_at_call 26; refine (sbelow_any gs B _ _ _ _ _ E2.out (by exact hsrc1) hBs (by omega) (by omega)).mono ?_; rintro e w2 ⟨rfl, hsrc2, hmod2⟩; have k2 := hmod2.blk (HM.out.blk (blk_new w (.cells #[.int .i64 0, .int .i64 0, .int .i64 0, .string ⟨#[]⟩] 73)) hn0) hn0; clear u0 u1 u2 u3 f0 f1 f2 f3; obtain ⟨u0, u1, u2, u3, f0, f1, f2, f3⟩ := cells4 k2; have z2 := blk_lt k2; clear k2; have HM2 := Aside0.mk hmod2; clear hmod2))
  all_goals go_wp2
  all_goals
    refine bodyPost_ret (v := doV 1 r 0 ⟨#[]⟩) (by simp [results, Try.results53, go_sem, u0, u1, u2, u3]) rfl ⟨rfl, ⟨?_, ?_⟩, ?_⟩
    · exact set_far4 (W := w2) (by exact HM2.out.blk (HM.out.blk (blk_alloc HBODY.out _) hne) hne) (by omega)
    · exact set_far4 (W := w2) (by exact hsrc2) (by omega)
    · exact Mod.far4 (((((Mod.refl B (fun k => k = gs) w).alloc (by omega) _).then_ HM.out).drew.then_ HM2.out)) (by omega) (Nat.le_refl _)

set_option maxHeartbeats 1000000 in
theorem blend_c (gl gs B : Nat) (L : Ld) (y : Nat) (ey : L.y = y) (q r x1 x2 : Int) (w : World) (h : LoadAt w gl gs L) (hne : gl ≠ gs) (hBl : B ≤ gl) (hBs : B ≤ gs) (hy : y ≤ 256) (hm : 0 ≤ L.made) (hm2 : L.made ≤ 1000000) (hs : 0 ≤ L.s) (hs2 : L.s ≤ 10000)
    (e1 : belowNum L.x 16 = (q, x1)) (e2 : belowNum x1 L.s = (r, x2)) (hq0 : ¬ q < 8) (hq1 : ¬ q < 12) (hq2 : q < 14) :
    Calls Try.prog 53 #[.pointer (some ⟨gl, 0, none⟩)] w fun e w' => e = .returned (doV 3 r 0 ⟨#[]⟩) ∧ LoadAt w' gl gs { L with x := x2 } ∧ Mod B (fun k => k = gs) w w' := by
  obtain ⟨hb, hsrc⟩ := h
  have hgl := blk_lt hb
  have hgs := blk_lt hsrc
  have hn0 : ¬ w.heap.size = gs := by omega
  have hb' := hb
  unfold BodyAt at hb
  have c3 : w.cell? ⟨gl, 3, none⟩ = some (.int .i64 L.s) := blk_cell hb 3
  have c7 : w.cell? ⟨gl, 7, none⟩ = some (.pointer (some ⟨gs, 0, none⟩)) := blk_cell hb 7
  clear hb
  have HBODY := Aside0.mk hb'
  clear hb'
  have E1 := Lib.hid e1
  clear e1
  have EY := Lib.hid ey
  clear ey
  have E2 := Lib.hid e2
  clear e2
  go_enter Try.func53, Try.ntmps53
  go_wp2_with (go_at_call 26; refine (sbelow_any gs B _ _ _ _ _ E1.out (blk_alloc hsrc _) hBs (by omega) (by omega)).mono ?_; rintro e w' ⟨rfl, hsrc1, hmod⟩; have k1 := hmod.blk (blk_new w (.cells #[.int .i64 0, .int .i64 0, .int .i64 0, .string ⟨#[]⟩] 73)) hn0; obtain ⟨u0, u1, u2, u3, f0, f1, f2, f3⟩ := cells4 k1; have z1 := blk_lt k1; clear k1; have kb := hmod.blk (blk_alloc HBODY.out (.cells #[.int .i64 0, .int .i64 0, .int .i64 0, .string ⟨#[]⟩] 73)) hne; have d3 : w'.cell? ⟨gl, 3, none⟩ = some (.int .i64 L.s) := blk_cell kb 3; have d7 : w'.cell? ⟨gl, 7, none⟩ = some (.pointer (some ⟨gs, 0, none⟩)) := blk_cell kb 7; clear kb; have HM := Aside0.mk hmod; clear hmod)
  go_region_with (first | (go_at_call 26; refine (sbelow_any gs B _ _ _ _ _ E2.out (by exact hsrc1) hBs (by omega) (by omega)).mono ?_; rintro e w2 ⟨rfl, hsrc2, hmod2⟩; have k2 := hmod2.blk (HM.out.blk (blk_new w (.cells #[.int .i64 0, .int .i64 0, .int .i64 0, .string ⟨#[]⟩] 73)) hn0) hn0; clear u0 u1 u2 u3 f0 f1 f2 f3; obtain ⟨u0, u1, u2, u3, f0, f1, f2, f3⟩ := cells4 k2; have z2 := blk_lt k2; clear k2; have HM2 := Aside0.mk hmod2; clear hmod2))
  all_goals go_wp2
  all_goals
    refine bodyPost_ret (v := doV 3 r 0 ⟨#[]⟩) (by simp [results, Try.results53, go_sem, u0, u1, u2, u3]) rfl ⟨rfl, ⟨?_, ?_⟩, ?_⟩
    · exact set_far4 (W := w2) (by exact HM2.out.blk (HM.out.blk (blk_alloc HBODY.out _) hne) hne) (by omega)
    · exact set_far4 (W := w2) (by exact hsrc2) (by omega)
    · exact Mod.far4 (((((Mod.refl B (fun k => k = gs) w).alloc (by omega) _).then_ HM.out).drew.then_ HM2.out)) (by omega) (Nat.le_refl _)

set_option maxHeartbeats 1000000 in
theorem blend_d (gl gs B : Nat) (L : Ld) (y : Nat) (ey : L.y = y) (q x1 : Int) (w : World) (h : LoadAt w gl gs L) (hne : gl ≠ gs) (hBl : B ≤ gl) (hBs : B ≤ gs) (hy : y ≤ 256) (hm : 0 ≤ L.made) (hm2 : L.made ≤ 1000000) (hs : 0 ≤ L.s) (hs2 : L.s ≤ 10000)
    (e1 : belowNum L.x 16 = (q, x1)) (hq0 : ¬ q < 8) (hq1 : ¬ q < 12) (hq2 : ¬ q < 14) (hq3 : (q == 14) = true) :
    Calls Try.prog 53 #[.pointer (some ⟨gl, 0, none⟩)] w fun e w' => e = .returned (doV 4 0 0 ⟨#[]⟩) ∧ LoadAt w' gl gs { L with x := x1 } ∧ Mod B (fun k => k = gs) w w' := by
  obtain ⟨hb, hsrc⟩ := h
  have hgl := blk_lt hb
  have hgs := blk_lt hsrc
  have hn0 : ¬ w.heap.size = gs := by omega
  have hb' := hb
  unfold BodyAt at hb
  have c3 : w.cell? ⟨gl, 3, none⟩ = some (.int .i64 L.s) := blk_cell hb 3
  have c7 : w.cell? ⟨gl, 7, none⟩ = some (.pointer (some ⟨gs, 0, none⟩)) := blk_cell hb 7
  clear hb
  have HBODY := Aside0.mk hb'
  clear hb'
  have E1 := Lib.hid e1
  clear e1
  have EY := Lib.hid ey
  clear ey
  go_enter Try.func53, Try.ntmps53
  go_wp2_with (go_at_call 26; refine (sbelow_any gs B _ _ _ _ _ E1.out (blk_alloc hsrc _) hBs (by omega) (by omega)).mono ?_; rintro e w' ⟨rfl, hsrc1, hmod⟩; have k1 := hmod.blk (blk_new w (.cells #[.int .i64 0, .int .i64 0, .int .i64 0, .string ⟨#[]⟩] 73)) hn0; obtain ⟨u0, u1, u2, u3, f0, f1, f2, f3⟩ := cells4 k1; have z1 := blk_lt k1; clear k1; have kb := hmod.blk (blk_alloc HBODY.out (.cells #[.int .i64 0, .int .i64 0, .int .i64 0, .string ⟨#[]⟩] 73)) hne; have d3 : w'.cell? ⟨gl, 3, none⟩ = some (.int .i64 L.s) := blk_cell kb 3; have d7 : w'.cell? ⟨gl, 7, none⟩ = some (.pointer (some ⟨gs, 0, none⟩)) := blk_cell kb 7; clear kb; have HM := Aside0.mk hmod; clear hmod)
  all_goals
    refine bodyPost_ret (v := doV 4 0 0 ⟨#[]⟩) (by simp [results, Try.results53, go_sem, u0, u1, u2, u3]) rfl ⟨rfl, ⟨?_, ?_⟩, ?_⟩
    · exact set_far4 (W := w') (by exact HM.out.blk (blk_alloc HBODY.out _) hne) (by omega)
    · exact set_far4 (W := w') (by exact hsrc1) (by omega)
    · exact Mod.far4 ((((Mod.refl B (fun k => k = gs) w).alloc (by omega) _).then_ HM.out)) (by omega) (Nat.le_refl _)

set_option maxHeartbeats 1000000 in
theorem blend_e (gl gs B : Nat) (L : Ld) (y : Nat) (ey : L.y = y) (q r x1 x2 : Int) (w : World) (h : LoadAt w gl gs L) (hne : gl ≠ gs) (hBl : B ≤ gl) (hBs : B ≤ gs) (hy : y ≤ 256) (hm : 0 ≤ L.made) (hm2 : L.made ≤ 1000000) (hs : 0 ≤ L.s) (hs2 : L.s ≤ 10000)
    (e1 : belowNum L.x 16 = (q, x1)) (e2 : belowNum x1 50 = (r, x2)) (hq0 : ¬ q < 8) (hq1 : ¬ q < 12) (hq2 : ¬ q < 14) (hq3 : (q == 14) = false) :
    Calls Try.prog 53 #[.pointer (some ⟨gl, 0, none⟩)] w fun e w' => e = .returned (doV 5 0 r ⟨#[]⟩) ∧ LoadAt w' gl gs { L with x := x2 } ∧ Mod B (fun k => k = gs) w w' := by
  obtain ⟨hb, hsrc⟩ := h
  have hgl := blk_lt hb
  have hgs := blk_lt hsrc
  have hn0 : ¬ w.heap.size = gs := by omega
  have hb' := hb
  unfold BodyAt at hb
  have c3 : w.cell? ⟨gl, 3, none⟩ = some (.int .i64 L.s) := blk_cell hb 3
  have c7 : w.cell? ⟨gl, 7, none⟩ = some (.pointer (some ⟨gs, 0, none⟩)) := blk_cell hb 7
  clear hb
  have HBODY := Aside0.mk hb'
  clear hb'
  have E1 := Lib.hid e1
  clear e1
  have EY := Lib.hid ey
  clear ey
  have E2 := Lib.hid e2
  clear e2
  have tok1 : True := trivial
  go_enter Try.func53, Try.ntmps53
  go_wp2_with (first | (go_at_call 26; have _t := tok1; refine (sbelow_any gs B _ _ _ _ _ E1.out (blk_alloc hsrc _) hBs (by omega) (by omega)).mono ?_; rintro e w' ⟨rfl, hsrc1, hmod⟩; have k1 := hmod.blk (blk_new w (.cells #[.int .i64 0, .int .i64 0, .int .i64 0, .string ⟨#[]⟩] 73)) hn0; obtain ⟨u0, u1, u2, u3, f0, f1, f2, f3⟩ := cells4 k1; have z1 := blk_lt k1; clear k1; have kb := hmod.blk (blk_alloc HBODY.out (.cells #[.int .i64 0, .int .i64 0, .int .i64 0, .string ⟨#[]⟩] 73)) hne; have d3 : w'.cell? ⟨gl, 3, none⟩ = some (.int .i64 L.s) := blk_cell kb 3; have d7 : w'.cell? ⟨gl, 7, none⟩ = some (.pointer (some ⟨gs, 0, none⟩)) := blk_cell kb 7; clear kb; have HM := Aside0.mk hmod; clear hmod tok1 _t) | (go_at_call 26; refine (sbelow_any gs B _ _ _ _ _ E2.out (by exact hsrc1) hBs (by omega) (by omega)).mono ?_; rintro e w2 ⟨rfl, hsrc2, hmod2⟩; have k2 := hmod2.blk (HM.out.blk (blk_new w (.cells #[.int .i64 0, .int .i64 0, .int .i64 0, .string ⟨#[]⟩] 73)) hn0) hn0; clear u0 u1 u2 u3 f0 f1 f2 f3; obtain ⟨u0, u1, u2, u3, f0, f1, f2, f3⟩ := cells4 k2; have z2 := blk_lt k2; clear k2; have HM2 := Aside0.mk hmod2; clear hmod2))
  all_goals
    refine bodyPost_ret (v := doV 5 0 r ⟨#[]⟩) (by simp [results, Try.results53, go_sem, u0, u1, u2, u3]) rfl ⟨rfl, ⟨?_, ?_⟩, ?_⟩
    · exact set_far4 (W := w2) (by exact HM2.out.blk (HM.out.blk (blk_alloc HBODY.out _) hne) hne) (by omega)
    · exact set_far4 (W := w2) (by exact hsrc2) (by omega)
    · exact Mod.far4 (((((Mod.refl B (fun k => k = gs) w).alloc (by omega) _).then_ HM.out).then_ HM2.out)) (by omega) (Nat.le_refl _)

end Go.Proofs.Ytcfonmbojkolfaa.LoadA
