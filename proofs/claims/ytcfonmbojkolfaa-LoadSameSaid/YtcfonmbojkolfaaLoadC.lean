/- Contracts of package load's methods, by hand: Next. -/
import Derived.Test.YtcfonmbojkolfaaProg
import Derived.Below
import Derived.Deep.Draws
import Derived.Deep.AppendLies
import Derived.Maps.AppendAt
import Derived.OwnWalk
import Derived.Laws.BytesArg
import Derived.Laws.MakeOwn
import Derived.Laws.OwnMore
import Derived.Deep.OwnRows
import Derived.Tactics
import Derived.Lib.ConvBytes
import Derived.Laws.Slices
import Derived.WalkKit
import Derived.KernelRfl
import Derived.RowKit3
import Derived.Deep.LoopGhost
import Derived.Deep.QuietTactic
import Derived.BigQuiet
import Derived.WideLaws
import Derived.Deep.DeepCutAuto
import Derived.Deep.CutBlock
import Derived.Deep.RegionHeld3
import Derived.Deep.RegionWith
import Derived.Laws.Rows
import Derived.Lib.AppendStr
import Derived.ArgAppend
import Derived.Laws.IdiomCopy
import Derived.OrdersHeld
import Derived.Laws.BitsLemmas
import Derived.RowKit
import Derived.Outline
import Derived.Laws.Closers25b
import Derived.Lib.Hide
import Derived.Test.YtcfonmbojkolfaaWWords
import Derived.Test.YtcfonmbojkolfaaWKept
import Derived.Test.YtcfonmbojkolfaaMem
import Derived.Test.YtcfonmbojkolfaaLoadB

set_option linter.unusedVariables false
namespace Go.Proofs.Ytcfonmbojkolfaa.LoadA
open Go.RowKit Go.Proofs.YtcfonmbojkolfaaW.PrintWords Go.Proofs.Ytcfonmbojkolfaa.Mem

theorem blend_any (gl gs B : Nat) (L : Ld) (w : World) (h : LoadAt w gl gs L) (hne : gl ≠ gs) (hBl : B ≤ gl) (hBs : B ≤ gs) (hy0 : 0 ≤ L.y) (hy : L.y ≤ 256) (hm : 0 ≤ L.made) (hm2 : L.made ≤ 1000000) (hs : 0 ≤ L.s) (hs2 : L.s ≤ 10000) :
    Calls Try.prog 53 #[.pointer (some ⟨gl, 0, none⟩)] w fun e w' => e = .returned (doP (blendOf L).1) ∧ LoadAt w' gl gs (blendOf L).2 ∧ Mod B (fun k => k = gs) w w' := by
  obtain ⟨q, x1, e1⟩ : ∃ q x1, belowNum L.x 16 = (q, x1) := ⟨_, _, rfl⟩
  obtain ⟨r, x2, e2⟩ : ∃ r x2, belowNum x1 L.s = (r, x2) := ⟨_, _, rfl⟩
  obtain ⟨r', x2', e2'⟩ : ∃ r x2, belowNum x1 50 = (r, x2) := ⟨_, _, rfl⟩
  have ey : L.y = (L.y.toNat : Int) := by omega
  have hy' : L.y.toNat ≤ 256 := by omega
  unfold blendOf
  rw [e1]
  simp only [e2, e2']
  by_cases c0 : q < 8
  · rw [if_pos c0]; exact blend_a gl gs B L _ ey q r x1 x2 w h hne hBl hBs hy' hm hm2 hs hs2 e1 e2 c0
  rw [if_neg c0]
  by_cases c1 : q < 12
  · rw [if_pos c1]; exact blend_b gl gs B L _ ey q r x1 x2 w h hne hBl hBs hy' hm hm2 hs hs2 e1 e2 c0 c1
  rw [if_neg c1]
  by_cases c2 : q < 14
  · rw [if_pos c2]; exact blend_c gl gs B L _ ey q r x1 x2 w h hne hBl hBs hy' hm hm2 hs hs2 e1 e2 c0 c1 c2
  rw [if_neg c2]
  by_cases c3 : q = 14
  · rw [if_pos c3]; exact blend_d gl gs B L _ ey q x1 w h hne hBl hBs hy' hm hm2 hs hs2 e1 c0 c1 c2 (by simp [c3])
  rw [if_neg c3]
  exact blend_e gl gs B L _ ey q r' x1 x2' w h hne hBl hBs hy' hm hm2 hs hs2 e1 e2' c0 c1 c2 (by simp [c3])

/-- What is asked next. -/
def nextOf (L : Ld) : DoP × Ld :=
  if L.kind = 1 then ((2, L.at_, 0, dataOf { L with made := L.made + 1 }), { L with made := L.made + 1, at_ := (L.at_ + 1) % L.s })
  else if L.kind = 2 then (match belowNum L.x 10 with
    | (q, x1) => match belowNum x1 (if q < 8 then max (L.s / 5) 1 else L.s) with
      | (r, x2) => ((2, r, 0, dataOf { L with made := L.made + 1 }), { L with made := L.made + 1, x := x2 }))
  else if L.kind = 3 then blendOf { L with made := L.made + 1 }
  else (match belowNum L.x L.s with | (r, x1) => ((2, r, 0, dataOf { L with made := L.made + 1 }), { L with made := L.made + 1, x := x1 }))

set_option maxHeartbeats 2000000 in
theorem next_o (gl gs B : Nat) (L : Ld) (y : Nat) (ey : L.y = y) (r x1 : Int) (w : World) (h : LoadAt w gl gs L) (hne : gl ≠ gs) (hBl : B ≤ gl) (hBs : B ≤ gs) (hy : y ≤ 256) (hm : 0 ≤ L.made) (hm2 : L.made < 1000000) (hs : 1 ≤ L.s) (hs2 : L.s ≤ 10000) (ha : 0 ≤ L.at_) (ha2 : L.at_ ≤ 10000)
    (e1 : belowNum L.x L.s = (r, x1)) (k1 : (L.kind == 1) = false) (k2 : (L.kind == 2) = false) (k3 : (L.kind == 3) = false) :
    Calls Try.prog 32 #[.pointer (some ⟨gl, 0, none⟩)] w fun e w' => e = .returned (doV 2 r 0 (strOfNums (dataNums (L.made + 1) y))) ∧ LoadAt w' gl gs { L with made := L.made + 1, x := x1 } ∧ Mod B (fun k => k = gl ∨ k = gs) w w' := by
  obtain ⟨hb, hsrc⟩ := h
  have hgl := blk_lt hb
  have hgs := blk_lt hsrc
  have hn0 : ¬ w.heap.size = gs := by omega
  have hn1 : ¬ gl = w.heap.size := by omega
  have hb' := hb
  unfold BodyAt at hb
  have c3 : w.cell? ⟨gl, 3, none⟩ = some (.int .i64 L.s) := blk_cell hb 3
  have c6 : w.cell? ⟨gl, 6, none⟩ = some (.int .i64 L.kind) := blk_cell hb 6
  have c7 : w.cell? ⟨gl, 7, none⟩ = some (.pointer (some ⟨gs, 0, none⟩)) := blk_cell hb 7
  have c8 : w.cell? ⟨gl, 8, none⟩ = some (.int .i64 L.at_) := blk_cell hb 8
  have c9 : w.cell? ⟨gl, 9, none⟩ = some (.int .i64 L.made) := blk_cell hb 9
  have fz : ∀ o, w.frozen? ⟨gl, o, none⟩ = false := fun o => blk_frozen hb o
  have H1 : BodyAt ((w.setCell ⟨gl, 9, none⟩ (.int .i64 (L.made + 1))).alloc (.cells #[.int .i64 0, .int .i64 0, .int .i64 0, .string ⟨#[]⟩] 73)) gl gs { L with made := L.made + 1 } := by
    have e := blk_set hb 9 (.int .i64 (L.made + 1))
    simp at e
    exact blk_alloc e (.cells #[.int .i64 0, .int .i64 0, .int .i64 0, .string ⟨#[]⟩] 73)
  have HS1 : SrcAt ((w.setCell ⟨gl, 9, none⟩ (.int .i64 (L.made + 1))).alloc (.cells #[.int .i64 0, .int .i64 0, .int .i64 0, .string ⟨#[]⟩] 73)) gs L.x := blk_alloc (set_far hsrc (by omega)) _
  have HN1 : ((w.setCell ⟨gl, 9, none⟩ (.int .i64 (L.made + 1))).alloc (.cells #[.int .i64 0, .int .i64 0, .int .i64 0, .string ⟨#[]⟩] 73)).heap[w.heap.size]? = some (.cells #[.int .i64 0, .int .i64 0, .int .i64 0, .string ⟨#[]⟩] 73) := by simpa using blk_new (w.setCell ⟨gl, 9, none⟩ (.int .i64 (L.made + 1))) _
  have HM1 : Mod B (fun k => k = gl ∨ k = gs) w ((w.setCell ⟨gl, 9, none⟩ (.int .i64 (L.made + 1))).alloc (.cells #[.int .i64 0, .int .i64 0, .int .i64 0, .string ⟨#[]⟩] 73)) := ((Mod.refl B (fun k => k = gl ∨ k = gs) w).setCell hBl (.inl (.inl rfl)) _).alloc (by omega) _
  have A1 := Aside0.mk H1
  have AS1 := Aside0.mk HS1
  have AN1 := Aside0.mk HN1
  have AM1 := Aside0.mk HM1
  have HB' := Aside0.mk hb'
  clear hb hb' H1 HS1 HN1 HM1
  have EY := Lib.hid ey
  clear ey
  have E1 := Lib.hid e1
  clear e1
  go_enter Try.func32, Try.ntmps32
  go_wp2
  go_region_with (first | (go_at_call 26; refine (sbelow_any gs B _ _ _ _ _ E1.out (by exact AS1.out) hBs (by omega) (by omega)).mono ?_; rintro e w2 ⟨rfl, hsrc2, hmod2⟩; have k2 := hmod2.blk AN1.out hn0; obtain ⟨u0, u1, u2, u3, f0, f1, f2, f3⟩ := cells4 k2; have z2 := blk_lt k2; clear k2; have HM2 := Aside0.mk hmod2; clear hmod2) | (go_at_call 52; refine (write_any gl gs { L with made := L.made + 1 } y EY.out _ _ (by exact HM2.out.blk A1.out hne) hy (by show 0 ≤ L.made + 1; omega) (by show L.made + 1 ≤ 1000000; omega)).mono ?_; rintro e w3 ⟨rfl, hb3⟩; have k3 := blk_below (by exact HM2.out.blk AN1.out hn0) hb3; (try clear u0 u1 u2 u3 f0 f1 f2 f3); obtain ⟨u0, u1, u2, u3, f0, f1, f2, f3⟩ := cells4 k3; have z3 := blk_lt k3; clear k3; have HB3 := Aside0.mk hb3; clear hb3))
  all_goals go_wp2
  all_goals
    refine bodyPost_ret (v := doV 2 r 0 (strOfNums (dataNums (L.made + 1) y))) (by simp [results, Try.results32, go_sem, u0, u1, u2, u3]) rfl ⟨rfl, ⟨?_, ?_⟩, ?_⟩
    · exact set_far4 (W := w3) (by exact blk_below (by exact HM2.out.blk A1.out hne) HB3.out) (by omega)
    · exact set_far4 (W := w3) (by exact blk_below (by exact hsrc2) HB3.out) (by omega)
    · exact Mod.far4 ((AM1.out.drew.trans HM2.out (fun k hk => .inl (.inr hk))).below' HB3.out (by omega)) (by omega) (Nat.le_refl _)

set_option maxHeartbeats 2000000 in
theorem next_l (gl gs B : Nat) (L : Ld) (y : Nat) (ey : L.y = y) (w : World) (h : LoadAt w gl gs L) (hne : gl ≠ gs) (hBl : B ≤ gl) (hBs : B ≤ gs) (hy : y ≤ 256) (hm : 0 ≤ L.made) (hm2 : L.made < 1000000) (hs : 1 ≤ L.s) (hs2 : L.s ≤ 10000) (ha : 0 ≤ L.at_) (ha2 : L.at_ ≤ 10000)
    (k1 : (L.kind == 1) = true) :
    Calls Try.prog 32 #[.pointer (some ⟨gl, 0, none⟩)] w fun e w' => e = .returned (doV 2 L.at_ 0 (strOfNums (dataNums (L.made + 1) y))) ∧ LoadAt w' gl gs { L with made := L.made + 1, at_ := (L.at_ + 1) % L.s } ∧ Mod B (fun k => k = gl ∨ k = gs) w w' := by
  obtain ⟨hb, hsrc⟩ := h
  have hgl := blk_lt hb
  have hgs := blk_lt hsrc
  have hn0 : ¬ w.heap.size = gs := by omega
  have hn1 : ¬ gl = w.heap.size := by omega
  have hb' := hb
  unfold BodyAt at hb
  have c3 : w.cell? ⟨gl, 3, none⟩ = some (.int .i64 L.s) := blk_cell hb 3
  have c6 : w.cell? ⟨gl, 6, none⟩ = some (.int .i64 L.kind) := blk_cell hb 6
  have c7 : w.cell? ⟨gl, 7, none⟩ = some (.pointer (some ⟨gs, 0, none⟩)) := blk_cell hb 7
  have c8 : w.cell? ⟨gl, 8, none⟩ = some (.int .i64 L.at_) := blk_cell hb 8
  have c9 : w.cell? ⟨gl, 9, none⟩ = some (.int .i64 L.made) := blk_cell hb 9
  have fz : ∀ o, w.frozen? ⟨gl, o, none⟩ = false := fun o => blk_frozen hb o
  have H1 : BodyAt ((w.setCell ⟨gl, 9, none⟩ (.int .i64 (L.made + 1))).alloc (.cells #[.int .i64 0, .int .i64 0, .int .i64 0, .string ⟨#[]⟩] 73)) gl gs { L with made := L.made + 1 } := by
    have e := blk_set hb 9 (.int .i64 (L.made + 1))
    simp at e
    exact blk_alloc e (.cells #[.int .i64 0, .int .i64 0, .int .i64 0, .string ⟨#[]⟩] 73)
  have HS1 : SrcAt ((w.setCell ⟨gl, 9, none⟩ (.int .i64 (L.made + 1))).alloc (.cells #[.int .i64 0, .int .i64 0, .int .i64 0, .string ⟨#[]⟩] 73)) gs L.x := blk_alloc (set_far hsrc (by omega)) _
  have HN1 : ((w.setCell ⟨gl, 9, none⟩ (.int .i64 (L.made + 1))).alloc (.cells #[.int .i64 0, .int .i64 0, .int .i64 0, .string ⟨#[]⟩] 73)).heap[w.heap.size]? = some (.cells #[.int .i64 0, .int .i64 0, .int .i64 0, .string ⟨#[]⟩] 73) := by simpa using blk_new (w.setCell ⟨gl, 9, none⟩ (.int .i64 (L.made + 1))) _
  have HM1 : Mod B (fun k => k = gl ∨ k = gs) w ((w.setCell ⟨gl, 9, none⟩ (.int .i64 (L.made + 1))).alloc (.cells #[.int .i64 0, .int .i64 0, .int .i64 0, .string ⟨#[]⟩] 73)) := ((Mod.refl B (fun k => k = gl ∨ k = gs) w).setCell hBl (.inl (.inl rfl)) _).alloc (by omega) _
  have A1 := Aside0.mk H1
  have AS1 := Aside0.mk HS1
  have AN1 := Aside0.mk HN1
  have AM1 := Aside0.mk HM1
  have HB' := Aside0.mk hb'
  clear hb hb' H1 HS1 HN1 HM1
  have EY := Lib.hid ey
  clear ey
  have H2 : BodyAt (((w.setCell ⟨gl, 9, none⟩ (.int .i64 (L.made + 1))).setCell ⟨gl, 8, none⟩ (.int .i64 ((L.at_ + 1) % L.s))).alloc (.cells #[.int .i64 0, .int .i64 0, .int .i64 0, .string ⟨#[]⟩] 73)) gl gs { L with made := L.made + 1, at_ := (L.at_ + 1) % L.s } := by
    have hb := HB'.out
    unfold BodyAt at hb
    have e := blk_set (blk_set hb 9 (.int .i64 (L.made + 1))) 8 (.int .i64 ((L.at_ + 1) % L.s))
    simp at e
    exact blk_alloc e (.cells #[.int .i64 0, .int .i64 0, .int .i64 0, .string ⟨#[]⟩] 73)
  have HS2 : SrcAt (((w.setCell ⟨gl, 9, none⟩ (.int .i64 (L.made + 1))).setCell ⟨gl, 8, none⟩ (.int .i64 ((L.at_ + 1) % L.s))).alloc (.cells #[.int .i64 0, .int .i64 0, .int .i64 0, .string ⟨#[]⟩] 73)) gs L.x := blk_alloc (set_far (set_far hsrc (by omega)) (by omega)) _
  have HN2 : (((w.setCell ⟨gl, 9, none⟩ (.int .i64 (L.made + 1))).setCell ⟨gl, 8, none⟩ (.int .i64 ((L.at_ + 1) % L.s))).alloc (.cells #[.int .i64 0, .int .i64 0, .int .i64 0, .string ⟨#[]⟩] 73)).heap[w.heap.size]? = some (.cells #[.int .i64 0, .int .i64 0, .int .i64 0, .string ⟨#[]⟩] 73) := by simpa using blk_new ((w.setCell ⟨gl, 9, none⟩ (.int .i64 (L.made + 1))).setCell ⟨gl, 8, none⟩ (.int .i64 ((L.at_ + 1) % L.s))) _
  have HM2 : Mod B (fun k => k = gl ∨ k = gs) w (((w.setCell ⟨gl, 9, none⟩ (.int .i64 (L.made + 1))).setCell ⟨gl, 8, none⟩ (.int .i64 ((L.at_ + 1) % L.s))).alloc (.cells #[.int .i64 0, .int .i64 0, .int .i64 0, .string ⟨#[]⟩] 73)) := (((Mod.refl B (fun k => k = gl ∨ k = gs) w).setCell hBl (.inl (.inl rfl)) _).setCell hBl (.inl (.inl rfl)) _).alloc (by omega) _
  have A2 := Aside0.mk H2
  have AS2 := Aside0.mk HS2
  have AN2 := Aside0.mk HN2
  have AM2 := Aside0.mk HM2
  clear H2 HS2 HN2 HM2
  go_enter Try.func32, Try.ntmps32
  go_wp2
  go_region
  all_goals go_wp2_with (go_at_call 52; refine (write_any gl gs { L with made := L.made + 1, at_ := (L.at_ + 1) % L.s } y EY.out _ _ (by exact A2.out) hy (by show 0 ≤ L.made + 1; omega) (by show L.made + 1 ≤ 1000000; omega)).mono ?_; rintro e w3 ⟨rfl, hb3⟩; have k3 := blk_below (by exact AN2.out) hb3; (try clear u0 u1 u2 u3 f0 f1 f2 f3); obtain ⟨u0, u1, u2, u3, f0, f1, f2, f3⟩ := cells4 k3; have z3 := blk_lt k3; clear k3; have HB3 := Aside0.mk hb3; clear hb3)
  all_goals
    refine bodyPost_ret (v := doV 2 L.at_ 0 (strOfNums (dataNums (L.made + 1) y))) (by simp [results, Try.results32, go_sem, u0, u1, u2, u3]) rfl ⟨rfl, ⟨?_, ?_⟩, ?_⟩
    · exact set_far4 (W := w3) (by exact blk_below (by exact A2.out) HB3.out) (by omega)
    · exact set_far4 (W := w3) (by exact blk_below (by exact AS2.out) HB3.out) (by omega)
    · exact Mod.far4 (AM2.out.drew.below' HB3.out (by omega)) (by omega) (Nat.le_refl _)


set_option maxHeartbeats 2000000 in
theorem next_m (gl gs B : Nat) (L : Ld) (y : Nat) (ey : L.y = y) (w : World) (h : LoadAt w gl gs L) (hne : gl ≠ gs) (hBl : B ≤ gl) (hBs : B ≤ gs) (hy : y ≤ 256) (hm : 0 ≤ L.made) (hm2 : L.made < 1000000) (hs : 1 ≤ L.s) (hs2 : L.s ≤ 10000) (ha : 0 ≤ L.at_) (ha2 : L.at_ ≤ 10000)
    (k1 : (L.kind == 1) = false) (k2 : (L.kind == 2) = false) (k3 : (L.kind == 3) = true) :
    Calls Try.prog 32 #[.pointer (some ⟨gl, 0, none⟩)] w fun e w' => e = .returned (doP (blendOf { L with made := L.made + 1 }).1) ∧ LoadAt w' gl gs (blendOf { L with made := L.made + 1 }).2 ∧ Mod B (fun k => k = gl ∨ k = gs) w w' := by
  obtain ⟨hb, hsrc⟩ := h
  have hgl := blk_lt hb
  have hgs := blk_lt hsrc
  have hn0 : ¬ w.heap.size = gs := by omega
  have hn1 : ¬ gl = w.heap.size := by omega
  have hb' := hb
  unfold BodyAt at hb
  have c3 : w.cell? ⟨gl, 3, none⟩ = some (.int .i64 L.s) := blk_cell hb 3
  have c6 : w.cell? ⟨gl, 6, none⟩ = some (.int .i64 L.kind) := blk_cell hb 6
  have c7 : w.cell? ⟨gl, 7, none⟩ = some (.pointer (some ⟨gs, 0, none⟩)) := blk_cell hb 7
  have c8 : w.cell? ⟨gl, 8, none⟩ = some (.int .i64 L.at_) := blk_cell hb 8
  have c9 : w.cell? ⟨gl, 9, none⟩ = some (.int .i64 L.made) := blk_cell hb 9
  have fz : ∀ o, w.frozen? ⟨gl, o, none⟩ = false := fun o => blk_frozen hb o
  have H1 : BodyAt ((w.setCell ⟨gl, 9, none⟩ (.int .i64 (L.made + 1))).alloc (.cells #[.int .i64 0, .int .i64 0, .int .i64 0, .string ⟨#[]⟩] 73)) gl gs { L with made := L.made + 1 } := by
    have e := blk_set hb 9 (.int .i64 (L.made + 1))
    simp at e
    exact blk_alloc e (.cells #[.int .i64 0, .int .i64 0, .int .i64 0, .string ⟨#[]⟩] 73)
  have HS1 : SrcAt ((w.setCell ⟨gl, 9, none⟩ (.int .i64 (L.made + 1))).alloc (.cells #[.int .i64 0, .int .i64 0, .int .i64 0, .string ⟨#[]⟩] 73)) gs L.x := blk_alloc (set_far hsrc (by omega)) _
  have HN1 : ((w.setCell ⟨gl, 9, none⟩ (.int .i64 (L.made + 1))).alloc (.cells #[.int .i64 0, .int .i64 0, .int .i64 0, .string ⟨#[]⟩] 73)).heap[w.heap.size]? = some (.cells #[.int .i64 0, .int .i64 0, .int .i64 0, .string ⟨#[]⟩] 73) := by simpa using blk_new (w.setCell ⟨gl, 9, none⟩ (.int .i64 (L.made + 1))) _
  have HM1 : Mod B (fun k => k = gl ∨ k = gs) w ((w.setCell ⟨gl, 9, none⟩ (.int .i64 (L.made + 1))).alloc (.cells #[.int .i64 0, .int .i64 0, .int .i64 0, .string ⟨#[]⟩] 73)) := ((Mod.refl B (fun k => k = gl ∨ k = gs) w).setCell hBl (.inl (.inl rfl)) _).alloc (by omega) _
  have A1 := Aside0.mk H1
  have AS1 := Aside0.mk HS1
  have AN1 := Aside0.mk HN1
  have AM1 := Aside0.mk HM1
  have HB' := Aside0.mk hb'
  clear hb hb' H1 HS1 HN1 HM1
  have EY := Lib.hid ey
  clear ey
  go_enter Try.func32, Try.ntmps32
  go_wp2_with (go_at_call 53; refine (blend_any gl gs B { L with made := L.made + 1 } _ (by exact ⟨A1.out, AS1.out⟩) hne hBl hBs (by show 0 ≤ L.y; have := EY.out; omega) (by show L.y ≤ 256; have := EY.out; omega) (by show 0 ≤ L.made + 1; omega) (by show L.made + 1 ≤ 1000000; omega) (by show 0 ≤ L.s; omega) (by show L.s ≤ 10000; omega)).mono ?_; rintro e w3 ⟨rfl, hl3, hmod3⟩; have k3 := hmod3.blk AN1.out hn0; obtain ⟨u0, u1, u2, u3, f0, f1, f2, f3⟩ := cells4 k3; have z3 := blk_lt k3; clear k3; have HM3 := Aside0.mk hmod3; clear hmod3)
  all_goals
    refine bodyPost_ret (v := doP (blendOf { L with made := L.made + 1 }).1) (by simp [results, Try.results32, go_sem, u0, u1, u2, u3]) rfl ⟨rfl, ⟨?_, ?_⟩, ?_⟩
    · exact set_far4 (W := w3) (by exact hl3.1) (by omega)
    · exact set_far4 (W := w3) (by exact hl3.2) (by omega)
    · exact Mod.far4 (AM1.out.trans HM3.out (fun k hk => .inl (.inr hk))) (by omega) (Nat.le_refl _)

theorem made_any (gl gs : Nat) (L : Ld) (w : World) (h : BodyAt w gl gs L) : Calls Try.prog 33 #[.pointer (some ⟨gl, 0, none⟩)] w fun e w' => e = .returned (.int .i64 L.made) ∧ w = w' := by
  have c9 : w.cell? ⟨gl, 9, none⟩ = some (.int .i64 L.made) := blk_cell h 9
  clear h
  go_enter Try.func33, Try.ntmps33
  go_wp2
  go_ret
  exact ⟨rfl, rfl⟩

end Go.Proofs.Ytcfonmbojkolfaa.LoadA
