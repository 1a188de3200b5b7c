/- The example of chapter 41 holds: works. -/
import Derived.Test.YtcfonmbojkolfaaLoadE
set_option linter.unusedVariables false
namespace Go.Proofs.Ytcfonmbojkolfaa.LoadA
open Go.RowKit Go.Proofs.YtcfonmbojkolfaaW.PrintWords Go.Proofs.Ytcfonmbojkolfaa.Mem Go.Proofs.Ytcfonmbojkolfaa.PL

def W0 : Ld := startOf 9 10 64 12 1 4 1 0
def W1 : Ld := (nextOf W0).2
def W2 : Ld := (nextOf W1).2
def wd1 : ByteArray := (nextOf W0).1.2.2.2
def wd2 : ByteArray := (nextOf W1).1.2.2.2

theorem next_is (gl gs B : Nat) (L L' : Ld) (k q n : Int) (s : ByteArray) (w : World) (hd : nextOf L = ((k, q, n, s), L')) (h : LoadAt w gl gs L) (hne : gl ≠ gs) (hBl : B ≤ gl) (hBs : B ≤ gs) (hy0 : 0 ≤ L.y) (hy : L.y ≤ 256) (hm : 0 ≤ L.made) (hm2 : L.made < 1000000) (hs : 1 ≤ L.s) (hs2 : L.s ≤ 10000) (ha : 0 ≤ L.at_) (ha2 : L.at_ ≤ 10000) :
    Calls Try.prog 32 #[.pointer (some ⟨gl, 0, none⟩)] w fun e w' => e = .returned (doV k q n s) ∧ LoadAt w' gl gs L' ∧ Mod B (fun k => k = gl ∨ k = gs) w w' := by
  have := next_load gl gs B L w h hne hBl hBs hy0 hy hm hm2 hs hs2 ha ha2
  rw [hd] at this
  exact this

theorem geo41_any (w : World) : Calls Try.prog 34 #[] w fun e w' => e = .returned (.agg #[.int .i64 9, .int .i64 10, .int .i64 64, .int .i64 12, .int .i64 1, .int .i64 4]) ∧ Below w.heap.size w w' := by
  go_enter Try.func34, Try.ntmps34
  go_wp2
  refine bodyPost_ret (v := .agg #[.int .i64 9, .int .i64 10, .int .i64 64, .int .i64 12, .int .i64 1, .int .i64 4]) (by simp [results, Try.results34, go_sem]) rfl ⟨rfl, ?_⟩
  repeat (refine Below.setCell ?_ (by exact Nat.le_refl _) _)
  exact below_alloc (Below.refl _ _) _

theorem works_any (w : World) : Calls Try.prog 29 #[] w fun e w' => e = .returned (.bool true) ∧ Below w.heap.size w w' := by
  have hd0 : nextOf W0 = ((2, 0, 0, wd1), W1) := rfl
  have hd1 : nextOf W1 = ((2, 1, 0, wd2), W2) := rfl
  have HD0 := Lib.hid hd0
  have HD1 := Lib.hid hd1
  have hg : GeoOk 9 10 64 12 1 4 := by decide +kernel
  have HG := Lib.hid hg
  have h1 : ((wd1.size : Int) == 64) = true := by decide +kernel
  have h2 : 3 ≤ wd1.size := by decide +kernel
  have h3 : (wd1.extract 0 3).toList = [1, 2, 3] := by decide +kernel
  have h4 : (nextNum 1 == 1082269761) = true := by decide +kernel
  have h5 : (W2.made == 2) = true := by decide +kernel
  clear hd0 hd1 hg
  have tok1 : True := trivial
  go_enter Try.func29, Try.ntmps29
  go_wp2_with (first | (go_at_call 34; refine (geo41_any _).mono ?_; rintro e w1 ⟨rfl, hb1⟩; have HB1 := Aside0.mk hb1; clear hb1) | (go_at_call 31; refine (new_ok 9 10 64 12 1 4 1 0 _ (by decide) (by decide) HG.out (by omega) (by omega) (by omega)).mono ?_; rintro e w2 ⟨gl, gs, rfl, hl, hne, hgl, hgs, hb2⟩; have hgl0 : w.heap.size ≤ gl := Nat.le_trans HB1.out.size hgl; have hgs0 : w.heap.size ≤ gs := Nat.le_trans HB1.out.size hgs; have HB2 := Aside0.mk hb2; clear hb2 hgl hgs) | (go_at_call 32; have _t := tok1; refine (next_is gl gs w.heap.size W0 W1 2 0 0 wd1 _ HD0.out hl hne hgl0 hgs0 (by decide) (by decide) (by decide) (by decide) (by decide) (by decide) (by decide) (by decide)).mono ?_; rintro e w3 ⟨rfl, hl3, hm3⟩; have HM3 := Aside0.mk hm3; clear hm3 tok1 _t) | (go_at_call 32; refine (next_is gl gs w.heap.size W1 W2 2 1 0 wd2 _ HD1.out hl3 hne hgl0 hgs0 (by decide) (by decide) (by decide) (by decide) (by decide) (by decide) (by decide) (by decide)).mono ?_; rintro e w4 ⟨rfl, hl4, hm4⟩; have HM4 := Aside0.mk hm4; clear hm4) | (go_at_call 23; refine (newsource_any 0 _ (by omega)).mono ?_; rintro e w5 ⟨rfl, rfl⟩) | (go_at_call 27; refine (next_any (w4.heap.size + 1 + 1) w.heap.size 1 _ (by have e := blk_new ((w4.alloc (.cells #[.int .i64 2, .int .i64 0, .int .i64 0, .string wd1] 73)).alloc (.cells #[.int .i64 2, .int .i64 1, .int .i64 0, .string wd2] 73)) (.cells #[.int .u64 1] 93); rw [World.size_alloc, World.size_alloc] at e; exact e) (by have a1 := HB1.out.size; have a2 := HB2.out.size; have a3 := HM3.out.size; have a4 := HM4.out.size; omega)).mono ?_; rintro e w6 ⟨rfl, hs6, hm6⟩; have hl6 := hm6.blk (blk_alloc (blk_alloc (blk_alloc hl4.1 _) _) _) (by have a1 := blk_lt hl4.1; omega); have HM6 := Aside0.mk hm6; clear hm6 hs6) | (go_at_call 33; refine (made_any gl gs W2 _ hl6).mono ?_; rintro e w7 ⟨rfl, rfl⟩))
  go_ret
  have a1 := HB1.out.size
  have a2 := HB2.out.size
  have a3 := HM3.out.size
  have a4 := HM4.out.size
  have b4 : Below w.heap.size w w4 := ((HB1.out.trans (HB2.out.mono a1)).trans HM3.out.below).trans HM4.out.below
  exact ⟨rfl, (((b4.alloc (by omega) _).alloc (by simp; omega) _).alloc (by simp; omega) _).trans HM6.out.below⟩
end Go.Proofs.Ytcfonmbojkolfaa.LoadA
