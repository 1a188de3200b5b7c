/- Contracts of package state, by hand: what is read. -/
import Derived.Test.YtiblpienmkjmgaaProg
import Derived.Below
import Derived.Deep.Draws
import Derived.Deep.AppendLies
import Derived.Maps.AppendAt
import Derived.OwnWalk
import Derived.Laws.BytesArg
import Derived.Laws.MakeOwn
import Derived.Laws.OwnMore
import Derived.Deep.OwnRows
import Derived.Tactics
import Derived.Lib.ConvBytes
import Derived.Laws.Slices
import Derived.WalkKit
import Derived.KernelRfl
import Derived.RowKit3
import Derived.Deep.LoopGhost
import Derived.Deep.QuietTactic
import Derived.BigQuiet
import Derived.WideLaws
import Derived.Deep.DeepCutAuto
import Derived.Deep.CutBlock
import Derived.Deep.RegionHeld3
import Derived.Deep.RegionWith
import Derived.Laws.Rows
import Derived.Lib.AppendStr
import Derived.ArgAppend
import Derived.Laws.IdiomCopy
import Derived.OrdersHeld
import Derived.Laws.BitsLemmas
import Derived.Outline
import Derived.RegionTactic
import Derived.Lib.Hide
import Derived.StillTailTactics
import Derived.OpenShut
import Derived.Test.YtiblpienmkjmgaaWWords
import Derived.Test.YtiblpienmkjmgaaWKept
import Derived.Test.YtiblpienmkjmgaaStateD
import Derived.Test.YtiblpienmkjmgaaPSGeomLemmas
import Derived.WalkSpells
import Derived.Lib.BufferMore
import Derived.Test.YtiblpienmkjmgaaPSx7
import Derived.Test.YtiblpienmkjmgaaPSx0
set_option linter.unusedVariables false
namespace Go.Proofs.Ytiblpienmkjmgaa.StateA
open Go.RowKit Go.Proofs.YtiblpienmkjmgaaW.PrintWords Go.Proofs.Ytiblpienmkjmgaa.Mem Go.Proofs.Ytiblpienmkjmgaa.PS

/-- A list's number, 0 of none. -/
def atI (xs : List Int) (i : Int) : Int := if 0 ≤ i ∧ i < xs.length then xs.getD i.toNat 0 else 0

set_option maxHeartbeats 1000000 in
theorem at_any (a c : Nat) (xs : List Int) (i : Int) (w : World) (h : RowAt w a c xs) :
    Calls Try.prog 67 #[.slice (some ⟨a, 0, none⟩) xs.length c, .int .i64 i] w fun e w' => e = .returned (.int .i64 (atI xs i)) ∧ w' = w := by
  unfold atI
  by_cases h0 : i < 0
  · have d0 : decide (i < 0) = true := decide_eq_true h0
    rw [if_neg (by omega)]
    go_enter Try.func67, Try.ntmps67
    go_wp2
    go_ret
    exact ⟨rfl, rfl⟩
  · obtain ⟨n, rfl⟩ : ∃ n : Nat, i = n := ⟨i.toNat, by omega⟩
    have d0 : decide ((n : Int) < 0) = false := decide_eq_false h0
    by_cases h1 : n < xs.length
    · have d1 : decide (((xs.length : Nat) : Int) ≤ (n : Int)) = false := decide_eq_false (by omega)
      rw [if_pos (by omega), Int.toNat_natCast]
      have u := (h.get n h1).1
      have hr := h.room
      go_enter Try.func67, Try.ntmps67
      go_wp2
      go_ret
      exact ⟨rfl, rfl⟩
    · have d1 : decide (((xs.length : Nat) : Int) ≤ (n : Int)) = true := decide_eq_true (by omega)
      rw [if_neg (by omega)]
      go_enter Try.func67, Try.ntmps67
      go_wp2
      go_ret
      exact ⟨rfl, rfl⟩

set_option maxHeartbeats 1000000 in
theorem floor_any (l : Loc) (K : Kp) (i : Int) (w : World) (h : KeepAt w l K) :
    Calls Try.prog 45 #[.pointer (some ⟨l.g, 0, none⟩), .int .i64 i] w fun e w' => e = .returned (.int .i64 (atI K.F i)) ∧ w' = w := by
  obtain ⟨u0, u1, u2, u3, _, _, _, _⟩ := cells4 h.blk
  have H := Aside0.mk h
  clear h
  go_enter Try.func45, Try.ntmps45
  go_wp2_with (go_at_call 67; refine (at_any l.a1 l.c1 K.F i _ H.out.r1).mono ?_; rintro e v1 ⟨rfl, rfl⟩)
  go_ret
  exact ⟨rfl, rfl⟩
set_option maxHeartbeats 1000000 in
theorem commitOf_any (l : Loc) (K : Kp) (i : Int) (w : World) (h : KeepAt w l K) :
    Calls Try.prog 46 #[.pointer (some ⟨l.g, 0, none⟩), .int .i64 i] w fun e w' => e = .returned (.int .i64 (atI K.C i)) ∧ w' = w := by
  obtain ⟨u0, u1, u2, u3, _, _, _, _⟩ := cells4 h.blk
  have H := Aside0.mk h
  clear h
  go_enter Try.func46, Try.ntmps46
  go_wp2_with (go_at_call 67; refine (at_any l.a2 l.c2 K.C i _ H.out.r2).mono ?_; rintro e v1 ⟨rfl, rfl⟩)
  go_ret
  exact ⟨rfl, rfl⟩
set_option maxHeartbeats 2000000 in
theorem wear_any (l : Loc) (K : Kp) (i : Int) (w : World) (h : KeepAt w l K) :
    Calls Try.prog 41 #[.pointer (some ⟨l.g, 0, none⟩), .int .i64 i] w fun e w' => e = .returned (.tuple #[.int .i64 (atI K.S i), .int .i64 (atI K.T i)]) ∧ ∃ n, w' = w.drewN n := by
  obtain ⟨u0, u1, u2, u3, _, _, _, _⟩ := cells4 h.blk
  have H := Aside0.mk h
  clear h
  go_enter Try.func41, Try.ntmps41
  go_wp2
  go_quiet (first | (go_at_call_of 67 (K.S.length); exact Calls.quiet_of_same (at_any l.a3 l.c3 K.S i _ (by exact H.out.r3))) | (go_at_call_of 67 (K.T.length); exact Calls.quiet_of_same (at_any l.a4 l.c4 K.T i _ (by exact H.out.r4))))
  go_wp2
  go_ret2
  exact ⟨rfl, _, rfl⟩
end Go.Proofs.Ytiblpienmkjmgaa.StateA

/- The chapter's example. -/
set_option linter.unusedVariables false
namespace Go.Proofs.Ytiblpienmkjmgaa.StateA
open Go.RowKit Go.Proofs.YtiblpienmkjmgaaW.PrintWords Go.Proofs.Ytiblpienmkjmgaa.Mem Go.Proofs.Ytiblpienmkjmgaa.PS

theorem zeros_getD (n i : Nat) : (zeros n).getD i 0 = 0 := by
  unfold zeros; rw [List.getD_eq_getElem?_getD, List.getElem?_replicate]; split <;> rfl
theorem newK_fine (b s : Nat) (hb0 : 0 < b) (hb : b ≤ 1000000) (hs0 : 0 < s) (hs : s ≤ 1000000) : (newK b s).Fine := by
  refine ⟨⟨?_, ?_, ?_, ?_, ?_, ?_, ?_, ?_⟩, ?_, ?_, ?_, ?_⟩ <;> simp only [newK, zeros_len] <;> first | assumption | (intro x hx; obtain rfl := (List.mem_replicate.1 hx).2; omega) | rfl
theorem apply_to (l : Loc) (B : Nat) (K K' : Kp) (c k a b : Int) (w : World) (ha : applyK K k a b = (K', c)) (h : KeepAt w l K) (hl : l.Apart) (hB : l.From B) (fine : K.Fine) :
    Calls Try.prog 36 #[.pointer (some ⟨l.g, 0, none⟩), recV k a b] w fun e w' => e = .returned (.int .i64 c) ∧ KeepAt w' l K' ∧ Mod B l.Of w w' := by
  have := apply_any l B K k a b w h hl hB fine
  rw [ha] at this
  exact this
theorem Loc.From.mono {l : Loc} {B B' : Nat} (h : l.From B) (hb : B' ≤ B) : l.From B' := by
  obtain ⟨h1, h2, h3, h4, h5⟩ := h
  exact ⟨by omega, by omega, by omega, by omega, by omega⟩

def exK : Kp := ⟨(zeros 4).set 1 5, zeros 8, zeros 8, zeros 8⟩
def exK2 : Kp := ⟨(zeros 4).set 1 5, (zeros 8).set 1 3, zeros 8, zeros 8⟩
theorem ex1 : applyK (newK 8 4) 1 1 5 = (exK, 0) := by
  simp [applyK, MayRec, roomK, newK, zeros_len, exK]; rfl
theorem ex2 : applyK exK 2 1 3 = (exK, 0) := by
  simp [applyK, MayRec, roomK, zeros_len, exK]; rfl
theorem ex3 : applyK exK 1 4 5 = (exK, 110) := by
  simp [applyK, MayRec, roomK, zeros_len, exK]
theorem ex4 : atI exK.F 1 = 5 := by rfl
theorem exK_fine : exK.Fine := by
  have h := newK_fine 8 4 (by omega) (by omega) (by omega) (by omega)
  have := (apply_fine (newK 8 4) 1 1 5 h).1
  rwa [ex1] at this
theorem geo_ok : geom_Check.f 8 ((8 : Nat) : Int) 6 64 ((4 : Nat) : Int) 0 4 = some 0 := by
  rw [check_some _ _ _ _ _ _ (by decide) (by decide) 8 (by omega), if_pos (by decide)]

set_option maxHeartbeats 4000000 in
theorem works_any (w : World) : Calls Try.prog 31 #[] w fun e w' => e = .returned (.bool true) ∧ Below w.heap.size w w' := by
  have HB := Aside0.mk (Below.refl w.heap.size w)
  have t1 : True := trivial
  have t2 : True := trivial
  have t3 : True := trivial
  go_enter Try.func31, Try.ntmps31
  go_wp2_with (first | (go_at_call 33; refine (decklelaw14_geo.calls 8 6 64 4 0 4 _ rfl).mono ?_; rintro e v1 ⟨rfl, hb1⟩; have HB' := Aside0.mk (HB.out.trans (hb1.mono HB.out.size)); clear HB hb1; have HB := HB'; clear HB') | (go_at_call 32; refine (new_ok 8 4 6 64 0 4 _ geo_ok (by omega) (by omega)).mono ?_; rintro e v2 ⟨l, rfl, hk, hl, hB, hb2⟩; have HL := Aside0.mk hl; have HF := Aside0.mk (hB.mono HB.out.size); have HB' := Aside0.mk (HB.out.trans (hb2.mono HB.out.size)); have HK := Aside0.mk hk; clear HB hb2 hl hB hk; have HB := HB'; clear HB') | (go_at_call 45; refine (floor_any l exK 1 _ HK.out).mono ?_; rintro e v4 ⟨rfl, rfl⟩; rw [ex4]) | (go_at_call 36; have _t := t1; refine (apply_to l w.heap.size _ _ _ 1 1 5 _ ex1 HK.out HL.out HF.out (newK_fine 8 4 (by omega) (by omega) (by omega) (by omega))).mono ?_; rintro e v3 ⟨rfl, hk, hm⟩; have HB' := Aside0.mk (HB.out.trans hm.below); have HK' := Aside0.mk hk; clear HB HK hm hk; have HB := HB'; have HK := HK'; clear HB' HK' t1 _t) | (go_at_call 36; have _t := t2; refine (apply_to l w.heap.size _ _ _ 2 1 3 _ ex2 HK.out HL.out HF.out exK_fine).mono ?_; rintro e v3 ⟨rfl, hk, hm⟩; have HB' := Aside0.mk (HB.out.trans hm.below); have HK' := Aside0.mk hk; clear HB HK hm hk; have HB := HB'; have HK := HK'; clear HB' HK' t2 _t) | (go_at_call 36; have _t := t3; refine (apply_to l w.heap.size _ _ _ 1 4 5 _ ex3 HK.out HL.out HF.out exK_fine).mono ?_; rintro e v3 ⟨rfl, hk, hm⟩; have HB' := Aside0.mk (HB.out.trans hm.below); have HK' := Aside0.mk hk; clear HB HK hm hk; have HB := HB'; have HK := HK'; clear HB' HK' t3 _t))
  go_ret
  exact ⟨rfl, HB.out⟩
end Go.Proofs.Ytiblpienmkjmgaa.StateA

/- What a law reads of a state; what records come to, in plain numbers. -/
set_option linter.unusedVariables false
namespace Go.Proofs.Ytiblpienmkjmgaa.StateA
open Go.RowKit Go.Proofs.YtiblpienmkjmgaaW.PrintWords Go.Proofs.Ytiblpienmkjmgaa.Mem Go.Proofs.Ytiblpienmkjmgaa.PS

/-- A state in a variable of the call's own. -/
structure StAt (w : World) (l : Loc) (K : Kp) : Prop where
  blk : w.heap[l.g]? = some (.cells #[.slice (some ⟨l.a1, 0, none⟩) K.F.length l.c1, .slice (some ⟨l.a2, 0, none⟩) K.C.length l.c2, .slice (some ⟨l.a3, 0, none⟩) K.S.length l.c3, .slice (some ⟨l.a4, 0, none⟩) K.T.length l.c4] 69 (0, 0))
  r1 : RowAt w l.a1 l.c1 K.F
  r2 : RowAt w l.a2 l.c2 K.C
  r3 : RowAt w l.a3 l.c3 K.S
  r4 : RowAt w l.a4 l.c4 K.T
theorem StAt.move {w w1 : World} {l : Loc} {K : Kp} (h : StAt w l K) (hm : ∀ k, k < w.heap.size → (k = l.g ∨ l.Of k) → w1.heap[k]? = w.heap[k]?) : StAt w1 l K :=
  ⟨(hm _ (blk_lt h.blk) (.inl rfl)).trans h.blk, h.r1.move (hm _ h.r1.lt (.inr (.inl rfl))), h.r2.move (hm _ h.r2.lt (.inr (.inr (.inl rfl)))), h.r3.move (hm _ h.r3.lt (.inr (.inr (.inr (.inl rfl))))), h.r4.move (hm _ h.r4.lt (.inr (.inr (.inr (.inr rfl)))))⟩
theorem StAt.below {w w1 : World} {l : Loc} {K : Kp} (h : StAt w l K) (hb : Below w.heap.size w w1) : StAt w1 l K := h.move (fun k hk _ => hb.block k hk)
theorem StAt.drewN {w : World} {l : Loc} {K : Kp} (h : StAt w l K) (n : Nat) : StAt (w.drewN n) l K := h.move (fun _ _ _ => rfl)
theorem put4 {W : World} {g : Nat} {z1 z2 z3 z4 : Value} {T : TypeId} (h : W.heap[g]? = some (.cells #[z1, z2, z3, z4] T (0, 0))) (a b c d : Value) :
    ((((W.setCell ⟨g, 0, none⟩ a).setCell ⟨g, 1, none⟩ b).setCell ⟨g, 2, none⟩ c).setCell ⟨g, 3, none⟩ d).heap[g]? = some (.cells #[a, b, c, d] T (0, 0)) :=
  blk_put (blk_put (blk_put (blk_put h 0 a rfl) 1 b rfl) 2 c rfl) 3 d rfl
theorem far4 (W : World) (g k : Nat) (hk : k ≠ g) (a b c d : Value) : ((((W.setCell ⟨g, 0, none⟩ a).setCell ⟨g, 1, none⟩ b).setCell ⟨g, 2, none⟩ c).setCell ⟨g, 3, none⟩ d).heap[k]? = W.heap[k]? := by
  rw [Below.heap_setCell _ _ _ k hk, Below.heap_setCell _ _ _ k hk, Below.heap_setCell _ _ _ k hk, Below.heap_setCell _ _ _ k hk]

set_option maxHeartbeats 1000000 in
theorem whole_any (K : Kp) (b1 b2 b3 b4 d1 d2 d3 d4 : Nat) (w : World) (h1 : K.F.length = 4) (h2 : K.C.length = 8) (h3 : K.S.length = 8) (h4 : K.T.length = 8) :
    Calls Try.prog 35 #[stateV K b1 b2 b3 b4 d1 d2 d3 d4] w fun e w' => e = .returned (.bool true) ∧ Below w.heap.size w w' := by
  unfold stateV
  rw [h1, h2, h3, h4]
  go_enter Try.func35, Try.ntmps35
  go_wp2
  go_ret
  exact ⟨rfl, below_alloc (Below.refl _ _) _⟩

/-! ### records, one by one -/
/-- What is durable behind the first n records. -/
def runK (l : List S73) : Nat → Kp
  | 0 => newK 8 4
  | n + 1 => (applyK (runK l n) (rd_T73 l n).f0 (rd_T73 l n).f1 (rd_T73 l n).f2).1
structure Sized (K : Kp) (n : Int) : Prop where
  fine : K.Fine
  f : K.F.length = 4
  c : K.C.length = 8
  sn : ∀ x ∈ K.S, 0 ≤ x ∧ x ≤ n
  tn : ∀ x ∈ K.T, 0 ≤ x ∧ x ≤ n
theorem Sized.apply {K : Kp} {n : Int} (h : Sized K n) (hn : n ≤ 1000) (k a b : Int) : Sized (applyK K k a b).1 (n + 1) := by
  obtain ⟨f, l1, l2⟩ := apply_fine K k a b h.fine
  refine ⟨f, l1.trans h.f, l2.trans h.c, ?_, ?_⟩
  · have hs : ∀ x ∈ K.S, 0 ≤ x ∧ x ≤ n + 1 := fun x hx => by have := h.sn x hx; omega
    unfold applyK
    split
    · exact hs
    · split
      · exact hs
      · split
        · exact hs
        · split
          · split
            · exact hs
            · refine mem_set hs ?_
              by_cases hi : a.toNat < K.S.length
              · have := h.sn _ (getD_mem hi); omega
              · have e : K.S.getD a.toNat 0 = 0 := by rw [List.getD_eq_getElem?_getD, List.getElem?_eq_none (by omega)]; rfl
                have : 0 ≤ n := by
                  have h0 : 0 < K.S.length := h.fine.s0
                  have := h.sn _ (getD_mem h0); omega
                omega
          · exact hs
  · have hs : ∀ x ∈ K.T, 0 ≤ x ∧ x ≤ n + 1 := fun x hx => by have := h.tn x hx; omega
    unfold applyK
    split
    · exact hs
    · split
      · exact hs
      · split
        · exact hs
        · split
          · split
            · refine mem_set hs ?_
              by_cases hi : a.toNat < K.T.length
              · have := h.tn _ (getD_mem hi); omega
              · have e : K.T.getD a.toNat 0 = 0 := by rw [List.getD_eq_getElem?_getD, List.getElem?_eq_none (by omega)]; rfl
                have : 0 ≤ n := by
                  have h0 : 0 < K.T.length := h.fine.t0
                  have := h.tn _ (getD_mem h0); omega
                omega
            · exact hs
          · exact hs
theorem runK_sized (l : List S73) : ∀ n : Nat, n ≤ 1000 → Sized (runK l n) n
  | 0, _ => ⟨newK_fine 8 4 (by omega) (by omega) (by omega) (by omega), zeros_len 4, zeros_len 8, fun x hx => by obtain rfl := (List.mem_replicate.1 hx).2; omega, fun x hx => by obtain rfl := (List.mem_replicate.1 hx).2; omega⟩
  | n + 1, h => by
    have := (runK_sized l n (by omega)).apply (by omega) (rd_T73 l n).f0 (rd_T73 l n).f1 (rd_T73 l n).f2
    push_cast
    exact this
end Go.Proofs.Ytiblpienmkjmgaa.StateA

/- How much a record raises: in plain numbers. -/
set_option linter.unusedVariables false
namespace Go.Proofs.Ytiblpienmkjmgaa.StateA
open Go.RowKit Go.Proofs.YtiblpienmkjmgaaW.PrintWords Go.Proofs.Ytiblpienmkjmgaa.Mem Go.Proofs.Ytiblpienmkjmgaa.PS

theorem getD_set (xs : List Int) (p i : Nat) (v : Int) : (xs.set p v).getD i 0 = if i = p ∧ p < xs.length then v else xs.getD i 0 := by
  rw [List.getD_eq_getElem?_getD, List.getElem?_set]
  by_cases h : p = i
  · subst h
    by_cases h2 : p < xs.length
    · simp [h2]
    · simp [h2]
  · rw [if_neg h, if_neg (by omega), List.getD_eq_getElem?_getD]
def gain (K K' : Kp) : Nat → Int
  | 0 => 0
  | i + 1 => gain K K' i + ((K'.S.getD i 0 - K.S.getD i 0) + (K'.T.getD i 0 - K.T.getD i 0))
structure Rise (K K' : Kp) (more : Int) : Prop where
  f : ∀ i : Nat, K.F.getD i 0 ≤ K'.F.getD i 0
  s : ∀ i : Nat, 0 ≤ K'.S.getD i 0 - K.S.getD i 0 ∧ K'.S.getD i 0 - K.S.getD i 0 ≤ 1
  t : ∀ i : Nat, 0 ≤ K'.T.getD i 0 - K.T.getD i 0 ∧ K'.T.getD i 0 - K.T.getD i 0 ≤ 1
  g : gain K K' 8 = more
theorem gain_same (K K' : Kp) (hs : K'.S = K.S) (ht : K'.T = K.T) : ∀ n, gain K K' n = 0
  | 0 => rfl
  | n + 1 => by unfold gain; rw [gain_same K K' hs ht n, hs, ht]; omega
theorem rise_same (K K' : Kp) (hf : ∀ i : Nat, K.F.getD i 0 ≤ K'.F.getD i 0) (hs : K'.S = K.S) (ht : K'.T = K.T) : Rise K K' 0 :=
  ⟨hf, fun i => by rw [hs]; omega, fun i => by rw [ht]; omega, gain_same K K' hs ht 8⟩
theorem gain_one (K K' : Kp) (p : Nat) (hd : ∀ i : Nat, (K'.S.getD i 0 - K.S.getD i 0) + (K'.T.getD i 0 - K.T.getD i 0) = if i = p then 1 else 0) : ∀ n, gain K K' n = if p < n then 1 else 0
  | 0 => by simp [gain]
  | n + 1 => by
    unfold gain
    rw [gain_one K K' p hd n, hd n]
    split <;> split <;> split <;> omega
theorem rise_apply {K : Kp} {n : Int} (h : Sized K n) (hn : n ≤ 1000) (k a b : Int) :
    Rise K (applyK K k a b).1 (if (applyK K k a b).2 = 0 ∧ k = 4 then 1 else 0) := by
  have l1 := h.fine.sc
  have l2 := h.fine.tc
  unfold applyK
  by_cases c1 : MayRec k a b
  · rw [if_neg (by simpa using c1)]
    by_cases c2 : roomK K k ≤ a
    · rw [if_pos c2, if_neg (by simp)]
      exact rise_same _ _ (fun i => Int.le_refl _) rfl rfl
    · rw [if_neg c2]
      by_cases c3 : k = 3
      · rw [if_pos c3, if_neg (by omega)]
        exact rise_same _ _ (fun i => Int.le_refl _) rfl rfl
      · rw [if_neg c3]
        by_cases c4 : k = 4
        · subst c4
          have ha : 0 ≤ a := by unfold MayRec at c1; omega
          have hr : a < K.C.length := by unfold roomK at c2; rw [if_neg (by omega)] at c2; omega
          rw [if_pos rfl]
          by_cases c5 : b = 2
          · rw [if_pos c5, if_pos ⟨rfl, rfl⟩]
            have hb := h.tn _ (getD_mem (i := a.toNat) (xs := K.T) (by omega))
            have ht : ∀ i : Nat, (K.T.set a.toNat (min (K.T.getD a.toNat 0 + 1) 16777215)).getD i 0 - K.T.getD i 0 = if i = a.toNat then 1 else 0 := fun i => by
              rw [getD_set]
              by_cases e : i = a.toNat
              · rw [if_pos ⟨e, by omega⟩, if_pos e, e]; omega
              · rw [if_neg (by omega), if_neg e]; omega
            refine ⟨fun i => Int.le_refl _, fun i => by simp, fun i => ?_, ?_⟩
            · show 0 ≤ (K.T.set _ _).getD i 0 - K.T.getD i 0 ∧ (K.T.set _ _).getD i 0 - K.T.getD i 0 ≤ 1
              rw [ht]; split <;> omega
            · rw [gain_one K _ a.toNat (fun i => by show K.S.getD i 0 - K.S.getD i 0 + ((K.T.set _ _).getD i 0 - K.T.getD i 0) = _; rw [ht]; split <;> omega), if_pos (by have := h.c; omega)]
          · rw [if_neg c5, if_pos ⟨rfl, rfl⟩]
            have hb := h.sn _ (getD_mem (i := a.toNat) (xs := K.S) (by omega))
            have ht : ∀ i : Nat, (K.S.set a.toNat (min (K.S.getD a.toNat 0 + 1) 16777215)).getD i 0 - K.S.getD i 0 = if i = a.toNat then 1 else 0 := fun i => by
              rw [getD_set]
              by_cases e : i = a.toNat
              · rw [if_pos ⟨e, by omega⟩, if_pos e, e]; omega
              · rw [if_neg (by omega), if_neg e]; omega
            refine ⟨fun i => Int.le_refl _, fun i => ?_, fun i => by simp, ?_⟩
            · show 0 ≤ (K.S.set _ _).getD i 0 - K.S.getD i 0 ∧ (K.S.set _ _).getD i 0 - K.S.getD i 0 ≤ 1
              rw [ht]; split <;> omega
            · rw [gain_one K _ a.toNat (fun i => by show (K.S.set _ _).getD i 0 - K.S.getD i 0 + (K.T.getD i 0 - K.T.getD i 0) = _; rw [ht]; split <;> omega), if_pos (by have := h.c; omega)]
        · rw [if_neg c4, if_neg (by omega)]
          refine rise_same _ _ (fun i => ?_) rfl rfl
          show K.F.getD i 0 ≤ (K.F.set _ _).getD i 0
          rw [getD_set]
          split
          · rename_i e; rw [e.1]; omega
          · omega
  · rw [if_pos (by simpa using c1), if_neg (by simp)]
    exact rise_same _ _ (fun i => Int.le_refl _) rfl rfl
theorem gain_bounds {K K' : Kp} {m : Int} (h : Rise K K' m) : ∀ n : Nat, 0 ≤ gain K K' n ∧ gain K K' n ≤ 2 * n
  | 0 => by simp [gain]
  | n + 1 => by
    have := gain_bounds h n
    have := h.s n
    have := h.t n
    unfold gain
    omega
end Go.Proofs.Ytiblpienmkjmgaa.StateA
