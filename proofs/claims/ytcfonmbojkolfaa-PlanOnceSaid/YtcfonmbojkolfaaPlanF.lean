/- Law PlanFits: the walk. -/
import Derived.Test.YtcfonmbojkolfaaProg
import Derived.Below
import Derived.Carry
import Derived.Deep.Draws
import Derived.Deep.AppendLies
import Derived.Maps.AppendAt
import Derived.OwnWalk
import Derived.Laws.BytesArg
import Derived.Laws.MakeOwn
import Derived.Laws.OwnMore
import Derived.Deep.OwnRows
import Derived.Tactics
import Derived.Lib.ConvBytes
import Derived.Laws.Slices
import Derived.WalkKit
import Derived.KernelRfl
import Derived.RowKit3
import Derived.Deep.LoopGhost
import Derived.Deep.QuietTactic
import Derived.BigQuiet
import Derived.WideLaws
import Derived.Deep.DeepCutAuto
import Derived.Deep.CutBlock
import Derived.Deep.RegionHeld3
import Derived.Deep.RegionWith
import Derived.Laws.Rows
import Derived.Lib.AppendStr
import Derived.ArgAppend
import Derived.Laws.IdiomCopy
import Derived.OrdersHeld
import Derived.Laws.BitsLemmas
import Derived.Outline
import Derived.RegionTactic
import Derived.Lib.Hide
import Derived.StillTailTactics
import Derived.Deep.RegionWith
import Derived.OpenShut
import Derived.Test.YtcfonmbojkolfaaWWords
import Derived.Test.YtcfonmbojkolfaaPlanE
import Derived.Test.YtcfonmbojkolfaaPNx5
import Derived.Lib.BufferMore
import Derived.Lib.LazyBuf
set_option linter.unusedVariables false
namespace Go.Proofs.Ytcfonmbojkolfaa.Plan
open Go.RowKit Go.Proofs.YtcfonmbojkolfaaW.PrintWords Go.Proofs.Ytcfonmbojkolfaa.Mem Go.Proofs.Ytcfonmbojkolfaa.Own Go.Proofs.Ytcfonmbojkolfaa.Maps Go.Proofs.Ytcfonmbojkolfaa.PN

attribute [local go_sem high] eqA27
theorem int_row {w : World} {B b d : Nat} {S : Nat → Prop} {xs : List Int} (h : w.ownsRow 0 3 1 (.slice (some ⟨b, 0, none⟩) xs.length d) xs.length (nums .i64 xs)) (hb : B ≤ b) (hs : S b) : (I (.slice (some ⟨b, 0, none⟩) xs.length d) xs).P w B S := by
  refine Kd.R_of_own ?_ (fun k hk => by injection hk with hk; subst hk; exact hs)
  have hm : encs (Value.int .i64) xs = nums .i64 xs := rfl
  rw [hm]
  rcases h.2 with ⟨h', _⟩ | ⟨g', cap', cur, h', r⟩
  · cases h'
  · injection h' with e1 e2 e3
    injection e1 with e1
    injection e1 with e1
    subst e1 e3
    exact ⟨h.1, .inr ⟨_, _, cur, rfl, hb, r.2⟩⟩
theorem made_own {w0 w : World} {L : List Asn} (h : Own w0 w L) (n : Nat) (hn : n ≤ 1000000) : Own w0 (w.alloc (.cells (madeCells #[.int .i64 0] n) 3)) (I (.slice (some ⟨w.heap.size, 0, none⟩) n n) (List.replicate n 0) :: L) := by
  have hr := own_made' w 0 3 .i64 n (Nat.zero_le _) (by omega)
  have hz : (List.replicate n (0 : Int)).length = n := List.length_replicate
  have hr2 := int_row (w := w.alloc (.cells (madeCells #[.int .i64 0] n) 3)) (B := w.heap.size) (S := fun k => w.heap.size ≤ k) (b := w.heap.size) (d := n) (xs := List.replicate n 0) (by rw [hz]; rw [hz] at hr; exact hr) (Nat.le_refl _) (Nat.le_refl _)
  rw [hz] at hr2
  exact h.fresh (R := [I (.slice (some ⟨w.heap.size, 0, none⟩) n n) (List.replicate n 0)]) (below_alloc (Below.refl _ _) _) (Hold.one hr2)
theorem own_append {P : Program} {ops : Array Oper} {rest : List Oper} {o : Oper} {a : Act} {Q : Exit → Act → World → Prop} {α : Type} {w0 W : World} {L : List Asn} (d : Kd α) (hgd : o.guard = none) (s x : Operand) (t e : TypeId) (z : Value) (bytes : Nat)
    (ho : o.op = .call { callee := .builtin .append, args := #[s, x], argTypes := #[t, t] })
    (ht : P.underlying t = some (.slice e)) (hinfo : (P.info? e).map (fun i => (i.zero, i.size, i.bytes)) = some (some z, d.sz, bytes)) (hz : z.cells.size = d.sz) (hs0 : 0 < d.sz) (hb0 : 0 < bytes)
    (v : Value) (xs : List α) (p : α) (cs : List Value) (hs : a.eval s = v) (hx : a.eval x = .slice (some ⟨W.heap.size, 0, none⟩) 1 1) (hp : d.M W w0.heap.size (fun _ => False) p cs)
    (HO : Own w0 W (Row d e v xs :: L)) (hl : (xs.length + 1) * bytes ≤ 140737488355328)
    (h : ∀ v1 w1, Own w0 w1 (Row d e v1 (xs ++ [p]) :: L) → wpList P ops Q rest (a.put o.dst v1) w1) :
    wpList P ops Q (o :: rest) a (W.alloc (.cells cs.toArray e)) := by
  obtain ⟨S, hS, hk, f⟩ := HO.head
  refine Kd.R_append d (w0 := W) w0.heap.size hgd s x t e z bytes ho ht hinfo hz hs0 hb0 v xs p cs (fun k => S k ∨ W.heap.size ≤ k) (fun _ => False) hs hx hp (fun k hk => hk.elim) (fun k hk => .inr hk) (Kd.R_mono hS (fun k hk => .inl hk)) (Below.refl _ _) HO.size hl ?_
  intro v1 w1 hR hB hG hat
  refine h v1 w1 (f w1 [Row d e v1 (xs ++ [p])] ⟨hB, hG.size, fun k hk1 hk2 => hG.block k hk1 (fun he => hk2 ?_)⟩ (Hold.one hR))
  exact hS.1 k he.symm
theorem own_append_eq {P : Program} {α : Type} {w0 W : World} {L : List Asn} (d : Kd α) (t ty e : TypeId) (z : Value) (bytes : Nat)
    (ht : P.underlying t = some (.slice e)) (hinfo : (P.info? e).map (fun i => (i.zero, i.size, i.bytes)) = some (some z, d.sz, bytes)) (hz : z.cells.size = d.sz) (hs0 : 0 < d.sz) (hb0 : 0 < bytes)
    (v : Value) (xs : List α) (p : α) (cs : List Value) (hp : d.M W w0.heap.size (fun _ => False) p cs)
    (HO : Own w0 W (Row d e v xs :: L)) (hl : (xs.length + 1) * bytes ≤ 140737488355328) :
    ∃ v1 w1, (Builtin.append_ #[t, t] ty #[v, .slice (some ⟨W.heap.size, 0, none⟩) 1 1]).run P (W.alloc (.cells cs.toArray e)) = .ok v1 w1 ∧ Own w0 w1 (Row d e v1 (xs ++ [p]) :: L) := by
  obtain ⟨S, hS, hk, f⟩ := HO.head
  obtain ⟨h0, inner, hown, hr⟩ := Kd.R_mono (ok' := fun k => S k ∨ W.heap.size ≤ k) hS (fun k hk => .inl hk)
  obtain ⟨i0, hi, hzz⟩ := Option.map_eq_some_iff.1 hinfo
  simp only [Prod.mk.injEq] at hzz
  obtain ⟨hz0, hz1, hz2⟩ := hzz
  have hlen : xs.length + 1 ≤ 140737488355328 := Nat.le_trans (Nat.le_mul_of_pos_right _ hb0) hl
  have hys := d.K_len (d.K_of_M hp)
  have hsz := HO.size
  obtain ⟨v1, w1, hrun, hown1, hg, _, hat⟩ := run_append_own_at (P := P) (W.alloc (.cells cs.toArray e)) w0.heap.size t ty e i0 z d.sz bytes ht hi hz0 hz1 hz2 hz hs0 v xs.length inner (hown.alloc _) ⟨W.heap.size, 0, none⟩ 1 1 cs (by rw [hys]; simp)
    (by simpa using World.news_of_block (cs := cs.toArray) (t := e) (fr := (0, 0)) (heap_alloc_new W (.cells cs.toArray e))) (d.K_one (d.K_of_M hp)) (by simp only [maxLen]; omega) hl (by simp; omega)
  have hB : Below w0.heap.size W w1 := ((Below.refl w0.heap.size W).alloc hsz _).grown hg (by simp; omega) (own_base hown)
  have hG : W.grownBy w1 v.ownBlock := World.grownBy.trans (World.grownBy_alloc W _ _) hg
  have hat' : v1.ownBlock = v.ownBlock ∨ ∃ b, v1.ownBlock = some b ∧ W.heap.size ≤ b := by
    rcases hat with hat | hat
    · exact .inl hat
    · exact .inr ⟨_, hat, by simp⟩
  have hR := Kd.R_appended h0 hr hp (fun k hk => hk.elim) (fun k hk => .inr hk) hown1 hG hat'
  refine ⟨v1, w1, hrun, f w1 [Row d e v1 (xs ++ [p])] ⟨hB, hG.size, fun k hk1 hk2 => hG.block k hk1 (fun he => hk2 ?_)⟩ (Hold.one hR)⟩
  exact hS.1 k he.symm
theorem at_int {w : World} {A : Option Addr} {n : Nat} {l : List Int} (h : Kd.C (Kd.int .i64) w A n l) (i : Int) (h0 : 0 ≤ i) (h1 : i < n) : ∃ ad, A = some ad ∧ w.cell? (ad.add i.toNat) = some (.int .i64 (l.getD i.toNat 0)) :=
  (Kd.reads_of_C (enc := Value.int .i64) (d := (0 : Int)) (h1 := fun _ => rfl) h).at_ i h0 h1
attribute [-go_sem] Builtin.append_
theorem info3 : (Try.prog.info? 3).map (fun i => (i.zero, i.size, i.bytes)) = some (some (.int .i64 0), 1, 8) := by kernel_rfl
theorem row_lt {w0 w : World} {L : List Asn} {b n c : Nat} {xs : List Int} (h : Own w0 w (I (.slice (some ⟨b, 0, none⟩) n c) xs :: L)) : b < w.heap.size := by
  obtain ⟨S, hs, hk, _⟩ := h.head
  exact (hk b (hs.1 b rfl)).2
abbrev LP (BR : Nat) (v : Value) (S : FS) (L : List Asn) : List Asn := I (.slice (some ⟨BR, 0, none⟩) 8 8) S.row :: Ads v S.src :: L
def runF (tg : Int) : List Int → FS → FS
  | [], s => s
  | x :: l, s => runF tg l (stepF tg s x)
set_option maxHeartbeats 8000000 in
set_option maxRecDepth 100000 in
theorem fits_own {w : World} (A : Option Addr) (cc : Nat) (l : List Int) (tg : Int) (hr : Kd.C (Kd.int .i64) w A l.length l) :
    Calls Try.prog 3 #[.slice A l.length cc, .int .i64 tg] w fun e w' => e = .returned (.bool true) ∧ Below w.heap.size w w' := by
  have HR := Aside0.mk hr
  have hm := Kd.C_max hr
  obtain ⟨hb0, hb1, hb2⟩ := b8_is tg
  have HO := Aside0.mk (Own.new w)
  have HBL := Aside0.mk hb0
  clear hr hb0
  go_enter Try.func3, Try.ntmps3
  go_wp2_with fail
  refine (works_own HO.out).mono ?_
  rintro e w1 ⟨rfl, ho⟩
  have HW := Aside0.mk ho
  clear ho HO
  go_wp2_with fail
  refine (decklebook_Below.calls tg 8 (b8 tg) _ HBL.out).mono ?_
  rintro e w2 ⟨rfl, hb⟩
  obtain ⟨t, ht⟩ : ∃ t, t = b8 tg := ⟨_, rfl⟩
  rw [← ht] at hb1 hb2 ⊢
  have HV := Aside0.mk (made_own (HW.out.move hb.below) 8 (by decide))
  obtain ⟨BR, hBR⟩ : ∃ BR, BR = w2.heap.size := ⟨_, rfl⟩
  rw [← hBR] at HV
  have HBR := Lib.hid hBR
  have HX := Aside0.mk (own_swap [_] [_] (HV.out.fresh (R := [Ads (.slice none 0 0) []]) (Below.refl _ _) (Hold.one (Kd.R_nil _ _ _ _ _))))
  clear hb HW HV hBR ht HBL
  have hmb := print_make (P := Try.prog) 22 3 .i64 8 Try.underlying22 info3 (by decide) 8 (by decide)
  rw [show ((8 : Nat) : Int) = 8 from rfl] at hmb
  go_wp2_with fail
  rw [← HBR.out]
  clear hmb
  go_loopw [6, 19] (fun v6 v19 wr => ∃ (i : Nat) (S : FS), i ≤ l.length ∧ v19 = .int .i64 i ∧ Aside0 (FInv t S) ∧ Aside0 (Own w wr (LP BR v6 S []))) (fun _ v19 _ => l.length - (intOf v19).toNat)
  case atStart => exact ⟨0, fs0, by omega, rfl, ⟨fs0_inv t⟩, HX⟩
  case round =>
    clear HX
    obtain ⟨i, S, hi, rfl, HI, HX⟩ := hrel
    by_cases hlt : i < l.length
    · have dl : decide ((i : Int) < (l.length : Nat)) = true := decide_eq_true (by omega)
      obtain ⟨ad, rfl, q0⟩ := at_int (Kd.C_below HR.out HX.out.below) i (by omega) (by omega)
      rw [Int.toNat_natCast] at q0
      obtain ⟨x, hx⟩ : ∃ x, x = l.getD i 0 := ⟨_, rfl⟩
      rw [← hx] at q0
      clear hx
      obtain ⟨hc0, hc1, hc2⟩ := b8_is x
      have HB8 := Aside0.mk hc0
      obtain ⟨r0, r1⟩ := at8_bound HI.out x
      have hst := stepF_inv HI.out x
      unfold stepF at hst
      obtain ⟨n, hn⟩ : ∃ n : Nat, b8 x = (n : Int) := ⟨(b8 x).toNat, by omega⟩
      obtain ⟨r, hr⟩ : ∃ r : Int, r = at8 S x := ⟨_, rfl⟩
      have hae : S.row.getD (b8 x).toNat 0 = r := hr.symm
      rw [← hr] at r0 r1 hst
      rw [hn] at hc1 hc2 hst hae
      rw [Int.toNat_natCast] at hst hae
      have hn8 : n < 8 := by omega
      obtain ⟨z0, z1, z2⟩ := HX.out.cell HI.out.len n hn8
      rw [hae] at z0
      have HAE := Lib.hid hae
      have HSH := HI.out.short
      have HST := Aside0.mk hst
      have HN := Lib.hid hn
      clear hc0 hst hae z2 hr hn hc1 hc2
      go_wp2_with fail
      refine (decklebook_Below.calls x 8 (b8 x) _ HB8.out).mono ?_
      rintro e w3 ⟨rfl, hb⟩
      rw [HN.out]
      have HB := Aside0.mk (HX.out.move hb.below)
      clear HX z0 z1 hb
      obtain ⟨z0, z1, z2⟩ := HB.out.cell HI.out.len n hn8
      rw [HAE.out] at z0
      have hlt2 : BR < w3.heap.size := row_lt HB.out
      clear z2
      by_cases c1 : (n : Int) = t
      · have d1 : ((n : Int) == t) = true := by simpa using c1
        have HS2 := HST.out
        rw [if_pos (Or.inl c1)] at HS2
        have HS3 := Aside0.mk HS2
        clear HST HS2 c1
        go_wp2_with fail
        exact ⟨⟨i + 1, S, by omega, by go_num, HS3, HB⟩, by simp [intOf]; omega⟩
      · have d1 : ((n : Int) == t) = false := by simpa using c1
        by_cases c2 : 18 ≤ r
        · have d2 : decide (18 ≤ r) = true := decide_eq_true c2
          have HS2 := HST.out
          rw [if_pos (Or.inr c2)] at HS2
          have HS3 := Aside0.mk HS2
          clear HST HS2 c1
          go_wp2_with fail
          exact ⟨⟨i + 1, S, by omega, by go_num, HS3, HB⟩, by simp [intOf]; omega⟩
        · have d2 : decide (18 ≤ r) = false := decide_eq_false c2
          have HS2 := HST.out
          rw [if_neg (not_or.mpr ⟨c1, c2⟩)] at HS2
          have HS3 := Aside0.mk HS2
          clear HST HS2 c1
          go_wp2_with fail
          have HD := Aside0.mk HB.out.pull2.drew
          have k1 : (0 : Int) ≤ (n : Int) := by omega
          have k2 : (n : Int) < (8 : Int) := by omega
          have k3 : (n : Int) < ((8 : Nat) : Int) := by omega
          obtain ⟨v1, w4, h4, ho⟩ := own_append_eq (P := Try.prog) k27 25 25 27 (.agg #[.int .i64 0, .int .i64 0, .int .i64 0]) 24 Try.underlying25 info27 rfl (by decide) (by decide) u6 S.src ⟨n, r / 3, r % 3⟩ [.int .i64 n, .int .i64 (r / 3), .int .i64 (r % 3)] (k27_mkM _ _ _ ⟨n, r / 3, r % 3⟩) HD.out (by omega)
          have HN := Aside0.mk ho.pull2
          have h5 : (Builtin.append_ #[25, 25] 25 #[u6, .slice (some ⟨w3.heap.size, 0, none⟩) 1 1]).run Try.prog ((w3.alloc (.cells #[.int .i64 n, .int .i64 (r / 3), .int .i64 (r % 3)] 27)).drew) = .ok v1 w4 := h4
          clear ho h4
          go_region
          clear h5 z0 z1
          obtain ⟨z0, z1, z2⟩ := HN.out.cell HI.out.len n hn8
          rw [HAE.out] at z0
          clear z2
          have HP := Aside0.mk (HN.out.put HI.out.len n (r + 1))
          go_wp2_with fail
          first
            | exact ⟨⟨i + 1, _, by omega, by go_num, HS3, HP⟩, by simp [intOf]; omega⟩
            | (go_roundw
               case rel => exact ⟨i + 1, _, by omega, by go_num, HS3, HP⟩
               case measure => simp [intOf]; omega)
    · obtain rfl : i = l.length := by omega
      have dl : decide (((l.length : Nat) : Int) < (l.length : Nat)) = false := decide_eq_false (by omega)
      have HSH := HI.out.short
      have hmk := fits_make HI.out hb1 hb2
      have HMK := Aside0.mk hmk
      clear hmk
      go_wp2_with fail
      refine (decklelaw25_geo.calls 8 6 64 4 0 4 _ rfl).mono ?_
      rintro e w3 ⟨rfl, hb⟩
      have HU := Aside0.mk (HX.out.move hb).pull2
      clear hb HX
      obtain ⟨Aq, cq, rfl, hcq, hrq⟩ := HU.out.reads
      go_wp2_with fail
      refine (make_any G0 t Aq cq S.src g0_ok (by omega) hcq hrq HU.out).mono ?_
      rintro e w4 (⟨h1, rfl, ho⟩ | ⟨h1, g, Ag, cg, rg, rfl, ho⟩)
      · have HB := Aside0.mk ho.below
        clear ho HU hrq
        rw [HMK.out] at h1 ⊢
        by_cases hL : 18 < S.src.length
        · have d1 : decide (18 < (S.src.length : Int)) = true := decide_eq_true (by omega)
          rw [if_pos hL]
          clear h1
          go_wp2_with fail
          go_ret
          exact ⟨rfl, HB.out⟩
        · rw [if_neg hL] at h1
          exact absurd rfl h1
      · have HB := Aside0.mk ho.below
        clear ho HU hrq
        rw [HMK.out] at h1
        by_cases hL : 18 < S.src.length
        · rw [if_pos hL] at h1
          exact absurd h1 (by decide)
        · have d1 : decide (18 < (S.src.length : Int)) = false := decide_eq_false (by omega)
          clear h1
          go_wp2_with fail
          go_ret
          exact ⟨rfl, HB.out⟩
def decklelaw25_PlanFits.f (_l : List Int) (_t : Int) : Option Bool := some true
theorem decklelaw25_PlanFits.calls (A0 : Option Addr) (c0 : Nat) (l0 : List Int) (a1 : Int) (r : Bool) (w : World) (hr0 : Kd.C (Kd.int .i64) w A0 l0.length l0) (hc0 : l0.length ≤ c0) (h : decklelaw25_PlanFits.f l0 a1 = some r) :
    Calls Try.prog 3 #[.slice A0 l0.length c0, .int .i64 a1] w fun e w' => e = .returned (.bool r) ∧ Below w.heap.size w w' := by
  obtain rfl := Option.some.inj h
  exact fits_own A0 c0 l0 a1 hr0
end Go.Proofs.Ytcfonmbojkolfaa.Plan
