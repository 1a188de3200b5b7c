/- The law's proof: words, contracts of the functions that it reaches, plain lemmas. -/
import Derived.Test.YtcfonmbojkolfaaProg
import Derived.Below
import Derived.Carry
import Derived.Deep.Draws
import Derived.Deep.AppendLies
import Derived.Maps.AppendAt
import Derived.OwnWalk
import Derived.Laws.BytesArg
import Derived.Laws.MakeOwn
import Derived.Laws.OwnMore
import Derived.Deep.OwnRows
import Derived.Tactics
import Derived.Lib.ConvBytes
import Derived.Laws.Slices
import Derived.WalkKit
import Derived.KernelRfl
import Derived.RowKit3
import Derived.Deep.LoopGhost
import Derived.Deep.QuietTactic
import Derived.BigQuiet
import Derived.WideLaws
import Derived.Deep.DeepCutAuto
import Derived.Deep.CutBlock
import Derived.Deep.RegionHeld3
import Derived.Deep.RegionWith
import Derived.Laws.Rows
import Derived.Lib.AppendStr
import Derived.ArgAppend
import Derived.Laws.IdiomCopy
import Derived.OrdersHeld
import Derived.Laws.BitsLemmas
import Derived.Outline
import Derived.RegionTactic
import Derived.Lib.Hide
import Derived.StillTailTactics
import Derived.OpenShut
import Derived.Test.YtcfonmbojkolfaaPm3
import Derived.Test.YtcfonmbojkolfaaPm8
import Derived.Test.YtcfonmbojkolfaaPm6
import Derived.Lib.BufferMore
import Derived.Lib.LazyBuf
import Derived.Test.YtcfonmbojkolfaaPm10
section
/- Package plan, by hand: addresses, geometries, the closure page, clones. -/
set_option linter.unusedVariables false
set_option linter.unusedSimpArgs false
namespace Go.Proofs.Ytcfonmbojkolfaa.Plan
open Go.RowKit Go.Proofs.YtcfonmbojkolfaaW.PrintWords Go.Proofs.Ytcfonmbojkolfaa.Mem Go.Proofs.Ytcfonmbojkolfaa.Own Go.Proofs.Ytcfonmbojkolfaa.Maps Go.Proofs.Ytcfonmbojkolfaa.PN

abbrev Tri := Int × Int × Int
theorem eq_tri (x y : Tri) (w : World) : (Op.equal 27 (tri x) (tri y)).run Try.prog w = .ok (decide (x = y)) w := by
  obtain ⟨a, b, c⟩ := x
  obtain ⟨d, e, f⟩ := y
  have h := eqA_of (P := Try.prog) (d := 9999) (w := w) (xs := #[.int .i64 a, .int .i64 b, .int .i64 c]) (ys := #[.int .i64 d, .int .i64 e, .int .i64 f]) Try.underlying27 (by kernel_rfl)
    (eqf_cons (by kernel_rfl) (by kernel_rfl) (by kernel_rfl) (by kernel_rfl : (Op.equalIn 9999 3 (.int .i64 a) (.int .i64 d)).run Try.prog w = .ok (a == d) w)
      (eqf_cons (by kernel_rfl) (by kernel_rfl) (by kernel_rfl) (by kernel_rfl : (Op.equalIn 9999 3 (.int .i64 b) (.int .i64 e)).run Try.prog w = .ok (b == e) w)
        (eqf_last (by kernel_rfl) (by kernel_rfl) (by kernel_rfl) (by kernel_rfl : (Op.equalIn 9999 3 (.int .i64 c) (.int .i64 f)).run Try.prog w = .ok (c == f) w))))
  have e : (a == d && (b == e && c == f)) = decide ((a, b, c) = (d, e, f)) := by
    rw [Bool.eq_iff_iff]; simp
  rw [e] at h
  exact h
theorem chk_tri (b : Bool) (x : Tri) (w : World) : (Instr.checkKey b 10000 27 (tri x)).run Try.prog w = .ok () w := by kernel_rfl
theorem keyT : Key Try.prog 27 tri := key_tri Try.underlying27 chk_tri eq_tri
theorem zero3 (w : World) : (zeroValue 3).run Try.prog w = .ok (.int .i64 0) w := by kernel_rfl
theorem info27 : (Try.prog.info? 27).map (fun i => (i.zero, i.size, i.bytes)) = some (some (.agg #[.int .i64 0, .int .i64 0, .int .i64 0]), 3, 24) := by kernel_rfl
structure G6 where
  b : Int
  l : Int
  y : Int
  s : Int
  p : Int
  w : Int
def G6.Ok (G : G6) : Prop := GeoOk G.b G.l G.y G.s G.p G.w
theorem G6.Ok.wf {G : G6} (h : G.Ok) : (Lit.int .i64 G.b).wf = true ∧ (Lit.int .i64 G.l).wf = true := by
  have hs := h.1
  unfold SizesOk at hs
  exact ⟨WalkArith.wf_i64 (by omega), WalkArith.wf_i64 (by omega)⟩
abbrev geoV (G : G6) : Value := .agg #[.int .i64 G.b, .int .i64 G.l, .int .i64 G.y, .int .i64 G.s, .int .i64 G.p, .int .i64 G.w]
abbrev geoC (G : G6) : Obj := .cells #[.int .i64 G.b, .int .i64 G.l, .int .i64 G.y, .int .i64 G.s, .int .i64 G.p, .int .i64 G.w] 33 (0, 0)
/-- A page of a geometry. -/
def PageIn (G : G6) (a : Tri) : Prop := (0 ≤ a.1 ∧ a.1 < G.b) ∧ (0 ≤ a.2.1 ∧ a.2.1 < G.l) ∧ (0 ≤ a.2.2 ∧ a.2.2 < 3)
instance (G : G6) (a : Tri) : Decidable (PageIn G a) := by unfold PageIn; infer_instance
def numOf (G : G6) (a : Tri) : Int := (a.1 * G.l + a.2.1) * 3 + a.2.2
theorem number_is {G : G6} (hok : G.Ok) (a : Tri) : geom_Number.f 8 G.b G.l G.y G.s G.p G.w a.1 a.2.1 a.2.2 = some (if PageIn G a then (numOf G a, 0) else (0, 1)) := by
  have hs := hok.1
  unfold SizesOk at hs
  have hb : (Lit.int .i64 G.b).wf = true := WalkArith.wf_i64 (by omega)
  have hl : (Lit.int .i64 G.l).wf = true := WalkArith.wf_i64 (by omega)
  unfold geom_Number.f
  rw [check_some _ _ _ _ _ _ hb hl 8 (Nat.le_refl _), if_pos (show GeoOk G.b G.l G.y G.s G.p G.w from hok)]
  simp only [Option.bind_some, if_true, within_some]
  rw [all_some 8 _ (by simp) (by simp)]
  simp only [Option.bind_some]
  rw [w64 (x := G.b - 1) (by omega) (by omega), w64 (x := G.l - 1) (by omega) (by omega)]
  by_cases h : PageIn G a
  · have h' := h
    obtain ⟨⟨h1, h2⟩, ⟨h3, h4⟩, h5, h6⟩ := h'
    rw [if_pos h, if_pos (by simp; omega)]
    have m1 : a.1 * G.l ≤ 64 * 64 := Int.mul_le_mul (by omega) (by omega) (by omega) (by omega)
    have m0 : 0 ≤ a.1 * G.l := Int.mul_nonneg h1 (by omega)
    unfold numOf
    rw [w64 (x := a.1 * G.l) (by omega) (by omega), w64 (x := a.1 * G.l + a.2.1) (by omega) (by omega), w64 (x := (a.1 * G.l + a.2.1) * 3) (by omega) (by omega), w64 (by omega) (by omega)]
  · rw [if_neg h, if_neg]
    intro hc
    apply h
    simp at hc
    unfold PageIn
    omega
theorem cells6 {w : World} {g : Nat} {a b c d e f : Value} {T : TypeId} (k : w.heap[g]? = some (.cells #[a, b, c, d, e, f] T (0, 0))) : w.cell? ⟨g, 0, none⟩ = some a ∧ w.cell? ⟨g, 1, none⟩ = some b ∧ w.cell? ⟨g, 2, none⟩ = some c ∧ w.cell? ⟨g, 3, none⟩ = some d ∧ w.cell? ⟨g, 4, none⟩ = some e ∧ w.cell? ⟨g, 5, none⟩ = some f :=
  ⟨blk_cell k 0, blk_cell k 1, blk_cell k 2, blk_cell k 3, blk_cell k 4, blk_cell k 5⟩
theorem cells3 {w : World} {g : Nat} {a b c : Value} {T : TypeId} (k : w.heap[g]? = some (.cells #[a, b, c] T (0, 0))) : w.cell? ⟨g, 0, none⟩ = some a ∧ w.cell? ⟨g, 1, none⟩ = some b ∧ w.cell? ⟨g, 2, none⟩ = some c := ⟨blk_cell k 0, blk_cell k 1, blk_cell k 2⟩
theorem hold_perm {w : World} {b : Nat} {L R : List Asn} (hp : L.Perm R) : ∀ S, Hold w b L S → Hold w b R S := by
  induction hp with
  | nil => exact fun _ h => h
  | cons x _ ih => exact fun _ h => Hold.cons ih h
  | swap x y l => exact fun _ h => Hold.swap h
  | trans _ _ ih1 ih2 => exact fun S h => ih2 S (ih1 S h)
theorem own_swap {w0 w : World} (A B : List Asn) {L : List Asn} (h : Own w0 w (A ++ (B ++ L))) : Own w0 w (B ++ (A ++ L)) := by
  refine h.map (hold_perm ?_)
  rw [← List.append_assoc, ← List.append_assoc]
  exact List.Perm.append_right L List.perm_append_comm
abbrev tOf (a : S27) : Tri := (a.f0, a.f1, a.f2)
abbrev Ads (v : Value) (xs : List S27) : Asn := Row k27 27 v xs
theorem row_form {α : Type} {d : Kd α} {e : Nat} {w0 w : World} {L : List Asn} {v : Value} {xs : List α} (h : Own w0 w (Row d e v xs :: L)) : ∃ A c, v = .slice A xs.length c ∧ xs.length ≤ c ∧ Own w0 w (Row d e (.slice A xs.length c) xs :: L) := by
  obtain ⟨A, c, rfl, hc, _⟩ := h.reads
  exact ⟨A, c, rfl, hc, h⟩
section
variable {w0 w : World} {L : List Asn}
set_option maxHeartbeats 2000000 in
theorem page_own {G : G6} (BG : Nat) (a : Tri) (hok : G.Ok) (HO : Own w0 w (Pt BG (geoC G) :: L)) :
    Calls Try.prog 36 #[tri a, .pointer (some ⟨BG, 0, none⟩)] w fun e w' => e = .returned (.bool (decide (PageIn G a))) ∧ Own w0 w' (Pt BG (geoC G) :: L) := by
  have hlt := blk_lt HO.pt
  have hn := number_is hok a
  obtain ⟨x0, x1, x2, x3, x4, x5⟩ := cells6 HO.pt
  obtain ⟨a0, a1, a2⟩ := a
  have HO' := Aside0.mk (HO.alloc' (.cells #[.int .i64 a0, .int .i64 a1, .int .i64 a2] 27))
  clear HO hok
  by_cases hp : PageIn G (a0, a1, a2)
  all_goals
    first | rw [if_pos hp] at hn | rw [if_neg hp] at hn
    first | rw [decide_eq_true hp] | rw [decide_eq_false hp]
    have HN := Lib.hid hn
    clear hn hp
    go_enter Try.func36, Try.ntmps36
    go_wp2_with fail
    refine (geom_Number.calls 8 G.b G.l G.y G.s G.p G.w a0 a1 a2 _ _ _ HN.out).mono ?_
    rintro e w1 ⟨rfl, hb⟩
    have HB := Aside0.mk (HO'.out.move hb)
    clear hb
    go_wp2_with fail
    go_ret
    exact ⟨rfl, HB.out⟩
theorem own_append_rows {P : Program} {ops : Array Oper} {rest : List Oper} {o : Oper} {a : Act} {Q : Exit → Act → World → Prop} {W : World} (hgd : o.guard = none) (s x : Operand) (t e : TypeId) (z : Value) (bytes : Nat)
    (ho : o.op = .call { callee := .builtin .append, args := #[s, x], argTypes := #[t, t] })
    (ht : P.underlying t = some (.slice e)) (hinfo : (P.info? e).map (fun i => (i.zero, i.size, i.bytes)) = some (some z, 3, bytes)) (hz : z.cells.size = 3) (hb0 : 0 < bytes)
    (v : Value) (xs ys : List S27) (A : Option Addr) (m c : Nat) (hs : a.eval s = v) (hx : a.eval x = .slice A m c) (HR : Kd.C k27 W A m ys)
    (HO : Own w0 W (Row k27 e v xs :: L)) (hl : (xs.length + m) * bytes ≤ 140737488355328)
    (h : ∀ v1 w1, Own w0 w1 (Row k27 e v1 (xs ++ ys) :: L) → wpList P ops Q rest (a.put o.dst v1) w1) : wpList P ops Q (o :: rest) a W := by
  obtain ⟨S, hS, hk, f⟩ := HO.head
  refine Kd.R_append_rows k27 (Rr := k27.K W) (w0 := W) w0.heap.size hgd s x t e z bytes ho ht hinfo hz (by decide) hb0 v xs ys A m c (fun k => S k ∨ W.heap.size ≤ k) (fun _ => False) hs hx (Kd.R_mono hS (fun k hk => .inl hk)) HR
    (fun x cs hK => by obtain rfl := k27_open hK; exact k27_mkM _ _ _ x) (fun k hk => hk.elim) (fun k hk => .inr hk) (Below.refl _ _) HO.size hl ?_
  intro v1 w1 hR hB hG hat
  refine h v1 w1 (f w1 [Row k27 e v1 (xs ++ ys)] ⟨hB, hG.size, fun k hk1 hk2 => hG.block k hk1 (fun he => hk2 ?_)⟩ (Hold.one hR))
  exact hS.1 k he.symm
theorem lit_nil (w : World) : k27.R 27 (w.alloc (.cells #[] 27)) w.heap.size (fun k => w.heap.size ≤ k) (.slice (some ⟨w.heap.size, 0, none⟩) 0 0) [] :=
  ⟨fun k hk => by simp [Value.ownBlock] at hk; omega, [], show (w.alloc (.cells #[] 27)).ownsRow w.heap.size 27 3 (.slice (some ⟨w.heap.size, 0, none⟩) 0 0) 0 [] by simpa using World.ownsRow_lit (base := w.heap.size) (e := 27) (size := 3) w #[] 0 (Nat.le_refl _) (by simp [maxLen]) (by simp), Reps.none _ _⟩
set_option maxHeartbeats 2000000 in
set_option maxRecDepth 100000 in
theorem clone_own (A : Option Addr) (c : Nat) (xs : List S27) (hl : xs.length ≤ 1000000) (hr : Kd.C k27 w A xs.length xs) (HO : Own w0 w L) :
    Calls Try.prog 38 #[.slice A xs.length c] w fun e w' => ∃ v, e = .returned v ∧ Own w0 w' (Ads v xs :: L) := by
  have kn := fun (W : World) => run_eql_slice_nil (P := Try.prog) W 25 27 A xs.length c Try.underlying25
  have HR := Aside0.mk hr
  have HO := Aside0.mk HO
  clear hr
  cases A with
  | none =>
    have hx : xs = [] := by
      have := HR.out
      cases xs with
      | nil => rfl
      | cons x l => obtain ⟨_, _, h⟩ := this; obtain ⟨ad, h1, _⟩ := h (by simp); cases h1
    subst hx
    clear kn
    have kn := fun (W : World) => run_eql_slice_nil (P := Try.prog) W 25 27 none 0 c Try.underlying25
    simp only [Option.isNone_none] at kn
    go_enter Try.func38, Try.ntmps38
    go_wp2_with fail
    go_ret
    exact ⟨_, rfl, HO.out.fresh (R := [Ads (.slice none 0 0) []]) (Below.refl _ _) (Hold.one (Kd.R_nil _ _ _ _ _))⟩
  | some ad =>
    simp only [Option.isNone_some] at kn
    go_enter Try.func38, Try.ntmps38
    have HL := Aside0.mk (HO.out.fresh (R := [Ads (.slice (some ⟨w.heap.size, 0, none⟩) 0 0) []]) (below_alloc (Below.refl _ _) (.cells #[] 27)) (Hold.one (lit_nil w)))
    have HC := Aside0.mk (Kd.C_below HR.out (below_alloc (Below.refl _ _) (.cells #[] 27)))
    go_wp2_with (at_builtin; refine own_append_rows (w0 := w0) rfl (.tmp 5) (.tmp 6) 25 27 (.agg #[.int .i64 0, .int .i64 0, .int .i64 0]) 24 rfl Try.underlying25 info27 rfl (by decide) (.slice (some ⟨w.heap.size, 0, none⟩) 0 0) [] xs (some ad) xs.length c rfl rfl HC.out HL.out (by simp; omega) ?_; intro v1 w1 ho; have HN := Aside0.mk ho; clear ho)
    go_ret
    exact ⟨_, rfl, HN.out⟩
end
end Go.Proofs.Ytcfonmbojkolfaa.Plan
end

section
/- Package plan, by hand: what a plan tells. -/
set_option linter.unusedVariables false
set_option linter.unusedSimpArgs false
namespace Go.Proofs.Ytcfonmbojkolfaa.Plan
open Go.RowKit Go.Proofs.YtcfonmbojkolfaaW.PrintWords Go.Proofs.Ytcfonmbojkolfaa.Mem Go.Proofs.Ytcfonmbojkolfaa.Own Go.Proofs.Ytcfonmbojkolfaa.Maps Go.Proofs.Ytcfonmbojkolfaa.PN

/-- A plan: lines, target, sources, where each stands. -/
structure PlS where
  ln : Int
  tg : Int
  src : List S27
  m : List (Tri × Int)
abbrev plC (S : PlS) (A : Option Addr) (c r : Nat) : Obj := .cells #[.int .i64 S.ln, .int .i64 S.tg, .slice A S.src.length c, .map (some r)] 85 (0, 0)
abbrev PlM (r : Nat) (l : List (Tri × Int)) : Asn := Mp r tri (Value.int .i64) l
abbrev PlO (g : Nat) (A : Option Addr) (c r : Nat) (S : PlS) (L : List Asn) : List Asn := Pt g (plC S A c r) :: PlM r S.m :: Ads (.slice A S.src.length c) S.src :: L
abbrev plcAt (tg : Int) (i : Int) : Tri := (tg, i / 3, i % 3)
section
variable {w0 w : World} {L : List Asn} {g c r : Nat} {A : Option Addr} {S : PlS}
set_option maxHeartbeats 2000000 in
set_option maxRecDepth 100000 in
theorem at_own (i : Int) (h0 : 0 ≤ i) (h1 : i ≤ 1000000) (HO : Own w0 w (PlO g A c r S L)) :
    Calls Try.prog 40 #[.pointer (some ⟨g, 0, none⟩), .int .i64 i] w fun e w' => e = .returned (tri (S.tg, i / 3, i % 3)) ∧ Own w0 w' (PlO g A c r S L) := by
  have hlt := blk_lt HO.pt
  obtain ⟨_, x1, _, _, _, _, _, _⟩ := cells4 HO.pt
  have HA := Aside0.mk (HO.alloc' (.cells #[.int .i64 S.tg, .int .i64 (i / 3), .int .i64 (i % 3)] 27))
  clear HO
  go_enter Try.func40, Try.ntmps40
  go_wp2_with fail
  exact bodyPost_ret (v := tri (plcAt S.tg i)) (by simp [results, Try.results40, go_sem]) rfl ⟨rfl, HA.out⟩
set_option maxHeartbeats 2000000 in
set_option maxRecDepth 100000 in
theorem steps_own (h0 : 0 ≤ S.ln) (h1 : S.ln ≤ 1000) (HO : Own w0 w (PlO g A c r S L)) :
    Calls Try.prog 15 #[.pointer (some ⟨g, 0, none⟩)] w fun e w' => e = .returned (.int .i64 (2 * S.ln)) ∧ w' = w := by
  obtain ⟨x0, _, _, _, _, _, _, _⟩ := cells4 HO.pt
  clear HO
  go_enter Try.func15, Try.ntmps15
  go_wp2_with fail
  go_ret
  exact ⟨rfl, rfl⟩
set_option maxHeartbeats 2000000 in
set_option maxRecDepth 100000 in
theorem target_own (HO : Own w0 w (PlO g A c r S L)) :
    Calls Try.prog 21 #[.pointer (some ⟨g, 0, none⟩)] w fun e w' => e = .returned (.int .i64 S.tg) ∧ w' = w := by
  obtain ⟨_, x1, _, _, _, _, _, _⟩ := cells4 HO.pt
  clear HO
  go_enter Try.func21, Try.ntmps21
  go_wp2_with fail
  go_ret
  exact ⟨rfl, rfl⟩
def toP (S : PlS) (a : Tri) : Tri × Bool := match mget a S.m with
  | none => ((0, 0, 0), false)
  | some i => (plcAt S.tg i, true)
set_option maxHeartbeats 4000000 in
set_option maxRecDepth 100000 in
theorem to_own (a : Tri) (hb : ∀ i, mget a S.m = some i → 0 ≤ i ∧ i ≤ 1000000) (HO : Own w0 w (PlO g A c r S L)) :
    Calls Try.prog 14 #[.pointer (some ⟨g, 0, none⟩), tri a] w fun e w' => e = .returned (.tuple #[tri (toP S a).1, .bool (toP S a).2]) ∧ Own w0 w' (PlO g A c r S L) := by
  have hlt := blk_lt HO.pt
  obtain ⟨a0, a1, a2⟩ := a
  have ha := (HO.alloc' (.cells #[.int .i64 a0, .int .i64 a1, .int .i64 a2] 27)).alloc (.cells #[.int .i64 0, .int .i64 0, .int .i64 0] 27)
  rw [World.size_alloc] at ha
  have HA := Aside0.mk (own_swap [_] [_, _, _] ha).drew
  have h1 := own_lookup keyT Try.underlying36 HA.out.pull2 (a0, a1, a2) zero3
  obtain ⟨_, _, _, x3, _, _, _, _⟩ := cells4 HO.pt
  unfold toP
  cases hx : mget (a0, a1, a2) S.m with
  | none =>
    rw [hx] at h1
    simp only [Option.map_none, Option.getD_none, Option.isSome_none] at h1
    have HN := Aside0.mk (ha.drop.drew)
    clear hx HO hb ha HA
    go_enter Try.func14, Try.ntmps14
    go_wp2_with fail
    go_region
    all_goals go_wp2_with fail
    all_goals exact bodyPost_ret (v := .tuple #[tri (0, 0, 0), .bool false]) (by simp [results, Try.results14, go_sem]) rfl ⟨rfl, HN.out⟩
  | some i =>
    obtain ⟨hi0, hi1⟩ := hb i hx
    rw [hx] at h1
    simp only [Option.map_some, Option.getD_some, Option.isSome_some] at h1
    clear hx HO hb ha
    go_enter Try.func14, Try.ntmps14
    go_wp2_with fail
    go_region
    all_goals go_wp2_with fail
    all_goals
      refine (at_own i hi0 hi1 HA.out).mono ?_
      rintro e w1 ⟨rfl, ho⟩
      have hp := ho.drop.drop.drop.pt
      obtain ⟨y0, y1, y2⟩ := cells3 hp
      have f0 := blk_frozen hp 0
      have f1 := blk_frozen hp 1
      have f2 := blk_frozen hp 2
      have HB := Aside0.mk ((own_swap [_, _, _] [_] ho).set3 (.int .i64 S.tg) (.int .i64 (i / 3)) (.int .i64 (i % 3)))
      obtain ⟨z0, z1, z2⟩ := cells3 HB.out.pt
      clear ho hp
      go_wp2_with fail
      exact bodyPost_ret (v := .tuple #[tri (S.tg, i / 3, i % 3), .bool true]) (by simp [results, Try.results14, go_sem, z0, z1, z2]) rfl ⟨rfl, HB.out.drop⟩
end
end Go.Proofs.Ytcfonmbojkolfaa.Plan
end

section
/- Package plan, by hand: Make. -/
set_option linter.unusedVariables false
set_option linter.unusedSimpArgs false
namespace Go.Proofs.Ytcfonmbojkolfaa.Plan
open Go.RowKit Go.Proofs.YtcfonmbojkolfaaW.PrintWords Go.Proofs.Ytcfonmbojkolfaa.Mem Go.Proofs.Ytcfonmbojkolfaa.Own Go.Proofs.Ytcfonmbojkolfaa.Maps Go.Proofs.Ytcfonmbojkolfaa.PN

/-- What Make's loop keeps: where each source stands; is one there twice, or of the target? -/
structure MS where
  m : List (Tri × Int)
  tw : Bool
def stepM (tg : Int) (s : MS) (i : Nat) (a : Tri) : MS := ⟨mset a i s.m, s.tw || (mget a s.m).isSome || (a.1 == tg)⟩
def runM (tg : Int) : Nat → List S27 → MS → MS
  | _, [], s => s
  | i, a :: l, s => runM tg (i + 1) l (stepM tg s i (tOf a))
theorem runM_snoc (tg : Int) (a : S27) : ∀ (l : List S27) (i : Nat) (s : MS), runM tg i (l ++ [a]) s = stepM tg (runM tg i l s) (i + l.length) (tOf a)
  | [], _, _ => rfl
  | b :: l, i, s => by
    show runM tg (i + 1) (l ++ [a]) _ = _
    rw [runM_snoc tg a l]
    show stepM tg (runM tg (i + 1) l _) (i + 1 + l.length) _ = stepM tg (runM tg (i + 1) l _) (i + (l.length + 1)) _
    rw [show i + 1 + l.length = i + (l.length + 1) by omega]
def ms0 : MS := ⟨[], false⟩
theorem runM_take (tg : Int) (l : List S27) (i : Nat) (h : i < l.length) : runM tg 0 (l.take (i + 1)) ms0 = stepM tg (runM tg 0 (l.take i) ms0) i (tOf (rd_T27 l i)) := by
  rw [List.take_succ_eq_append_getElem h, runM_snoc]
  have e : rd_T27 l (i : Int) = l[i] := by
    show l.getD (i : Int).toNat z27 = _
    rw [Int.toNat_natCast, List.getD_eq_getElem?_getD, List.getElem?_eq_getElem h]; rfl
  rw [e, List.length_take, Nat.min_eq_left (by omega), Nat.zero_add]
/-- Why there is no plan. -/
def makeC (G : G6) (tg : Int) (l : List S27) : Int :=
  if ¬ (∀ a ∈ l, PageIn G (tOf a)) then 1
  else if tg < 0 ∨ G.b ≤ tg then 1
  else if 3 * G.l < l.length then 2
  else if (runM tg 0 l ms0).tw = true then 5 else 0
def planOf (G : G6) (tg : Int) (l : List S27) : PlS := ⟨G.l, tg, l, (runM tg 0 l ms0).m⟩
def AfterP (w0 : World) (G : G6) (BG : Nat) (tg : Int) (l : List S27) (L : List Asn) (s10 : Value) (wx : World) : Prop := ∃ g A c r, s10 = .pointer (some ⟨g, 0, none⟩) ∧ Own w0 wx (PlO g A c r ⟨G.l, tg, l, []⟩ (Pt BG (geoC G) :: L))
/-- What Make comes to. -/
def MakeEnd (w0 : World) (G : G6) (tg : Int) (l : List S27) (L : List Asn) (e : Ending) (w' : World) : Prop :=
  (makeC G tg l ≠ 0 ∧ e = .returned (.tuple #[.pointer none, .int .i64 (makeC G tg l)]) ∧ Own w0 w' L) ∨
  (makeC G tg l = 0 ∧ ∃ g A c r, e = .returned (.tuple #[.pointer (some ⟨g, 0, none⟩), .int .i64 0]) ∧ Own w0 w' (PlO g A c r (planOf G tg l) L))
section
variable {w0 w : World} {L : List Asn}
theorem plo_out {w : World} {g c r : Nat} {A : Option Addr} {S : PlS} {X : Asn} (h : Own w0 w (PlO g A c r S (X :: L))) : Own w0 w (PlO g A c r S L) := Own.drop (own_swap [_, _, _] [_] h)
set_option maxHeartbeats 8000000 in
set_option maxRecDepth 100000 in
theorem make_own (G : G6) (tg : Int) (A0 : Option Addr) (c0 : Nat) (l : List S27) (hok : G.Ok) (hl : l.length ≤ 100000) (hc0 : l.length ≤ c0) (hr : Kd.C k27 w0 A0 l.length l) (HO : Own w0 w L) :
    Calls Try.prog 11 #[geoV G, .int .i64 tg, .slice A0 l.length c0] w (MakeEnd w0 G tg l L) := by
  have hs := hok.1
  unfold SizesOk at hs
  have hchk := check_some G.b G.l G.y G.s G.p G.w hok.wf.1 hok.wf.2 8 (Nat.le_refl _)
  rw [if_pos (show GeoOk G.b G.l G.y G.s G.p G.w from hok)] at hchk
  have HCK := Lib.hid hchk
  have HOK := Lib.hid hok
  have HR := Aside0.mk hr
  have hl0 : 0 ≤ G.l := by omega
  have hl1 : G.l ≤ 64 := by omega
  obtain ⟨BG, hBG⟩ : ∃ BG, BG = w.heap.size := ⟨_, rfl⟩
  have HBG := Lib.hid hBG
  have hA := HO.alloc (geoC G)
  rw [← hBG] at hA
  have HA := Aside0.mk hA
  obtain ⟨x0, x1, x2, x3, x4, x5⟩ := cells6 hA.pt
  clear hchk hok hr hs HO hBG hA
  go_enter Try.func11, Try.ntmps11
  go_wp2_with fail
  rw [← HBG.out]
  refine (geom_Check.calls 8 G.b G.l G.y G.s G.p G.w 0 _ HCK.out).mono ?_
  rintro e w1 ⟨rfl, hb⟩
  have HB := Aside0.mk (HA.out.move hb)
  clear hb HA x0 x1 x2 x3 x4 x5
  obtain ⟨x0, x1, x2, x3, x4, x5⟩ := cells6 HB.out.pt
  have hlt := blk_lt HB.out.pt
  go_wp2_with fail
  have hm1 := fun W => run_makeMap (P := Try.prog) 36 W
  have HD := Aside0.mk HB.out.drew
  have HM := Aside0.mk (mp_new tri (.int .i64) HB.out.drew 0)
  go_cut [10] (fun s10 wx => AfterP w0 G BG tg l L s10 wx)
  case first =>
    go_region_held3 (fun w' => w'.cell? ⟨BG, 0, none⟩ = some (.int .i64 G.b) ∧ w'.cell? ⟨BG, 1, none⟩ = some (.int .i64 G.l) ∧ w'.cell? ⟨BG, 2, none⟩ = some (.int .i64 G.y) ∧ w'.cell? ⟨BG, 3, none⟩ = some (.int .i64 G.s) ∧ w'.cell? ⟨BG, 4, none⟩ = some (.int .i64 G.p) ∧ w'.cell? ⟨BG, 5, none⟩ = some (.int .i64 G.w)) (go_keep) (first | (go_at_call 38; refine (clone_own (w0 := w0) A0 c0 l (by omega) (Kd.C_below HR.out HD.out.below) HD.out).mono ?_; rintro e w2 ⟨vq, rfl, ho⟩; obtain ⟨Aq, cq, rfl, _, ho⟩ := row_form ho; have HQ := Aside0.mk ho; obtain ⟨x0, x1, x2, x3, x4, x5⟩ := cells6 HQ.out.drop.pt; clear ho) | (go_at_call 38; refine (clone_own (w0 := w0) A0 c0 l (by omega) (Kd.C_below HR.out HM.out.below) HM.out).mono ?_; rintro e w2 ⟨vq, rfl, ho⟩; obtain ⟨Aq, cq, rfl, _, ho⟩ := row_form ho; have HQ := Aside0.mk ho; obtain ⟨x0, x1, x2, x3, x4, x5⟩ := cells6 HQ.out.drop.drop.pt; clear ho))
    all_goals go_wp2_with fail
    all_goals go_meet
    · have ha := (mp_new tri (.int .i64) HQ.out 0).alloc (plC ⟨G.l, tg, l, []⟩ Aq cq (w2.heap.size))
      rw [World.size_alloc] at ha
      exact ⟨_, Aq, cq, _, rfl, ha⟩
    · exact ⟨_, Aq, cq, w1.heap.size, rfl, (own_swap [_] [_] HQ.out).alloc (plC ⟨G.l, tg, l, []⟩ Aq cq (w1.heap.size))⟩
  case rest =>
    obtain ⟨g, A, c, r, rfl, ho⟩ := hcut
    have HO := Aside0.mk ho
    clear ho HB HD HM x0 x1 x2 x3 x4 x5 hm1 hlt
    go_wp2_with fail
    go_loopw [11, 32] (fun v11 v32 wr => ∃ (i : Nat) (m : List (Tri × Int)) (tw : Bool), i ≤ l.length ∧ v32 = .int .i64 i ∧ v11 = .bool tw ∧ Aside0 (runM tg 0 (l.take i) ms0 = ⟨m, tw⟩ ∧ ∀ a ∈ l.take i, PageIn G (tOf a)) ∧ Aside0 (Own w0 wr (PlO g A c r ⟨G.l, tg, l, m⟩ (Pt BG (geoC G) :: L)))) (fun _ v32 _ => l.length - (intOf v32).toNat)
    case atStart => exact ⟨0, [], false, by omega, rfl, rfl, ⟨⟨rfl, by simp⟩⟩, HO⟩
    case round =>
      clear HO
      obtain ⟨i, m, tw, hi, rfl, rfl, HS, HO⟩ := hrel
      by_cases hlt : i < l.length
      · have dl : decide ((i : Int) < (l.length : Nat)) = true := decide_eq_true (by omega)
        obtain ⟨ad, rfl, q0, q1, q2⟩ := at_T27 (Kd.C_below HR.out HO.out.below) i (by omega) (by omega)
        have hst := runM_take tg l i hlt
        have hmem : l.take (i + 1) = l.take i ++ [rd_T27 l i] := by
          rw [List.take_succ_eq_append_getElem hlt]
          have e : rd_T27 l (i : Int) = l[i] := by
            show l.getD (i : Int).toNat z27 = _
            rw [Int.toNat_natCast, List.getD_eq_getElem?_getD, List.getElem?_eq_getElem hlt]; rfl
          rw [e]
        obtain ⟨⟨a0, a1, a2⟩, hR⟩ : ∃ R, R = rd_T27 l i := ⟨_, rfl⟩
        rw [← hR] at q0 q1 q2 hst hmem
        dsimp only at q0 q1 q2
        rw [Int.toNat_natCast] at q0 q1 q2
        rw [HS.out.1] at hst
        have hmem2 : (⟨a0, a1, a2⟩ : S27) ∈ l := List.mem_of_mem_take (i := i + 1) (by rw [hmem]; simp)
        have HST := Aside0.mk hst
        have HMEM := Aside0.mk hmem
        have HMEM2 := Aside0.mk hmem2
        obtain ⟨BA, hBA⟩ : ∃ BA, BA = wr.heap.size := ⟨_, rfl⟩
        have HBA := Lib.hid hBA
        have ha := HO.out.alloc (.cells #[.int .i64 a0, .int .i64 a1, .int .i64 a2] 27)
        rw [← hBA] at ha
        have HA := Aside0.mk ha
        clear hst hmem hmem2 hR hBA ha
        go_wp2_with fail
        rw [← HBA.out]
        refine (page_own BG (a0, a1, a2) HOK.out (own_swap [_, _, _, _] [_] HA.out)).mono ?_
        rintro e w1 ⟨rfl, ho⟩
        have HB := Aside0.mk (own_swap [_] [_, _, _, _] ho)
        clear ho HA
        obtain ⟨y0, y1, y2⟩ := cells3 HB.out.pt
        obtain ⟨_, _, _, x3, _, _, _, _⟩ := cells4 HB.out.drop.pt
        by_cases hp : PageIn G (a0, a1, a2)
        · rw [decide_eq_true hp]
          have HP := Aside0.mk hp
          go_upto_region 12 with (fail)
          have h1 := own_lookup keyT Try.underlying36 HB.out.drew.pull3 (a0, a1, a2) zero3
          obtain ⟨w4, h2, ho4⟩ := own_update keyT Try.underlying36 HB.out.drew.drew.pull3 (a0, a1, a2) (i : Int)
          have HE := Aside0.mk ho4
          have HALL : Aside0 (∀ a ∈ l.take (i + 1), PageIn G (tOf a)) := ⟨by
            rw [HMEM.out]
            intro a ha
            rcases List.mem_append.mp ha with h | h
            · exact HS.out.2 a h
            · rw [List.mem_singleton.mp h]; exact HP.out⟩
          clear hp ho4 HB HMEM HMEM2
          obtain ⟨b1, hb1⟩ : ∃ b1, b1 = (mget (a0, a1, a2) m).isSome := ⟨_, rfl⟩
          obtain ⟨b2, hb2⟩ : ∃ b2, b2 = decide (a0 = tg) := ⟨_, rfl⟩
          have hst : runM tg 0 (l.take (i + 1)) ms0 = ⟨mset (a0, a1, a2) (i : Int) m, tw || b1 || b2⟩ := by rw [HST.out, hb1, hb2]; rfl
          have HSN := Aside0.mk hst
          rw [← hb1] at h1
          clear hst hb1 HST HS
          have HB2 := Aside0.mk hb2.symm
          clear hb2
          go_region
          all_goals clear h1
          all_goals
            have hb2 := HB2.out
            cases tw
            · cases b1
              · cases b2
                all_goals go_wp2_with fail
                all_goals go_region
                all_goals go_wp2_with fail
                all_goals go_roundw
                all_goals try (case rel => exact ⟨i + 1, _, _, by omega, by go_num, by first | rfl | exact congrArg Value.bool HB2.out | (have h8 := HB2.out; simp at h8 ⊢; exact h8), ⟨HSN.out, HALL.out⟩, ⟨HE.out.pull2.drop.pull2⟩⟩)
                all_goals (case measure => simp [intOf]; omega)
              · go_wp2_with fail
                go_region
                all_goals go_wp2_with fail
                all_goals go_roundw
                all_goals try (case rel => exact ⟨i + 1, _, _, by omega, by go_num, rfl, ⟨HSN.out, HALL.out⟩, ⟨HE.out.pull2.drop.pull2⟩⟩)
                all_goals (case measure => simp [intOf]; omega)
            · go_wp2_with fail
              go_region
              all_goals go_wp2_with fail
              all_goals go_roundw
              all_goals try (case rel => exact ⟨i + 1, _, _, by omega, by go_num, rfl, ⟨HSN.out, HALL.out⟩, ⟨HE.out.pull2.drop.pull2⟩⟩)
              all_goals (case measure => simp [intOf]; omega)
        · rw [decide_eq_false hp]
          have HP := Aside0.mk hp
          clear hp
          go_wp2_with fail
          have hmk : makeC G tg l = 1 := if_pos (fun h => HP.out (h _ HMEM2.out))
          exact bodyPost_ret (v := .tuple #[.pointer none, .int .i64 1]) (by simp [results, Try.results11, go_sem]) rfl (.inl ⟨by rw [hmk]; decide, by rw [hmk], HB.out.drop.drop.drop.drop.drop⟩)
      · obtain rfl : i = l.length := by omega
        have dl : decide (((l.length : Nat) : Int) < (l.length : Nat)) = false := decide_eq_false (by omega)
        rw [List.take_length] at HS
        have h1 : ¬ ¬ (∀ a ∈ l, PageIn G (tOf a)) := not_not_intro HS.out.2
        obtain ⟨x0, x1, x2, x3, x4, x5⟩ := cells6 HO.out.drop.drop.drop.pt
        by_cases hc1 : tg < 0 ∨ G.b ≤ tg
        · have hmk : makeC G tg l = 1 := (if_neg h1).trans (if_pos hc1)
          have HMK := Aside0.mk hmk
          clear h1 hmk HS
          by_cases hn : tg < 0
          · have d1 : decide (tg < 0) = true := decide_eq_true hn
            clear hn hc1
            go_wp2_with fail
            exact bodyPost_ret (v := .tuple #[.pointer none, .int .i64 1]) (by simp [results, Try.results11, go_sem]) rfl (.inl ⟨by rw [HMK.out]; decide, by rw [HMK.out], HO.out.drop.drop.drop.drop⟩)
          · have d1 : decide (tg < 0) = false := decide_eq_false hn
            have d2 : decide (G.b ≤ tg) = true := decide_eq_true (by omega)
            clear hn hc1
            go_wp2_with fail
            exact bodyPost_ret (v := .tuple #[.pointer none, .int .i64 1]) (by simp [results, Try.results11, go_sem]) rfl (.inl ⟨by rw [HMK.out]; decide, by rw [HMK.out], HO.out.drop.drop.drop.drop⟩)
        · have d1 : decide (tg < 0) = false := decide_eq_false (by omega)
          have d2 : decide (G.b ≤ tg) = false := decide_eq_false (by omega)
          by_cases hc2 : 3 * G.l < l.length
          · have hmk : makeC G tg l = 2 := (if_neg h1).trans ((if_neg hc1).trans (if_pos hc2))
            have d3 : decide (3 * G.l < (l.length : Nat)) = true := decide_eq_true hc2
            have HMK := Aside0.mk hmk
            clear h1 hmk HS hc1 hc2
            go_wp2_with fail
            exact bodyPost_ret (v := .tuple #[.pointer none, .int .i64 2]) (by simp [results, Try.results11, go_sem]) rfl (.inl ⟨by rw [HMK.out]; decide, by rw [HMK.out], HO.out.drop.drop.drop.drop⟩)
          · have d3 : decide (3 * G.l < (l.length : Nat)) = false := decide_eq_false hc2
            have hmk : makeC G tg l = if tw = true then 5 else 0 := by
              refine (if_neg h1).trans ((if_neg hc1).trans ((if_neg hc2).trans ?_))
              rw [HS.out.1]
            have hpl : planOf G tg l = ⟨G.l, tg, l, m⟩ := by unfold planOf; rw [HS.out.1]
            have HPL := Lib.hid hpl
            have HMK := Aside0.mk hmk
            clear h1 hmk HS hc1 hc2 hpl
            cases tw
            · go_wp2_with fail
              exact bodyPost_ret (v := .tuple #[.pointer (some ⟨g, 0, none⟩), .int .i64 0]) (by simp [results, Try.results11, go_sem]) rfl (.inr ⟨HMK.out, g, A, c, r, rfl, by rw [HPL.out]; exact plo_out HO.out⟩)
            · go_wp2_with fail
              exact bodyPost_ret (v := .tuple #[.pointer none, .int .i64 5]) (by simp [results, Try.results11, go_sem]) rfl (.inl ⟨by rw [HMK.out]; decide, by rw [HMK.out]; rfl, HO.out.drop.drop.drop.drop⟩)
end
end Go.Proofs.Ytcfonmbojkolfaa.Plan
end

section
/- Package plan: the law's own fixed runs (works). -/
set_option linter.unusedVariables false
set_option linter.unusedSimpArgs false
namespace Go.Proofs.Ytcfonmbojkolfaa.Plan
open Go.RowKit Go.Proofs.YtcfonmbojkolfaaW.PrintWords Go.Proofs.Ytcfonmbojkolfaa.Mem Go.Proofs.Ytcfonmbojkolfaa.Own Go.Proofs.Ytcfonmbojkolfaa.Maps Go.Proofs.Ytcfonmbojkolfaa.PN

theorem eqA27 (d : Nat) (w : World) (x0 y0 : Int) (x1 y1 : Int) (x2 y2 : Int) :
    (Op.equalIn (d + 2) 27 (.agg #[.int .i64 x0, .int .i64 x1, .int .i64 x2]) (.agg #[.int .i64 y0, .int .i64 y1, .int .i64 y2])).run Try.prog w = .ok (x0 == y0 && (x1 == y1 && (x2 == y2))) w := by
  refine eqA_of Try.underlying27 (by kernel_rfl) ?_
  refine eqf_cons (by rfl) (by go_simp; rfl) (by go_simp; rfl) (by go_simp) ?_
  refine eqf_cons (by rfl) (by go_simp; rfl) (by go_simp; rfl) (by go_simp) ?_
  exact eqf_last (by rfl) (by go_simp; rfl) (by go_simp; rfl) (by go_simp)
attribute [local go_sem high] eqA27
abbrev G0 : G6 := ⟨8, 6, 64, 4, 0, 4⟩
theorem g0_ok : G0.Ok := by
  unfold G6.Ok GeoOk SizesOk
  decide
abbrev fl27 (xs : List S27) : List Value := xs.flatMap fun x => [.int .i64 x.f0, .int .i64 x.f1, .int .i64 x.f2]
theorem reps_fl (W : World) (base : Nat) (ok : Nat → Prop) (xs : List S27) : Reps (k27.M W base ok) 3 xs (fl27 xs) := by
  have aux : ∀ (ys xs : List S27) (cs : List Value), Reps (k27.M W base ok) 3 xs cs → Reps (k27.M W base ok) 3 (xs ++ ys) (cs ++ fl27 ys) := by
    intro ys
    induction ys with
    | nil => intro xs cs h; simpa [fl27] using h
    | cons y ys ih =>
      intro xs cs h
      have := ih (xs ++ [y]) (cs ++ [.int .i64 y.f0, .int .i64 y.f1, .int .i64 y.f2]) (h.snoc (k27_mkM W base ok y) rfl)
      simpa [fl27] using this
  simpa using aux xs [] [] (Reps.none _ _)
section
variable {w0 w : World} {L : List Asn}
theorem lit_row (xs : List S27) (hn : xs.length ≤ 1000) (HO : Own w0 w L) : Own w0 (w.alloc (.cells (fl27 xs).toArray 27)) (Ads (.slice (some ⟨w.heap.size, 0, none⟩) xs.length xs.length) xs :: L) := by
  refine HO.fresh (R := [Ads (.slice (some ⟨w.heap.size, 0, none⟩) xs.length xs.length) xs]) (below_alloc (Below.refl _ _) _) (Hold.one ⟨fun k hk => by simp [Value.ownBlock] at hk; omega, fl27 xs, ?_, reps_fl _ _ _ xs⟩)
  have h := World.ownsRow_lit (base := w.heap.size) (e := 27) (size := 3) w (fl27 xs).toArray xs.length (Nat.le_refl _) (by simp [maxLen]; omega) (by have := (reps_fl w 0 (fun _ => True) xs).1; simpa using this)
  exact h
theorem own_then {w1 : World} {R : List Asn} (h : Own w0 w L) (h2 : Own w w1 R) : Own w0 w1 (R ++ L) := let ⟨b, _, hs, hk⟩ := h2; h.fresh b (hs.mono (fun k hk' => (hk k hk').1))
theorem make_any (G : G6) (tg : Int) (A0 : Option Addr) (c0 : Nat) (l : List S27) (hok : G.Ok) (hl : l.length ≤ 100000) (hc0 : l.length ≤ c0) (hr : Kd.C k27 w A0 l.length l) (HO : Own w0 w L) :
    Calls Try.prog 11 #[geoV G, .int .i64 tg, .slice A0 l.length c0] w (MakeEnd w0 G tg l L) := by
  refine (make_own (w0 := w) (L := []) G tg A0 c0 l hok hl hc0 hr (Own.new w)).mono ?_
  rintro e w' (⟨h1, rfl, h2⟩ | ⟨h1, g, A, c, r, rfl, h2⟩)
  · exact .inl ⟨h1, rfl, own_then HO h2⟩
  · exact .inr ⟨h1, g, A, c, r, rfl, own_then HO h2⟩
abbrev ws : List S27 := [⟨1, 0, 0⟩, ⟨1, 1, 0⟩, ⟨1, 2, 0⟩, ⟨2, 0, 0⟩]
theorem ws5 : makeC G0 5 ws = 0 := by decide
theorem ws1 : makeC G0 1 ws = 5 := by decide
theorem wsp : mget (2, 0, 0) (planOf G0 5 ws).m = some 3 := by decide
set_option maxHeartbeats 8000000 in
set_option maxRecDepth 100000 in
theorem works_own (HO : Own w0 w L) : Calls Try.prog 9 #[] w fun e w' => e = .returned (.bool true) ∧ Own w0 w' L := by
  have HL := Aside0.mk (lit_row ws (by decide) HO)
  clear HO
  go_enter Try.func9, Try.ntmps9
  go_wp2_with fail
  refine (decklelaw25_geo.calls 8 6 64 4 0 4 _ rfl).mono ?_
  rintro e w1 ⟨rfl, hb⟩
  have HB := Aside0.mk (HL.out.move hb)
  clear hb HL
  go_wp2_with fail
  refine (make_any G0 5 (some ⟨w.heap.size, 0, none⟩) 4 ws g0_ok (by decide) (by decide) (by obtain ⟨A, c, e1, _, h⟩ := HB.out.reads; injection e1 with e1; subst e1; exact h) HB.out).mono ?_
  rintro e w2 (⟨h1, _⟩ | ⟨_, g, A, c, r, rfl, ho⟩)
  · exact absurd ws5 h1
  have HP := Aside0.mk ho
  clear ho HB
  go_wp2_with fail
  refine (to_own (2, 0, 0) (fun i h => by rw [wsp] at h; obtain rfl := Option.some.inj h; omega) HP.out).mono ?_
  rintro e w3 ⟨rfl, ho⟩
  have htp : toP (planOf G0 5 ws) (2, 0, 0) = ((5, 1, 0), true) := by unfold toP; rw [wsp]; rfl
  rw [htp]
  have HT := Aside0.mk (ho.alloc (.cells #[.int .i64 5, .int .i64 1, .int .i64 0] 27))
  obtain ⟨B4, hB4⟩ : ∃ B4, B4 = w3.heap.size := ⟨_, rfl⟩
  have HB4 := Lib.hid hB4
  clear ho HP htp hB4
  go_wp2_with fail
  refine (decklelaw25_geo.calls 8 6 64 4 0 4 _ rfl).mono ?_
  rintro e w4 ⟨rfl, hb⟩
  have HU := Aside0.mk (own_swap [_, _, _, _] [_] (HT.out.move hb))
  clear hb HT
  go_wp2_with fail
  refine (make_any G0 1 (some ⟨w.heap.size, 0, none⟩) 4 ws g0_ok (by decide) (by decide) (by obtain ⟨A, c, e1, _, h⟩ := HU.out.reads; injection e1 with e1; subst e1; exact h) HU.out).mono ?_
  rintro e w5 (⟨h1, rfl, ho⟩ | ⟨h1, _⟩)
  rotate_left
  · rw [ws1] at h1; exact absurd h1 (by decide)
  clear h1 HU
  rw [ws1]
  obtain ⟨x0, x1, x2⟩ := cells3 ho.drop.pt
  have HV := Aside0.mk ho
  have hst := steps_own (S := planOf G0 5 ws) (by decide) (by decide) ho.drop.drop
  have HS := Aside0.mk hst
  clear ho hst
  go_wp2_with (go_at_call 15; refine HS.out.mono ?_; rintro e w6 ⟨rfl, rfl⟩)
  exact bodyPost_ret (v := .bool true) (by simp [results, Try.results9, go_sem, planOf]) rfl ⟨rfl, HV.out.drop.drop.drop.drop.drop⟩
end
end Go.Proofs.Ytcfonmbojkolfaa.Plan
end

section
/- Package plan, by hand: Step. -/
set_option linter.unusedVariables false
set_option linter.unusedSimpArgs false
namespace Go.Proofs.Ytcfonmbojkolfaa.Plan
open Go.RowKit Go.Proofs.YtcfonmbojkolfaaW.PrintWords Go.Proofs.Ytcfonmbojkolfaa.Mem Go.Proofs.Ytcfonmbojkolfaa.Own Go.Proofs.Ytcfonmbojkolfaa.Maps Go.Proofs.Ytcfonmbojkolfaa.PN

/-- Source number i, or none. -/
def srcAt (l : List S27) (i : Int) : Tri := if i < l.length then tOf (rd_T27 l i) else (-1, 0, 0)
abbrev pg9 (a b c : Tri) : Obj := .cells #[.int .i64 a.1, .int .i64 a.2.1, .int .i64 a.2.2, .int .i64 b.1, .int .i64 b.2.1, .int .i64 b.2.2, .int .i64 c.1, .int .i64 c.2.1, .int .i64 c.2.2] 46
abbrev pgV (a b c : Tri) : Value := .agg #[.int .i64 a.1, .int .i64 a.2.1, .int .i64 a.2.2, .int .i64 b.1, .int .i64 b.2.1, .int .i64 b.2.2, .int .i64 c.1, .int .i64 c.2.1, .int .i64 c.2.2]
abbrev z3 : Tri := (0, 0, 0)
theorem cells9 {w : World} {g : Nat} {a b c : Tri} (h : w.heap[g]? = some (pg9 a b c)) :
    w.cell? ⟨g, 0, none⟩ = some (.int .i64 a.1) ∧ w.cell? ⟨g, 1, none⟩ = some (.int .i64 a.2.1) ∧ w.cell? ⟨g, 2, none⟩ = some (.int .i64 a.2.2) ∧ w.cell? ⟨g, 3, none⟩ = some (.int .i64 b.1) ∧ w.cell? ⟨g, 4, none⟩ = some (.int .i64 b.2.1) ∧ w.cell? ⟨g, 5, none⟩ = some (.int .i64 b.2.2) ∧ w.cell? ⟨g, 6, none⟩ = some (.int .i64 c.1) ∧ w.cell? ⟨g, 7, none⟩ = some (.int .i64 c.2.1) ∧ w.cell? ⟨g, 8, none⟩ = some (.int .i64 c.2.2) :=
  ⟨blk_cell h 0, blk_cell h 1, blk_cell h 2, blk_cell h 3, blk_cell h 4, blk_cell h 5, blk_cell h 6, blk_cell h 7, blk_cell h 8⟩
section
variable {w0 w : World} {L : List Asn} {g c r : Nat} {A : Option Addr} {S : PlS}
theorem own_part0 {B : Nat} {a b d : Tri} (h : Own w0 w (Pt B (pg9 a b d) :: L)) (x : Tri) : Own w0 (((w.setCell ⟨B, 0, none⟩ (.int .i64 x.1)).setCell ⟨B, 1, none⟩ (.int .i64 x.2.1)).setCell ⟨B, 2, none⟩ (.int .i64 x.2.2)) (Pt B (pg9 x b d) :: L) := ((h.set _).set _).set _
theorem own_part1 {B : Nat} {a b d : Tri} (h : Own w0 w (Pt B (pg9 a b d) :: L)) (x : Tri) : Own w0 (((w.setCell ⟨B, 3, none⟩ (.int .i64 x.1)).setCell ⟨B, 4, none⟩ (.int .i64 x.2.1)).setCell ⟨B, 5, none⟩ (.int .i64 x.2.2)) (Pt B (pg9 a x d) :: L) := ((h.set _).set _).set _
theorem own_part2 {B : Nat} {a b d : Tri} (h : Own w0 w (Pt B (pg9 a b d) :: L)) (x : Tri) : Own w0 (((w.setCell ⟨B, 6, none⟩ (.int .i64 x.1)).setCell ⟨B, 7, none⟩ (.int .i64 x.2.1)).setCell ⟨B, 8, none⟩ (.int .i64 x.2.2)) (Pt B (pg9 a b x) :: L) := ((h.set _).set _).set _
def pgj (j : Nat) (a b d : Tri) : Obj := pg9 (if 0 < j then a else z3) (if 1 < j then b else z3) (if 2 < j then d else z3)
theorem own_ne2 {g1 g2 : Nat} {o1 o2 : Obj} (h : Own w0 w (Pt g1 o1 :: Pt g2 o2 :: L)) : g1 ≠ g2 := by
  obtain ⟨b, S, ⟨S1, S2, h1, ⟨S3, S4, h3, _, _, i3, _⟩, d, _, _⟩, _⟩ := h
  exact fun e => d g1 h1.2 (i3 g1 (e ▸ h3.2))
set_option maxHeartbeats 8000000 in
set_option maxRecDepth 100000 in
theorem step_own (k r1 r3 : Int) (r2 : Bool) (h : order_At.f 8 S.ln k = some (r1, r2, r3)) (hb : r3 = 0 → 0 ≤ r1 ∧ r1 ≤ 1000) (HO : Own w0 w (PlO g A c r S L)) :
    Calls Try.prog 16 #[.pointer (some ⟨g, 0, none⟩), .int .i64 k] w fun e w' => (r3 ≠ 0 ∧ e = .returned (.tuple #[.agg #[.int .i64 0, .bool false], pgV z3 z3 z3, .int .i64 r3]) ∨ r3 = 0 ∧ e = .returned (.tuple #[.agg #[.int .i64 r1, .bool r2], pgV (srcAt S.src (3 * r1)) (srcAt S.src (3 * r1 + 1)) (srcAt S.src (3 * r1 + 2)), .int .i64 0])) ∧ Own w0 w' (PlO g A c r S L) := by
  have H := Lib.hid h
  obtain ⟨x0, _, _, _, _, _, _, _⟩ := cells4 HO.pt
  have hlt := blk_lt HO.pt
  have a1 : g < w.heap.size + 1 := by omega
  have a2 : g < w.heap.size + 1 + 1 := by omega
  have ha := ((HO.alloc (.cells #[.int .i64 0, .bool false] 45)).alloc (pg9 z3 z3 z3)).alloc (pg9 z3 z3 z3)
  simp only [World.size_alloc] at ha
  have HA := Aside0.mk ha
  obtain ⟨B4, hB4⟩ : ∃ B4, B4 = w.heap.size := ⟨_, rfl⟩
  have HB4 := Lib.hid hB4
  clear ha h HO hB4
  go_enter Try.func16, Try.ntmps16
  go_wp2_with fail
  refine (order_At.calls 8 S.ln k r1 r2 r3 _ H.out).mono ?_
  rintro e w1 ⟨rfl, hb1⟩
  have HB := Aside0.mk (HA.out.move hb1)
  clear hb1 HA H
  clear x0 hlt a1 a2
  by_cases h3 : r3 = 0
  · obtain ⟨b0, b1⟩ := hb h3
    subst h3
    clear hb
    have HC0 := HB.out.alloc (.cells #[.int .i64 r1, .bool r2] 45)
    obtain ⟨B8, hB8⟩ : ∃ B8, B8 = w1.heap.size := ⟨_, rfl⟩
    obtain ⟨B5, hB5⟩ : ∃ B5, B5 = w.heap.size + 1 := ⟨_, rfl⟩
    obtain ⟨B7, hB7⟩ : ∃ B7, B7 = w.heap.size + 1 + 1 := ⟨_, rfl⟩
    rw [← hB8, ← hB7, ← hB5, ← HB4.out] at HC0
    have HB8 := Lib.hid hB8
    have HB7 := Lib.hid hB7
    have HB5 := Lib.hid hB5
    have HC := Aside0.mk HC0.pull2
    obtain ⟨p0, hp0⟩ : ∃ p, p = srcAt S.src (3 * r1) := ⟨_, rfl⟩
    obtain ⟨p1, hp1⟩ : ∃ p, p = srcAt S.src (3 * r1 + 1) := ⟨_, rfl⟩
    obtain ⟨p2, hp2⟩ : ∃ p, p = srcAt S.src (3 * r1 + 2) := ⟨_, rfl⟩
    have HP0 := Lib.hid hp0
    have HP1 := Lib.hid hp1
    have HP2 := Lib.hid hp2
    clear HC0 HB hB8 hB5 hB7 hp0 hp1 hp2
    go_wp2_with fail
    rw [← HB8.out, ← HB7.out, ← HB5.out, ← HB4.out]
    go_loopw [26] (fun v26 wr => ∃ j : Nat, j ≤ 3 ∧ v26 = .int .i64 j ∧ Aside0 (Own w0 wr (Pt B7 (pgj j p0 p1 p2) :: Pt B8 (.cells #[.int .i64 r1, .bool r2] 45) :: Pt B5 (pg9 z3 z3 z3) :: Pt B4 (.cells #[.int .i64 0, .bool false] 45) :: PlO g A c r S L))) (fun v26 _ => 3 - (intOf v26).toNat)
    case atStart => exact ⟨0, by omega, rfl, HC⟩
    case round =>
      clear HC
      obtain ⟨j, hj, rfl, HC⟩ := hrel
      rcases (by omega : j = 0 ∨ j = 1 ∨ j = 2 ∨ j = 3) with rfl | rfl | rfl | rfl
      · have HCj := HC.out
        unfold pgj at HCj
        simp only [Nat.lt_irrefl, Nat.zero_lt_one, Nat.zero_lt_two, Nat.one_lt_two, Nat.not_lt_zero, if_true, if_false, reduceIte] at HCj
        have HD := Aside0.mk HCj
        clear HC HCj
        go_wp2_with fail
        refine (plan_none.calls (-1) 0 0 _ rfl).mono ?_
        rintro e w2 ⟨rfl, hb2⟩
        have HE := Aside0.mk (HD.out.move hb2)
        clear hb2 HD
        obtain ⟨c0, c1, c2, c3, c4, c5, c6, c7, c8⟩ := cells9 HE.out.pt
        have f0 := blk_frozen HE.out.pt 0
        have f1 := blk_frozen HE.out.pt 1
        have f2 := blk_frozen HE.out.pt 2
        go_upto_region 9 with (fail)
        have ho := own_part0 HE.out ((-1, 0, 0) : Tri)
        clear f0 f1 f2 c0 c1 c2 c3 c4 c5 c6 c7 c8 HE
        dsimp only at ho
        generalize hW : World.setCell (World.setCell (World.setCell w2 _ _) _ _) _ _ = w3 at ho ⊢
        clear hW
        have HF := Aside0.mk ho
        clear ho
        obtain ⟨c0, c1, c2, c3, c4, c5, c6, c7, c8⟩ := cells9 HF.out.pt
        have f0 := blk_frozen HF.out.pt 0
        have f1 := blk_frozen HF.out.pt 1
        have f2 := blk_frozen HF.out.pt 2
        have y0 := blk_cell HF.out.drop.pt 0
        obtain ⟨_, _, x2, _, _, _, _, _⟩ := cells4 HF.out.drop.drop.drop.drop.pt
        obtain ⟨A', c', e1, _, hC⟩ := HF.out.drop.drop.drop.drop.drop.drop.reads
        injection e1 with e1 e2 e3
        subst e1
        by_cases hin : 3 * r1 < S.src.length
        · have d4 : decide (3 * r1 < (S.src.length : Int)) = true := decide_eq_true hin
          have d5 : decide (3 * r1 + 0 < (S.src.length : Int)) = true := by simpa using d4
          have hsa : p0 = tOf (rd_T27 S.src (3 * r1)) := by rw [HP0.out, srcAt, if_pos hin]
          obtain ⟨ad, rfl, q0, q1, q2⟩ := at_T27 hC (3 * r1) (by omega) (by omega)
          have HSA := Lib.hid hsa
          clear hC hsa
          go_wp2_with fail
          refine ⟨⟨1, by omega, rfl, ⟨?_⟩⟩, by simp [intOf]⟩
          rw [show pgj 1 p0 p1 p2 = pg9 p0 z3 z3 from rfl, HSA.out]
          exact own_part0 HF.out (tOf _)
        · have d4 : decide (3 * r1 < (S.src.length : Int)) = false := decide_eq_false hin
          have d5 : decide (3 * r1 + 0 < (S.src.length : Int)) = false := by simpa using d4
          have hsa : p0 = (-1, 0, 0) := by rw [HP0.out, srcAt, if_neg hin]
          have HSA := Lib.hid hsa
          clear hC hsa
          go_wp2_with fail
          refine ⟨⟨1, by omega, rfl, ⟨?_⟩⟩, by simp [intOf]⟩
          rw [show pgj 1 p0 p1 p2 = pg9 p0 z3 z3 from rfl, HSA.out]
          exact HF.out
      · have HCj := HC.out
        unfold pgj at HCj
        simp only [Nat.lt_irrefl, Nat.zero_lt_one, Nat.zero_lt_two, Nat.one_lt_two, Nat.not_lt_zero, if_true, if_false, reduceIte] at HCj
        have HD := Aside0.mk HCj
        clear HC HCj
        go_wp2_with fail
        refine (plan_none.calls (-1) 0 0 _ rfl).mono ?_
        rintro e w2 ⟨rfl, hb2⟩
        have HE := Aside0.mk (HD.out.move hb2)
        clear hb2 HD
        obtain ⟨c0, c1, c2, c3, c4, c5, c6, c7, c8⟩ := cells9 HE.out.pt
        have f0 := blk_frozen HE.out.pt 3
        have f1 := blk_frozen HE.out.pt 4
        have f2 := blk_frozen HE.out.pt 5
        go_upto_region 9 with (fail)
        have ho := own_part1 HE.out ((-1, 0, 0) : Tri)
        clear f0 f1 f2 c0 c1 c2 c3 c4 c5 c6 c7 c8 HE
        dsimp only at ho
        generalize hW : World.setCell (World.setCell (World.setCell w2 _ _) _ _) _ _ = w3 at ho ⊢
        clear hW
        have HF := Aside0.mk ho
        clear ho
        obtain ⟨c0, c1, c2, c3, c4, c5, c6, c7, c8⟩ := cells9 HF.out.pt
        have f0 := blk_frozen HF.out.pt 3
        have f1 := blk_frozen HF.out.pt 4
        have f2 := blk_frozen HF.out.pt 5
        have y0 := blk_cell HF.out.drop.pt 0
        obtain ⟨_, _, x2, _, _, _, _, _⟩ := cells4 HF.out.drop.drop.drop.drop.pt
        obtain ⟨A', c', e1, _, hC⟩ := HF.out.drop.drop.drop.drop.drop.drop.reads
        injection e1 with e1 e2 e3
        subst e1
        by_cases hin : 3 * r1 + 1 < S.src.length
        · have d4 : decide (3 * r1 + 1 < (S.src.length : Int)) = true := decide_eq_true hin
          have hsa : p1 = tOf (rd_T27 S.src (3 * r1 + 1)) := by rw [HP1.out, srcAt, if_pos hin]
          obtain ⟨ad, rfl, q0, q1, q2⟩ := at_T27 hC (3 * r1 + 1) (by omega) (by omega)
          have HSA := Lib.hid hsa
          clear hC hsa
          go_wp2_with fail
          refine ⟨⟨2, by omega, rfl, ⟨?_⟩⟩, by simp [intOf]⟩
          rw [show pgj 2 p0 p1 p2 = pg9 p0 p1 z3 from rfl, HSA.out]
          exact own_part1 HF.out (tOf _)
        · have d4 : decide (3 * r1 + 1 < (S.src.length : Int)) = false := decide_eq_false hin
          have hsa : p1 = (-1, 0, 0) := by rw [HP1.out, srcAt, if_neg hin]
          have HSA := Lib.hid hsa
          clear hC hsa
          go_wp2_with fail
          refine ⟨⟨2, by omega, rfl, ⟨?_⟩⟩, by simp [intOf]⟩
          rw [show pgj 2 p0 p1 p2 = pg9 p0 p1 z3 from rfl, HSA.out]
          exact HF.out
      · have HCj := HC.out
        unfold pgj at HCj
        simp only [Nat.lt_irrefl, Nat.zero_lt_one, Nat.zero_lt_two, Nat.one_lt_two, Nat.not_lt_zero, if_true, if_false, reduceIte] at HCj
        have HD := Aside0.mk HCj
        clear HC HCj
        go_wp2_with fail
        refine (plan_none.calls (-1) 0 0 _ rfl).mono ?_
        rintro e w2 ⟨rfl, hb2⟩
        have HE := Aside0.mk (HD.out.move hb2)
        clear hb2 HD
        obtain ⟨c0, c1, c2, c3, c4, c5, c6, c7, c8⟩ := cells9 HE.out.pt
        have f0 := blk_frozen HE.out.pt 6
        have f1 := blk_frozen HE.out.pt 7
        have f2 := blk_frozen HE.out.pt 8
        go_upto_region 9 with (fail)
        have ho := own_part2 HE.out ((-1, 0, 0) : Tri)
        clear f0 f1 f2 c0 c1 c2 c3 c4 c5 c6 c7 c8 HE
        dsimp only at ho
        generalize hW : World.setCell (World.setCell (World.setCell w2 _ _) _ _) _ _ = w3 at ho ⊢
        clear hW
        have HF := Aside0.mk ho
        clear ho
        obtain ⟨c0, c1, c2, c3, c4, c5, c6, c7, c8⟩ := cells9 HF.out.pt
        have f0 := blk_frozen HF.out.pt 6
        have f1 := blk_frozen HF.out.pt 7
        have f2 := blk_frozen HF.out.pt 8
        have y0 := blk_cell HF.out.drop.pt 0
        obtain ⟨_, _, x2, _, _, _, _, _⟩ := cells4 HF.out.drop.drop.drop.drop.pt
        obtain ⟨A', c', e1, _, hC⟩ := HF.out.drop.drop.drop.drop.drop.drop.reads
        injection e1 with e1 e2 e3
        subst e1
        by_cases hin : 3 * r1 + 2 < S.src.length
        · have d4 : decide (3 * r1 + 2 < (S.src.length : Int)) = true := decide_eq_true hin
          have hsa : p2 = tOf (rd_T27 S.src (3 * r1 + 2)) := by rw [HP2.out, srcAt, if_pos hin]
          obtain ⟨ad, rfl, q0, q1, q2⟩ := at_T27 hC (3 * r1 + 2) (by omega) (by omega)
          have HSA := Lib.hid hsa
          clear hC hsa
          go_wp2_with fail
          refine ⟨⟨3, by omega, rfl, ⟨?_⟩⟩, by simp [intOf]⟩
          rw [show pgj 3 p0 p1 p2 = pg9 p0 p1 p2 from rfl, HSA.out]
          exact own_part2 HF.out (tOf _)
        · have d4 : decide (3 * r1 + 2 < (S.src.length : Int)) = false := decide_eq_false hin
          have hsa : p2 = (-1, 0, 0) := by rw [HP2.out, srcAt, if_neg hin]
          have HSA := Lib.hid hsa
          clear hC hsa
          go_wp2_with fail
          refine ⟨⟨3, by omega, rfl, ⟨?_⟩⟩, by simp [intOf]⟩
          rw [show pgj 3 p0 p1 p2 = pg9 p0 p1 p2 from rfl, HSA.out]
          exact HF.out
      · have HCj : Aside0 (Own w0 wr (Pt B7 (pg9 p0 p1 p2) :: Pt B8 (.cells #[.int .i64 r1, .bool r2] 45) :: Pt B5 (pg9 z3 z3 z3) :: Pt B4 (.cells #[.int .i64 0, .bool false] 45) :: PlO g A c r S L)) := ⟨HC.out⟩
        clear HC
        have hc7 := cells9 HCj.out.pt
        have hc5 := cells9 HCj.out.drop.drop.pt
        have f5 := blk_frozen HCj.out.drop.drop.pt
        have hp4 := HCj.out.drop.drop.drop.pt
        have y0 := blk_cell hp4 0
        have y1 := blk_cell hp4 1
        have z0 := blk_cell HCj.out.drop.pt 0
        have z1 := blk_cell HCj.out.drop.pt 1
        have g0 := blk_frozen hp4 0
        have g1 := blk_frozen hp4 1
        have f50 := f5 0
        have f51 := f5 1
        have f52 := f5 2
        have f53 := f5 3
        have f54 := f5 4
        have f55 := f5 5
        have f56 := f5 6
        have f57 := f5 7
        have f58 := f5 8
        obtain ⟨c0, c1, c2, c3, c4, c5, c6, c7, c8⟩ := hc7
        obtain ⟨e0, e1, e2, e3, e4, e5, e6, e7, e8⟩ := hc5
        have hne := own_ne2 HCj.out.drop.drop
        have hne2 := hne.symm
        have n1 := own_ne2 HCj.out.pull4
        have n2 := n1.symm
        have n3 := own_ne2 HCj.out.drop.pull3
        have n4 := n3.symm
        have n5 := own_ne2 HCj.out.pull3
        have n6 := n5.symm
        have n7 := own_ne2 HCj.out.drop.pull2
        have n8 := n7.symm
        clear f5 hp4
        go_wp2_with fail
        go_region
        all_goals clear c0 c1 c2 c3 c4 c5 c6 c7 c8 e0 e1 e2 e3 e4 e5 e6 e7 e8 f50 f51 f52 f53 f54 f55 f56 f57 f58 y0 y1 g0 g1 z0 z1
        all_goals go_wp2_with fail
        have HP := Aside0.mk (own_part2 (own_part1 (own_part0 (Own.pull4 (((HCj.out.pull4).set (i := 0) (.int .i64 r1)).set (i := 1) (.bool r2))) p0) p1) p2).drew
        clear HCj
        generalize hW : World.drew _ = W at HP ⊢
        obtain ⟨u0, u1, u2, u3, u4, u5, u6, u7, u8⟩ := cells9 HP.out.pt
        have v0 := blk_cell HP.out.drop.pt 0
        have v1 := blk_cell HP.out.drop.pt 1
        clear hW
        rw [← HP0.out, ← HP1.out, ← HP2.out]
        exact bodyPost_ret (v := .tuple #[.agg #[.int .i64 r1, .bool r2], pgV p0 p1 p2, .int .i64 0]) (by simp [results, Try.results16, go_sem, u0, u1, u2, u3, u4, u5, u6, u7, u8, v0, v1]) rfl ⟨rfl, HP.out.drop.drop.drop.drop⟩
  · have d3 : (r3 == 0) = false := by simpa using h3
    have HN3 := Aside0.mk h3
    have HBa := Aside0.mk (HB.out.alloc' (.cells #[.int .i64 r1, .bool r2] 45))
    clear HB
    have hc7 := cells9 HBa.out.pt
    have hc5 := cells9 HBa.out.drop.pt
    have f5 := blk_frozen HBa.out.drop.pt
    have hp4 := HBa.out.drop.drop.pt
    have y0 := blk_cell hp4 0
    have y1 := blk_cell hp4 1
    have g0 := blk_frozen hp4 0
    have g1 := blk_frozen hp4 1
    have f50 := f5 0
    have f51 := f5 1
    have f52 := f5 2
    have f53 := f5 3
    have f54 := f5 4
    have f55 := f5 5
    have f56 := f5 6
    have f57 := f5 7
    have f58 := f5 8
    obtain ⟨c0, c1, c2, c3, c4, c5, c6, c7, c8⟩ := hc7
    obtain ⟨e0, e1, e2, e3, e4, e5, e6, e7, e8⟩ := hc5
    clear h3 hb f5 hp4
    go_wp2_with fail
    go_region
    all_goals clear c0 c1 c2 c3 c4 c5 c6 c7 c8 e0 e1 e2 e3 e4 e5 e6 e7 e8 f50 f51 f52 f53 f54 f55 f56 f57 f58 y0 y1 g0 g1
    all_goals go_wp2_with fail
    have HP := Aside0.mk (own_part2 (own_part1 (own_part0 (Own.pull3 (((HBa.out.pull3).set (i := 0) (.int .i64 0)).set (i := 1) (.bool false))) z3) z3) z3).drew
    clear HBa
    generalize hW : World.drew _ = W at HP ⊢
    obtain ⟨u0, u1, u2, u3, u4, u5, u6, u7, u8⟩ := cells9 HP.out.pt
    have v0 := blk_cell HP.out.drop.pt 0
    have v1 := blk_cell HP.out.drop.pt 1
    clear hW
    exact bodyPost_ret (v := .tuple #[.agg #[.int .i64 0, .bool false], pgV z3 z3 z3, .int .i64 r3]) (by simp [results, Try.results16, go_sem, u0, u1, u2, u3, u4, u5, u6, u7, u8, v0, v1]) rfl ⟨.inl ⟨HN3.out, rfl⟩, HP.out.drop.drop.drop⟩
end
end Go.Proofs.Ytcfonmbojkolfaa.Plan
end

section
/- Law PlanFits: what its loop keeps (plain). -/
set_option linter.unusedVariables false
set_option linter.unusedSimpArgs false
namespace Go.Proofs.Ytcfonmbojkolfaa.Plan
open Go.RowKit Go.Proofs.YtcfonmbojkolfaaW.PrintWords Go.Proofs.Ytcfonmbojkolfaa.Mem Go.Proofs.Ytcfonmbojkolfaa.Own Go.Proofs.Ytcfonmbojkolfaa.Maps Go.Proofs.Ytcfonmbojkolfaa.PN

/-- Below 8. -/
def b8 (x : Int) : Int := (decklebook_Below.f x 8).getD 0
theorem b8_is (x : Int) : decklebook_Below.f x 8 = some (b8 x) ∧ 0 ≤ b8 x ∧ b8 x < 8 := by
  have h1 : Int.tmod x 8 < 8 := Int.tmod_lt_of_pos x (by decide)
  have h2 : -8 < Int.tmod x 8 := by
    have := Int.tmod_lt_of_pos (-x) (b := 8) (by decide)
    rw [Int.neg_tmod] at this
    omega
  unfold b8 decklebook_Below.f
  rw [if_neg (by decide)]
  by_cases h : Int.tmod x 8 < 0
  · rw [if_pos h]
    have e : wrap64 (Int.tmod x 8 + 8) = Int.tmod x 8 + 8 := by unfold wrap64; omega
    rw [e]
    exact ⟨rfl, by show 0 ≤ Int.tmod x 8 + 8; omega, by show Int.tmod x 8 + 8 < 8; omega⟩
  · rw [if_neg h]
    exact ⟨rfl, by show 0 ≤ Int.tmod x 8; omega, by show Int.tmod x 8 < 8; omega⟩
structure FS where
  row : List Int
  src : List S27
def at8 (s : FS) (x : Int) : Int := s.row.getD (b8 x).toNat 0
def stepF (tg : Int) (s : FS) (x : Int) : FS := if b8 x = tg ∨ 18 ≤ at8 s x then s else ⟨s.row.set (b8 x).toNat (at8 s x + 1), s.src ++ [⟨b8 x, at8 s x / 3, at8 s x % 3⟩]⟩
structure FInv (tg : Int) (s : FS) : Prop where
  len : s.row.length = 8
  row : ∀ r ∈ s.row, 0 ≤ r ∧ r ≤ 18
  ins : ∀ a ∈ s.src, (0 ≤ a.f0 ∧ a.f0 < 8) ∧ a.f0 ≠ tg ∧ 0 ≤ a.f1 ∧ (0 ≤ a.f2 ∧ a.f2 < 3) ∧ 3 * a.f1 + a.f2 < s.row.getD a.f0.toNat 0
  once : (s.src.map tOf).Nodup
  sum : (s.src.length : Int) = s.row.sum
theorem sum_set : ∀ (l : List Int) (i : Nat), i < l.length → (l.set i (l.getD i 0 + 1)).sum = l.sum + 1
  | [], i, h => absurd h (by simp)
  | x :: l, 0, _ => by simp; omega
  | x :: l, i + 1, h => by
    have := sum_set l i (by simpa using h)
    simp only [List.set_cons_succ, List.sum_cons, List.getD_cons_succ]
    omega
theorem sum_le : ∀ (l : List Int), (∀ r ∈ l, 0 ≤ r ∧ r ≤ 18) → l.sum ≤ 18 * l.length
  | [], _ => by simp
  | x :: l, h => by
    have := sum_le l (fun r hr => h r (by simp [hr]))
    have := h x (by simp)
    simp only [List.sum_cons, List.length_cons]
    omega
def fs0 : FS := ⟨List.replicate 8 0, []⟩
theorem fs0_inv (tg : Int) : FInv tg fs0 := ⟨rfl, by decide, by simp [fs0], by simp [fs0], by decide⟩
theorem at8_bound {tg : Int} {s : FS} (h : FInv tg s) (x : Int) : 0 ≤ at8 s x ∧ at8 s x ≤ 18 := by
  obtain ⟨_, h0, h1⟩ := b8_is x
  have hl := h.len
  have hi : (b8 x).toNat < s.row.length := by omega
  have : at8 s x = s.row[(b8 x).toNat] := by
    unfold at8
    rw [List.getD_eq_getElem?_getD, List.getElem?_eq_getElem hi]; rfl
  rw [this]
  exact h.row _ (List.getElem_mem hi)
theorem stepF_inv {tg : Int} {s : FS} (h : FInv tg s) (x : Int) : FInv tg (stepF tg s x) := by
  unfold stepF
  obtain ⟨_, h0, h1⟩ := b8_is x
  obtain ⟨g0, g1⟩ := at8_bound h x
  have hl := h.len
  by_cases hc : b8 x = tg ∨ 18 ≤ at8 s x
  · rw [if_pos hc]; exact h
  · rw [if_neg hc]
    have hi : (b8 x).toNat < s.row.length := by omega
    refine ⟨by simpa using h.len, ?_, ?_, ?_, ?_⟩
    · intro r hr
      rcases List.mem_or_eq_of_mem_set hr with h2 | h2
      · exact h.row r h2
      · omega
    · intro a ha
      have hg : ∀ j : Nat, (s.row.set (b8 x).toNat (at8 s x + 1)).getD j 0 = if (b8 x).toNat = j then at8 s x + 1 else s.row.getD j 0 := by
        intro j
        rw [List.getD_eq_getElem?_getD, List.getElem?_set, List.getD_eq_getElem?_getD]
        by_cases hj : (b8 x).toNat = j
        · rw [if_pos hj, if_pos hj, if_pos (by omega)]; rfl
        · rw [if_neg hj, if_neg hj]
      show _ ∧ _ ∧ _ ∧ _ ∧ _ < (s.row.set (b8 x).toNat (at8 s x + 1)).getD a.f0.toNat 0
      rw [hg]
      rcases List.mem_append.mp ha with h2 | h2
      · obtain ⟨k1, k2, k3, k4, k5⟩ := h.ins a h2
        refine ⟨k1, k2, k3, k4, ?_⟩
        by_cases hj : (b8 x).toNat = a.f0.toNat
        · rw [if_pos hj]
          have : at8 s x = s.row.getD a.f0.toNat 0 := by unfold at8; rw [hj]
          omega
        · rw [if_neg hj]; exact k5
      · obtain rfl := List.mem_singleton.mp h2
        refine ⟨⟨h0, h1⟩, fun e => hc (.inl e), by show 0 ≤ at8 s x / 3; omega, ⟨by show 0 ≤ at8 s x % 3; omega, by show at8 s x % 3 < 3; omega⟩, ?_⟩
        rw [if_pos rfl]
        show 3 * (at8 s x / 3) + at8 s x % 3 < at8 s x + 1
        omega
    · rw [List.map_append, List.nodup_append]
      refine ⟨h.once, by simp, ?_⟩
      intro t ht t2 ht2 e
      obtain ⟨a, ha, rfl⟩ := List.mem_map.mp ht
      simp only [List.map_cons, List.map_nil, List.mem_singleton] at ht2
      obtain ⟨_, _, _, _, k5⟩ := h.ins a ha
      rw [ht2] at e
      have e0 : a.f0 = b8 x := congrArg (·.1) e
      have e1 : a.f1 = at8 s x / 3 := congrArg (·.2.1) e
      have e2 : a.f2 = at8 s x % 3 := congrArg (·.2.2) e
      have : at8 s x = s.row.getD a.f0.toNat 0 := by unfold at8; rw [e0]
      omega
    · show ((s.src ++ [_]).length : Int) = _
      have := sum_set s.row (b8 x).toNat hi
      have e : at8 s x = s.row.getD (b8 x).toNat 0 := rfl
      rw [← e] at this
      rw [this, List.length_append]
      have := h.sum
      simp only [List.length_cons, List.length_nil]
      omega
theorem FInv.short {tg : Int} {s : FS} (h : FInv tg s) : s.src.length ≤ 144 := by
  have h1 := sum_le s.row h.row
  have h2 := h.sum
  have h3 := h.len
  omega
theorem runM_tw (tg : Int) : ∀ (l : List S27) (i : Nat) (s : MS), s.tw = false → (∀ a ∈ l, mget (tOf a) s.m = none) → (l.map tOf).Nodup → (∀ a ∈ l, a.f0 ≠ tg) → (runM tg i l s).tw = false
  | [], _, _, h, _, _, _ => h
  | b :: l, i, s, h, hm, hn, ht => by
    rw [List.map_cons, List.nodup_cons] at hn
    refine runM_tw tg l (i + 1) (stepM tg s i (tOf b)) ?_ ?_ hn.2 (fun a ha => ht a (by simp [ha]))
    · show (s.tw || (mget (tOf b) s.m).isSome || (b.f0 == tg)) = false
      rw [h, hm b (by simp)]
      simpa using ht b (by simp)
    · intro a ha
      show mget (tOf a) (mset (tOf b) (i : Int) s.m) = none
      rw [mget_set, if_neg (fun e => hn.1 (by rw [← e]; exact List.mem_map.mpr ⟨a, ha, rfl⟩))]
      exact hm a (by simp [ha])
theorem fits_make {tg : Int} {s : FS} (h : FInv tg s) (h0 : 0 ≤ tg) (h1 : tg < 8) : makeC G0 tg s.src = if 18 < s.src.length then 2 else 0 := by
  have hp : ∀ a ∈ s.src, PageIn G0 (tOf a) := by
    intro a ha
    obtain ⟨k1, k2, k3, k4, k5⟩ := h.ins a ha
    have hi : a.f0.toNat < s.row.length := by have := h.len; omega
    have : s.row.getD a.f0.toNat 0 ≤ 18 := by
      rw [List.getD_eq_getElem?_getD, List.getElem?_eq_getElem hi]
      exact (h.row _ (List.getElem_mem hi)).2
    exact ⟨k1, ⟨k3, by show a.f1 < 6; omega⟩, k4⟩
  have htw : (runM tg 0 s.src ms0).tw = false := runM_tw tg s.src 0 ms0 rfl (fun a _ => rfl) h.once (fun a ha => (h.ins a ha).2.1)
  unfold makeC
  rw [if_neg (not_not_intro hp), if_neg (by show ¬ (tg < 0 ∨ (8 : Int) ≤ tg); omega), htw]
  by_cases hl : 18 < s.src.length
  · rw [if_pos (by show (3 * 6 : Int) < s.src.length; omega), if_pos hl]
  · rw [if_neg (by show ¬ (3 * 6 : Int) < s.src.length; omega), if_neg hl]
    simp
end Go.Proofs.Ytcfonmbojkolfaa.Plan
end

section
/- Package plan, by hand: the steps of six lines. -/
set_option linter.unusedVariables false
set_option linter.unusedSimpArgs false
namespace Go.Proofs.Ytcfonmbojkolfaa.Plan
open Go.RowKit Go.Proofs.YtcfonmbojkolfaaW.PrintWords Go.Proofs.Ytcfonmbojkolfaa.PN
/-- The steps of six lines: each line once foggy, once fine. -/
def six : List (Int × Bool) := [(0, false), (1, false), (0, true), (2, false), (1, true), (3, false), (2, true), (4, false), (3, true), (5, false), (4, true), (5, true)]
theorem at_six : ∀ k : Fin 12, order_At.f 8 6 (k.val : Nat) = some ((six.getD k.val (0, false)).1, (six.getD k.val (0, false)).2, 0) := by decide +kernel
theorem at_end : order_At.f 8 6 12 = some (0, false, 1) := by kernel_rfl
theorem six_line : ∀ k : Fin 12, 0 ≤ (six.getD k.val (0, false)).1 ∧ (six.getD k.val (0, false)).1 < 6 := by decide
end Go.Proofs.Ytcfonmbojkolfaa.Plan
end

section
/- Law PlanOnce: plain. -/
set_option linter.unusedVariables false
set_option linter.unusedSimpArgs false
namespace Go.Proofs.Ytcfonmbojkolfaa.Plan
open Go.RowKit Go.Proofs.YtcfonmbojkolfaaW.PrintWords Go.Proofs.Ytcfonmbojkolfaa.Mem Go.Proofs.Ytcfonmbojkolfaa.Own Go.Proofs.Ytcfonmbojkolfaa.Maps Go.Proofs.Ytcfonmbojkolfaa.PN

theorem runM_all (tg : Int) : ∀ (l : List S27) (i : Nat) (s : MS), (runM tg i l s).tw = false → s.tw = false ∧ (∀ a ∈ l, a.f0 ≠ tg ∧ mget (tOf a) s.m = none) ∧ (l.map tOf).Nodup ∧
    (∀ k, (∀ a ∈ l, tOf a ≠ k) → mget k (runM tg i l s).m = mget k s.m) ∧ ∀ (j : Nat) (h : j < l.length), mget (tOf l[j]) (runM tg i l s).m = some ((i + j : Nat) : Int)
  | [], i, s, h => ⟨h, by simp, by simp, fun _ _ => rfl, fun j h => absurd h (by simp)⟩
  | b :: l, i, s, h => by
    obtain ⟨h1, h2, h3, h4, h5⟩ := runM_all tg l (i + 1) (stepM tg s i (tOf b)) h
    have h1' : (s.tw || (mget (tOf b) s.m).isSome || (b.f0 == tg)) = false := h1
    simp only [Bool.or_eq_false_iff] at h1'
    obtain ⟨⟨k1, k2⟩, k3⟩ := h1'
    have k2' : mget (tOf b) s.m = none := by simpa using k2
    have k3' : b.f0 ≠ tg := by simpa using k3
    have hm : ∀ k, mget k (stepM tg s i (tOf b)).m = if k = tOf b then some (i : Int) else mget k s.m := fun k => mget_set (tOf b) k (i : Int) s.m
    have hne : ∀ a ∈ l, tOf a ≠ tOf b ∧ mget (tOf a) s.m = none := by
      intro a ha
      have := (h2 a ha).2
      rw [hm] at this
      by_cases e : tOf a = tOf b
      · rw [if_pos e] at this; cases this
      · rw [if_neg e] at this; exact ⟨e, this⟩
    refine ⟨k1, ?_, ?_, ?_, ?_⟩
    · intro a ha
      rcases List.mem_cons.mp ha with rfl | ha
      · exact ⟨k3', k2'⟩
      · exact ⟨(h2 a ha).1, (hne a ha).2⟩
    · rw [List.map_cons, List.nodup_cons]
      refine ⟨fun hmem => ?_, h3⟩
      obtain ⟨a, ha, e⟩ := List.mem_map.mp hmem
      exact (hne a ha).1 e
    · intro k hk
      show mget k (runM tg (i + 1) l (stepM tg s i (tOf b))).m = _
      rw [h4 k (fun a ha => hk a (by simp [ha])), hm, if_neg (fun e => hk b (by simp) e.symm)]
    · intro j hj
      show mget _ (runM tg (i + 1) l (stepM tg s i (tOf b))).m = _
      cases j with
      | zero =>
        show mget (tOf b) _ = _
        rw [h4 (tOf b) (fun a ha => (hne a ha).1), hm, if_pos rfl]; rfl
      | succ j =>
        have hj' : j < l.length := by simpa using hj
        show mget (tOf l[j]) _ = _
        rw [h5 j hj']
        congr 2
        omega
theorem rd_get (l : List S27) (i : Nat) (h : i < l.length) : rd_T27 l (i : Int) = l[i] := by
  show l.getD (i : Int).toNat z27 = _
  rw [Int.toNat_natCast, List.getD_eq_getElem?_getD, List.getElem?_eq_getElem h]; rfl
/-- What is known where there is a plan. -/
theorem plan_yes {tg : Int} {l : List S27} (h : makeC G0 tg l = 0) : (0 ≤ tg ∧ tg < 8) ∧ l.length ≤ 18 ∧ (∀ i : Nat, i < l.length → toP (planOf G0 tg l) (tOf (rd_T27 l i)) = (plcAt tg i, true)) ∧ (∀ i : Nat, i < l.length → 0 ≤ (rd_T27 l i).f0) ∧
    ∀ a i, mget a (planOf G0 tg l).m = some i → 0 ≤ i ∧ i ≤ 1000000 := by
  unfold makeC at h
  by_cases c1 : ∀ a ∈ l, PageIn G0 (tOf a)
  · rw [if_neg (not_not_intro c1)] at h
    by_cases c2 : tg < 0 ∨ G0.b ≤ tg
    · rw [if_pos c2] at h; cases h
    · rw [if_neg c2] at h
      by_cases c3 : 3 * G0.l < l.length
      · rw [if_pos c3] at h; cases h
      · rw [if_neg c3] at h
        have htw : (runM tg 0 l ms0).tw = false := by
          cases e : (runM tg 0 l ms0).tw with
          | false => rfl
          | true => rw [e] at h; cases h
        obtain ⟨_, _, _, g4, g5⟩ := runM_all tg l 0 ms0 htw
        have c2' : ¬ (tg < 0 ∨ (8 : Int) ≤ tg) := c2
        have c3' : ¬ (3 * 6 : Int) < l.length := c3
        refine ⟨by omega, by omega, ?_, ?_, ?_⟩
        · intro i hi
          unfold toP
          rw [rd_get l i hi]
          have := g5 i hi
          rw [Nat.zero_add] at this
          show (match mget (tOf l[i]) (runM tg 0 l ms0).m with | none => _ | some i => _) = _
          rw [this]
          rfl
        · intro i hi
          rw [rd_get l i hi]
          exact (c1 _ (List.getElem_mem hi)).1.1
        · intro a i hi
          by_cases hm : ∃ b ∈ l, tOf b = a
          · obtain ⟨b, hb, rfl⟩ := hm
            obtain ⟨j, hj, rfl⟩ := List.getElem_of_mem hb
            have := g5 j hj
            rw [Nat.zero_add] at this
            have hi' : mget (tOf l[j]) (runM tg 0 l ms0).m = some i := hi
            rw [this] at hi'
            obtain rfl := Option.some.inj hi'
            omega
          · have : mget a (runM tg 0 l ms0).m = mget a ms0.m := g4 a (fun b hb e => hm ⟨b, hb, e⟩)
            have hi' : mget a (runM tg 0 l ms0).m = some i := hi
            rw [this] at hi'
            cases hi'
  · rw [if_pos c1] at h; cases h
/-- The places taken so far. -/
def takenM (tg : Int) : Nat → List (Tri × Int)
  | 0 => []
  | k + 1 => mset (plcAt tg k) 1 (takenM tg k)
theorem taken_none (tg : Int) (i : Nat) : ∀ k : Nat, k ≤ i → mget (plcAt tg i) (takenM tg k) = none
  | 0, _ => rfl
  | k + 1, h => by
    show mget (plcAt tg i) (mset (plcAt tg k) 1 (takenM tg k)) = none
    rw [mget_set, if_neg, taken_none tg i k (by omega)]
    intro e
    have e1 := congrArg (·.2.1) e
    have e2 := congrArg (·.2.2) e
    simp only at e1 e2
    omega
/-- How many sources a line has. -/
def onLine (n : Nat) (r : Int) : Int := if 3 * r + 2 < n then 3 else if 3 * r + 1 < n then 2 else if 3 * r < n then 1 else 0
/-- How many sources the first k steps tell, foggy (b false) or fine. -/
def toldN (n : Nat) (b : Bool) : Nat → Int
  | 0 => 0
  | k + 1 => toldN n b k + if (six.getD k (0, false)).2 = b then onLine n (six.getD k (0, false)).1 else 0
theorem told_all (b : Bool) : ∀ n : Fin 19, toldN n.val b 12 = (n.val : Nat) := by cases b <;> decide +kernel
theorem told_bd (n : Nat) (b : Bool) : ∀ k : Nat, 0 ≤ toldN n b k ∧ toldN n b k ≤ 3 * k
  | 0 => by simp [toldN]
  | k + 1 => by
    have := told_bd n b k
    have h2 : 0 ≤ onLine n (six.getD k (0, false)).1 ∧ onLine n (six.getD k (0, false)).1 ≤ 3 := by unfold onLine; split <;> (try split) <;> (try split) <;> omega
    unfold toldN
    split <;> omega
end Go.Proofs.Ytcfonmbojkolfaa.Plan
end

section
/- Law PlanMakes: the document's May, At, To in plain words. -/
set_option linter.unusedVariables false
set_option linter.unusedSimpArgs false
namespace Go.Proofs.Ytcfonmbojkolfaa.Plan
open Go.RowKit Go.Proofs.YtcfonmbojkolfaaW.PrintWords Go.Proofs.Ytcfonmbojkolfaa.Mem Go.Proofs.Ytcfonmbojkolfaa.Own Go.Proofs.Ytcfonmbojkolfaa.Maps Go.Proofs.Ytcfonmbojkolfaa.PN

instance (G : G6) : Decidable G.Ok := by unfold G6.Ok; infer_instance
theorem has_is (G : G6) (x : S27) : deckleref06_Has.f G.b G.l G.y G.s G.p G.w x.f0 x.f1 x.f2 = some (decide (PageIn G (tOf x))) := by
  unfold deckleref06_Has.f
  by_cases h1 : x.f0 ≥ 0
  · rw [if_pos h1]
    by_cases h2 : x.f0 < G.b
    · rw [if_pos h2]
      by_cases h3 : x.f1 ≥ 0
      · rw [if_pos h3]
        by_cases h4 : x.f1 < G.l
        · rw [if_pos h4]
          by_cases h5 : x.f2 ≥ 0
          · rw [if_pos h5]
            congr 1
            rw [decide_eq_decide]
            exact ⟨fun h => ⟨⟨h1, h2⟩, ⟨h3, h4⟩, h5, h⟩, fun h => h.2.2.2⟩
          · rw [if_neg h5, decide_eq_false (fun h => h5 h.2.2.1)]
        · rw [if_neg h4, decide_eq_false (fun h => h4 h.2.1.2)]
      · rw [if_neg h3, decide_eq_false (fun h => h3 h.2.1.1)]
    · rw [if_neg h2, decide_eq_false (fun h => h2 h.1.2)]
  · rw [if_neg h1, decide_eq_false (fun h => h1 h.1.1)]
theorem may_l1 (tg : Int) (l : List S27) (G : G6) (i : Nat) (hi : i < l.length) (hl : l.length ≤ 200) : ∀ (d k j : Nat) (tw : Bool), i - j = d → j ≤ i →
    ∃ tw' : Bool, deckleref25_May.l1 (k + d + 1) tg l tw i j G.b G.l G.y G.s G.p G.w = deckleref25_May.l0 k tg l tw' ((i + 1 : Nat) : Int) G.b G.l G.y G.s G.p G.w ∧
      (tw' = true ↔ tw = true ∨ ∃ q : Nat, j ≤ q ∧ q < i ∧ tOf (rd_T27 l q) = tOf (rd_T27 l i))
  | 0, k, j, tw, hd, hj => by
    refine ⟨tw, ?_, ⟨fun h => .inl h, fun h => h.elim id (fun ⟨q, h1, h2, _⟩ => by omega)⟩⟩
    show deckleref25_May.l1 (k + 1) _ _ _ _ _ _ _ _ _ _ _ = _
    rw [deckleref25_May.l1, if_neg (by omega), w64 (by omega) (by omega), show (i : Int) + 1 = ((i + 1 : Nat) : Int) by omega]
  | d + 1, k, j, tw, hd, hj => by
    have ih := fun tw => may_l1 tg l G i hi hl d k (j + 1) tw (by omega) (by omega)
    show ∃ tw', deckleref25_May.l1 (k + d + 1 + 1) _ _ _ _ _ _ _ _ _ _ _ = _ ∧ _
    have hs : wrap64 ((j : Int) + 1) = ((j + 1 : Nat) : Int) := by rw [w64 (by omega) (by omega)]; omega
    rw [deckleref25_May.l1, if_pos (by omega), hs]
    cases tw with
    | true =>
      obtain ⟨tw', h1, h2⟩ := ih true
      refine ⟨tw', ?_, ⟨fun _ => .inl rfl, fun _ => h2.2 (.inl rfl)⟩⟩
      rw [if_pos rfl, h1]
    | false =>
      rw [if_neg (by decide), if_pos (by omega), if_pos (by omega), if_pos (by omega), if_pos (by omega)]
      have e : ((rd_T27 l j).f0 == (rd_T27 l i).f0 && ((rd_T27 l j).f1 == (rd_T27 l i).f1 && ((rd_T27 l j).f2 == (rd_T27 l i).f2))) = decide (tOf (rd_T27 l j) = tOf (rd_T27 l i)) := by
        rw [Bool.eq_iff_iff]; simp [tOf]
      obtain ⟨tw', h1, h2⟩ := ih (decide (tOf (rd_T27 l j) = tOf (rd_T27 l i)))
      refine ⟨tw', by rw [e]; exact h1, h2.trans ⟨?_, ?_⟩⟩
      · rintro (h | ⟨q, h3, h4, h5⟩)
        · exact .inr ⟨j, Nat.le_refl _, by omega, of_decide_eq_true h⟩
        · exact .inr ⟨q, by omega, h4, h5⟩
      · rintro (h | ⟨q, h3, h4, h5⟩)
        · cases h
        · by_cases hq : q = j
          · subst hq; exact .inl (decide_eq_true h5)
          · exact .inr ⟨q, by omega, h4, h5⟩
/-- A source stands in the map just if it came before. -/
theorem runM_keys (tg : Int) (l : List S27) (a : Tri) : ∀ i : Nat, i ≤ l.length → ((mget a (runM tg 0 (l.take i) ms0).m).isSome = true ↔ ∃ q : Nat, q < i ∧ tOf (rd_T27 l q) = a)
  | 0, _ => by
    rw [List.take_zero]
    exact ⟨fun h => (by cases h), fun ⟨q, h, _⟩ => by omega⟩
  | i + 1, h => by
    rw [runM_take tg l i (by omega)]
    show (mget a (mset _ _ _)).isSome = true ↔ _
    rw [mget_set]
    by_cases e : a = tOf (rd_T27 l i)
    · rw [if_pos e]
      exact ⟨fun _ => ⟨i, by omega, e.symm⟩, fun _ => rfl⟩
    · rw [if_neg e, runM_keys tg l a i (by omega)]
      constructor
      · rintro ⟨q, h1, h2⟩
        exact ⟨q, by omega, h2⟩
      · rintro ⟨q, h1, h2⟩
        by_cases hq : q = i
        · subst hq; exact absurd h2.symm e
        · exact ⟨q, by omega, h2⟩
theorem may_l0 (tg : Int) (l : List S27) (G : G6) (hG : 0 ≤ G.l ∧ G.l ≤ 64) (hl : l.length ≤ 200) : ∀ (d k i : Nat), l.length - i = d → i ≤ l.length → d * 203 + 1 ≤ k → (∀ q : Nat, q < i → PageIn G (tOf (rd_T27 l q))) →
    deckleref25_May.l0 k tg l (runM tg 0 (l.take i) ms0).tw i G.b G.l G.y G.s G.p G.w = some (if ¬ (∀ a ∈ l, PageIn G (tOf a)) then 1 else if 3 * G.l < l.length then 2 else if (runM tg 0 l ms0).tw = true then 5 else 0)
  | 0, k, i, hd, hi, hk, hin => by
    obtain ⟨k, rfl⟩ : ∃ m, k = m + 1 := ⟨k - 1, by omega⟩
    obtain rfl : i = l.length := by omega
    have hall : ∀ a ∈ l, PageIn G (tOf a) := by
      intro a ha
      obtain ⟨j, hj, rfl⟩ := List.getElem_of_mem ha
      rw [← rd_get l j hj]
      exact hin j hj
    rw [deckleref25_May.l0, if_neg (by omega), w64 (by omega) (by omega), if_neg (not_not_intro hall), List.take_length]
    by_cases h3 : 3 * G.l < l.length
    · rw [if_pos (by omega), if_pos h3]
    · rw [if_neg (by omega), if_neg h3]
      split <;> rfl
  | d + 1, k, i, hd, hi, hk, hin => by
    obtain ⟨k, rfl⟩ : ∃ m, k = m + i + 3 := ⟨k - i - 3, by omega⟩
    rw [deckleref25_May.l0, if_pos (by omega), if_pos (by omega), has_is, Option.bind_some]
    by_cases hp : PageIn G (tOf (rd_T27 l i))
    · rw [decide_eq_true hp, if_pos rfl]
      have key : ∀ tw : Bool, (tw = true ↔ (runM tg 0 (l.take i) ms0).tw = true ∨ (rd_T27 l i).f0 = tg) → deckleref25_May.j2 (k + i + 2) tg l tw i G.b G.l G.y G.s G.p G.w = some (if ¬ (∀ a ∈ l, PageIn G (tOf a)) then 1 else if 3 * G.l < l.length then 2 else if (runM tg 0 l ms0).tw = true then 5 else 0) := by
        intro tw htw
        rw [deckleref25_May.j2]
        obtain ⟨tw', h1, h2⟩ := may_l1 tg l G i (by omega) hl i k 0 tw (by omega) (by omega)
        have h1' : deckleref25_May.l1 (k + i + 1) tg l tw i 0 G.b G.l G.y G.s G.p G.w = _ := h1
        rw [h1']
        have e : tw' = (runM tg 0 (l.take (i + 1)) ms0).tw := by
          rw [runM_take tg l i (by omega), Bool.eq_iff_iff, h2, htw]
          show _ ↔ ((runM tg 0 (l.take i) ms0).tw || (mget (tOf (rd_T27 l i)) (runM tg 0 (l.take i) ms0).m).isSome || ((tOf (rd_T27 l i)).1 == tg)) = true
          rw [Bool.or_eq_true, Bool.or_eq_true, runM_keys tg l _ i (by omega), beq_iff_eq]
          constructor
          · rintro ((h | h) | ⟨q, _, h3, h4⟩)
            · exact .inl (.inl h)
            · exact .inr h
            · exact .inl (.inr ⟨q, h3, h4⟩)
          · rintro ((h | ⟨q, h3, h4⟩) | h)
            · exact .inl (.inl h)
            · exact .inr ⟨q, Nat.zero_le _, h3, h4⟩
            · exact .inl (.inr h)
        rw [e]
        refine may_l0 tg l G hG hl d k (i + 1) (by omega) (by omega) (by omega) (fun q hq => ?_)
        by_cases hq' : q = i
        · rw [hq']; exact hp
        · exact hin q (by omega)
      cases htw : (runM tg 0 (l.take i) ms0).tw with
      | true =>
        rw [if_pos rfl]
        exact key true ⟨fun _ => .inl htw, fun _ => rfl⟩
      | false =>
        rw [if_neg (by decide)]
        refine key _ ⟨fun h => .inr (by simpa using h), fun h => h.elim (fun h => by rw [htw] at h; cases h) (fun h => by simpa using h)⟩
    · rw [decide_eq_false hp, if_neg (by decide), if_pos (fun h => hp (by rw [rd_get l i (by omega)]; exact h _ (List.getElem_mem _)))]
theorem may_is (tg : Int) (l : List S27) (G : G6) (hb : (Lit.int .i64 G.b).wf = true) (hl : (Lit.int .i64 G.l).wf = true) (hn : l.length ≤ 200) :
    deckleref25_May.f 50000 G.b G.l G.y G.s G.p G.w tg l = some (if G.Ok then makeC G tg l else 60) := by
  unfold deckleref25_May.f
  rw [ref_check G.b G.l G.y G.s G.p G.w hb hl 50000 (by omega), Option.bind_some]
  by_cases hok : G.Ok
  · have hok' : GeoOk G.b G.l G.y G.s G.p G.w := hok
    have hsz := hok'.1
    unfold SizesOk at hsz
    rw [if_pos hok', if_pos rfl, if_pos hok]
    have h0 := may_l0 tg l G ⟨by omega, by omega⟩ hn l.length 49999 0 (by omega) (by omega) (by omega) (fun q h => by omega)
    rw [List.take_zero] at h0
    have h0' : deckleref25_May.l0 49999 tg l false 0 G.b G.l G.y G.s G.p G.w = _ := h0
    have hj : ∀ b : Bool, deckleref25_May.j0 50000 tg l b G.b G.l G.y G.s G.p G.w = if b = true then some 1 else deckleref25_May.l0 49999 tg l false 0 G.b G.l G.y G.s G.p G.w := fun b => by rw [deckleref25_May.j0]
    unfold makeC
    by_cases c1 : tg < 0
    · rw [if_pos c1, hj, if_pos rfl]
      split
      · rfl
      · rw [if_pos (.inl c1)]
    · rw [if_neg c1, hj]
      by_cases c2 : tg ≥ G.b
      · rw [if_pos (decide_eq_true c2)]
        split
        · rfl
        · rw [if_pos (.inr c2)]
      · rw [if_neg (by simpa using c2), h0']
        by_cases c3 : ¬ ∀ a ∈ l, PageIn G (tOf a)
        · rw [if_pos c3, if_pos c3]
        · rw [if_neg c3, if_neg c3, if_neg (show ¬ (tg < 0 ∨ G.b ≤ tg) by omega)]
  · have hok' : ¬ GeoOk G.b G.l G.y G.s G.p G.w := hok
    rw [if_neg hok', if_neg (by decide), if_neg hok]
end Go.Proofs.Ytcfonmbojkolfaa.Plan
end

section
/- Law PlanMakes: the document's At and To, what a plan knows, in plain words. -/
set_option linter.unusedVariables false
set_option linter.unusedSimpArgs false
namespace Go.Proofs.Ytcfonmbojkolfaa.Plan
open Go.RowKit Go.Proofs.YtcfonmbojkolfaaW.PrintWords Go.Proofs.Ytcfonmbojkolfaa.Mem Go.Proofs.Ytcfonmbojkolfaa.Own Go.Proofs.Ytcfonmbojkolfaa.Maps Go.Proofs.Ytcfonmbojkolfaa.PN

/-- A step of a block of ln lines, and whether there is one. -/
def stepAt (ln k : Int) : Int × Bool × Int := if k < 0 ∨ 2 * ln ≤ k then (0, false, 1) else if k = 2 * ln - 1 then (ln - 1, true, 0) else if k = 0 ∨ k % 2 = 1 then ((k + 1) / 2, false, 0) else (k / 2 - 1, true, 0)
theorem order_is (ln k : Int) (h1 : 1 ≤ ln) (h2 : ln ≤ 64) : order_At.f 8 ln k = some (stepAt ln k) := by
  unfold order_At.f order_may.f stepAt
  rw [if_pos (by omega), decide_eq_true h2, Option.bind_some, if_pos rfl]
  have hj : ∀ b : Bool, order_At.j0 8 ln k b = order_At.j0 (7 + 1) ln k b := fun _ => rfl
  by_cases c1 : k < 0
  · rw [if_pos c1, if_pos (.inl c1), hj, order_At.j0, if_pos rfl]
  rw [if_neg c1, hj, order_At.j0, w64 (x := 2 * ln) (by omega) (by omega)]
  by_cases c2 : k ≥ 2 * ln
  · rw [if_pos (decide_eq_true c2), if_pos (show k < 0 ∨ 2 * ln ≤ k from .inr c2)]
  rw [if_neg (show ¬ (k < 0 ∨ 2 * ln ≤ k) by omega), if_neg (by simpa using c2), w64 (x := 2 * ln - 1) (by omega) (by omega)]
  by_cases c3 : k = 2 * ln - 1
  · rw [if_pos c3, if_pos c3, w64 (by omega) (by omega)]
  rw [if_neg c3, if_neg c3, w64 (x := k + 1) (by omega) (by omega), Int.tdiv_eq_ediv_of_nonneg (by omega), w64 (x := (k + 1) / 2) (by omega) (by omega)]
  by_cases c4 : k = 0
  · rw [if_pos c4, if_pos (.inl c4)]
  rw [if_neg c4, Int.tmod_eq_emod_of_nonneg (by omega)]
  by_cases c5 : k % 2 = 1
  · rw [if_pos c5, if_pos (.inr c5)]
  rw [if_neg c5, if_neg (show ¬ (k = 0 ∨ k % 2 = 1) by omega), Int.tdiv_eq_ediv_of_nonneg (by omega), w64 (x := k / 2) (by omega) (by omega), w64 (by omega) (by omega)]
/-- The steps but for the last one, of i + 1 lines. -/
def stepsL : Nat → List S45
  | 0 => [⟨0, false⟩]
  | i + 1 => stepsL i ++ [⟨((i + 1 : Nat) : Int), false⟩, ⟨(i : Int), true⟩]
theorem stepsL_length : ∀ i, (stepsL i).length = 2 * i + 1
  | 0 => rfl
  | i + 1 => by rw [stepsL, List.length_append, stepsL_length i]; simp; omega
theorem stepsL_get : ∀ (i k : Nat), k < 2 * i + 1 → (stepsL i).getD k z45 = if k = 0 ∨ k % 2 = 1 then ⟨(((k + 1) / 2 : Nat) : Int), false⟩ else ⟨((k / 2 : Nat) : Int) - 1, true⟩
  | 0, k, h => by
    obtain rfl : k = 0 := by omega
    rfl
  | i + 1, k, h => by
    have hl := stepsL_length i
    rw [stepsL]
    by_cases c : k < 2 * i + 1
    · rw [List.getD_eq_getElem?_getD, List.getElem?_append_left (by omega), ← List.getD_eq_getElem?_getD]
      exact stepsL_get i k c
    · rw [List.getD_eq_getElem?_getD, List.getElem?_append_right (by omega), hl]
      by_cases c2 : k = 2 * i + 1
      · subst c2
        rw [if_pos (.inr (by omega)), Nat.sub_self, show (2 * i + 1 + 1) / 2 = i + 1 by omega]
        rfl
      · obtain rfl : k = 2 * i + 2 := by omega
        rw [if_neg (by omega), show 2 * i + 2 - (2 * i + 1) = 1 by omega, show (2 * i + 2) / 2 = i + 1 by omega]
        show (⟨(i : Int), true⟩ : S45) = _
        rw [show (((i + 1 : Nat) : Int) - 1) = i by omega]
theorem steps_l0 (ln : Nat) (h2 : ln ≤ 64) : ∀ (d k i : Nat), ln - (i + 1) = d → i + 1 ≤ ln → d < k → deckleref07_Steps.l0 k ln (stepsL i) ((i + 1 : Nat) : Int) = some (stepsL (ln - 1) ++ [⟨(ln : Int) - 1, true⟩])
  | 0, k, i, hd, hi, hk => by
    obtain ⟨k, rfl⟩ : ∃ m, k = m + 1 := ⟨k - 1, by omega⟩
    obtain rfl : ln = i + 1 := by omega
    rw [deckleref07_Steps.l0, if_neg (by omega), if_pos (by rw [stepsL_length]; omega), w64 (by omega) (by omega)]
    rfl
  | d + 1, k, i, hd, hi, hk => by
    obtain ⟨k, rfl⟩ : ∃ m, k = m + 1 := ⟨k - 1, by omega⟩
    rw [deckleref07_Steps.l0, if_pos (by omega), Option.bind_some, if_pos (by rw [stepsL_length]; simp; omega), w64 (x := ((i + 1 : Nat) : Int) - 1) (by omega) (by omega), w64 (x := ((i + 1 : Nat) : Int) + 1) (by omega) (by omega)]
    have e : stepsL i ++ [(⟨((i + 1 : Nat) : Int), false⟩ : S45), ⟨((i + 1 : Nat) : Int) - 1, true⟩] = stepsL (i + 1) := by rw [stepsL, show ((i + 1 : Nat) : Int) - 1 = (i : Int) by omega]
    rw [e, show ((i + 1 : Nat) : Int) + 1 = ((i + 1 + 1 : Nat) : Int) by omega]
    exact steps_l0 ln h2 d k (i + 1) (by omega) (by omega) (by omega)
theorem ref_at_is (ln k : Int) (h1 : 1 ≤ ln) (h2 : ln ≤ 64) : deckleref07_At.f 200 ln k = some (stepAt ln k) := by
  obtain ⟨n, rfl⟩ : ∃ n : Nat, ln = n := ⟨ln.toNat, by omega⟩
  have hs : deckleref07_Steps.f 200 n = some (stepsL (n - 1) ++ [⟨(n : Int) - 1, true⟩]) := by
    unfold deckleref07_Steps.f
    rw [if_neg (by omega), deckleref07_Steps.j0, if_neg (by simp; omega)]
    exact steps_l0 n (by omega) (n - 1) 199 0 (by omega) (by omega) (by omega)
  have hl : (stepsL (n - 1) ++ [(⟨(n : Int) - 1, true⟩ : S45)]).length = 2 * n := by rw [List.length_append, stepsL_length]; simp; omega
  unfold deckleref07_At.f
  rw [hs, Option.bind_some, hl]
  unfold stepAt
  by_cases c1 : k < 0
  · rw [if_pos c1, if_pos (.inl c1)]
  rw [if_neg c1]
  by_cases c2 : k ≥ ((2 * n : Nat) : Int)
  · rw [if_pos c2, if_pos (.inr (by omega))]
  rw [if_neg c2, if_pos (by omega), if_pos (by omega), if_neg (show ¬ (k < 0 ∨ 2 * (n : Int) ≤ k) by omega)]
  obtain ⟨q, rfl⟩ : ∃ q : Nat, k = q := ⟨k.toNat, by omega⟩
  have hrd : rd_T45 (stepsL (n - 1) ++ [(⟨(n : Int) - 1, true⟩ : S45)]) (q : Int) = (stepsL (n - 1) ++ [(⟨(n : Int) - 1, true⟩ : S45)]).getD q z45 := by unfold rd_T45; rw [Int.toNat_natCast]
  rw [hrd]
  have hsl := stepsL_length (n - 1)
  by_cases c3 : (q : Int) = 2 * (n : Int) - 1
  · rw [if_pos c3, List.getD_eq_getElem?_getD, List.getElem?_append_right (by omega), show q - (stepsL (n - 1)).length = 0 by omega]
    rfl
  rw [if_neg c3, List.getD_eq_getElem?_getD, List.getElem?_append_left (by omega), ← List.getD_eq_getElem?_getD, stepsL_get _ _ (by omega)]
  by_cases c4 : q = 0 ∨ q % 2 = 1
  · rw [if_pos c4, if_pos (show (q : Int) = 0 ∨ (q : Int) % 2 = 1 by omega)]
    show some ((((q + 1) / 2 : Nat) : Int), false, (0 : Int)) = _
    rw [show (((q + 1) / 2 : Nat) : Int) = ((q : Int) + 1) / 2 by omega]
  · rw [if_neg c4, if_neg (show ¬ ((q : Int) = 0 ∨ (q : Int) % 2 = 1) by omega)]
    show some (((q / 2 : Nat) : Int) - 1, true, (0 : Int)) = _
    rw [show ((q / 2 : Nat) : Int) = (q : Int) / 2 by omega]
theorem stepAt_line (ln k : Int) (h1 : 1 ≤ ln) (h : (stepAt ln k).2.2 = 0) : 0 ≤ (stepAt ln k).1 ∧ (stepAt ln k).1 < ln := by
  unfold stepAt at h ⊢
  split
  · rename_i c; rw [if_pos c] at h; cases h
  · split
    · exact ⟨by show 0 ≤ ln - 1; omega, by show ln - 1 < ln; omega⟩
    · split
      · exact ⟨by show 0 ≤ (k + 1) / 2; omega, by show (k + 1) / 2 < ln; omega⟩
      · exact ⟨by show 0 ≤ k / 2 - 1; omega, by show k / 2 - 1 < ln; omega⟩
theorem stepAt_e (ln k : Int) : (stepAt ln k).2.2 = 0 ∨ (stepAt ln k) = (0, false, 1) := by
  unfold stepAt
  split
  · exact .inr rfl
  · split
    · exact .inl rfl
    · split <;> exact .inl rfl
/-- What is known where there is a plan, of any geometry. -/
theorem plan_ok {G : G6} {tg : Int} {l : List S27} (h : makeC G tg l = 0) : (0 ≤ tg ∧ tg < G.b) ∧ (l.length : Int) ≤ 3 * G.l ∧ (∀ i : Nat, i < l.length → mget (tOf (rd_T27 l i)) (planOf G tg l).m = some (i : Int)) ∧
    ∀ a, (∀ i : Nat, i < l.length → tOf (rd_T27 l i) ≠ a) → mget a (planOf G tg l).m = none := by
  unfold makeC at h
  by_cases c1 : ∀ a ∈ l, PageIn G (tOf a)
  · rw [if_neg (not_not_intro c1)] at h
    by_cases c2 : tg < 0 ∨ G.b ≤ tg
    · rw [if_pos c2] at h; cases h
    · rw [if_neg c2] at h
      by_cases c3 : 3 * G.l < l.length
      · rw [if_pos c3] at h; cases h
      · rw [if_neg c3] at h
        have htw : (runM tg 0 l ms0).tw = false := by
          cases e : (runM tg 0 l ms0).tw with
          | false => rfl
          | true => rw [e] at h; cases h
        obtain ⟨_, _, _, g4, g5⟩ := runM_all tg l 0 ms0 htw
        refine ⟨by omega, by omega, ?_, ?_⟩
        · intro i hi
          rw [rd_get l i hi]
          have := g5 i hi
          rw [Nat.zero_add] at this
          exact this
        · intro a ha
          refine g4 a (fun b hb e => ?_)
          obtain ⟨j, hj, rfl⟩ := List.getElem_of_mem hb
          exact ha j hj (by rw [rd_get l j hj]; exact e)
  · rw [if_pos c1] at h; cases h
theorem plan_bd {G : G6} {tg : Int} {l : List S27} (h : makeC G tg l = 0) (hn : l.length ≤ 200) (a : Tri) (i : Int) (hi : mget a (planOf G tg l).m = some i) : 0 ≤ i ∧ i ≤ 1000000 := by
  obtain ⟨_, _, h3, h4⟩ := plan_ok h
  by_cases c : ∃ j : Nat, j < l.length ∧ tOf (rd_T27 l j) = a
  · obtain ⟨j, hj, rfl⟩ := c
    rw [h3 j hj] at hi
    obtain rfl := Option.some.inj hi
    omega
  · rw [h4 a (fun j hj e => c ⟨j, hj, e⟩)] at hi
    cases hi
theorem to_l0 {G : G6} {tg : Int} {l : List S27} (h : makeC G tg l = 0) (hn : l.length ≤ 200) (a : Tri) : ∀ (d k i : Nat), l.length - i = d → i ≤ l.length → d < k → (∀ j : Nat, j < i → tOf (rd_T27 l j) ≠ a) →
    deckleref25_To.l0 k tg l i a.1 a.2.1 a.2.2 = some ((toP (planOf G tg l) a).1.1, (toP (planOf G tg l) a).1.2.1, (toP (planOf G tg l) a).1.2.2, (toP (planOf G tg l) a).2)
  | 0, k, i, hd, hi, hk, hne => by
    obtain ⟨k, rfl⟩ : ∃ m, k = m + 1 := ⟨k - 1, by omega⟩
    obtain rfl : i = l.length := by omega
    have e : toP (planOf G tg l) a = ((0, 0, 0), false) := by unfold toP; rw [(plan_ok h).2.2.2 a hne]
    rw [deckleref25_To.l0, if_neg (by omega), e]
  | d + 1, k, i, hd, hi, hk, hne => by
    obtain ⟨k, rfl⟩ : ∃ m, k = m + 1 := ⟨k - 1, by omega⟩
    have e : ((rd_T27 l i).f0 == a.1 && ((rd_T27 l i).f1 == a.2.1 && ((rd_T27 l i).f2 == a.2.2))) = decide (tOf (rd_T27 l i) = a) := by
      obtain ⟨a0, a1, a2⟩ := a
      rw [Bool.eq_iff_iff]; simp [tOf]
    rw [deckleref25_To.l0, if_pos (by omega), if_pos (by omega), e]
    by_cases c : tOf (rd_T27 l i) = a
    · have e : toP (planOf G tg l) a = (plcAt tg i, true) := by unfold toP; rw [← c, (plan_ok h).2.2.1 i (by omega)]; rfl
      rw [if_pos (decide_eq_true c), e]
      unfold deckleref25_At.f
      rw [Option.bind_some, Int.tdiv_eq_ediv_of_nonneg (by omega), Int.tmod_eq_emod_of_nonneg (by omega), w64 (by omega) (by omega)]
    · rw [if_neg (by simpa using c), w64 (by omega) (by omega), show (i : Int) + 1 = ((i + 1 : Nat) : Int) by omega]
      refine to_l0 h hn a d k (i + 1) (by omega) (by omega) (by omega) (fun j hj => ?_)
      by_cases hq : j = i
      · rw [hq]; exact c
      · exact hne j (by omega)
theorem to_is {G : G6} {tg : Int} {l : List S27} (h : makeC G tg l = 0) (hn : l.length ≤ 200) (a : Tri) :
    deckleref25_To.f 300 tg l a.1 a.2.1 a.2.2 = some ((toP (planOf G tg l) a).1.1, (toP (planOf G tg l) a).1.2.1, (toP (planOf G tg l) a).1.2.2, (toP (planOf G tg l) a).2) :=
  to_l0 h hn a l.length 300 0 (by omega) (by omega) (by omega) (fun j h => by omega)
theorem at_is (tg : Int) (i : Nat) (h : i ≤ 1000) : deckleref25_At.f tg i = some (tg, (i : Int) / 3, (i : Int) % 3) := by
  unfold deckleref25_At.f
  rw [Int.tdiv_eq_ediv_of_nonneg (by omega), Int.tmod_eq_emod_of_nonneg (by omega), w64 (by omega) (by omega)]
end Go.Proofs.Ytcfonmbojkolfaa.Plan
end

section
/- Law PlanMakes: the document's Line: the sources of a line. -/
set_option linter.unusedVariables false
set_option linter.unusedSimpArgs false
namespace Go.Proofs.Ytcfonmbojkolfaa.Plan
open Go.RowKit Go.Proofs.YtcfonmbojkolfaaW.PrintWords Go.Proofs.Ytcfonmbojkolfaa.Mem Go.Proofs.Ytcfonmbojkolfaa.Own Go.Proofs.Ytcfonmbojkolfaa.Maps Go.Proofs.Ytcfonmbojkolfaa.PN
attribute [local go_sem high] eqA27
set_option maxHeartbeats 8000000 in
set_option maxRecDepth 100000 in
theorem line_calls {w : World} (A : Option Addr) (cc : Nat) (l : List S27) (r : Int) (h0 : 0 ≤ r) (h1 : r ≤ 1000) (hr : Kd.C k27 w A l.length l) :
    Calls Try.prog 19 #[.slice A l.length cc, .int .i64 r] w fun e w' => e = .returned (pgV (srcAt l (3 * r)) (srcAt l (3 * r + 1)) (srcAt l (3 * r + 2))) ∧ Below w.heap.size w w' := by
  have HR := Aside0.mk hr
  have ha := ((Own.new w).alloc (pg9 z3 z3 z3)).alloc (pg9 z3 z3 z3)
  rw [World.size_alloc] at ha
  obtain ⟨B4, hB4⟩ : ∃ B4, B4 = w.heap.size := ⟨_, rfl⟩
  obtain ⟨B5, hB5⟩ : ∃ B5, B5 = w.heap.size + 1 := ⟨_, rfl⟩
  rw [← hB5, ← hB4] at ha
  have HC := Aside0.mk ha
  have HB4 := Lib.hid hB4
  have HB5 := Lib.hid hB5
  obtain ⟨p0, hp0⟩ : ∃ p, p = srcAt l (3 * r) := ⟨_, rfl⟩
  obtain ⟨p1, hp1⟩ : ∃ p, p = srcAt l (3 * r + 1) := ⟨_, rfl⟩
  obtain ⟨p2, hp2⟩ : ∃ p, p = srcAt l (3 * r + 2) := ⟨_, rfl⟩
  have HP0 := Lib.hid hp0
  have HP1 := Lib.hid hp1
  have HP2 := Lib.hid hp2
  clear ha hB4 hB5 hp0 hp1 hp2 hr
  go_enter Try.func19, Try.ntmps19
  go_wp2_with fail
  rw [← HB5.out, ← HB4.out]
  go_loopw [6] (fun v6 wr => ∃ j : Nat, j ≤ 3 ∧ v6 = .int .i64 j ∧ Aside0 (Own w wr (Pt B5 (pgj j p0 p1 p2) :: Pt B4 (pg9 z3 z3 z3) :: []))) (fun v6 _ => 3 - (intOf v6).toNat)
  case atStart => exact ⟨0, by omega, rfl, HC⟩
  case round =>
    clear HC
    obtain ⟨j, hj, rfl, HC⟩ := hrel
    rcases (by omega : j = 0 ∨ j = 1 ∨ j = 2 ∨ j = 3) with rfl | rfl | rfl | rfl
    · have HCj := HC.out
      unfold pgj at HCj
      simp only [Nat.lt_irrefl, Nat.zero_lt_one, Nat.zero_lt_two, Nat.one_lt_two, Nat.not_lt_zero, if_true, if_false, reduceIte] at HCj
      have HF := Aside0.mk HCj
      clear HC HCj
      obtain ⟨c0, c1, c2, c3, c4, c5, c6, c7, c8⟩ := cells9 HF.out.pt
      have f0 := blk_frozen HF.out.pt 0
      have f1 := blk_frozen HF.out.pt 1
      have f2 := blk_frozen HF.out.pt 2
      have hC := Kd.C_below HR.out HF.out.below
      by_cases hin : 3 * r < l.length
      · have d4 : decide (3 * r < (l.length : Int)) = true := decide_eq_true hin
        have d5 : decide (3 * r + 0 < (l.length : Int)) = true := by simpa using d4
        have hsa : p0 = tOf (rd_T27 l (3 * r)) := by rw [HP0.out, srcAt, if_pos hin]
        obtain ⟨ad, rfl, q0, q1, q2⟩ := at_T27 hC (3 * r) (by omega) (by omega)
        have HSA := Lib.hid hsa
        clear hC hsa
        go_wp2_with fail
        go_roundw
        case rel =>
          refine ⟨1, by omega, rfl, ⟨?_⟩⟩
          rw [show pgj 1 p0 p1 p2 = pg9 p0 z3 z3 from rfl, HSA.out]
          exact own_part0 HF.out (tOf _)
        case measure => simp [intOf]
      · have d4 : decide (3 * r < (l.length : Int)) = false := decide_eq_false hin
        have d5 : decide (3 * r + 0 < (l.length : Int)) = false := by simpa using d4
        have hsa : p0 = (-1, 0, 0) := by rw [HP0.out, srcAt, if_neg hin]
        have HSA := Lib.hid hsa
        clear hC hsa
        go_wp2_with fail
        go_roundw
        case rel =>
          refine ⟨1, by omega, rfl, ⟨?_⟩⟩
          rw [show pgj 1 p0 p1 p2 = pg9 p0 z3 z3 from rfl, HSA.out]
          exact own_part0 HF.out ((-1, 0, 0) : Tri)
        case measure => simp [intOf]
    · have HCj := HC.out
      unfold pgj at HCj
      simp only [Nat.lt_irrefl, Nat.zero_lt_one, Nat.zero_lt_two, Nat.one_lt_two, Nat.not_lt_zero, if_true, if_false, reduceIte] at HCj
      have HF := Aside0.mk HCj
      clear HC HCj
      obtain ⟨c0, c1, c2, c3, c4, c5, c6, c7, c8⟩ := cells9 HF.out.pt
      have f0 := blk_frozen HF.out.pt 3
      have f1 := blk_frozen HF.out.pt 4
      have f2 := blk_frozen HF.out.pt 5
      have hC := Kd.C_below HR.out HF.out.below
      by_cases hin : 3 * r + 1 < l.length
      · have d4 : decide (3 * r + 1 < (l.length : Int)) = true := decide_eq_true hin
        have hsa : p1 = tOf (rd_T27 l (3 * r + 1)) := by rw [HP1.out, srcAt, if_pos hin]
        obtain ⟨ad, rfl, q0, q1, q2⟩ := at_T27 hC (3 * r + 1) (by omega) (by omega)
        have HSA := Lib.hid hsa
        clear hC hsa
        go_wp2_with fail
        go_roundw
        case rel =>
          refine ⟨2, by omega, rfl, ⟨?_⟩⟩
          rw [show pgj 2 p0 p1 p2 = pg9 p0 p1 z3 from rfl, HSA.out]
          exact own_part1 HF.out (tOf _)
        case measure => simp [intOf]
      · have d4 : decide (3 * r + 1 < (l.length : Int)) = false := decide_eq_false hin
        have hsa : p1 = (-1, 0, 0) := by rw [HP1.out, srcAt, if_neg hin]
        have HSA := Lib.hid hsa
        clear hC hsa
        go_wp2_with fail
        go_roundw
        case rel =>
          refine ⟨2, by omega, rfl, ⟨?_⟩⟩
          rw [show pgj 2 p0 p1 p2 = pg9 p0 p1 z3 from rfl, HSA.out]
          exact own_part1 HF.out ((-1, 0, 0) : Tri)
        case measure => simp [intOf]
    · have HCj := HC.out
      unfold pgj at HCj
      simp only [Nat.lt_irrefl, Nat.zero_lt_one, Nat.zero_lt_two, Nat.one_lt_two, Nat.not_lt_zero, if_true, if_false, reduceIte] at HCj
      have HF := Aside0.mk HCj
      clear HC HCj
      obtain ⟨c0, c1, c2, c3, c4, c5, c6, c7, c8⟩ := cells9 HF.out.pt
      have f0 := blk_frozen HF.out.pt 6
      have f1 := blk_frozen HF.out.pt 7
      have f2 := blk_frozen HF.out.pt 8
      have hC := Kd.C_below HR.out HF.out.below
      by_cases hin : 3 * r + 2 < l.length
      · have d4 : decide (3 * r + 2 < (l.length : Int)) = true := decide_eq_true hin
        have hsa : p2 = tOf (rd_T27 l (3 * r + 2)) := by rw [HP2.out, srcAt, if_pos hin]
        obtain ⟨ad, rfl, q0, q1, q2⟩ := at_T27 hC (3 * r + 2) (by omega) (by omega)
        have HSA := Lib.hid hsa
        clear hC hsa
        go_wp2_with fail
        go_roundw
        case rel =>
          refine ⟨3, by omega, rfl, ⟨?_⟩⟩
          rw [show pgj 3 p0 p1 p2 = pg9 p0 p1 p2 from rfl, HSA.out]
          exact own_part2 HF.out (tOf _)
        case measure => simp [intOf]
      · have d4 : decide (3 * r + 2 < (l.length : Int)) = false := decide_eq_false hin
        have hsa : p2 = (-1, 0, 0) := by rw [HP2.out, srcAt, if_neg hin]
        have HSA := Lib.hid hsa
        clear hC hsa
        go_wp2_with fail
        go_roundw
        case rel =>
          refine ⟨3, by omega, rfl, ⟨?_⟩⟩
          rw [show pgj 3 p0 p1 p2 = pg9 p0 p1 p2 from rfl, HSA.out]
          exact own_part2 HF.out ((-1, 0, 0) : Tri)
        case measure => simp [intOf]
    · have HCj : Aside0 (Own w wr (Pt B5 (pg9 p0 p1 p2) :: Pt B4 (pg9 z3 z3 z3) :: [])) := ⟨HC.out⟩
      clear HC
      obtain ⟨c0, c1, c2, c3, c4, c5, c6, c7, c8⟩ := cells9 HCj.out.pt
      obtain ⟨e0, e1, e2, e3, e4, e5, e6, e7, e8⟩ := cells9 HCj.out.drop.pt
      have f5 := blk_frozen HCj.out.drop.pt
      have f50 := f5 0
      have f51 := f5 1
      have f52 := f5 2
      have f53 := f5 3
      have f54 := f5 4
      have f55 := f5 5
      have f56 := f5 6
      have f57 := f5 7
      have f58 := f5 8
      clear f5
      go_wp2_with fail
      have HP := Aside0.mk (own_part2 (own_part1 (own_part0 (Own.pull2 HCj.out) p0) p1) p2)
      clear HCj e0 e1 e2 e3 e4 e5 e6 e7 e8 c0 c1 c2 c3 c4 c5 c6 c7 c8 f50 f51 f52 f53 f54 f55 f56 f57 f58
      generalize hW : World.setCell _ _ _ = W at HP ⊢
      obtain ⟨u0, u1, u2, u3, u4, u5, u6, u7, u8⟩ := cells9 HP.out.pt
      clear hW
      rw [← HP0.out, ← HP1.out, ← HP2.out]
      exact bodyPost_ret (v := pgV p0 p1 p2) (by simp [results, Try.results19, go_sem, u0, u1, u2, u3, u4, u5, u6, u7, u8]) rfl ⟨rfl, HP.out.below⟩
end Go.Proofs.Ytcfonmbojkolfaa.Plan
end

section
/- Law PlanFits: the walk. -/
set_option linter.unusedVariables false
set_option linter.unusedSimpArgs false
namespace Go.Proofs.Ytcfonmbojkolfaa.Plan
open Go.RowKit Go.Proofs.YtcfonmbojkolfaaW.PrintWords Go.Proofs.Ytcfonmbojkolfaa.Mem Go.Proofs.Ytcfonmbojkolfaa.Own Go.Proofs.Ytcfonmbojkolfaa.Maps Go.Proofs.Ytcfonmbojkolfaa.PN

attribute [local go_sem high] eqA27
theorem int_row {w : World} {B b d : Nat} {S : Nat → Prop} {xs : List Int} (h : w.ownsRow 0 3 1 (.slice (some ⟨b, 0, none⟩) xs.length d) xs.length (nums .i64 xs)) (hb : B ≤ b) (hs : S b) : (I (.slice (some ⟨b, 0, none⟩) xs.length d) xs).P w B S := by
  refine Kd.R_of_own ?_ (fun k hk => by injection hk with hk; subst hk; exact hs)
  have hm : encs (Value.int .i64) xs = nums .i64 xs := rfl
  rw [hm]
  rcases h.2 with ⟨h', _⟩ | ⟨g', cap', cur, h', r⟩
  · cases h'
  · injection h' with e1 e2 e3
    injection e1 with e1
    injection e1 with e1
    subst e1 e3
    exact ⟨h.1, .inr ⟨_, _, cur, rfl, hb, r.2⟩⟩
theorem made_own {w0 w : World} {L : List Asn} (h : Own w0 w L) (n : Nat) (hn : n ≤ 1000000) : Own w0 (w.alloc (.cells (madeCells #[.int .i64 0] n) 3)) (I (.slice (some ⟨w.heap.size, 0, none⟩) n n) (List.replicate n 0) :: L) := by
  have hr := own_made' w 0 3 .i64 n (Nat.zero_le _) (by omega)
  have hz : (List.replicate n (0 : Int)).length = n := List.length_replicate
  have hr2 := int_row (w := w.alloc (.cells (madeCells #[.int .i64 0] n) 3)) (B := w.heap.size) (S := fun k => w.heap.size ≤ k) (b := w.heap.size) (d := n) (xs := List.replicate n 0) (by rw [hz]; rw [hz] at hr; exact hr) (Nat.le_refl _) (Nat.le_refl _)
  rw [hz] at hr2
  exact h.fresh (R := [I (.slice (some ⟨w.heap.size, 0, none⟩) n n) (List.replicate n 0)]) (below_alloc (Below.refl _ _) _) (Hold.one hr2)
theorem own_append_eq {P : Program} {α : Type} {w0 W : World} {L : List Asn} (d : Kd α) (t ty e : TypeId) (z : Value) (bytes : Nat)
    (ht : P.underlying t = some (.slice e)) (hinfo : (P.info? e).map (fun i => (i.zero, i.size, i.bytes)) = some (some z, d.sz, bytes)) (hz : z.cells.size = d.sz) (hs0 : 0 < d.sz) (hb0 : 0 < bytes)
    (v : Value) (xs : List α) (p : α) (cs : List Value) (hp : d.M W w0.heap.size (fun _ => False) p cs)
    (HO : Own w0 W (Row d e v xs :: L)) (hl : (xs.length + 1) * bytes ≤ 140737488355328) :
    ∃ v1 w1, (Builtin.append_ #[t, t] ty #[v, .slice (some ⟨W.heap.size, 0, none⟩) 1 1]).run P (W.alloc (.cells cs.toArray e)) = .ok v1 w1 ∧ Own w0 w1 (Row d e v1 (xs ++ [p]) :: L) := by
  obtain ⟨S, hS, hk, f⟩ := HO.head
  obtain ⟨h0, inner, hown, hr⟩ := Kd.R_mono (ok' := fun k => S k ∨ W.heap.size ≤ k) hS (fun k hk => .inl hk)
  obtain ⟨i0, hi, hzz⟩ := Option.map_eq_some_iff.1 hinfo
  simp only [Prod.mk.injEq] at hzz
  obtain ⟨hz0, hz1, hz2⟩ := hzz
  have hlen : xs.length + 1 ≤ 140737488355328 := Nat.le_trans (Nat.le_mul_of_pos_right _ hb0) hl
  have hys := d.K_len (d.K_of_M hp)
  have hsz := HO.size
  obtain ⟨v1, w1, hrun, hown1, hg, _, hat⟩ := run_append_own_at (P := P) (W.alloc (.cells cs.toArray e)) w0.heap.size t ty e i0 z d.sz bytes ht hi hz0 hz1 hz2 hz hs0 v xs.length inner (hown.alloc _) ⟨W.heap.size, 0, none⟩ 1 1 cs (by rw [hys]; simp)
    (by simpa using World.news_of_block (cs := cs.toArray) (t := e) (fr := (0, 0)) (heap_alloc_new W (.cells cs.toArray e))) (d.K_one (d.K_of_M hp)) (by simp only [maxLen]; omega) hl (by simp; omega)
  have hB : Below w0.heap.size W w1 := ((Below.refl w0.heap.size W).alloc hsz _).grown hg (by simp; omega) (own_base hown)
  have hG : W.grownBy w1 v.ownBlock := World.grownBy.trans (World.grownBy_alloc W _ _) hg
  have hat' : v1.ownBlock = v.ownBlock ∨ ∃ b, v1.ownBlock = some b ∧ W.heap.size ≤ b := by
    rcases hat with hat | hat
    · exact .inl hat
    · exact .inr ⟨_, hat, by simp⟩
  have hR := Kd.R_appended h0 hr hp (fun k hk => hk.elim) (fun k hk => .inr hk) hown1 hG hat'
  refine ⟨v1, w1, hrun, f w1 [Row d e v1 (xs ++ [p])] ⟨hB, hG.size, fun k hk1 hk2 => hG.block k hk1 (fun he => hk2 ?_)⟩ (Hold.one hR)⟩
  exact hS.1 k he.symm
theorem at_int {w : World} {A : Option Addr} {n : Nat} {l : List Int} (h : Kd.C (Kd.int .i64) w A n l) (i : Int) (h0 : 0 ≤ i) (h1 : i < n) : ∃ ad, A = some ad ∧ w.cell? (ad.add i.toNat) = some (.int .i64 (l.getD i.toNat 0)) :=
  (Kd.reads_of_C (enc := Value.int .i64) (d := (0 : Int)) (h1 := fun _ => rfl) h).at_ i h0 h1
attribute [-go_sem] Builtin.append_
theorem info3 : (Try.prog.info? 3).map (fun i => (i.zero, i.size, i.bytes)) = some (some (.int .i64 0), 1, 8) := by kernel_rfl
theorem row_lt {w0 w : World} {L : List Asn} {b n c : Nat} {xs : List Int} (h : Own w0 w (I (.slice (some ⟨b, 0, none⟩) n c) xs :: L)) : b < w.heap.size := by
  obtain ⟨S, hs, hk, _⟩ := h.head
  exact (hk b (hs.1 b rfl)).2
abbrev LP (BR : Nat) (v : Value) (S : FS) (L : List Asn) : List Asn := I (.slice (some ⟨BR, 0, none⟩) 8 8) S.row :: Ads v S.src :: L
def runF (tg : Int) : List Int → FS → FS
  | [], s => s
  | x :: l, s => runF tg l (stepF tg s x)
set_option maxHeartbeats 8000000 in
set_option maxRecDepth 100000 in
theorem fits_own {w : World} (A : Option Addr) (cc : Nat) (l : List Int) (tg : Int) (hr : Kd.C (Kd.int .i64) w A l.length l) :
    Calls Try.prog 3 #[.slice A l.length cc, .int .i64 tg] w fun e w' => e = .returned (.bool true) ∧ Below w.heap.size w w' := by
  have HR := Aside0.mk hr
  have hm := Kd.C_max hr
  obtain ⟨hb0, hb1, hb2⟩ := b8_is tg
  have HO := Aside0.mk (Own.new w)
  have HBL := Aside0.mk hb0
  clear hr hb0
  go_enter Try.func3, Try.ntmps3
  go_wp2_with fail
  refine (works_own HO.out).mono ?_
  rintro e w1 ⟨rfl, ho⟩
  have HW := Aside0.mk ho
  clear ho HO
  go_wp2_with fail
  refine (decklebook_Below.calls tg 8 (b8 tg) _ HBL.out).mono ?_
  rintro e w2 ⟨rfl, hb⟩
  obtain ⟨t, ht⟩ : ∃ t, t = b8 tg := ⟨_, rfl⟩
  rw [← ht] at hb1 hb2 ⊢
  have HV := Aside0.mk (made_own (HW.out.move hb.below) 8 (by decide))
  obtain ⟨BR, hBR⟩ : ∃ BR, BR = w2.heap.size := ⟨_, rfl⟩
  rw [← hBR] at HV
  have HBR := Lib.hid hBR
  have HX := Aside0.mk (own_swap [_] [_] (HV.out.fresh (R := [Ads (.slice none 0 0) []]) (Below.refl _ _) (Hold.one (Kd.R_nil _ _ _ _ _))))
  clear hb HW HV hBR ht HBL
  have hmb := print_make (P := Try.prog) 22 3 .i64 8 Try.underlying22 info3 (by decide) 8 (by decide)
  rw [show ((8 : Nat) : Int) = 8 from rfl] at hmb
  go_wp2_with fail
  rw [← HBR.out]
  clear hmb
  go_loopw [6, 19] (fun v6 v19 wr => ∃ (i : Nat) (S : FS), i ≤ l.length ∧ v19 = .int .i64 i ∧ Aside0 (FInv t S) ∧ Aside0 (Own w wr (LP BR v6 S []))) (fun _ v19 _ => l.length - (intOf v19).toNat)
  case atStart => exact ⟨0, fs0, by omega, rfl, ⟨fs0_inv t⟩, HX⟩
  case round =>
    clear HX
    obtain ⟨i, S, hi, rfl, HI, HX⟩ := hrel
    by_cases hlt : i < l.length
    · have dl : decide ((i : Int) < (l.length : Nat)) = true := decide_eq_true (by omega)
      obtain ⟨ad, rfl, q0⟩ := at_int (Kd.C_below HR.out HX.out.below) i (by omega) (by omega)
      rw [Int.toNat_natCast] at q0
      obtain ⟨x, hx⟩ : ∃ x, x = l.getD i 0 := ⟨_, rfl⟩
      rw [← hx] at q0
      clear hx
      obtain ⟨hc0, hc1, hc2⟩ := b8_is x
      have HB8 := Aside0.mk hc0
      obtain ⟨r0, r1⟩ := at8_bound HI.out x
      have hst := stepF_inv HI.out x
      unfold stepF at hst
      obtain ⟨n, hn⟩ : ∃ n : Nat, b8 x = (n : Int) := ⟨(b8 x).toNat, by omega⟩
      obtain ⟨r, hr⟩ : ∃ r : Int, r = at8 S x := ⟨_, rfl⟩
      have hae : S.row.getD (b8 x).toNat 0 = r := hr.symm
      rw [← hr] at r0 r1 hst
      rw [hn] at hc1 hc2 hst hae
      rw [Int.toNat_natCast] at hst hae
      have hn8 : n < 8 := by omega
      obtain ⟨z0, z1, z2⟩ := HX.out.cell HI.out.len n hn8
      rw [hae] at z0
      have HAE := Lib.hid hae
      have HSH := HI.out.short
      have HST := Aside0.mk hst
      have HN := Lib.hid hn
      clear hc0 hst hae z2 hr hn hc1 hc2
      go_wp2_with fail
      refine (decklebook_Below.calls x 8 (b8 x) _ HB8.out).mono ?_
      rintro e w3 ⟨rfl, hb⟩
      rw [HN.out]
      have HB := Aside0.mk (HX.out.move hb.below)
      clear HX z0 z1 hb
      obtain ⟨z0, z1, z2⟩ := HB.out.cell HI.out.len n hn8
      rw [HAE.out] at z0
      have hlt2 : BR < w3.heap.size := row_lt HB.out
      clear z2
      by_cases c1 : (n : Int) = t
      · have d1 : ((n : Int) == t) = true := by simpa using c1
        have HS2 := HST.out
        rw [if_pos (Or.inl c1)] at HS2
        have HS3 := Aside0.mk HS2
        clear HST HS2 c1
        go_wp2_with fail
        exact ⟨⟨i + 1, S, by omega, by go_num, HS3, HB⟩, by simp [intOf]; omega⟩
      · have d1 : ((n : Int) == t) = false := by simpa using c1
        by_cases c2 : 18 ≤ r
        · have d2 : decide (18 ≤ r) = true := decide_eq_true c2
          have HS2 := HST.out
          rw [if_pos (Or.inr c2)] at HS2
          have HS3 := Aside0.mk HS2
          clear HST HS2 c1
          go_wp2_with fail
          exact ⟨⟨i + 1, S, by omega, by go_num, HS3, HB⟩, by simp [intOf]; omega⟩
        · have d2 : decide (18 ≤ r) = false := decide_eq_false c2
          have HS2 := HST.out
          rw [if_neg (not_or.mpr ⟨c1, c2⟩)] at HS2
          have HS3 := Aside0.mk HS2
          clear HST HS2 c1
          go_wp2_with fail
          have HD := Aside0.mk HB.out.pull2.drew
          have k1 : (0 : Int) ≤ (n : Int) := by omega
          have k2 : (n : Int) < (8 : Int) := by omega
          have k3 : (n : Int) < ((8 : Nat) : Int) := by omega
          obtain ⟨v1, w4, h4, ho⟩ := own_append_eq (P := Try.prog) k27 25 25 27 (.agg #[.int .i64 0, .int .i64 0, .int .i64 0]) 24 Try.underlying25 info27 rfl (by decide) (by decide) u6 S.src ⟨n, r / 3, r % 3⟩ [.int .i64 n, .int .i64 (r / 3), .int .i64 (r % 3)] (k27_mkM _ _ _ ⟨n, r / 3, r % 3⟩) HD.out (by omega)
          have HN := Aside0.mk ho.pull2
          have h5 : (Builtin.append_ #[25, 25] 25 #[u6, .slice (some ⟨w3.heap.size, 0, none⟩) 1 1]).run Try.prog ((w3.alloc (.cells #[.int .i64 n, .int .i64 (r / 3), .int .i64 (r % 3)] 27)).drew) = .ok v1 w4 := h4
          clear ho h4
          go_region
          clear h5 z0 z1
          obtain ⟨z0, z1, z2⟩ := HN.out.cell HI.out.len n hn8
          rw [HAE.out] at z0
          clear z2
          have HP := Aside0.mk (HN.out.put HI.out.len n (r + 1))
          go_wp2_with fail
          first
            | exact ⟨⟨i + 1, _, by omega, by go_num, HS3, HP⟩, by simp [intOf]; omega⟩
            | (go_roundw
               case rel => exact ⟨i + 1, _, by omega, by go_num, HS3, HP⟩
               case measure => simp [intOf]; omega)
    · obtain rfl : i = l.length := by omega
      have dl : decide (((l.length : Nat) : Int) < (l.length : Nat)) = false := decide_eq_false (by omega)
      have HSH := HI.out.short
      have hmk := fits_make HI.out hb1 hb2
      have HMK := Aside0.mk hmk
      clear hmk
      go_wp2_with fail
      refine (decklelaw25_geo.calls 8 6 64 4 0 4 _ rfl).mono ?_
      rintro e w3 ⟨rfl, hb⟩
      have HU := Aside0.mk (HX.out.move hb).pull2
      clear hb HX
      obtain ⟨Aq, cq, rfl, hcq, hrq⟩ := HU.out.reads
      go_wp2_with fail
      refine (make_any G0 t Aq cq S.src g0_ok (by omega) hcq hrq HU.out).mono ?_
      rintro e w4 (⟨h1, rfl, ho⟩ | ⟨h1, g, Ag, cg, rg, rfl, ho⟩)
      · have HB := Aside0.mk ho.below
        clear ho HU hrq
        rw [HMK.out] at h1 ⊢
        by_cases hL : 18 < S.src.length
        · have d1 : decide (18 < (S.src.length : Int)) = true := decide_eq_true (by omega)
          rw [if_pos hL]
          clear h1
          go_wp2_with fail
          go_ret
          exact ⟨rfl, HB.out⟩
        · rw [if_neg hL] at h1
          exact absurd rfl h1
      · have HB := Aside0.mk ho.below
        clear ho HU hrq
        rw [HMK.out] at h1
        by_cases hL : 18 < S.src.length
        · rw [if_pos hL] at h1
          exact absurd h1 (by decide)
        · have d1 : decide (18 < (S.src.length : Int)) = false := decide_eq_false (by omega)
          clear h1
          go_wp2_with fail
          go_ret
          exact ⟨rfl, HB.out⟩
def decklelaw25_PlanFits.f (_l : List Int) (_t : Int) : Option Bool := some true
theorem decklelaw25_PlanFits.calls (A0 : Option Addr) (c0 : Nat) (l0 : List Int) (a1 : Int) (r : Bool) (w : World) (hr0 : Kd.C (Kd.int .i64) w A0 l0.length l0) (hc0 : l0.length ≤ c0) (h : decklelaw25_PlanFits.f l0 a1 = some r) :
    Calls Try.prog 3 #[.slice A0 l0.length c0, .int .i64 a1] w fun e w' => e = .returned (.bool r) ∧ Below w.heap.size w w' := by
  obtain rfl := Option.some.inj h
  exact fits_own A0 c0 l0 a1 hr0
end Go.Proofs.Ytcfonmbojkolfaa.Plan
end

section
/- Package plan, by hand: Moves. -/
set_option linter.unusedVariables false
set_option linter.unusedSimpArgs false
namespace Go.Proofs.Ytcfonmbojkolfaa.Plan
open Go.RowKit Go.Proofs.YtcfonmbojkolfaaW.PrintWords Go.Proofs.Ytcfonmbojkolfaa.Mem Go.Proofs.Ytcfonmbojkolfaa.Own Go.Proofs.Ytcfonmbojkolfaa.Maps Go.Proofs.Ytcfonmbojkolfaa.PN

/-- The box of a plan. -/
abbrev BoxP (b g : Nat) : Asn := Pt b (.cells #[.pointer (some ⟨g, 0, none⟩)] 28)
section
variable {w0 w : World} {L : List Asn} {g c r : Nat} {A : Option Addr} {S : PlS}
set_option maxHeartbeats 2000000 in
set_option maxRecDepth 100000 in
theorem moves_own (HO : Own w0 w L) : Calls Try.prog 13 #[.pointer (some ⟨g, 0, none⟩)] w fun e w' => ∃ b, e = .returned (.func (.func 39) #[] #[.pointer (some ⟨b, 0, none⟩)]) ∧ Own w0 w' (BoxP b g :: L) := by
  have HA := Aside0.mk (HO.alloc (.cells #[.pointer (some ⟨g, 0, none⟩)] 28))
  clear HO
  go_enter Try.func13, Try.ntmps13
  go_wp2_with fail
  go_ret
  exact ⟨_, rfl, HA.out⟩
end
end Go.Proofs.Ytcfonmbojkolfaa.Plan
end
