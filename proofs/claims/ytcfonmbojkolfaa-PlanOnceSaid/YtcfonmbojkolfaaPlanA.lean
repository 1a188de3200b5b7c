/- Package plan, by hand: addresses, geometries, the closure page, clones. -/
import Derived.Test.YtcfonmbojkolfaaProg
import Derived.Below
import Derived.Carry
import Derived.Deep.Draws
import Derived.Deep.AppendLies
import Derived.Maps.AppendAt
import Derived.OwnWalk
import Derived.Laws.BytesArg
import Derived.Laws.MakeOwn
import Derived.Laws.OwnMore
import Derived.Deep.OwnRows
import Derived.Tactics
import Derived.Lib.ConvBytes
import Derived.Laws.Slices
import Derived.WalkKit
import Derived.KernelRfl
import Derived.RowKit3
import Derived.Deep.LoopGhost
import Derived.Deep.QuietTactic
import Derived.BigQuiet
import Derived.WideLaws
import Derived.Deep.DeepCutAuto
import Derived.Deep.CutBlock
import Derived.Deep.RegionHeld3
import Derived.Deep.RegionWith
import Derived.Laws.Rows
import Derived.Lib.AppendStr
import Derived.ArgAppend
import Derived.Laws.IdiomCopy
import Derived.OrdersHeld
import Derived.Laws.BitsLemmas
import Derived.Outline
import Derived.RegionTactic
import Derived.Lib.Hide
import Derived.StillTailTactics
import Derived.Deep.RegionWith
import Derived.OpenShut
import Derived.Test.YtcfonmbojkolfaaWWords
import Derived.Test.YtcfonmbojkolfaaPNx4
import Derived.Test.YtcfonmbojkolfaaPNGeomLemmas
import Derived.Test.YtcfonmbojkolfaaMap
import Derived.Test.YtcfonmbojkolfaaPNx0
import Derived.Test.YtcfonmbojkolfaaPNx1
import Derived.Lib.BufferMore
import Derived.Lib.LazyBuf
set_option linter.unusedVariables false
namespace Go.Proofs.Ytcfonmbojkolfaa.Plan
open Go.RowKit Go.Proofs.YtcfonmbojkolfaaW.PrintWords Go.Proofs.Ytcfonmbojkolfaa.Mem Go.Proofs.Ytcfonmbojkolfaa.Own Go.Proofs.Ytcfonmbojkolfaa.Maps Go.Proofs.Ytcfonmbojkolfaa.PN

abbrev Tri := Int × Int × Int
theorem keyI : Key Try.prog 3 (Value.int .i64) := key_int Try.underlying3
theorem eq_tri (x y : Tri) (w : World) : (Op.equal 27 (tri x) (tri y)).run Try.prog w = .ok (decide (x = y)) w := by
  obtain ⟨a, b, c⟩ := x
  obtain ⟨d, e, f⟩ := y
  have h := eqA_of (P := Try.prog) (d := 9999) (w := w) (xs := #[.int .i64 a, .int .i64 b, .int .i64 c]) (ys := #[.int .i64 d, .int .i64 e, .int .i64 f]) Try.underlying27 (by kernel_rfl)
    (eqf_cons (by kernel_rfl) (by kernel_rfl) (by kernel_rfl) (by kernel_rfl : (Op.equalIn 9999 3 (.int .i64 a) (.int .i64 d)).run Try.prog w = .ok (a == d) w)
      (eqf_cons (by kernel_rfl) (by kernel_rfl) (by kernel_rfl) (by kernel_rfl : (Op.equalIn 9999 3 (.int .i64 b) (.int .i64 e)).run Try.prog w = .ok (b == e) w)
        (eqf_last (by kernel_rfl) (by kernel_rfl) (by kernel_rfl) (by kernel_rfl : (Op.equalIn 9999 3 (.int .i64 c) (.int .i64 f)).run Try.prog w = .ok (c == f) w))))
  have e : (a == d && (b == e && c == f)) = decide ((a, b, c) = (d, e, f)) := by
    rw [Bool.eq_iff_iff]; simp
  rw [e] at h
  exact h
theorem chk_tri (b : Bool) (x : Tri) (w : World) : (Instr.checkKey b 10000 27 (tri x)).run Try.prog w = .ok () w := by kernel_rfl
theorem keyT : Key Try.prog 27 tri := key_tri Try.underlying27 chk_tri eq_tri
theorem zero27 (w : World) : (zeroValue 27).run Try.prog w = .ok (tri (0, 0, 0)) w := by kernel_rfl
theorem zero3 (w : World) : (zeroValue 3).run Try.prog w = .ok (.int .i64 0) w := by kernel_rfl
theorem info27 : (Try.prog.info? 27).map (fun i => (i.zero, i.size, i.bytes)) = some (some (.agg #[.int .i64 0, .int .i64 0, .int .i64 0]), 3, 24) := by kernel_rfl
structure G6 where
  b : Int
  l : Int
  y : Int
  s : Int
  p : Int
  w : Int
def G6.Ok (G : G6) : Prop := GeoOk G.b G.l G.y G.s G.p G.w
theorem G6.Ok.wf {G : G6} (h : G.Ok) : (Lit.int .i64 G.b).wf = true ∧ (Lit.int .i64 G.l).wf = true := by
  have hs := h.1
  unfold SizesOk at hs
  exact ⟨WalkArith.wf_i64 (by omega), WalkArith.wf_i64 (by omega)⟩
abbrev geoV (G : G6) : Value := .agg #[.int .i64 G.b, .int .i64 G.l, .int .i64 G.y, .int .i64 G.s, .int .i64 G.p, .int .i64 G.w]
abbrev geoC (G : G6) : Obj := .cells #[.int .i64 G.b, .int .i64 G.l, .int .i64 G.y, .int .i64 G.s, .int .i64 G.p, .int .i64 G.w] 33 (0, 0)
/-- A page of a geometry. -/
def PageIn (G : G6) (a : Tri) : Prop := (0 ≤ a.1 ∧ a.1 < G.b) ∧ (0 ≤ a.2.1 ∧ a.2.1 < G.l) ∧ (0 ≤ a.2.2 ∧ a.2.2 < 3)
instance (G : G6) (a : Tri) : Decidable (PageIn G a) := by unfold PageIn; infer_instance
def numOf (G : G6) (a : Tri) : Int := (a.1 * G.l + a.2.1) * 3 + a.2.2
theorem number_is {G : G6} (hok : G.Ok) (a : Tri) : geom_Number.f 8 G.b G.l G.y G.s G.p G.w a.1 a.2.1 a.2.2 = some (if PageIn G a then (numOf G a, 0) else (0, 1)) := by
  have hs := hok.1
  unfold SizesOk at hs
  have hb : (Lit.int .i64 G.b).wf = true := WalkArith.wf_i64 (by omega)
  have hl : (Lit.int .i64 G.l).wf = true := WalkArith.wf_i64 (by omega)
  unfold geom_Number.f
  rw [check_some _ _ _ _ _ _ hb hl 8 (Nat.le_refl _), if_pos (show GeoOk G.b G.l G.y G.s G.p G.w from hok)]
  simp only [Option.bind_some, if_true, within_some]
  rw [all_some 8 _ (by simp) (by simp)]
  simp only [Option.bind_some]
  rw [w64 (x := G.b - 1) (by omega) (by omega), w64 (x := G.l - 1) (by omega) (by omega)]
  by_cases h : PageIn G a
  · have h' := h
    obtain ⟨⟨h1, h2⟩, ⟨h3, h4⟩, h5, h6⟩ := h'
    rw [if_pos h, if_pos (by simp; omega)]
    have m1 : a.1 * G.l ≤ 64 * 64 := Int.mul_le_mul (by omega) (by omega) (by omega) (by omega)
    have m0 : 0 ≤ a.1 * G.l := Int.mul_nonneg h1 (by omega)
    unfold numOf
    rw [w64 (x := a.1 * G.l) (by omega) (by omega), w64 (x := a.1 * G.l + a.2.1) (by omega) (by omega), w64 (x := (a.1 * G.l + a.2.1) * 3) (by omega) (by omega), w64 (by omega) (by omega)]
  · rw [if_neg h, if_neg]
    intro hc
    apply h
    simp at hc
    unfold PageIn
    omega
theorem cells6 {w : World} {g : Nat} {a b c d e f : Value} {T : TypeId} (k : w.heap[g]? = some (.cells #[a, b, c, d, e, f] T (0, 0))) : w.cell? ⟨g, 0, none⟩ = some a ∧ w.cell? ⟨g, 1, none⟩ = some b ∧ w.cell? ⟨g, 2, none⟩ = some c ∧ w.cell? ⟨g, 3, none⟩ = some d ∧ w.cell? ⟨g, 4, none⟩ = some e ∧ w.cell? ⟨g, 5, none⟩ = some f :=
  ⟨blk_cell k 0, blk_cell k 1, blk_cell k 2, blk_cell k 3, blk_cell k 4, blk_cell k 5⟩
theorem cells3 {w : World} {g : Nat} {a b c : Value} {T : TypeId} (k : w.heap[g]? = some (.cells #[a, b, c] T (0, 0))) : w.cell? ⟨g, 0, none⟩ = some a ∧ w.cell? ⟨g, 1, none⟩ = some b ∧ w.cell? ⟨g, 2, none⟩ = some c := ⟨blk_cell k 0, blk_cell k 1, blk_cell k 2⟩
theorem hold_perm {w : World} {b : Nat} {L R : List Asn} (hp : L.Perm R) : ∀ S, Hold w b L S → Hold w b R S := by
  induction hp with
  | nil => exact fun _ h => h
  | cons x _ ih => exact fun _ h => Hold.cons ih h
  | swap x y l => exact fun _ h => Hold.swap h
  | trans _ _ ih1 ih2 => exact fun S h => ih2 S (ih1 S h)
theorem own_swap {w0 w : World} (A B : List Asn) {L : List Asn} (h : Own w0 w (A ++ (B ++ L))) : Own w0 w (B ++ (A ++ L)) := by
  refine h.map (hold_perm ?_)
  rw [← List.append_assoc, ← List.append_assoc]
  exact List.Perm.append_right L List.perm_append_comm
abbrev tOf (a : S27) : Tri := (a.f0, a.f1, a.f2)
abbrev Ads (v : Value) (xs : List S27) : Asn := Row k27 27 v xs
theorem row_form {α : Type} {d : Kd α} {e : Nat} {w0 w : World} {L : List Asn} {v : Value} {xs : List α} (h : Own w0 w (Row d e v xs :: L)) : ∃ A c, v = .slice A xs.length c ∧ xs.length ≤ c ∧ Own w0 w (Row d e (.slice A xs.length c) xs :: L) := by
  obtain ⟨A, c, rfl, hc, _⟩ := h.reads
  exact ⟨A, c, rfl, hc, h⟩
section
variable {w0 w : World} {L : List Asn}
set_option maxHeartbeats 2000000 in
theorem page_own {G : G6} (BG : Nat) (a : Tri) (hok : G.Ok) (HO : Own w0 w (Pt BG (geoC G) :: L)) :
    Calls Try.prog 36 #[tri a, .pointer (some ⟨BG, 0, none⟩)] w fun e w' => e = .returned (.bool (decide (PageIn G a))) ∧ Own w0 w' (Pt BG (geoC G) :: L) := by
  have hlt := blk_lt HO.pt
  have hn := number_is hok a
  obtain ⟨x0, x1, x2, x3, x4, x5⟩ := cells6 HO.pt
  obtain ⟨a0, a1, a2⟩ := a
  have HO' := Aside0.mk (HO.alloc' (.cells #[.int .i64 a0, .int .i64 a1, .int .i64 a2] 27))
  clear HO hok
  by_cases hp : PageIn G (a0, a1, a2)
  all_goals
    first | rw [if_pos hp] at hn | rw [if_neg hp] at hn
    first | rw [decide_eq_true hp] | rw [decide_eq_false hp]
    have HN := Lib.hid hn
    clear hn hp
    go_enter Try.func36, Try.ntmps36
    go_wp2_with fail
    refine (geom_Number.calls 8 G.b G.l G.y G.s G.p G.w a0 a1 a2 _ _ _ HN.out).mono ?_
    rintro e w1 ⟨rfl, hb⟩
    have HB := Aside0.mk (HO'.out.move hb)
    clear hb
    go_wp2_with fail
    go_ret
    exact ⟨rfl, HB.out⟩
theorem own_append_rows {P : Program} {ops : Array Oper} {rest : List Oper} {o : Oper} {a : Act} {Q : Exit → Act → World → Prop} {W : World} (hgd : o.guard = none) (s x : Operand) (t e : TypeId) (z : Value) (bytes : Nat)
    (ho : o.op = .call { callee := .builtin .append, args := #[s, x], argTypes := #[t, t] })
    (ht : P.underlying t = some (.slice e)) (hinfo : (P.info? e).map (fun i => (i.zero, i.size, i.bytes)) = some (some z, 3, bytes)) (hz : z.cells.size = 3) (hb0 : 0 < bytes)
    (v : Value) (xs ys : List S27) (A : Option Addr) (m c : Nat) (hs : a.eval s = v) (hx : a.eval x = .slice A m c) (HR : Kd.C k27 W A m ys)
    (HO : Own w0 W (Row k27 e v xs :: L)) (hl : (xs.length + m) * bytes ≤ 140737488355328)
    (h : ∀ v1 w1, Own w0 w1 (Row k27 e v1 (xs ++ ys) :: L) → wpList P ops Q rest (a.put o.dst v1) w1) : wpList P ops Q (o :: rest) a W := by
  obtain ⟨S, hS, hk, f⟩ := HO.head
  refine Kd.R_append_rows k27 (Rr := k27.K W) (w0 := W) w0.heap.size hgd s x t e z bytes ho ht hinfo hz (by decide) hb0 v xs ys A m c (fun k => S k ∨ W.heap.size ≤ k) (fun _ => False) hs hx (Kd.R_mono hS (fun k hk => .inl hk)) HR
    (fun x cs hK => by obtain rfl := k27_open hK; exact k27_mkM _ _ _ x) (fun k hk => hk.elim) (fun k hk => .inr hk) (Below.refl _ _) HO.size hl ?_
  intro v1 w1 hR hB hG hat
  refine h v1 w1 (f w1 [Row k27 e v1 (xs ++ ys)] ⟨hB, hG.size, fun k hk1 hk2 => hG.block k hk1 (fun he => hk2 ?_)⟩ (Hold.one hR))
  exact hS.1 k he.symm
theorem lit_nil (w : World) : k27.R 27 (w.alloc (.cells #[] 27)) w.heap.size (fun k => w.heap.size ≤ k) (.slice (some ⟨w.heap.size, 0, none⟩) 0 0) [] :=
  ⟨fun k hk => by simp [Value.ownBlock] at hk; omega, [], show (w.alloc (.cells #[] 27)).ownsRow w.heap.size 27 3 (.slice (some ⟨w.heap.size, 0, none⟩) 0 0) 0 [] by simpa using World.ownsRow_lit (base := w.heap.size) (e := 27) (size := 3) w #[] 0 (Nat.le_refl _) (by simp [maxLen]) (by simp), Reps.none _ _⟩
set_option maxHeartbeats 2000000 in
set_option maxRecDepth 100000 in
theorem clone_own (A : Option Addr) (c : Nat) (xs : List S27) (hl : xs.length ≤ 1000000) (hr : Kd.C k27 w A xs.length xs) (HO : Own w0 w L) :
    Calls Try.prog 38 #[.slice A xs.length c] w fun e w' => ∃ v, e = .returned v ∧ Own w0 w' (Ads v xs :: L) := by
  have kn := fun (W : World) => run_eql_slice_nil (P := Try.prog) W 25 27 A xs.length c Try.underlying25
  have HR := Aside0.mk hr
  have HO := Aside0.mk HO
  clear hr
  cases A with
  | none =>
    have hx : xs = [] := by
      have := HR.out
      cases xs with
      | nil => rfl
      | cons x l => obtain ⟨_, _, h⟩ := this; obtain ⟨ad, h1, _⟩ := h (by simp); cases h1
    subst hx
    clear kn
    have kn := fun (W : World) => run_eql_slice_nil (P := Try.prog) W 25 27 none 0 c Try.underlying25
    simp only [Option.isNone_none] at kn
    go_enter Try.func38, Try.ntmps38
    go_wp2_with fail
    go_ret
    exact ⟨_, rfl, HO.out.fresh (R := [Ads (.slice none 0 0) []]) (Below.refl _ _) (Hold.one (Kd.R_nil _ _ _ _ _))⟩
  | some ad =>
    simp only [Option.isNone_some] at kn
    go_enter Try.func38, Try.ntmps38
    have HL := Aside0.mk (HO.out.fresh (R := [Ads (.slice (some ⟨w.heap.size, 0, none⟩) 0 0) []]) (below_alloc (Below.refl _ _) (.cells #[] 27)) (Hold.one (lit_nil w)))
    have HC := Aside0.mk (Kd.C_below HR.out (below_alloc (Below.refl _ _) (.cells #[] 27)))
    go_wp2_with (at_builtin; refine own_append_rows (w0 := w0) rfl (.tmp 5) (.tmp 6) 25 27 (.agg #[.int .i64 0, .int .i64 0, .int .i64 0]) 24 rfl Try.underlying25 info27 rfl (by decide) (.slice (some ⟨w.heap.size, 0, none⟩) 0 0) [] xs (some ad) xs.length c rfl rfl HC.out HL.out (by simp; omega) ?_; intro v1 w1 ho; have HN := Aside0.mk ho; clear ho)
    go_ret
    exact ⟨_, rfl, HN.out⟩
end
end Go.Proofs.Ytcfonmbojkolfaa.Plan
