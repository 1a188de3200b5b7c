/- The law's proof: words, contracts of the functions that it reaches, plain lemmas. -/
import Derived.ArgAppend
import Derived.Below
import Derived.BigQuiet
import Derived.Carry
import Derived.Deep.AppendLies
import Derived.Deep.CutBlock
import Derived.Deep.DeepCutAuto
import Derived.Deep.Draws
import Derived.Deep.LoopGhost
import Derived.Deep.OwnRows
import Derived.Deep.QuietTactic
import Derived.Deep.RegionHeld3
import Derived.Deep.RegionWith
import Derived.KernelRfl
import Derived.Laws.BitsLemmas
import Derived.Laws.BytesArg
import Derived.Laws.IdiomCopy
import Derived.Laws.MakeOwn
import Derived.Laws.OwnMore
import Derived.Laws.Rows
import Derived.Laws.Slices
import Derived.Lib.AppendStr
import Derived.Lib.BufferMore
import Derived.Lib.ConvBytes
import Derived.Lib.Hide
import Derived.Lib.LazyBuf
import Derived.Maps.AppendAt
import Derived.OpenShut
import Derived.OrdersHeld
import Derived.Outline
import Derived.OwnWalk
import Derived.OwnWalkIn
import Derived.RegionTactic
import Derived.RowKit3
import Derived.StillTailTactics
import Derived.Tactics
import Derived.WalkKit
import Derived.WideLaws
import Derived.Test.YteofihmeiikhbaaDoorSb16
import Derived.Orders
section
/- A region that makes the four rows of a state, a state, and lays it: in whatever order. -/
set_option linter.unusedVariables false
set_option linter.unusedSimpArgs false
namespace Go.Proofs.YteofihmeiikhbaaDoor.PG
open Go.RowKit Go.Proofs.YteofihmeiikhbaaDoorW.PrintWords Go.Proofs.YteofihmeiikhbaaDoorW.PrintLast Go.Proofs.YteofihmeiikhbaaDoor.Mem Go.Proofs.YteofihmeiikhbaaDoor.Own Go.Proofs.YteofihmeiikhbaaDoor.Hw

/-- What holds all through a region holds at its end, in whatever order. -/
theorem wpAny_inv {P : Program} {md : Region.Mode} {ops : Array Oper} {Q : Exit → Act → World → Prop} (Inv : Array Bool → Act → World → Prop) (hsz : ∀ l a w, Inv l a w → l.size = ops.size)
    (hstep : ∀ l a w, Inv l a w → ∀ i ∈ Region.ready md ops l, wpOp P ops Q i (fun a' w' => Inv (l.setIfInBounds i true) a' w') a w)
    (hend : ∀ l a w, Inv l a w → Region.ready md ops l = [] → Q .normal a w) :
    ∀ (fuel : Nat) (l : Array Bool) (a : Act) (w : World), l.toList.count false ≤ fuel → Inv l a w → wpAny P md ops Q fuel l a w
  | 0, l, a, w, hc, hI => by
    have hr : Region.ready md ops l = [] := by
      rw [List.eq_nil_iff_forall_not_mem]
      intro i hi
      obtain ⟨h1, o, ho, _⟩ := mem_ready.1 hi
      have hlt : i < l.size := by rw [hsz l a w hI]; exact (Array.getElem?_eq_some_iff.1 ho).1
      have h0 : l.toList.count false = 0 := by omega
      rw [List.count_eq_zero] at h0
      refine h0 ?_
      have : l[i] = false := by
        have := h1
        rw [Array.getD_eq_getD_getElem?, Array.getElem?_eq_getElem hlt] at this
        exact this
      rw [← this]
      exact Array.getElem_mem_toList hlt
    exact ⟨hr, hend l a w hI hr⟩
  | fuel + 1, l, a, w, hc, hI => by
    refine ⟨hend l a w hI, fun i hi => ?_⟩
    obtain ⟨h1, o, ho, _⟩ := mem_ready.1 hi
    have hlt : i < l.size := by rw [hsz l a w hI]; exact (Array.getElem?_eq_some_iff.1 ho).1
    have hli : l[i] = false := by
      have := h1
      rw [Array.getD_eq_getD_getElem?, Array.getElem?_eq_getElem hlt] at this
      exact this
    refine wpOp_mono (fun a' w' h' => wpAny_inv Inv hsz hstep hend fuel _ a' w' ?_ h') (hstep l a w hI i hi)
    have e : (l.setIfInBounds i true).toList = l.toList.set i true := by simp
    have hc2 := List.count_set (l := l.toList) (i := i) (a := true) (b := false) (by simpa using hlt)
    rw [e, hc2]
    have h3 : (l.toList[i]'(by simpa using hlt)) = false := by simpa using hli
    rw [h3]
    have h4 : 0 < l.toList.count false := List.count_pos_iff.2 (by rw [← h3]; exact List.getElem_mem _)
    have h5 : (if (l.toList[i]'(by simpa using hlt) == false) = true then 1 else 0) = 1 := by rw [h3]; rfl
    have h6 : (if (true == false) = true then 1 else 0) = 0 := by decide
    rw [h3] at hc2
    rw [h6]
    have h7 : (if (false == false) = true then 1 else 0) = 1 := by decide
    rw [h7]
    omega
theorem wpOp_go {P : Program} {ops : Array Oper} {Q : Exit → Act → World → Prop} {i : Nat} {o : Oper} {K : Act → World → Prop} {a : Act} {w w1 : World} {v : Value} (ho : ops[i]? = some o) (hg : o.guard = none) (hr : (execOp a.eval o).run P w = .ok (.value v) w1) (h : K (a.put o.dst v) w1) : wpOp P ops Q i K a w := by
  unfold wpOp
  rw [ho]
  have : Region.wanted o (yielded ops a.tmps) = true := by simp [Region.wanted, hg]
  simp only [this, if_true]
  refine .inl ?_
  unfold Oper.wp
  rw [hr]
  exact h
theorem wpOp_skip {P : Program} {ops : Array Oper} {Q : Exit → Act → World → Prop} {i : Nat} {o : Oper} {K : Act → World → Prop} {a : Act} {w w1 : World} (ho : ops[i]? = some o) (hg : o.guard = none) (hd : o.dst = none) (hr : (execOp a.eval o).run P w = .ok .skip w1) (h : K a w1) : wpOp P ops Q i K a w := by
  unfold wpOp
  rw [ho]
  have : Region.wanted o (yielded ops a.tmps) = true := by simp [Region.wanted, hg]
  simp only [this, if_true]
  refine .inl ?_
  unfold Oper.wp
  rw [hr, Oper.upon_skip, hd]
  exact h
/-- Nothing is said. -/
def Emp : Asn where
  P _ _ _ := True
  move _ _ := trivial
  cut _ := trivial
  mono _ _ := trivial
  lower _ _ := trivial
def cnd (b : Bool) (A : Asn) : Asn := if b then A else Emp
theorem own_emp {w0 w : World} {L : List Asn} (h : Own.Own w0 w L) : Own.Own w0 w (Emp :: L) := h.fresh (R := [Emp]) (Below.refl _ _) (Hold.one trivial)
theorem int_row {w : World} {B b d : Nat} {S : Nat → Prop} {xs : List Int} (h : w.ownsRow 0 3 1 (.slice (some ⟨b, 0, none⟩) xs.length d) xs.length (nums .i64 xs)) (hb : B ≤ b) (hs : S b) : (Ints (.slice (some ⟨b, 0, none⟩) xs.length d) xs).P w B S := by
  refine Kd.R_of_own ?_ (fun k hk => by injection hk with hk; subst hk; exact hs)
  have hm : encs (Value.int .i64) xs = nums .i64 xs := rfl
  rw [hm]
  rcases h.2 with ⟨h', _⟩ | ⟨g', cap', cur, h', r⟩
  · cases h'
  · injection h' with e1 e2 e3
    injection e1 with e1
    injection e1 with e1
    subst e1 e3
    exact ⟨h.1, .inr ⟨_, _, cur, rfl, hb, r.2⟩⟩
theorem made_own {w0 w : World} {L : List Asn} (h : Own.Own w0 w L) (n : Nat) (hn : n ≤ 1000000) : Own.Own w0 (w.alloc (.cells (madeCells #[.int .i64 0] n) 3)) (Ints (.slice (some ⟨w.heap.size, 0, none⟩) n n) (List.replicate n 0) :: L) := by
  have hr := own_made' w 0 3 .i64 n (Nat.zero_le _) (by omega)
  have hz : (List.replicate n (0 : Int)).length = n := List.length_replicate
  have hr2 := int_row (w := w.alloc (.cells (madeCells #[.int .i64 0] n) 3)) (B := w.heap.size) (S := fun k => w.heap.size ≤ k) (b := w.heap.size) (d := n) (xs := List.replicate n 0) (by rw [hz]; rw [hz] at hr; exact hr) (Nat.le_refl _) (Nat.le_refl _)
  rw [hz] at hr2
  exact h.fresh (R := [Ints (.slice (some ⟨w.heap.size, 0, none⟩) n n) (List.replicate n 0)]) (below_alloc (Below.refl _ _) _) (Hold.one hr2)
theorem lit_own {w0 w : World} {L : List Asn} (h : Own.Own w0 w L) (xs : List Int) (hn : xs.length ≤ 1000000) : Own.Own w0 (w.alloc (.cells (nums .i64 xs).toArray 3)) (Ints (.slice (some ⟨w.heap.size, 0, none⟩) xs.length xs.length) xs :: L) :=
  h.fresh (R := [Ints (.slice (some ⟨w.heap.size, 0, none⟩) xs.length xs.length) xs]) (below_alloc (Below.refl _ _) _) (Hold.one (int_row (own_lit w 0 3 .i64 xs (Nat.zero_le _) (by omega)) (Nat.le_refl _) (Nat.le_refl _)))
abbrev zs8 : List Int := [0, 0, 0, 0, 0, 0, 0, 0]
abbrev boxC (b6 : Bool) (x10 x11 x12 x13 : Value) : Array Value := if b6 then #[x10, x11, x12, x13] else #[.slice none 0 0, .slice none 0 0, .slice none 0 0, .slice none 0 0]
/-- What holds all through. -/
def LitI (w0 : World) (A : Value → Value → Value → Value → Value → Value → Act) (L : List Asn) (l : Array Bool) (a : Act) (w : World) : Prop :=
  ∃ (b0 b1 b2 b3 b4 b5 b6 : Bool) (x2 x10 x11 x12 x13 x14 : Value) (B : Nat), l = #[b0, b1, b2, b3, b4, b5, b6] ∧ a = A x2 x10 x11 x12 x13 x14 ∧ (b4 = true → b0 = true ∧ b1 = true ∧ b2 = true ∧ b3 = true ∧ x14 = .agg #[x10, x11, x12, x13]) ∧ (b6 = true → b4 = true ∧ b5 = true) ∧ (b5 = true → x2 = .pointer (some ⟨B, 0, none⟩)) ∧
    Own.Own w0 w (cnd b0 (Ints x10 [1, 2, 3, 4]) :: cnd b1 (Ints x11 zs8) :: cnd b2 (Ints x12 zs8) :: cnd b3 (Ints x13 zs8) :: cnd b5 (Pt B (.cells (boxC b6 x10 x11 x12 x13) 26 (0, 0))) :: L)
end Go.Proofs.YteofihmeiikhbaaDoor.PG
end
