/- The law's proof: words, contracts of the functions that it reaches, plain lemmas. -/
import Derived.ArgAppend
import Derived.Below
import Derived.BigQuiet
import Derived.Carry
import Derived.Deep.AppendLies
import Derived.Deep.CutBlock
import Derived.Deep.DeepCutAuto
import Derived.Deep.Draws
import Derived.Deep.LoopGhost
import Derived.Deep.OwnRows
import Derived.Deep.QuietTactic
import Derived.Deep.RegionHeld3
import Derived.Deep.RegionWith
import Derived.KernelRfl
import Derived.Laws.BitsLemmas
import Derived.Laws.BytesArg
import Derived.Laws.IdiomCopy
import Derived.Laws.MakeOwn
import Derived.Laws.OwnMore
import Derived.Laws.Rows
import Derived.Laws.Slices
import Derived.Lib.AppendStr
import Derived.Lib.BufferMore
import Derived.Lib.ConvBytes
import Derived.Lib.Hide
import Derived.Lib.LazyBuf
import Derived.Maps.AppendAt
import Derived.OpenShut
import Derived.OrdersHeld
import Derived.Outline
import Derived.OwnWalk
import Derived.OwnWalkIn
import Derived.RegionTactic
import Derived.RowKit3
import Derived.StillTailTactics
import Derived.Tactics
import Derived.WalkKit
import Derived.WideLaws
import Derived.Test.YteofihmeiikhbaaDoorSb4
import Derived.Test.YteofihmeiikhbaaDoorSb1
import Derived.Test.YteofihmeiikhbaaDoorSb6
section
/- The package-level tables that the program reads, as they lie in a world. -/
set_option linter.unusedVariables false
set_option linter.unusedSimpArgs false
namespace Go.Proofs.YteofihmeiikhbaaDoor.Hw
open Go.RowKit Go.Proofs.YteofihmeiikhbaaDoorW.PrintWords

/-- A table of whole numbers: block g reads as xs. -/
def Tbl (g : Nat) (k : IntKind) (xs : List Int) (w : World) : Prop := ∀ i : Nat, i < xs.length → w.cell? ⟨g, i, none⟩ = some (.int k (xs.getD i 0))
theorem Tbl.below {g : Nat} {k : IntKind} {xs : List Int} {w w1 : World} {B : Nat} (h : Tbl g k xs w) (hb : Below B w w1) (hB : w.heap.size ≤ B) : Tbl g k xs w1 := fun i hi =>
  (hb.cell (p := ⟨g, i, none⟩) (Nat.lt_of_lt_of_le (World.block_lt_of_cell? w _ (h i hi)) hB)).trans (h i hi)
/-- All of them. -/
structure Laid (w : World) : Prop where
theorem Laid.below {w w1 : World} {B : Nat} (h : Laid w) (hb : Below B w w1) (hB : w.heap.size ≤ B) : Laid w1 := ⟨⟩
end Go.Proofs.YteofihmeiikhbaaDoor.Hw
end

section
/- Words for walks over what a call owns: appends in a walk and in a drawn region; a call's own things put beside what is owned. -/
set_option linter.unusedVariables false
set_option linter.unusedSimpArgs false
namespace Go.Proofs.YteofihmeiikhbaaDoor.Hw
open Go.RowKit Go.Proofs.YteofihmeiikhbaaDoorW.PrintWords Go.Proofs.YteofihmeiikhbaaDoorW.PrintLast Go.Proofs.YteofihmeiikhbaaDoor.Mem Go.Proofs.YteofihmeiikhbaaDoor.Own

theorem own_append {P : Program} {ops : Array Oper} {rest : List Oper} {o : Oper} {a : Act} {Q : Exit → Act → World → Prop} {α : Type} {w0 W : World} {L : List Asn} (d : Kd α) (hgd : o.guard = none) (s x : Operand) (t e : TypeId) (z : Value) (bytes : Nat)
    (ho : o.op = .call { callee := .builtin .append, args := #[s, x], argTypes := #[t, t] })
    (ht : P.underlying t = some (.slice e)) (hinfo : (P.info? e).map (fun i => (i.zero, i.size, i.bytes)) = some (some z, d.sz, bytes)) (hz : z.cells.size = d.sz) (hs0 : 0 < d.sz) (hb0 : 0 < bytes)
    (v : Value) (xs : List α) (p : α) (cs : List Value) (hs : a.eval s = v) (hx : a.eval x = .slice (some ⟨W.heap.size, 0, none⟩) 1 1) (hp : d.M W w0.heap.size (fun _ => False) p cs)
    (HO : Own.Own w0 W (Row d e v xs :: L)) (hl : (xs.length + 1) * bytes ≤ 140737488355328)
    (h : ∀ v1 w1, Own.Own w0 w1 (Row d e v1 (xs ++ [p]) :: L) → wpList P ops Q rest (a.put o.dst v1) w1) :
    wpList P ops Q (o :: rest) a (W.alloc (.cells cs.toArray e)) := by
  obtain ⟨S, hS, hk, f⟩ := HO.head
  refine Kd.R_append d (w0 := W) w0.heap.size hgd s x t e z bytes ho ht hinfo hz hs0 hb0 v xs p cs (fun k => S k ∨ W.heap.size ≤ k) (fun _ => False) hs hx hp (fun k hk => hk.elim) (fun k hk => .inr hk) (Kd.R_mono hS (fun k hk => .inl hk)) (Below.refl _ _) HO.size hl ?_
  intro v1 w1 hR hB hG hat
  refine h v1 w1 (f w1 [Row d e v1 (xs ++ [p])] ⟨hB, hG.size, fun k hk1 hk2 => hG.block k hk1 (fun he => hk2 ?_)⟩ (Hold.one hR))
  exact hS.1 k he.symm
theorem own_append_step {P : Program} {ops : Array Oper} {o : Oper} {a : Act} {Q : Exit → Act → World → Prop} {Kc : Act → World → Prop} {α : Type} {w0 W : World} {L : List Asn} (d : Kd α) (hw : Region.wanted o (yielded ops a.tmps) = true) (s x : Operand) (t e : TypeId) (z : Value) (bytes : Nat)
    (ho : o.op = .call { callee := .builtin .append, args := #[s, x], argTypes := #[t, t] })
    (ht : P.underlying t = some (.slice e)) (hinfo : (P.info? e).map (fun i => (i.zero, i.size, i.bytes)) = some (some z, d.sz, bytes)) (hz : z.cells.size = d.sz) (hs0 : 0 < d.sz) (hb0 : 0 < bytes)
    (v : Value) (xs : List α) (p : α) (cs : List Value) (hs : a.eval s = v) (hx : a.eval x = .slice (some ⟨W.heap.size, 0, none⟩) 1 1) (hp : d.M W w0.heap.size (fun _ => False) p cs)
    (HO : Own.Own w0 W (Row d e v xs :: L)) (hl : (xs.length + 1) * bytes ≤ 140737488355328)
    (h : ∀ v1 w1, Own.Own w0 w1 (Row d e v1 (xs ++ [p]) :: L) → Kc (a.put o.dst v1) w1) :
    if Region.wanted o (yielded ops a.tmps) = true then Oper.wp P o a (W.alloc (.cells cs.toArray e)) Kc Q else Kc (a.put o.dst undef) (W.alloc (.cells cs.toArray e)) := by
  obtain ⟨S, hS, hk, f⟩ := HO.head
  refine Kd.R_append_step d (w0 := W) w0.heap.size hw s x t e z bytes ho ht hinfo hz hs0 hb0 v xs p cs (fun k => S k ∨ W.heap.size ≤ k) (fun _ => False) hs hx hp (fun k hk => hk.elim) (fun k hk => .inr hk) (Kd.R_mono hS (fun k hk => .inl hk)) (Below.refl _ _) HO.size hl ?_
  intro v1 w1 hR hB hG hat
  refine h v1 w1 (f w1 [Row d e v1 (xs ++ [p])] ⟨hB, hG.size, fun k hk1 hk2 => hG.block k hk1 (fun he => hk2 ?_)⟩ (Hold.one hR))
  exact hS.1 k he.symm
theorem quiet_exit {P : Program} {c : Code} {K : Act → World → Prop} {Q : Exit → Act → World → Prop} {a : Act} {w : World} (h : Code.wp P c (Exit.then K (fun _ _ _ => False)) a w) : Code.wp P c (Exit.then K Q) a w := by
  refine wp_mono h ?_
  intro e a w h
  cases e with
  | normal => exact h
  | _ => exact h.elim
theorem quiet_block {P : Program} {c : Code} {n : Nat} {K : Act → World → Prop} {Q : Exit → Act → World → Prop} {a : Act} {w : World} (h : Code.wp P c (Exit.then K (fun _ _ _ => False)) a w) : Code.wp P c (Exit.inBlock n (Exit.then K Q)) a w := by
  refine wp_mono h ?_
  intro e a w h
  cases e with
  | normal => exact h
  | _ => exact h.elim
theorem then_n {K : Act → World → Prop} {Q : Exit → Act → World → Prop} {a : Act} {w : World} (h : K a w) : Exit.then K Q .normal a w := h
theorem own_then {w0 w w1 : World} {L R : List Asn} (h : Own.Own w0 w L) (h2 : Own.Own w w1 R) : Own.Own w0 w1 (R ++ L) := let ⟨b, _, hs, hk⟩ := h2; h.fresh b (hs.mono (fun k hk' => (hk k hk').1))
theorem hold_perm {w : World} {b : Nat} {L R : List Asn} (hp : L.Perm R) : ∀ S, Hold w b L S → Hold w b R S := by
  induction hp with
  | nil => exact fun _ h => h
  | cons x _ ih => exact fun S => Hold.cons ih
  | swap x y l => exact fun S => Hold.swap
  | trans _ _ ih1 ih2 => exact fun S h => ih2 S (ih1 S h)
theorem own_swap {w0 w : World} (A B : List Asn) {L : List Asn} (h : Own.Own w0 w (A ++ (B ++ L))) : Own.Own w0 w (B ++ (A ++ L)) := by
  refine h.map (hold_perm ?_)
  rw [← List.append_assoc, ← List.append_assoc]
  exact List.perm_append_comm.append_right L
theorem own_ne2 {w0 w : World} {L : List Asn} {g1 g2 : Nat} {o1 o2 : Obj} (h : Own.Own w0 w (Pt g1 o1 :: Pt g2 o2 :: L)) : g1 ≠ g2 := by
  obtain ⟨b, S, ⟨S1, S2, h1, ⟨S3, S4, h3, _, _, i3, _⟩, d, _, _⟩, _⟩ := h
  exact fun e => d g1 h1.2 (i3 g1 (e ▸ h3.2))
theorem own_sw2 {w0 w : World} (A B : Asn) {L : List Asn} (h : Own.Own w0 w (A :: B :: L)) : Own.Own w0 w (B :: A :: L) := h.map fun _ => Hold.swap
end Go.Proofs.YteofihmeiikhbaaDoor.Hw
end
