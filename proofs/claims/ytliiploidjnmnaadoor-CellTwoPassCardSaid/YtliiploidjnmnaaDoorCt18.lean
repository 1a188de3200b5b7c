/- The law's proof: words, contracts of the functions that it reaches, plain lemmas. -/
import Derived.ArgAppend
import Derived.Below
import Derived.BigQuiet
import Derived.Carry
import Derived.Deep.AppendLies
import Derived.Deep.CutBlock
import Derived.Deep.DeepCutAuto
import Derived.Deep.Draws
import Derived.Deep.LoopGhost
import Derived.Deep.OwnRows
import Derived.Deep.QuietTactic
import Derived.Deep.RegionHeld3
import Derived.Deep.RegionWith
import Derived.KernelRfl
import Derived.Laws.BitsLemmas
import Derived.Laws.BytesArg
import Derived.Laws.IdiomCopy
import Derived.Laws.MakeOwn
import Derived.Laws.OwnMore
import Derived.Laws.Rows
import Derived.Laws.Slices
import Derived.Lib.AppendStr
import Derived.Lib.BufferMore
import Derived.Lib.ConvBytes
import Derived.Lib.Hide
import Derived.Lib.LazyBuf
import Derived.Maps.AppendAt
import Derived.OpenShut
import Derived.OrdersHeld
import Derived.Outline
import Derived.OwnWalk
import Derived.OwnWalkIn
import Derived.RegionTactic
import Derived.RowKit3
import Derived.StillTailTactics
import Derived.Tactics
import Derived.WalkKit
import Derived.WideLaws
import Derived.Test.YtliiploidjnmnaaDoorCt17
import Derived.Test.YtliiploidjnmnaaDoorCt7
import Derived.Test.YtliiploidjnmnaaDoorCt5
import Derived.Test.YtliiploidjnmnaaDoorCt16
import Derived.Test.YtliiploidjnmnaaDoorCt15
import Derived.Test.YtliiploidjnmnaaDoorCt0
section
/- Package cell, by hand: a cell among what a walk owns. -/
set_option linter.unusedVariables false
set_option linter.unusedSimpArgs false
namespace Go.Proofs.YtliiploidjnmnaaDoor.PF
open Go.RowKit Go.Shelf Go.Proofs.YtliiploidjnmnaaDoorW.PrintWords Go.Proofs.YtliiploidjnmnaaDoor.Mem Go.Proofs.YtliiploidjnmnaaDoor.Own Go.Proofs.YtliiploidjnmnaaDoor.Hw

theorem own_sw {w0 w : World} (A B : List Asn) {L : List Asn} (h : Own w0 w (A ++ (B ++ L))) : Own w0 w (B ++ (A ++ L)) := by
  refine h.map ?_
  have hp : ∀ {L R : List Asn}, L.Perm R → ∀ {w : World} {b : Nat} (S : Nat → Prop), Hold w b L S → Hold w b R S := by
    intro L R hp w b
    induction hp with
    | nil => exact fun _ h => h
    | cons x _ ih => exact fun _ h => Hold.cons ih h
    | swap x y l => exact fun _ h => Hold.swap h
    | trans _ _ ih1 ih2 => exact fun S h => ih2 S (ih1 S h)
  refine fun S => hp ?_ S
  rw [← List.append_assoc, ← List.append_assoc]
  exact List.Perm.append_right L List.perm_append_comm
/-- A line: three pages, and which of them are hurt. -/
structure LineS where
  p0 : ByteArray
  p1 : ByteArray
  p2 : ByteArray
  h0 : Bool
  h1 : Bool
  h2 : Bool
def line0 : LineS := ⟨⟨#[]⟩, ⟨#[]⟩, ⟨#[]⟩, false, false, false⟩
instance : Inhabited LineS := ⟨line0⟩
def LineS.cells (l : LineS) : List Value := [.string l.p0, .string l.p1, .string l.p2, .bool l.h0, .bool l.h1, .bool l.h2]
def lcells : List LineS → List Value
  | [] => []
  | l :: r => l.cells ++ lcells r
abbrev linesC (ls : List LineS) : Obj := .cells (lcells ls).toArray 74 (0, 0)
/-- A cell. -/
structure CellS where
  lines : List LineS
  blank : ByteArray
  mode : Int
  done : Int
  bad : Bool
  torn : Bool
  slc : Int
  tlc : Int
abbrev cellC (lb : Nat) (S : CellS) : Obj := .cells #[.slice (some ⟨lb, 0, none⟩) S.lines.length S.lines.length, .string S.blank, .int .i64 S.mode, .int .i64 S.done, .bool S.bad, .bool S.torn, .int .i64 S.slc, .int .i64 S.tlc] 67 (0, 0)
abbrev CellO (g lb : Nat) (S : CellS) (L : List Asn) : List Asn := Pt g (cellC lb S) :: Pt lb (linesC S.lines) :: L
theorem cells8 {w : World} {g : Nat} {a b c d e f h i : Value} {T : TypeId} (hb : w.heap[g]? = some (.cells #[a, b, c, d, e, f, h, i] T (0, 0))) :
    w.cell? ⟨g, 0, none⟩ = some a ∧ w.cell? ⟨g, 1, none⟩ = some b ∧ w.cell? ⟨g, 2, none⟩ = some c ∧ w.cell? ⟨g, 3, none⟩ = some d ∧ w.cell? ⟨g, 4, none⟩ = some e ∧ w.cell? ⟨g, 5, none⟩ = some f ∧ w.cell? ⟨g, 6, none⟩ = some h ∧ w.cell? ⟨g, 7, none⟩ = some i :=
  ⟨(blk_cell hb 0).trans rfl, (blk_cell hb 1).trans rfl, (blk_cell hb 2).trans rfl, (blk_cell hb 3).trans rfl, (blk_cell hb 4).trans rfl, (blk_cell hb 5).trans rfl, (blk_cell hb 6).trans rfl, (blk_cell hb 7).trans rfl⟩
theorem lcells_length : ∀ ls : List LineS, (lcells ls).length = 6 * ls.length
  | [] => rfl
  | l :: r => by
    show (l.cells ++ lcells r).length = 6 * (r.length + 1)
    rw [List.length_append, lcells_length r]
    show 6 + _ = _
    omega
theorem lcells_get : ∀ (ls : List LineS) (i j : Nat), i < ls.length → j < 6 → (lcells ls)[6 * i + j]? = (ls.getD i line0).cells[j]?
  | [], i, j, h, _ => by simp at h
  | l :: r, 0, j, h, hj => by
    show (l.cells ++ lcells r)[6 * 0 + j]? = l.cells[j]?
    rw [List.getElem?_append_left (by show 6 * 0 + j < 6; omega), Nat.mul_zero, Nat.zero_add]
  | l :: r, i + 1, j, h, hj => by
    show (l.cells ++ lcells r)[6 * (i + 1) + j]? = (r.getD i line0).cells[j]?
    rw [List.getElem?_append_right (by show 6 ≤ _; omega), show 6 * (i + 1) + j - l.cells.length = 6 * i + j by show _ - 6 = _; omega]
    exact lcells_get r i j (by simpa using h) hj
theorem lcells_set : ∀ (ls : List LineS) (i j : Nat) (v : Value) (l' : LineS), i < ls.length → j < 6 → (ls.getD i line0).cells.set j v = l'.cells → (lcells ls).set (6 * i + j) v = lcells (ls.set i l')
  | [], i, j, _, _, h, _, _ => by simp at h
  | l :: r, 0, j, v, l', h, hj, e => by
    show (l.cells ++ lcells r).set (6 * 0 + j) v = l'.cells ++ lcells r
    rw [List.set_append_left _ _ (by show 6 * 0 + j < 6; omega), Nat.mul_zero, Nat.zero_add]
    exact congrArg (· ++ lcells r) e
  | l :: r, i + 1, j, v, l', h, hj, e => by
    show (l.cells ++ lcells r).set (6 * (i + 1) + j) v = l.cells ++ lcells (r.set i l')
    rw [List.set_append_right _ _ (by show 6 ≤ _; omega), show 6 * (i + 1) + j - l.cells.length = 6 * i + j by show _ - 6 = _; omega, lcells_set r i j v l' (by simpa using h) hj e]
/-- Three strings by value. -/
theorem ix3_0 (a b c : ByteArray) (w : World) : (Instr.index 36 (.agg #[.string a, .string b, .string c]) (.int .i64 0)).run Tryd.prog w = .ok (.string a) w := by kernel_rfl
theorem ix3_1 (a b c : ByteArray) (w : World) : (Instr.index 36 (.agg #[.string a, .string b, .string c]) (.int .i64 1)).run Tryd.prog w = .ok (.string b) w := by kernel_rfl
theorem ix3_2 (a b c : ByteArray) (w : World) : (Instr.index 36 (.agg #[.string a, .string b, .string c]) (.int .i64 2)).run Tryd.prog w = .ok (.string c) w := by kernel_rfl
theorem emp_yes (x : ByteArray) (h : x.size = 0) : x.toList.isEmpty = true := by
  rw [ByteArray.toList_eq, List.isEmpty_iff, ← List.length_eq_zero_iff]
  exact h
theorem emp_no (x : ByteArray) (h : x.size ≠ 0) : x.toList.isEmpty = false := by
  rw [ByteArray.toList_eq]
  cases hx : x.data.toList with
  | nil => exact absurd (by show x.data.size = 0; rw [← Array.length_toList, hx]; rfl) h
  | cons a l => rfl
section
variable {w0 w : World} {L : List Asn} {g lb : Nat} {S : CellS}
/-- The cells of a line. -/
theorem line_cells {ls : List LineS} {T : TypeId} (hb : w.heap[lb]? = some (.cells (lcells ls).toArray T (0, 0))) (i : Nat) (hi : i < ls.length) :
    w.cell? ⟨lb, i * 6, none⟩ = some (.string (ls.getD i line0).p0) ∧ w.cell? ⟨lb, i * 6 + 1, none⟩ = some (.string (ls.getD i line0).p1) ∧ w.cell? ⟨lb, i * 6 + 2, none⟩ = some (.string (ls.getD i line0).p2) ∧
    w.cell? ⟨lb, i * 6 + 3, none⟩ = some (.bool (ls.getD i line0).h0) ∧ w.cell? ⟨lb, i * 6 + 4, none⟩ = some (.bool (ls.getD i line0).h1) ∧ w.cell? ⟨lb, i * 6 + 5, none⟩ = some (.bool (ls.getD i line0).h2) := by
  have h : ∀ j, j < 6 → w.cell? ⟨lb, i * 6 + j, none⟩ = (ls.getD i line0).cells[j]? := fun j hj => by
    rw [blk_cell hb, List.getElem?_toArray, Nat.mul_comm i 6, lcells_get ls i j hi hj]
  exact ⟨h 0 (by omega), h 1 (by omega), h 2 (by omega), h 3 (by omega), h 4 (by omega), h 5 (by omega)⟩
theorem line_frozen {ls : List LineS} {T : TypeId} (hb : w.heap[lb]? = some (.cells (lcells ls).toArray T (0, 0))) (k : Nat) : w.frozen? ⟨lb, k, none⟩ = false := blk_frozen hb k
/-- One cell of a line set. -/
theorem line_set {ls : List LineS} {T : TypeId} (h : Own w0 w (Pt lb (.cells (lcells ls).toArray T (0, 0)) :: L)) (i j : Nat) (v : Value) (l' : LineS) (hi : i < ls.length) (hj : j < 6) (e : (ls.getD i line0).cells.set j v = l'.cells) :
    Own w0 (w.setCell ⟨lb, i * 6 + j, none⟩ v) (Pt lb (.cells (lcells (ls.set i l')).toArray T (0, 0)) :: L) := by
  have := h.set (i := i * 6 + j) v
  rw [List.setIfInBounds_toArray, Nat.mul_comm i 6, lcells_set ls i j v l' hi hj e] at this
  rw [Nat.mul_comm i 6]
  exact this
theorem getD_set_same {α : Type} (ls : List α) (i : Nat) (l d : α) (hi : i < ls.length) : (ls.set i l).getD i d = l := by
  rw [List.getD_eq_getElem?_getD, List.getElem?_set, if_pos rfl, if_pos hi]
  rfl
theorem line_put {ls : List LineS} {l : LineS} {T : TypeId} {i : Nat} (h : Own w0 w (Pt lb (.cells (lcells (ls.set i l)).toArray T (0, 0)) :: L)) (hi : i < ls.length) (j : Nat) (v : Value) (l' : LineS) (hj : j < 6) (e : l.cells.set j v = l'.cells) :
    Own w0 (w.setCell ⟨lb, i * 6 + j, none⟩ v) (Pt lb (.cells (lcells (ls.set i l')).toArray T (0, 0)) :: L) := by
  have := line_set h i j v l' (by rw [List.length_set]; exact hi) hj (by rw [getD_set_same _ _ _ _ hi]; exact e)
  rw [List.set_set] at this
  exact this
theorem set_getD_self {α : Type} (ls : List α) (i : Nat) (d : α) (hi : i < ls.length) : ls.set i (ls.getD i d) = ls := by
  rw [List.getD_eq_getElem?_getD, List.getElem?_eq_getElem hi]
  exact List.set_getElem_self hi
theorem cello_lines {ls : List LineS} (h : Own w0 w (Pt g (cellC lb S) :: Pt lb (linesC ls) :: L)) (hl : ls.length = S.lines.length) : Own w0 w (CellO g lb { S with lines := ls } L) := by
  show Own w0 w (Pt g (.cells #[.slice (some ⟨lb, 0, none⟩) ls.length ls.length, .string S.blank, .int .i64 S.mode, .int .i64 S.done, .bool S.bad, .bool S.torn, .int .i64 S.slc, .int .i64 S.tlc] 67 (0, 0)) :: Pt lb (linesC ls) :: L)
  rw [hl]
  exact h
set_option maxHeartbeats 2000000 in
set_option maxRecDepth 100000 in
theorem takes_own (page : ByteArray) (HO : Own w0 w (CellO g lb S L)) :
    Calls Tryd.prog 35 #[.pointer (some ⟨g, 0, none⟩), .string page] w fun e w' => e = .returned (.bool ((page.size : Int) == (S.blank.size : Int))) ∧ w' = w := by
  obtain ⟨_, x1, _, _, _, _, _, _⟩ := cells8 HO.pt
  clear HO
  go_enter Tryd.func35, Tryd.ntmps35
  go_wp2_with fail
  go_ret
  exact ⟨rfl, rfl⟩
end
end Go.Proofs.YtliiploidjnmnaaDoor.PF
end

section
/- Package cell, by hand: what hurts. -/
set_option linter.unusedVariables false
set_option linter.unusedSimpArgs false
namespace Go.Proofs.YtliiploidjnmnaaDoor.PF
open Go.RowKit Go.Shelf Go.Proofs.YtliiploidjnmnaaDoorW.PrintWords Go.Proofs.YtliiploidjnmnaaDoor.Mem Go.Proofs.YtliiploidjnmnaaDoor.Own Go.Proofs.YtliiploidjnmnaaDoor.Hw

def hurt1 (p : ByteArray) (a b : Int) : ByteArray := if p.size = 0 then p else hurtB p a b
def hurtL (l : LineS) (a b : Int) : LineS := ⟨hurt1 l.p0 a b, hurt1 l.p1 a b, hurt1 l.p2 a b, l.h0 || decide (l.p0.size ≠ 0), l.h1 || decide (l.p1.size ≠ 0), l.h2 || decide (l.p2.size ≠ 0)⟩
/-- A line of which so many parts were hurt. -/
def hurtK (l : LineS) (a b : Int) (k : Nat) : LineS := match k with
  | 0 => l
  | 1 => ⟨hurt1 l.p0 a b, l.p1, l.p2, l.h0 || decide (l.p0.size ≠ 0), l.h1, l.h2⟩
  | 2 => ⟨hurt1 l.p0 a b, hurt1 l.p1 a b, l.p2, l.h0 || decide (l.p0.size ≠ 0), l.h1 || decide (l.p1.size ≠ 0), l.h2⟩
  | _ => hurtL l a b
abbrev fltV (a0 a1 a2 a3 : Int) : Value := .agg #[.int .i64 a0, .int .i64 a1, .int .i64 a2, .int .i64 a3]
abbrev fltC (a0 a1 a2 a3 : Int) : Obj := .cells #[.int .i64 a0, .int .i64 a1, .int .i64 a2, .int .i64 a3] 38 (0, 0)
section
variable {w0 w : World} {L : List Asn} {g lb : Nat} {S : CellS}
set_option maxHeartbeats 4000000 in
set_option maxRecDepth 100000 in
theorem hurt_own (at_ : Nat) (a0 a1 a2 a3 : Int) (hat : at_ < S.lines.length) (hsz : ∀ l ∈ S.lines, l.p0.size ≤ 100000 ∧ l.p1.size ≤ 100000 ∧ l.p2.size ≤ 100000) (HO : Own w0 w (CellO g lb S L)) :
    Calls Tryd.prog 38 #[.pointer (some ⟨g, 0, none⟩), .int .i64 (at_ : Int), fltV a0 a1 a2 a3] w fun e w' => e = .returned (.tuple #[]) ∧ Own w0 w' (CellO g lb { S with lines := S.lines.set at_ (hurtL (S.lines.getD at_ line0) a2 a3) } L) := by
  obtain ⟨BF, hBF⟩ : ∃ BF, BF = w.heap.size := ⟨_, rfl⟩
  have HBF := Lib.hid hBF
  have ha := HO.alloc (fltC a0 a1 a2 a3)
  rw [← hBF] at ha
  have HA := Aside0.mk ha
  obtain ⟨x0, _, _, _, _, _, _, _⟩ := cells8 ha.drop.pt
  obtain ⟨y0, y1, y2, y3, y4, y5⟩ := line_cells ha.drop.drop.pt at_ hat
  obtain ⟨⟨l0, l1, l2, b0, b1, b2⟩, hl⟩ : ∃ l, l = S.lines.getD at_ line0 := ⟨_, rfl⟩
  rw [← hl] at y0 y1 y2 y3 y4 y5 ⊢
  have f1 : decide ((at_ : Int) < (S.lines.length : Nat)) = true := decide_eq_true (by omega)
  have f2 : (0 ≤ (at_ : Int)) = True := eq_true (by omega)
  have f3 : ((at_ : Int) < (S.lines.length : Nat)) = True := eq_true (by omega)
  have hmem : S.lines.getD at_ line0 ∈ S.lines := by rw [List.getD_eq_getElem?_getD, List.getElem?_eq_getElem hat]; exact List.getElem_mem hat
  have hs2 := hsz _ hmem
  rw [← hl] at hs2
  have HSZ := Lib.hid hs2
  clear ha hBF HO hs2 hmem hsz
  go_enter Tryd.func38, Tryd.ntmps38
  go_wp2_with fail
  rw [← HBF.out]
  go_wp2_with fail
  go_loopw [19] (fun v19 wr => ∃ (i : Nat), i ≤ 3 ∧ v19 = .int .i64 i ∧ Aside0 (Own w0 wr (Pt BF (fltC a0 a1 a2 a3) :: Pt g (cellC lb S) :: Pt lb (linesC (S.lines.set at_ (hurtK ⟨l0, l1, l2, b0, b1, b2⟩ a2 a3 i))) :: L))) (fun v19 _ => 3 - (intOf v19).toNat)
  case atStart => exact ⟨0, by omega, rfl, ⟨by rw [show hurtK ⟨l0, l1, l2, b0, b1, b2⟩ a2 a3 0 = S.lines.getD at_ line0 from hl, set_getD_self _ _ _ hat]; exact HA.out⟩⟩
  case round =>
    clear HA x0 y0 y1 y2 y3 y4 y5
    obtain ⟨i, hi, rfl, HO⟩ := hrel
    rcases (by omega : i = 0 ∨ i = 1 ∨ i = 2 ∨ i = 3) with rfl | rfl | rfl | rfl
    · have dl : decide (((0 : Nat) : Int) < 3) = true := by decide
      have i0 := ix3_0 l0 l1 l2
      obtain ⟨z0, z1, z2, z3, _, _, _, _⟩ := cells4 HO.out.pt
      by_cases hz : l0.size = 0
      · have he := emp_yes l0 hz
        have hk : hurtK ⟨l0, l1, l2, b0, b1, b2⟩ a2 a3 1 = hurtK ⟨l0, l1, l2, b0, b1, b2⟩ a2 a3 0 := by simp [hurtK, hurtL, hurt1, hz]
        have HK := Lib.hid hk
        clear hk
        go_wp2_with fail
        go_roundw
        case rel => exact ⟨1, by omega, by go_num, by rw [HK.out]; exact HO⟩
        case measure => simp [intOf]
      · have he := emp_no l0 hz
        have HZ := Aside0.mk (hurtB_is l0 a2 a3 (by have := HSZ.out; omega))
        have hk : hurtK ⟨l0, l1, l2, b0, b1, b2⟩ a2 a3 1 = ⟨hurtB l0 a2 a3, l1, l2, true, b1, b2⟩ := by simp [hurtK, hurtL, hurt1, hz]
        have HK := Lib.hid hk
        clear hk
        go_upto_region 6 with (fail)
        go_region_with (go_at_call 62; refine (frame_Hurt.calls _ _ _ _ _ HZ.out).mono ?_; rintro e w2 ⟨rfl, hb⟩; have HN := Aside0.mk (HO.out.drew.move hb); clear hb; obtain ⟨y0, y1, y2, y3, y4, y5⟩ := line_cells HN.out.drop.drop.pt at_ (by rw [List.length_set]; exact hat); have q0 := line_frozen HN.out.drop.drop.pt (at_ * 6); have q3 := line_frozen HN.out.drop.drop.pt (at_ * 6 + 3))
        all_goals
          have h1 := line_put HN.out.pull3 hat 0 (.string (hurtB l0 a2 a3)) ⟨hurtB l0 a2 a3, l1, l2, b0, b1, b2⟩ (by omega) rfl
          obtain ⟨y0, y1, y2, y3, y4, y5⟩ := line_cells h1.pt at_ (by rw [List.length_set]; exact hat)
          have q3 := line_frozen h1.pt (at_ * 6 + 3)
          have H2 := Aside0.mk (line_put h1 hat 3 (.bool true) ⟨hurtB l0 a2 a3, l1, l2, true, b1, b2⟩ (by omega) rfl).push2
          clear h1
          go_wp2_with fail
          go_roundw
          case rel => exact ⟨1, by omega, by go_num, by rw [HK.out]; exact H2⟩
          case measure => simp [intOf]
    · have dl : decide (((1 : Nat) : Int) < 3) = true := by decide
      have i0 := ix3_1 l0 l1 l2
      obtain ⟨z0, z1, z2, z3, _, _, _, _⟩ := cells4 HO.out.pt
      by_cases hz : l1.size = 0
      · have he := emp_yes l1 hz
        have hk : hurtK ⟨l0, l1, l2, b0, b1, b2⟩ a2 a3 2 = hurtK ⟨l0, l1, l2, b0, b1, b2⟩ a2 a3 1 := by simp [hurtK, hurtL, hurt1, hz]
        have HK := Lib.hid hk
        clear hk
        go_wp2_with fail
        go_roundw
        case rel => exact ⟨2, by omega, by go_num, by rw [HK.out]; exact HO⟩
        case measure => simp [intOf]
      · have he := emp_no l1 hz
        have HZ := Aside0.mk (hurtB_is l1 a2 a3 (by have := HSZ.out; omega))
        have hk : hurtK ⟨l0, l1, l2, b0, b1, b2⟩ a2 a3 2 = ⟨(hurt1 l0 a2 a3), hurtB l1 a2 a3, l2, (b0 || decide (l0.size ≠ 0)), true, b2⟩ := by simp [hurtK, hurtL, hurt1, hz]
        have HK := Lib.hid hk
        clear hk
        go_upto_region 6 with (fail)
        go_region_with (go_at_call 62; refine (frame_Hurt.calls _ _ _ _ _ HZ.out).mono ?_; rintro e w2 ⟨rfl, hb⟩; have HN := Aside0.mk (HO.out.drew.move hb); clear hb; obtain ⟨y0, y1, y2, y3, y4, y5⟩ := line_cells HN.out.drop.drop.pt at_ (by rw [List.length_set]; exact hat); have q0 := line_frozen HN.out.drop.drop.pt (at_ * 6 + 1); have q3 := line_frozen HN.out.drop.drop.pt (at_ * 6 + 4))
        all_goals
          have h1 := line_put HN.out.pull3 hat 1 (.string (hurtB l1 a2 a3)) ⟨(hurt1 l0 a2 a3), hurtB l1 a2 a3, l2, (b0 || decide (l0.size ≠ 0)), b1, b2⟩ (by omega) rfl
          obtain ⟨y0, y1, y2, y3, y4, y5⟩ := line_cells h1.pt at_ (by rw [List.length_set]; exact hat)
          have q3 := line_frozen h1.pt (at_ * 6 + 4)
          have H2 := Aside0.mk (line_put h1 hat 4 (.bool true) ⟨(hurt1 l0 a2 a3), hurtB l1 a2 a3, l2, (b0 || decide (l0.size ≠ 0)), true, b2⟩ (by omega) rfl).push2
          clear h1
          go_wp2_with fail
          go_roundw
          case rel => exact ⟨2, by omega, by go_num, by rw [HK.out]; exact H2⟩
          case measure => simp [intOf]
    · have dl : decide (((2 : Nat) : Int) < 3) = true := by decide
      have i0 := ix3_2 l0 l1 l2
      obtain ⟨z0, z1, z2, z3, _, _, _, _⟩ := cells4 HO.out.pt
      by_cases hz : l2.size = 0
      · have he := emp_yes l2 hz
        have hk : hurtK ⟨l0, l1, l2, b0, b1, b2⟩ a2 a3 3 = hurtK ⟨l0, l1, l2, b0, b1, b2⟩ a2 a3 2 := by simp [hurtK, hurtL, hurt1, hz]
        have HK := Lib.hid hk
        clear hk
        go_wp2_with fail
        go_roundw
        case rel => exact ⟨3, by omega, by go_num, by rw [HK.out]; exact HO⟩
        case measure => simp [intOf]
      · have he := emp_no l2 hz
        have HZ := Aside0.mk (hurtB_is l2 a2 a3 (by have := HSZ.out; omega))
        have hk : hurtK ⟨l0, l1, l2, b0, b1, b2⟩ a2 a3 3 = ⟨(hurt1 l0 a2 a3), (hurt1 l1 a2 a3), hurtB l2 a2 a3, (b0 || decide (l0.size ≠ 0)), (b1 || decide (l1.size ≠ 0)), true⟩ := by simp [hurtK, hurtL, hurt1, hz]
        have HK := Lib.hid hk
        clear hk
        go_upto_region 6 with (fail)
        go_region_with (go_at_call 62; refine (frame_Hurt.calls _ _ _ _ _ HZ.out).mono ?_; rintro e w2 ⟨rfl, hb⟩; have HN := Aside0.mk (HO.out.drew.move hb); clear hb; obtain ⟨y0, y1, y2, y3, y4, y5⟩ := line_cells HN.out.drop.drop.pt at_ (by rw [List.length_set]; exact hat); have q0 := line_frozen HN.out.drop.drop.pt (at_ * 6 + 2); have q3 := line_frozen HN.out.drop.drop.pt (at_ * 6 + 5))
        all_goals
          have h1 := line_put HN.out.pull3 hat 2 (.string (hurtB l2 a2 a3)) ⟨(hurt1 l0 a2 a3), (hurt1 l1 a2 a3), hurtB l2 a2 a3, (b0 || decide (l0.size ≠ 0)), (b1 || decide (l1.size ≠ 0)), b2⟩ (by omega) rfl
          obtain ⟨y0, y1, y2, y3, y4, y5⟩ := line_cells h1.pt at_ (by rw [List.length_set]; exact hat)
          have q3 := line_frozen h1.pt (at_ * 6 + 5)
          have H2 := Aside0.mk (line_put h1 hat 5 (.bool true) ⟨(hurt1 l0 a2 a3), (hurt1 l1 a2 a3), hurtB l2 a2 a3, (b0 || decide (l0.size ≠ 0)), (b1 || decide (l1.size ≠ 0)), true⟩ (by omega) rfl).push2
          clear h1
          go_wp2_with fail
          go_roundw
          case rel => exact ⟨3, by omega, by go_num, by rw [HK.out]; exact H2⟩
          case measure => simp [intOf]
    · have dl : decide (((3 : Nat) : Int) < 3) = false := by decide
      have HR := Aside0.mk HO.out.drop
      go_wp2_with fail
      exact bodyPost_end (v := .tuple #[]) (by simp [results, Tryd.results38, go_sem]) rfl ⟨rfl, cello_lines HR.out (List.length_set ..)⟩
end
end Go.Proofs.YtliiploidjnmnaaDoor.PF
end

section
/- Package cell, by hand: what comes of how it goes. -/
set_option linter.unusedVariables false
set_option linter.unusedSimpArgs false
namespace Go.Proofs.YtliiploidjnmnaaDoor.PF
open Go.RowKit Go.Shelf Go.Proofs.YtliiploidjnmnaaDoorW.PrintWords Go.Proofs.YtliiploidjnmnaaDoor.Mem Go.Proofs.YtliiploidjnmnaaDoor.Own Go.Proofs.YtliiploidjnmnaaDoor.Hw

abbrev SizesL (ls : List LineS) : Prop := ∀ l ∈ ls, l.p0.size ≤ 100000 ∧ l.p1.size ≤ 100000 ∧ l.p2.size ≤ 100000
abbrev boxP (g : Nat) : Obj := .cells #[.pointer (some ⟨g, 0, none⟩)] 23 (0, 0)
abbrev boxN (n : Int) : Obj := .cells #[.int .i64 n] 3 (0, 0)
abbrev hurtS (S : CellS) (at_ : Nat) (a b : Int) : CellS := { S with lines := S.lines.set at_ (hurtL (S.lines.getD at_ line0) a b) }
section
variable {w0 w : World} {L : List Asn} {g lb : Nat} {S : CellS}
set_option maxHeartbeats 4000000 in
set_option maxRecDepth 100000 in
theorem pcl_own {X : Asn} (B4 B5 B7 at_ : Nat) (a0 a1 a2 a3 : Int) (hat : at_ < S.lines.length) (hsz : SizesL S.lines) (HO : Own w0 w (X :: CellO g lb S (Pt B4 (boxP g) :: Pt B5 (boxN at_) :: Pt B7 (fltC a0 a1 a2 a3) :: L))) :
    Calls Tryd.prog 37 #[.pointer (some ⟨B4, 0, none⟩), .pointer (some ⟨B5, 0, none⟩), .pointer (some ⟨B7, 0, none⟩)] w fun e w' => e = .returned (.tuple #[]) ∧ Own w0 w' (X :: CellO g lb (hurtS S at_ a2 a3) (Pt B4 (boxP g) :: Pt B5 (boxN at_) :: Pt B7 (fltC a0 a1 a2 a3) :: L)) := by
  have HP := Aside0.mk (own_sw [_] [_, _] HO)
  have HA := Aside0.mk hat
  have HZ := Aside0.mk hsz
  have h4 := HO.drop.drop.drop
  have x4 : w.cell? ⟨B4, 0, none⟩ = some (.pointer (some ⟨g, 0, none⟩)) := (blk_cell h4.pt 0).trans rfl
  have x5 : w.cell? ⟨B5, 0, none⟩ = some (.int .i64 at_) := (blk_cell h4.drop.pt 0).trans rfl
  obtain ⟨x0, x1, x2, x3, _, _, _, _⟩ := cells4 h4.drop.drop.pt
  clear h4 HO hat hsz
  go_enter Tryd.func37, Tryd.ntmps37
  go_wp2_with fail
  refine (hurt_own at_ a0 a1 a2 a3 HA.out HZ.out HP.out).mono ?_
  rintro e w1 ⟨rfl, ho⟩
  have HR := Aside0.mk (own_sw [_, _] [_] ho)
  clear ho HP x0 x1 x2 x3 x4 x5
  go_wp2_with fail
  exact bodyPost_end (v := .tuple #[]) (by simp [results, Tryd.results37, go_sem]) rfl ⟨rfl, HR.out⟩
set_option maxHeartbeats 4000000 in
set_option maxRecDepth 100000 in
theorem gcl_own {X : Asn} (B4 B5 B7 at_ : Nat) (a0 a1 a2 a3 : Int) (hat : at_ < S.lines.length) (hsz : SizesL S.lines) (HO : Own w0 w (X :: CellO g lb S (Pt B4 (boxP g) :: Pt B5 (boxN at_) :: Pt B7 (fltC a0 a1 a2 a3) :: L))) :
    Calls Tryd.prog 45 #[.pointer (some ⟨B4, 0, none⟩), .pointer (some ⟨B5, 0, none⟩), .pointer (some ⟨B7, 0, none⟩)] w fun e w' => e = .returned (.tuple #[]) ∧ Own w0 w' (X :: CellO g lb (hurtS S at_ a2 a3) (Pt B4 (boxP g) :: Pt B5 (boxN at_) :: Pt B7 (fltC a0 a1 a2 a3) :: L)) := by
  have HP := Aside0.mk (own_sw [_] [_, _] HO)
  have HA := Aside0.mk hat
  have HZ := Aside0.mk hsz
  have h4 := HO.drop.drop.drop
  have x4 : w.cell? ⟨B4, 0, none⟩ = some (.pointer (some ⟨g, 0, none⟩)) := (blk_cell h4.pt 0).trans rfl
  have x5 : w.cell? ⟨B5, 0, none⟩ = some (.int .i64 at_) := (blk_cell h4.drop.pt 0).trans rfl
  obtain ⟨x0, x1, x2, x3, _, _, _, _⟩ := cells4 h4.drop.drop.pt
  clear h4 HO hat hsz
  go_enter Tryd.func45, Tryd.ntmps45
  go_wp2_with fail
  refine (hurt_own at_ a0 a1 a2 a3 HA.out HZ.out HP.out).mono ?_
  rintro e w1 ⟨rfl, ho⟩
  have HR := Aside0.mk (own_sw [_, _] [_] ho)
  clear ho HP x0 x1 x2 x3 x4 x5
  go_wp2_with fail
  exact bodyPost_end (v := .tuple #[]) (by simp [results, Tryd.results45, go_sem]) rfl ⟨rfl, HR.out⟩
set_option maxHeartbeats 4000000 in
set_option maxRecDepth 100000 in
theorem fcl_own {X : Asn} (B4 B5 B7 at_ : Nat) (a0 a1 a2 a3 : Int) (hat : at_ < S.lines.length) (hsz : SizesL S.lines) (HO : Own w0 w (X :: CellO g lb S (Pt B4 (boxP g) :: Pt B5 (boxN at_) :: Pt B7 (fltC a0 a1 a2 a3) :: L))) :
    Calls Tryd.prog 47 #[.pointer (some ⟨B4, 0, none⟩), .pointer (some ⟨B5, 0, none⟩), .pointer (some ⟨B7, 0, none⟩)] w fun e w' => e = .returned (.tuple #[]) ∧ Own w0 w' (X :: CellO g lb (hurtS S at_ a2 a3) (Pt B4 (boxP g) :: Pt B5 (boxN at_) :: Pt B7 (fltC a0 a1 a2 a3) :: L)) := by
  have HP := Aside0.mk (own_sw [_] [_, _] HO)
  have HA := Aside0.mk hat
  have HZ := Aside0.mk hsz
  have h4 := HO.drop.drop.drop
  have x4 : w.cell? ⟨B4, 0, none⟩ = some (.pointer (some ⟨g, 0, none⟩)) := (blk_cell h4.pt 0).trans rfl
  have x5 : w.cell? ⟨B5, 0, none⟩ = some (.int .i64 at_) := (blk_cell h4.drop.pt 0).trans rfl
  obtain ⟨x0, x1, x2, x3, _, _, _, _⟩ := cells4 h4.drop.drop.pt
  clear h4 HO hat hsz
  go_enter Tryd.func47, Tryd.ntmps47
  go_wp2_with fail
  refine (hurt_own at_ a0 a1 a2 a3 HA.out HZ.out HP.out).mono ?_
  rintro e w1 ⟨rfl, ho⟩
  have HR := Aside0.mk (own_sw [_, _] [_] ho)
  clear ho HP x0 x1 x2 x3 x4 x5
  go_wp2_with fail
  exact bodyPost_end (v := .tuple #[]) (by simp [results, Tryd.results47, go_sem]) rfl ⟨rfl, HR.out⟩
/-- What comes of how it goes: the cell behind it, by what the hurting leaves. -/
def endsS (k : Int) (S S' : CellS) : CellS := if k = 1 then { S' with torn := true } else if k = 2 then { S' with bad := true } else S
def endsC (k : Int) : Int := if k = 1 then 82 else if k = 2 then 81 else 0
set_option maxHeartbeats 4000000 in
set_option maxRecDepth 100000 in
theorem ends_own (f : Nat) (caps : Array Value) (S' : CellS) (a0 a1 a2 a3 : Int) (hf : ∀ (args : Array Value) (w : World), (callFunc f args).run Tryd.prog w = .ok (.enter f args) w)
    (HC : ∀ (X : Asn) (w : World), Own w0 w (X :: CellO g lb S L) → Calls Tryd.prog f caps w fun e w' => e = .returned (.tuple #[]) ∧ Own w0 w' (X :: CellO g lb S' L)) (HO : Own w0 w (CellO g lb S L)) :
    Calls Tryd.prog 36 #[.pointer (some ⟨g, 0, none⟩), fltV a0 a1 a2 a3, .func (.func f) #[] caps] w fun e w' => e = .returned (.int .i64 (endsC a1)) ∧ Own w0 w' (CellO g lb (endsS a1 S S') L) := by
  obtain ⟨BF, hBF⟩ : ∃ BF, BF = w.heap.size := ⟨_, rfl⟩
  have HBF := Lib.hid hBF
  have ha := HO.alloc (fltC a0 a1 a2 a3)
  rw [← hBF] at ha
  have HA := Aside0.mk ha
  have HCC := Aside0.mk HC
  obtain ⟨z0, z1, z2, z3, _, _, _, _⟩ := cells4 ha.pt
  unfold endsC endsS
  clear ha hBF HO HC
  by_cases h1 : a1 = 1
  · subst h1
    rw [if_pos rfl, if_pos rfl]
    go_enter Tryd.func36, Tryd.ntmps36
    have he := hf caps
    go_wp2_with fail
    refine (HCC.out _ _ HA.out).mono ?_
    rintro e w1 ⟨rfl, ho⟩
    have HB := Aside0.mk ho.drop
    obtain ⟨_, _, _, _, _, y5, _, _⟩ := cells8 ho.drop.pt
    have q5 := blk_frozen ho.drop.pt 5
    have HR : Aside0 (Own w0 (w1.setCell ⟨g, 5, none⟩ (.bool true)) (CellO g lb { S' with torn := true } L)) := ⟨HB.out.set (i := 5) (.bool true)⟩
    clear ho HA z0 z1 z2 z3 he
    go_wp2_with fail
    go_ret
    exact ⟨rfl, HR.out⟩
  · rw [if_neg h1, if_neg h1]
    have d1 : (a1 == 1) = false := beq_eq_false_iff_ne.2 h1
    by_cases h2 : a1 = 2
    · subst h2
      rw [if_pos rfl, if_pos rfl]
      go_enter Tryd.func36, Tryd.ntmps36
      have he := hf caps
      go_wp2_with fail
      refine (HCC.out _ _ HA.out).mono ?_
      rintro e w1 ⟨rfl, ho⟩
      have HB := Aside0.mk ho.drop
      obtain ⟨_, _, _, _, y4, _, _, _⟩ := cells8 ho.drop.pt
      have q4 := blk_frozen ho.drop.pt 4
      have HR : Aside0 (Own w0 (w1.setCell ⟨g, 4, none⟩ (.bool true)) (CellO g lb { S' with bad := true } L)) := ⟨HB.out.set (i := 4) (.bool true)⟩
      clear ho HA z0 z1 z2 z3 he
      go_wp2_with fail
      go_ret
      exact ⟨rfl, HR.out⟩
    · rw [if_neg h2, if_neg h2]
      have d2 : (a1 == 2) = false := beq_eq_false_iff_ne.2 h2
      have HR := Aside0.mk HA.out.drop
      go_enter Tryd.func36, Tryd.ntmps36
      go_wp2_with fail
      go_ret
      exact ⟨rfl, HR.out⟩
end
end Go.Proofs.YtliiploidjnmnaaDoor.PF
end

section
/- Package cell, by hand: what is read; what is told. -/
set_option linter.unusedVariables false
set_option linter.unusedSimpArgs false
namespace Go.Proofs.YtliiploidjnmnaaDoor.PF
open Go.RowKit Go.Shelf Go.Proofs.YtliiploidjnmnaaDoorW.PrintWords Go.Proofs.YtliiploidjnmnaaDoor.Mem Go.Proofs.YtliiploidjnmnaaDoor.Own Go.Proofs.YtliiploidjnmnaaDoor.Hw

def LineS.pg (l : LineS) : Nat → ByteArray
  | 0 => l.p0
  | 1 => l.p1
  | _ => l.p2
def LineS.ht (l : LineS) : Nat → Bool
  | 0 => l.h0
  | 1 => l.h1
  | _ => l.h2
/-- What may be of a cell. -/
structure Fit (S : CellS) : Prop where
  n1 : 1 ≤ S.lines.length
  n64 : S.lines.length ≤ 64
  d0 : 0 ≤ S.done
  d1 : S.done ≤ 2 * S.lines.length
  sizes : SizesL S.lines
  blank : S.blank.size ≤ 100000
/-- Is a line foggy alone? -/
def foggyB (S : CellS) (a : Nat) : Bool := decide (S.mode = 2 ∧ aft S.lines.length S.done a = 1)
def readB (S : CellS) (a part : Nat) : ByteArray :=
  if ((S.lines.getD a line0).pg part).size = 0 then S.blank else if (S.lines.getD a line0).ht part = true then (S.lines.getD a line0).pg part else if foggyB S a = true then hurtB ((S.lines.getD a line0).pg part) 0 0 else (S.lines.getD a line0).pg part
section
variable {w0 w : World} {L : List Asn} {g lb : Nat} {S : CellS}
set_option maxHeartbeats 2000000 in
set_option maxRecDepth 100000 in
theorem mode_own (HO : Own w0 w (CellO g lb S L)) : Calls Tryd.prog 27 #[.pointer (some ⟨g, 0, none⟩)] w fun e w' => e = .returned (.int .i64 S.mode) ∧ w' = w := by
  obtain ⟨_, _, x, _, _, _, _, _⟩ := cells8 HO.pt
  clear HO
  go_enter Tryd.func27, Tryd.ntmps27
  go_wp2_with fail
  go_ret
  exact ⟨rfl, rfl⟩
set_option maxHeartbeats 2000000 in
set_option maxRecDepth 100000 in
theorem done_own (HO : Own w0 w (CellO g lb S L)) : Calls Tryd.prog 28 #[.pointer (some ⟨g, 0, none⟩)] w fun e w' => e = .returned (.int .i64 S.done) ∧ w' = w := by
  obtain ⟨_, _, _, x, _, _, _, _⟩ := cells8 HO.pt
  clear HO
  go_enter Tryd.func28, Tryd.ntmps28
  go_wp2_with fail
  go_ret
  exact ⟨rfl, rfl⟩
set_option maxHeartbeats 4000000 in
set_option maxRecDepth 100000 in
theorem read_own0 (a : Nat) (hf : Fit S) (ha : a < S.lines.length) (HO : Own w0 w (CellO g lb S L)) :
    Calls Tryd.prog 52 #[.pointer (some ⟨g, 0, none⟩), .int .i64 (a : Int), .int .i64 0] w fun e w' => e = .returned (.string (readB S a 0)) ∧ Own w0 w' (CellO g lb S L) := by
  have hmem : S.lines.getD a line0 ∈ S.lines := by rw [List.getD_eq_getElem?_getD, List.getElem?_eq_getElem ha]; exact List.getElem_mem ha
  have hs2 := hf.sizes _ hmem
  have haf := after_is S.lines.length a S.done hf.n1 hf.n64 ha ⟨hf.d0, hf.d1⟩ 10 (Nat.le_refl _)
  have HAF := Aside0.mk haf
  unfold readB foggyB
  obtain ⟨x0, x1, x2, x3, _, _, _, _⟩ := cells8 HO.pt
  obtain ⟨y0, y1, y2, y3, y4, y5⟩ := line_cells HO.drop.pt a ha
  obtain ⟨⟨l0, l1, l2, b0, b1, b2⟩, hl⟩ : ∃ l, l = S.lines.getD a line0 := ⟨_, rfl⟩
  rw [← hl] at y0 y1 y2 y3 y4 y5 hs2 ⊢
  dsimp only at y0 y1 y2 y3 y4 y5 hs2
  have f1 : decide ((a : Int) < (S.lines.length : Nat)) = true := decide_eq_true (by omega)
  have f2 : (0 ≤ (a : Int)) = True := eq_true (by omega)
  have f3 : ((a : Int) < (S.lines.length : Nat)) = True := eq_true (by omega)
  have HZ := Aside0.mk (hurtB_is l0 0 0 (by omega))
  have lt1 := blk_lt HO.pt
  have lt2 := blk_lt HO.drop.pt
  obtain ⟨BL, hBL⟩ : ∃ BL, BL = w.heap.size := ⟨_, rfl⟩
  have HBL := Lib.hid hBL
  have h1 := HO.alloc (.cells #[.string l0, .string l1, .string l2, .bool b0, .bool b1, .bool b2] 74)
  rw [← hBL] at h1
  have H1 := Aside0.mk h1
  clear hBL h1 hs2 hmem haf hf ha hl
  simp only [LineS.pg, LineS.ht]
  by_cases hz : l0.size = 0
  · rw [if_pos hz]
    have he := emp_yes l0 hz
    have HR := Aside0.mk (HO.alloc' (.cells #[.string l0, .string l1, .string l2, .bool b0, .bool b1, .bool b2] 74))
    clear HO H1
    go_enter Tryd.func52, Tryd.ntmps52
    go_wp2_with fail
    go_ret
    exact ⟨rfl, HR.out⟩
  · rw [if_neg hz]
    have he := emp_no l0 hz
    cases b0 with
    | true =>
      rw [if_pos rfl]
      clear HO
      go_enter Tryd.func52, Tryd.ntmps52
      go_wp2_with fail
      rw [← HBL.out]
      go_ret
      exact ⟨rfl, H1.out.drop⟩
    | false =>
      rw [if_neg (by decide)]
      clear HO
      by_cases hm : S.mode = 2
      · have d1 : (S.mode == 2) = true := beq_iff_eq.2 hm
        by_cases hq : aft S.lines.length S.done a = 1
        · have d2 : (aft S.lines.length S.done a == 1) = true := beq_iff_eq.2 hq
          rw [if_pos (decide_eq_true ⟨hm, hq⟩)]
          clear hm hq
          go_enter Tryd.func52, Tryd.ntmps52
          go_wp2_with fail
          rw [← HBL.out]
          go_region_with (go_at_call 69; refine (order_After.calls _ _ _ _ _ _ _ HAF.out).mono ?_; rintro e w2 ⟨rfl, hb⟩; have HN := Aside0.mk (H1.out.drew.move hb); clear hb; obtain ⟨x0, x1, x2, x3, _, _, _, _⟩ := cells8 HN.out.drop.pt; have z0 : w2.cell? ⟨BL, 0, none⟩ = some (.string l0) := (blk_cell HN.out.pt 0).trans rfl)
          all_goals go_wp2_with fail
          all_goals
            refine (frame_Hurt.calls _ _ _ _ _ HZ.out).mono ?_
            rintro e w3 ⟨rfl, hb⟩
            have HR := Aside0.mk (HN.out.move hb).drop
            clear hb
            go_wp2_with fail
            go_ret
            exact ⟨rfl, HR.out⟩
        · have d2 : (aft S.lines.length S.done a == 1) = false := beq_eq_false_iff_ne.2 hq
          rw [if_neg (by simp [hq])]
          clear hm hq
          go_enter Tryd.func52, Tryd.ntmps52
          go_wp2_with fail
          rw [← HBL.out]
          go_region_with (go_at_call 69; refine (order_After.calls _ _ _ _ _ _ _ HAF.out).mono ?_; rintro e w2 ⟨rfl, hb⟩; have HN := Aside0.mk (H1.out.drew.move hb); clear hb; obtain ⟨x0, x1, x2, x3, _, _, _, _⟩ := cells8 HN.out.drop.pt; have z0 : w2.cell? ⟨BL, 0, none⟩ = some (.string l0) := (blk_cell HN.out.pt 0).trans rfl)
          all_goals go_wp2_with fail
          all_goals go_ret
          all_goals exact ⟨rfl, HN.out.drop⟩
      · have d1 : (S.mode == 2) = false := beq_eq_false_iff_ne.2 hm
        rw [if_neg (by simp [hm])]
        clear hm
        go_enter Tryd.func52, Tryd.ntmps52
        go_wp2_with fail
        rw [← HBL.out]
        go_region_with (go_at_call 69; refine (order_After.calls _ _ _ _ _ _ _ HAF.out).mono ?_; rintro e w2 ⟨rfl, hb⟩; have HN := Aside0.mk (H1.out.drew.move hb); clear hb; obtain ⟨x0, x1, x2, x3, _, _, _, _⟩ := cells8 HN.out.drop.pt; have z0 : w2.cell? ⟨BL, 0, none⟩ = some (.string l0) := (blk_cell HN.out.pt 0).trans rfl)
        all_goals go_wp2_with fail
        all_goals go_ret
        all_goals exact ⟨rfl, HN.out.drop⟩
set_option maxHeartbeats 4000000 in
set_option maxRecDepth 100000 in
theorem read_own1 (a : Nat) (hf : Fit S) (ha : a < S.lines.length) (HO : Own w0 w (CellO g lb S L)) :
    Calls Tryd.prog 52 #[.pointer (some ⟨g, 0, none⟩), .int .i64 (a : Int), .int .i64 1] w fun e w' => e = .returned (.string (readB S a 1)) ∧ Own w0 w' (CellO g lb S L) := by
  have hmem : S.lines.getD a line0 ∈ S.lines := by rw [List.getD_eq_getElem?_getD, List.getElem?_eq_getElem ha]; exact List.getElem_mem ha
  have hs2 := hf.sizes _ hmem
  have haf := after_is S.lines.length a S.done hf.n1 hf.n64 ha ⟨hf.d0, hf.d1⟩ 10 (Nat.le_refl _)
  have HAF := Aside0.mk haf
  unfold readB foggyB
  obtain ⟨x0, x1, x2, x3, _, _, _, _⟩ := cells8 HO.pt
  obtain ⟨y0, y1, y2, y3, y4, y5⟩ := line_cells HO.drop.pt a ha
  obtain ⟨⟨l0, l1, l2, b0, b1, b2⟩, hl⟩ : ∃ l, l = S.lines.getD a line0 := ⟨_, rfl⟩
  rw [← hl] at y0 y1 y2 y3 y4 y5 hs2 ⊢
  dsimp only at y0 y1 y2 y3 y4 y5 hs2
  have f1 : decide ((a : Int) < (S.lines.length : Nat)) = true := decide_eq_true (by omega)
  have f2 : (0 ≤ (a : Int)) = True := eq_true (by omega)
  have f3 : ((a : Int) < (S.lines.length : Nat)) = True := eq_true (by omega)
  have HZ := Aside0.mk (hurtB_is l1 0 0 (by omega))
  have lt1 := blk_lt HO.pt
  have lt2 := blk_lt HO.drop.pt
  obtain ⟨BL, hBL⟩ : ∃ BL, BL = w.heap.size := ⟨_, rfl⟩
  have HBL := Lib.hid hBL
  have h1 := HO.alloc (.cells #[.string l0, .string l1, .string l2, .bool b0, .bool b1, .bool b2] 74)
  rw [← hBL] at h1
  have H1 := Aside0.mk h1
  clear hBL h1 hs2 hmem haf hf ha hl
  simp only [LineS.pg, LineS.ht]
  by_cases hz : l1.size = 0
  · rw [if_pos hz]
    have he := emp_yes l1 hz
    have HR := Aside0.mk (HO.alloc' (.cells #[.string l0, .string l1, .string l2, .bool b0, .bool b1, .bool b2] 74))
    clear HO H1
    go_enter Tryd.func52, Tryd.ntmps52
    go_wp2_with fail
    go_ret
    exact ⟨rfl, HR.out⟩
  · rw [if_neg hz]
    have he := emp_no l1 hz
    cases b1 with
    | true =>
      rw [if_pos rfl]
      clear HO
      go_enter Tryd.func52, Tryd.ntmps52
      go_wp2_with fail
      rw [← HBL.out]
      go_ret
      exact ⟨rfl, H1.out.drop⟩
    | false =>
      rw [if_neg (by decide)]
      clear HO
      by_cases hm : S.mode = 2
      · have d1 : (S.mode == 2) = true := beq_iff_eq.2 hm
        by_cases hq : aft S.lines.length S.done a = 1
        · have d2 : (aft S.lines.length S.done a == 1) = true := beq_iff_eq.2 hq
          rw [if_pos (decide_eq_true ⟨hm, hq⟩)]
          clear hm hq
          go_enter Tryd.func52, Tryd.ntmps52
          go_wp2_with fail
          rw [← HBL.out]
          go_region_with (go_at_call 69; refine (order_After.calls _ _ _ _ _ _ _ HAF.out).mono ?_; rintro e w2 ⟨rfl, hb⟩; have HN := Aside0.mk (H1.out.drew.move hb); clear hb; obtain ⟨x0, x1, x2, x3, _, _, _, _⟩ := cells8 HN.out.drop.pt; have z1 : w2.cell? ⟨BL, 1, none⟩ = some (.string l1) := (blk_cell HN.out.pt 1).trans rfl)
          all_goals go_wp2_with fail
          all_goals
            refine (frame_Hurt.calls _ _ _ _ _ HZ.out).mono ?_
            rintro e w3 ⟨rfl, hb⟩
            have HR := Aside0.mk (HN.out.move hb).drop
            clear hb
            go_wp2_with fail
            go_ret
            exact ⟨rfl, HR.out⟩
        · have d2 : (aft S.lines.length S.done a == 1) = false := beq_eq_false_iff_ne.2 hq
          rw [if_neg (by simp [hq])]
          clear hm hq
          go_enter Tryd.func52, Tryd.ntmps52
          go_wp2_with fail
          rw [← HBL.out]
          go_region_with (go_at_call 69; refine (order_After.calls _ _ _ _ _ _ _ HAF.out).mono ?_; rintro e w2 ⟨rfl, hb⟩; have HN := Aside0.mk (H1.out.drew.move hb); clear hb; obtain ⟨x0, x1, x2, x3, _, _, _, _⟩ := cells8 HN.out.drop.pt; have z1 : w2.cell? ⟨BL, 1, none⟩ = some (.string l1) := (blk_cell HN.out.pt 1).trans rfl)
          all_goals go_wp2_with fail
          all_goals go_ret
          all_goals exact ⟨rfl, HN.out.drop⟩
      · have d1 : (S.mode == 2) = false := beq_eq_false_iff_ne.2 hm
        rw [if_neg (by simp [hm])]
        clear hm
        go_enter Tryd.func52, Tryd.ntmps52
        go_wp2_with fail
        rw [← HBL.out]
        go_region_with (go_at_call 69; refine (order_After.calls _ _ _ _ _ _ _ HAF.out).mono ?_; rintro e w2 ⟨rfl, hb⟩; have HN := Aside0.mk (H1.out.drew.move hb); clear hb; obtain ⟨x0, x1, x2, x3, _, _, _, _⟩ := cells8 HN.out.drop.pt; have z1 : w2.cell? ⟨BL, 1, none⟩ = some (.string l1) := (blk_cell HN.out.pt 1).trans rfl)
        all_goals go_wp2_with fail
        all_goals go_ret
        all_goals exact ⟨rfl, HN.out.drop⟩
set_option maxHeartbeats 4000000 in
set_option maxRecDepth 100000 in
theorem read_own2 (a : Nat) (hf : Fit S) (ha : a < S.lines.length) (HO : Own w0 w (CellO g lb S L)) :
    Calls Tryd.prog 52 #[.pointer (some ⟨g, 0, none⟩), .int .i64 (a : Int), .int .i64 2] w fun e w' => e = .returned (.string (readB S a 2)) ∧ Own w0 w' (CellO g lb S L) := by
  have hmem : S.lines.getD a line0 ∈ S.lines := by rw [List.getD_eq_getElem?_getD, List.getElem?_eq_getElem ha]; exact List.getElem_mem ha
  have hs2 := hf.sizes _ hmem
  have haf := after_is S.lines.length a S.done hf.n1 hf.n64 ha ⟨hf.d0, hf.d1⟩ 10 (Nat.le_refl _)
  have HAF := Aside0.mk haf
  unfold readB foggyB
  obtain ⟨x0, x1, x2, x3, _, _, _, _⟩ := cells8 HO.pt
  obtain ⟨y0, y1, y2, y3, y4, y5⟩ := line_cells HO.drop.pt a ha
  obtain ⟨⟨l0, l1, l2, b0, b1, b2⟩, hl⟩ : ∃ l, l = S.lines.getD a line0 := ⟨_, rfl⟩
  rw [← hl] at y0 y1 y2 y3 y4 y5 hs2 ⊢
  dsimp only at y0 y1 y2 y3 y4 y5 hs2
  have f1 : decide ((a : Int) < (S.lines.length : Nat)) = true := decide_eq_true (by omega)
  have f2 : (0 ≤ (a : Int)) = True := eq_true (by omega)
  have f3 : ((a : Int) < (S.lines.length : Nat)) = True := eq_true (by omega)
  have HZ := Aside0.mk (hurtB_is l2 0 0 (by omega))
  have lt1 := blk_lt HO.pt
  have lt2 := blk_lt HO.drop.pt
  obtain ⟨BL, hBL⟩ : ∃ BL, BL = w.heap.size := ⟨_, rfl⟩
  have HBL := Lib.hid hBL
  have h1 := HO.alloc (.cells #[.string l0, .string l1, .string l2, .bool b0, .bool b1, .bool b2] 74)
  rw [← hBL] at h1
  have H1 := Aside0.mk h1
  clear hBL h1 hs2 hmem haf hf ha hl
  simp only [LineS.pg, LineS.ht]
  by_cases hz : l2.size = 0
  · rw [if_pos hz]
    have he := emp_yes l2 hz
    have HR := Aside0.mk (HO.alloc' (.cells #[.string l0, .string l1, .string l2, .bool b0, .bool b1, .bool b2] 74))
    clear HO H1
    go_enter Tryd.func52, Tryd.ntmps52
    go_wp2_with fail
    go_ret
    exact ⟨rfl, HR.out⟩
  · rw [if_neg hz]
    have he := emp_no l2 hz
    cases b2 with
    | true =>
      rw [if_pos rfl]
      clear HO
      go_enter Tryd.func52, Tryd.ntmps52
      go_wp2_with fail
      rw [← HBL.out]
      go_ret
      exact ⟨rfl, H1.out.drop⟩
    | false =>
      rw [if_neg (by decide)]
      clear HO
      by_cases hm : S.mode = 2
      · have d1 : (S.mode == 2) = true := beq_iff_eq.2 hm
        by_cases hq : aft S.lines.length S.done a = 1
        · have d2 : (aft S.lines.length S.done a == 1) = true := beq_iff_eq.2 hq
          rw [if_pos (decide_eq_true ⟨hm, hq⟩)]
          clear hm hq
          go_enter Tryd.func52, Tryd.ntmps52
          go_wp2_with fail
          rw [← HBL.out]
          go_region_with (go_at_call 69; refine (order_After.calls _ _ _ _ _ _ _ HAF.out).mono ?_; rintro e w2 ⟨rfl, hb⟩; have HN := Aside0.mk (H1.out.drew.move hb); clear hb; obtain ⟨x0, x1, x2, x3, _, _, _, _⟩ := cells8 HN.out.drop.pt; have z2 : w2.cell? ⟨BL, 2, none⟩ = some (.string l2) := (blk_cell HN.out.pt 2).trans rfl)
          all_goals go_wp2_with fail
          all_goals
            refine (frame_Hurt.calls _ _ _ _ _ HZ.out).mono ?_
            rintro e w3 ⟨rfl, hb⟩
            have HR := Aside0.mk (HN.out.move hb).drop
            clear hb
            go_wp2_with fail
            go_ret
            exact ⟨rfl, HR.out⟩
        · have d2 : (aft S.lines.length S.done a == 1) = false := beq_eq_false_iff_ne.2 hq
          rw [if_neg (by simp [hq])]
          clear hm hq
          go_enter Tryd.func52, Tryd.ntmps52
          go_wp2_with fail
          rw [← HBL.out]
          go_region_with (go_at_call 69; refine (order_After.calls _ _ _ _ _ _ _ HAF.out).mono ?_; rintro e w2 ⟨rfl, hb⟩; have HN := Aside0.mk (H1.out.drew.move hb); clear hb; obtain ⟨x0, x1, x2, x3, _, _, _, _⟩ := cells8 HN.out.drop.pt; have z2 : w2.cell? ⟨BL, 2, none⟩ = some (.string l2) := (blk_cell HN.out.pt 2).trans rfl)
          all_goals go_wp2_with fail
          all_goals go_ret
          all_goals exact ⟨rfl, HN.out.drop⟩
      · have d1 : (S.mode == 2) = false := beq_eq_false_iff_ne.2 hm
        rw [if_neg (by simp [hm])]
        clear hm
        go_enter Tryd.func52, Tryd.ntmps52
        go_wp2_with fail
        rw [← HBL.out]
        go_region_with (go_at_call 69; refine (order_After.calls _ _ _ _ _ _ _ HAF.out).mono ?_; rintro e w2 ⟨rfl, hb⟩; have HN := Aside0.mk (H1.out.drew.move hb); clear hb; obtain ⟨x0, x1, x2, x3, _, _, _, _⟩ := cells8 HN.out.drop.pt; have z2 : w2.cell? ⟨BL, 2, none⟩ = some (.string l2) := (blk_cell HN.out.pt 2).trans rfl)
        all_goals go_wp2_with fail
        all_goals go_ret
        all_goals exact ⟨rfl, HN.out.drop⟩
end
end Go.Proofs.YtliiploidjnmnaaDoor.PF
end

section
/- Package cell, by hand: New. -/
set_option linter.unusedVariables false
set_option linter.unusedSimpArgs false
namespace Go.Proofs.YtliiploidjnmnaaDoor.PF
open Go.RowKit Go.Shelf Go.Proofs.YtliiploidjnmnaaDoorW.PrintWords Go.Proofs.YtliiploidjnmnaaDoor.Mem Go.Proofs.YtliiploidjnmnaaDoor.Own Go.Proofs.YtliiploidjnmnaaDoor.Hw

theorem made_lines (n : Nat) : madeCells #[.string ⟨#[]⟩, .string ⟨#[]⟩, .string ⟨#[]⟩, .bool false, .bool false, .bool false] (n * 6) = (lcells (List.replicate n line0)).toArray := by
  apply Array.ext
  · rw [size_madeCells, List.size_toArray, lcells_length, List.length_replicate]; omega
  · intro k h1 h2
    rw [size_madeCells] at h1
    have hg := lcells_get (List.replicate n line0) (k / 6) (k % 6) (by rw [List.length_replicate]; omega) (by omega)
    rw [show 6 * (k / 6) + k % 6 = k by omega] at hg
    have hd : (List.replicate n line0).getD (k / 6) line0 = line0 := by
      rw [List.getD_eq_getElem?_getD, List.getElem?_replicate]
      split <;> rfl
    rw [hd] at hg
    have h3 : k < (lcells (List.replicate n line0)).length := by rw [lcells_length, List.length_replicate]; omega
    rw [List.getElem?_eq_getElem h3] at hg
    have e1 : (lcells (List.replicate n line0)).toArray[k]'h2 = (lcells (List.replicate n line0))[k]'h3 := rfl
    rw [e1]
    have e2 : (madeCells #[.string ⟨#[]⟩, .string ⟨#[]⟩, .string ⟨#[]⟩, .bool false, .bool false, .bool false] (n * 6))[k]'(by rw [size_madeCells]; exact h1) = (#[Value.string ⟨#[]⟩, .string ⟨#[]⟩, .string ⟨#[]⟩, .bool false, .bool false, .bool false] : Array Value)[k % 6]! := by
      simp [madeCells]
    rw [e2]
    rcases (by omega : k % 6 = 0 ∨ k % 6 = 1 ∨ k % 6 = 2 ∨ k % 6 = 3 ∨ k % 6 = 4 ∨ k % 6 = 5) with h | h | h | h | h | h <;> (rw [h] at hg ⊢; exact (Option.some.inj hg).symm)
theorem make_lines (n : Nat) (hn : n ≤ 1000) (W : World) : (Instr.makeSlice 65 (.int .i64 (n : Int)) (.int .i64 (n : Int))).run Tryd.prog W = .ok (.slice (some ⟨W.heap.size, 0, none⟩) n n) (W.alloc (linesC (List.replicate n line0))) := by
  obtain ⟨i, hi, h⟩ : ∃ i, Tryd.prog.info? 74 = some i ∧ (i.zero, i.size, i.bytes) = (some (.agg #[.string ⟨#[]⟩, .string ⟨#[]⟩, .string ⟨#[]⟩, .bool false, .bool false, .bool false]), 6, 56) := by
    have h : (Tryd.prog.info? 74).map (fun i => (i.zero, i.size, i.bytes)) = some (some (.agg #[.string ⟨#[]⟩, .string ⟨#[]⟩, .string ⟨#[]⟩, .bool false, .bool false, .bool false]), 6, 56) := by kernel_rfl
    cases hx : Tryd.prog.info? 74 with
    | none => rw [hx] at h; cases h
    | some i => rw [hx] at h; exact ⟨i, rfl, Option.some.inj h⟩
  simp only [Prod.mk.injEq] at h
  obtain ⟨hz, hs, hb⟩ := h
  have := run_make (P := Tryd.prog) W 65 74 i _ Tryd.underlying65 hi hz .i64 .i64 (n : Int) (n : Int) (by omega) (by omega) (by rw [hb]; omega) (by omega)
  rw [this, hs, Int.toNat_natCast]
  show _ = Result.ok _ (W.alloc (.cells (lcells (List.replicate n line0)).toArray _ (0, 0)))
  rw [← made_lines n]
  rfl
def newS (n : Nat) (blank : ByteArray) : CellS := ⟨List.replicate n line0, blank, 0, 0, false, false, 0, 0⟩
def newOk (n b : Int) : Prop := 1 ≤ n ∧ n ≤ 64 ∧ mayB b = true
section
variable {w0 w : World} {L : List Asn} {g lb : Nat} {S : CellS}
theorem mayB_size (b : Int) (h : mayB b = true) : (ffs ((b.toNat + 24) / 8 * 9)).size ≠ 0 := by
  have hb := of_decide_eq_true h
  have e2 : (ffs ((b.toNat + 24) / 8 * 9)).size = (b.toNat + 24) / 8 * 9 := by
    unfold ffs
    show (List.replicate _ (255 : UInt8)).toArray.size = _
    simp
  rw [e2]
  omega
set_option maxHeartbeats 4000000 in
set_option maxRecDepth 100000 in
theorem new_yes (n : Nat) (b : Int) (h1 : 1 ≤ n) (h64 : n ≤ 64) (hb : mayB b = true) (HO : Own w0 w L) :
    Calls Tryd.prog 8 #[.int .i64 (n : Int), .int .i64 b] w fun e w' => ∃ g lb, e = .returned (.tuple #[.pointer (some ⟨g, 0, none⟩), .int .i64 0]) ∧ Own w0 w' (CellO g lb (newS n (ffs ((b.toNat + 24) / 8 * 9))) L) := by
  have hbl : frame_Blank.f b = some (ffs ((b.toNat + 24) / 8 * 9)) := by unfold frame_Blank.f; rw [if_pos hb]
  have HBL := Aside0.mk hbl
  have he := emp_no _ (mayB_size b hb)
  obtain ⟨bl, ebl⟩ : ∃ bl, bl = ffs ((b.toNat + 24) / 8 * 9) := ⟨_, rfl⟩
  rw [← ebl] at he HBL ⊢
  have d1 : decide ((n : Int) < 1) = false := decide_eq_false (by omega)
  have d2 : decide ((n : Int) > 64) = false := decide_eq_false (by omega)
  have d3 : decide (64 < (n : Int)) = false := decide_eq_false (by omega)
  have hmk := make_lines n (by omega)
  have HA := Aside0.mk HO
  clear ebl hbl HO hb h1 h64
  go_enter Tryd.func8, Tryd.ntmps8
  go_wp2_with fail
  refine (frame_Blank.calls _ _ _ HBL.out).mono ?_
  rintro e w1 ⟨rfl, hb⟩
  have HN := Aside0.mk (HA.out.move hb)
  clear hb
  go_wp2_with fail
  go_ret2
  refine ⟨w1.heap.size + 1, w1.heap.size, rfl, ?_⟩
  have h1 := (HN.out.alloc (linesC (List.replicate n line0))).alloc (.cells #[.slice (some ⟨w1.heap.size, 0, none⟩) n n, .string bl, .int .i64 0, .int .i64 0, .bool false, .bool false, .int .i64 0, .int .i64 0] 67)
  rw [World.size_alloc] at h1
  have e : cellC w1.heap.size (newS n bl) = .cells #[.slice (some ⟨w1.heap.size, 0, none⟩) n n, .string bl, .int .i64 0, .int .i64 0, .bool false, .bool false, .int .i64 0, .int .i64 0] 67 := by
    show Obj.cells #[.slice (some ⟨w1.heap.size, 0, none⟩) (List.replicate n line0).length (List.replicate n line0).length, _, _, _, _, _, _, _] _ _ = _
    rw [List.length_replicate]
    rfl
  show Own w0 _ (Pt _ (cellC w1.heap.size (newS n bl)) :: Pt w1.heap.size (linesC (List.replicate n line0)) :: L)
  rw [e]
  exact h1
end
end Go.Proofs.YtliiploidjnmnaaDoor.PF
end

section
/- Package cell, by hand: Program. -/
set_option linter.unusedVariables false
set_option linter.unusedSimpArgs false
namespace Go.Proofs.YtliiploidjnmnaaDoor.PF
open Go.RowKit Go.Shelf Go.Proofs.YtliiploidjnmnaaDoorW.PrintWords Go.Proofs.YtliiploidjnmnaaDoor.Mem Go.Proofs.YtliiploidjnmnaaDoor.Own Go.Proofs.YtliiploidjnmnaaDoor.Hw

theorem cell1 {w : World} {g : Nat} {a : Value} {T : TypeId} (hb : w.heap[g]? = some (.cells #[a] T (0, 0))) : w.cell? ⟨g, 0, none⟩ = some a := (blk_cell hb 0).trans rfl
theorem line_set6 {w0 w : World} {L : List Asn} {lb : Nat} {ls : List LineS} {T : TypeId} (n : Nat) (l' : LineS) (h : Own w0 w (Pt lb (.cells (lcells ls).toArray T (0, 0)) :: L)) (hn : n < ls.length) :
    Own w0 ((((((w.setCell ⟨lb, n * 6, none⟩ (.string l'.p0)).setCell ⟨lb, n * 6 + 1, none⟩ (.string l'.p1)).setCell ⟨lb, n * 6 + 2, none⟩ (.string l'.p2)).setCell ⟨lb, n * 6 + 3, none⟩ (.bool l'.h0)).setCell ⟨lb, n * 6 + 4, none⟩ (.bool l'.h1)).setCell ⟨lb, n * 6 + 5, none⟩ (.bool l'.h2)) (Pt lb (.cells (lcells (ls.set n l')).toArray T (0, 0)) :: L) := by
  obtain ⟨⟨q0, q1, q2, b0, b1, b2⟩, hq⟩ : ∃ l, l = ls.getD n line0 := ⟨_, rfl⟩
  obtain ⟨p0, p1, p2, c0, c1, c2⟩ := l'
  have h0 := line_set h n 0 (.string p0) ⟨p0, q1, q2, b0, b1, b2⟩ hn (by omega) (by rw [← hq]; rfl)
  have h1 := line_put h0 hn 1 (.string p1) ⟨p0, p1, q2, b0, b1, b2⟩ (by omega) rfl
  have h2 := line_put h1 hn 2 (.string p2) ⟨p0, p1, p2, b0, b1, b2⟩ (by omega) rfl
  have h3 := line_put h2 hn 3 (.bool c0) ⟨p0, p1, p2, c0, b1, b2⟩ (by omega) rfl
  have h4 := line_put h3 hn 4 (.bool c1) ⟨p0, p1, p2, c0, c1, b2⟩ (by omega) rfl
  exact line_put h4 hn 5 (.bool c2) ⟨p0, p1, p2, c0, c1, c2⟩ (by omega) rfl
theorem sizes_set {ls : List LineS} (h : SizesL ls) (n : Nat) (l : LineS) (hl : l.p0.size ≤ 100000 ∧ l.p1.size ≤ 100000 ∧ l.p2.size ≤ 100000) : SizesL (ls.set n l) := by
  intro x hx
  rcases List.mem_or_eq_of_mem_set hx with h1 | h1
  · exact h x h1
  · rw [h1]; exact hl
def pline (page : ByteArray) : LineS := ⟨page, ⟨#[]⟩, ⟨#[]⟩, false, false, false⟩
def progOk (S : CellS) (a : Int) (page : ByteArray) : Prop := S.bad = false ∧ S.torn = false ∧ S.mode ≠ 2 ∧ a = S.done ∧ a < S.lines.length ∧ page.size = S.blank.size
instance (S : CellS) (a : Int) (page : ByteArray) : Decidable (progOk S a page) := inferInstanceAs (Decidable (_ ∧ _))
def prog1 (S : CellS) (page : ByteArray) : CellS := { S with mode := 1, done := S.done + 1, lines := S.lines.set S.done.toNat (pline page) }
def progS (S : CellS) (a : Int) (page : ByteArray) (k fa fb : Int) : CellS := if progOk S a page then endsS k (prog1 S page) (hurtS (prog1 S page) S.done.toNat fa fb) else S
def progC (S : CellS) (a : Int) (page : ByteArray) (k : Int) : Int := if progOk S a page then endsC k else 80
section
variable {w0 w : World} {L : List Asn} {g lb : Nat} {S : CellS}
set_option maxHeartbeats 4000000 in
set_option maxRecDepth 100000 in
theorem prog_yes (a : Int) (page : ByteArray) (a0 a1 a2 a3 : Int) (hf : Fit S) (hp : page.size ≤ 100000) (hok : progOk S a page) (HO : Own w0 w (CellO g lb S L)) :
    Calls Tryd.prog 13 #[.pointer (some ⟨g, 0, none⟩), .int .i64 a, .string page, fltV a0 a1 a2 a3] w fun e w' => e = .returned (.int .i64 (progC S a page a1)) ∧ Own w0 w' (CellO g lb (progS S a page a1 a2 a3) L) := by
  unfold progC progS
  rw [if_pos hok, if_pos hok]
  obtain ⟨lines, blank, mode, done, bad, torn, slc, tlc⟩ := S
  obtain ⟨rfl, rfl, hm, rfl, hlt, hsz⟩ : bad = false ∧ torn = false ∧ mode ≠ 2 ∧ a = done ∧ a < lines.length ∧ page.size = blank.size := hok
  have n1 := hf.n1
  have n64 := hf.n64
  have dd := hf.d0
  have HSZ := Aside0.mk hf.sizes
  dsimp only at n1 n64 dd HSZ
  obtain ⟨n, rfl⟩ := Int.eq_ofNat_of_zero_le dd
  have he : prog1 ⟨lines, blank, mode, (n : Int), false, false, slc, tlc⟩ page = ⟨lines.set n (pline page), blank, 1, (n : Int) + 1, false, false, slc, tlc⟩ := by unfold prog1; rw [Int.toNat_natCast]
  dsimp only
  rw [he, Int.toNat_natCast]
  clear he
  have d1 : (mode == 2) = false := beq_eq_false_iff_ne.2 hm
  have d2 : decide ((lines.length : Int) ≤ (n : Int)) = false := decide_eq_false (by omega)
  have d2n : decide (lines.length ≤ n) = false := decide_eq_false (by omega)
  have d3n : (page.size == blank.size) = true := beq_iff_eq.2 hsz
  have d3 : ((page.size : Int) == (blank.size : Int)) = true := beq_iff_eq.2 (by omega)
  obtain ⟨B4, hB4⟩ : ∃ b, b = w.heap.size := ⟨_, rfl⟩
  have h1 := HO.alloc (boxP g)
  have h2 := h1.alloc (boxN (n : Int))
  have h3 := h2.alloc (fltC a0 a1 a2 a3)
  simp only [World.size_alloc] at h1 h2 h3
  rw [← hB4] at h1 h2 h3
  have HB4 := Lib.hid hB4
  have H3 := Aside0.mk h3
  have x4 := cell1 h3.drop.drop.pt
  have x5 := cell1 h3.drop.pt
  obtain ⟨x0, x1, x2, x3, x6, x7, _, _⟩ := cells8 h3.drop.drop.drop.pt
  have q2 := blk_frozen h3.drop.drop.drop.pt 2
  have q3 := blk_frozen h3.drop.drop.drop.pt 3
  clear hB4 h1 h2 h3 HO hf hm hsz
  go_enter Tryd.func13, Tryd.ntmps13
  go_wp2_with fail
  rw [← HB4.out]
  go_quiet ((go_at_call 35; exact Calls.quiet_of_same (takes_own page (own_sw [_, _, _] [_, _] (H3.out.drewN _)))))
  all_goals go_upto_region 5 with (fail)
  all_goals
    have h5 := ((own_sw [_, _, _] [_] (H3.out.drewN nq)).set (i := 2) (.int .i64 1)).set (i := 3) (.int .i64 ((n : Int) + 1))
    have H5 : Aside0 (Own w0 _ (Pt g (cellC lb ⟨lines, blank, 1, (n : Int) + 1, false, false, slc, tlc⟩) :: Pt (B4 + 1 + 1) (fltC a0 a1 a2 a3) :: Pt (B4 + 1) (boxN (n : Int)) :: Pt B4 (boxP g) :: Pt lb (linesC lines) :: L)) := ⟨h5⟩
    clear h5 x0 x1 x2 x3 x6 x7 x4 x5 q2 q3
    have hln : n < lines.length := by omega
    obtain ⟨x0, _, _, _, _, _, _, _⟩ := cells8 H5.out.pt
    have x4 := cell1 H5.out.drop.drop.drop.pt
    have x5 := cell1 H5.out.drop.drop.pt
    obtain ⟨y0, y1, y2, y3, y4, y5⟩ := line_cells H5.out.drop.drop.drop.drop.pt n hln
    have f0 := line_frozen H5.out.drop.drop.drop.drop.pt (n * 6)
    have f1 := line_frozen H5.out.drop.drop.drop.drop.pt (n * 6 + 1)
    have f2 := line_frozen H5.out.drop.drop.drop.drop.pt (n * 6 + 2)
    have f3 := line_frozen H5.out.drop.drop.drop.drop.pt (n * 6 + 3)
    have f4 := line_frozen H5.out.drop.drop.drop.drop.pt (n * 6 + 4)
    have f5 := line_frozen H5.out.drop.drop.drop.drop.pt (n * 6 + 5)
    have g1 : (0 ≤ (n : Int)) = True := eq_true (by omega)
    have g2 : ((n : Int) < (lines.length : Nat)) = True := eq_true (by omega)
    have g3 : (n < lines.length) = True := eq_true hln
    go_cut [67] (fun _ wx => Aside0 (Own w0 wx (CellO g lb ⟨lines.set n (pline page), blank, 1, (n : Int) + 1, false, false, slc, tlc⟩ (Pt B4 (boxP g) :: Pt (B4 + 1) (boxN (n : Int)) :: Pt (B4 + 1 + 1) (fltC a0 a1 a2 a3) :: L))))
    case first =>
      go_region
      all_goals go_wp2_with fail
      all_goals
        have h6 := (line_set6 n (pline page) (own_sw [_, _, _, _] [_] H5.out) hln).drew
        have h7 := own_sw [_, _] [_, _] (h6.pull2.pull5.pull5.pull2)
        have h8 := Aside0.mk (cello_lines (S := ⟨lines, blank, 1, (n : Int) + 1, false, false, slc, tlc⟩) h7 (List.length_set ..))
        clear h6 h7 H5 x0 x4 x5 y0 y1 y2 y3 y4 y5 f0 f1 f2 f3 f4 f5
        go_meet
        exact h8
    case rest =>
      have H8 := hcut
      clear hcut H5 x0 x4 x5 y0 y1 y2 y3 y4 y5 f0 f1 f2 f3 f4 f5
      have x4 := cell1 H8.out.drop.drop.pt
      have x5 := cell1 H8.out.drop.drop.drop.pt
      obtain ⟨z0, z1, z2, z3, _, _, _, _⟩ := cells4 H8.out.drop.drop.drop.drop.pt
      have HS8 := Aside0.mk (sizes_set HSZ.out n (pline page) ⟨hp, Nat.zero_le _, Nat.zero_le _⟩)
      have HL8 := Lib.hid (show n < (lines.set n (pline page)).length by rw [List.length_set]; exact hln)
      go_wp2_with fail
      refine (ends_own 37 _ (hurtS ⟨lines.set n (pline page), blank, 1, (n : Int) + 1, false, false, slc, tlc⟩ n a2 a3) a0 a1 a2 a3 (enters_of Tryd.func37 (by kernel_rfl) rfl) (fun X w' ho => pcl_own B4 (B4 + 1) (B4 + 1 + 1) n a0 a1 a2 a3 HL8.out HS8.out ho) H8.out).mono ?_
      rintro e w9 ⟨rfl, ho⟩
      have HR := Aside0.mk (own_sw [_, _] [_, _, _] ho).drop.drop.drop
      clear ho H8 x4 x5 z0 z1 z2 z3
      go_wp2_with fail
      go_ret
      exact ⟨rfl, HR.out⟩
set_option maxHeartbeats 4000000 in
set_option maxRecDepth 100000 in
theorem prog_no (a : Int) (page : ByteArray) (a0 a1 a2 a3 : Int) (hok : ¬ progOk S a page) (HO : Own w0 w (CellO g lb S L)) :
    Calls Tryd.prog 13 #[.pointer (some ⟨g, 0, none⟩), .int .i64 a, .string page, fltV a0 a1 a2 a3] w fun e w' => e = .returned (.int .i64 (progC S a page a1)) ∧ Own w0 w' (CellO g lb (progS S a page a1 a2 a3) L) := by
  unfold progC progS
  rw [if_neg hok, if_neg hok]
  obtain ⟨lines, blank, mode, done, bad, torn, slc, tlc⟩ := S
  unfold progOk at hok
  dsimp only at hok
  obtain ⟨B4, hB4⟩ : ∃ b, b = w.heap.size := ⟨_, rfl⟩
  have h1 := HO.alloc (boxP g)
  have h2 := h1.alloc (boxN a)
  have h3 := h2.alloc (fltC a0 a1 a2 a3)
  simp only [World.size_alloc] at h1 h2 h3
  rw [← hB4] at h1 h2 h3
  have HB4 := Lib.hid hB4
  have H3 := Aside0.mk h3
  have x4 := cell1 h3.drop.drop.pt
  have x5 := cell1 h3.drop.pt
  obtain ⟨x0, x1, x2, x3, x6, x7, _, _⟩ := cells8 h3.drop.drop.drop.pt
  clear hB4 h1 h2 h3 HO
  cases bad with
  | true =>
    clear hok
    go_enter Tryd.func13, Tryd.ntmps13
    go_wp2_with fail
    rw [← HB4.out]
    go_quiet (fail)
    all_goals go_wp2_with fail
    all_goals go_ret
    all_goals exact ⟨rfl, (H3.out.drewN _).drop.drop.drop⟩
  | false =>
  cases torn with
  | true =>
    clear hok
    go_enter Tryd.func13, Tryd.ntmps13
    go_wp2_with fail
    rw [← HB4.out]
    go_quiet (fail)
    all_goals go_wp2_with fail
    all_goals go_ret
    all_goals exact ⟨rfl, (H3.out.drewN _).drop.drop.drop⟩
  | false =>
  by_cases hm : mode = 2
  · have d1 : (mode == 2) = true := beq_iff_eq.2 hm
    clear hok hm
    go_enter Tryd.func13, Tryd.ntmps13
    go_wp2_with fail
    rw [← HB4.out]
    go_quiet (fail)
    all_goals go_wp2_with fail
    all_goals go_ret
    all_goals exact ⟨rfl, (H3.out.drewN _).drop.drop.drop⟩
  have d1 : (mode == 2) = false := beq_eq_false_iff_ne.2 hm
  by_cases hd : a = done
  · subst hd
    by_cases hl : (lines.length : Int) ≤ a
    · have d2 : decide ((lines.length : Int) ≤ a) = true := decide_eq_true hl
      clear hok hm hl
      go_enter Tryd.func13, Tryd.ntmps13
      go_wp2_with fail
      rw [← HB4.out]
      go_quiet (fail)
      all_goals go_wp2_with fail
      all_goals go_ret
      all_goals exact ⟨rfl, (H3.out.drewN _).drop.drop.drop⟩
    have d2 : decide ((lines.length : Int) ≤ a) = false := decide_eq_false hl
    have hs : page.size ≠ blank.size := fun h => hok ⟨rfl, rfl, hm, rfl, by omega, h⟩
    have d3 : ((page.size : Int) == (blank.size : Int)) = false := beq_eq_false_iff_ne.2 (by omega)
    have d3n : (page.size == blank.size) = false := beq_eq_false_iff_ne.2 hs
    clear hok hm hl hs
    go_enter Tryd.func13, Tryd.ntmps13
    go_wp2_with fail
    rw [← HB4.out]
    go_quiet ((go_at_call 35; exact Calls.quiet_of_same (takes_own page (own_sw [_, _, _] [_, _] (H3.out.drewN _)))))
    all_goals go_wp2_with fail
    all_goals go_ret
    all_goals exact ⟨rfl, (H3.out.drewN _).drop.drop.drop⟩
  · have d4 : (a == done) = false := beq_eq_false_iff_ne.2 hd
    have d5 : (a != done) = true := bne_iff_ne.2 hd
    clear hok hm hd
    go_enter Tryd.func13, Tryd.ntmps13
    go_wp2_with fail
    rw [← HB4.out]
    go_quiet (fail)
    all_goals go_wp2_with fail
    all_goals go_ret
    all_goals exact ⟨rfl, (H3.out.drewN _).drop.drop.drop⟩
end
end Go.Proofs.YtliiploidjnmnaaDoor.PF
end

section
/- Package cell, by hand: next. -/
set_option linter.unusedVariables false
set_option linter.unusedSimpArgs false
namespace Go.Proofs.YtliiploidjnmnaaDoor.PF
open Go.RowKit Go.Shelf Go.Proofs.YtliiploidjnmnaaDoorW.PrintWords Go.Proofs.YtliiploidjnmnaaDoor.Mem Go.Proofs.YtliiploidjnmnaaDoor.Own Go.Proofs.YtliiploidjnmnaaDoor.Hw

def nextOk (S : CellS) (a : Int) (fine : Bool) (p0 p1 p2 : ByteArray) : Prop := S.bad = false ∧ S.torn = false ∧ S.mode ≠ 1 ∧ S.done < 2 * S.lines.length ∧ a = (stLine S.lines.length S.done.toNat : Nat) ∧ fine = stFine S.lines.length S.done.toNat ∧ p0.size = S.blank.size ∧ p1.size = S.blank.size ∧ p2.size = S.blank.size
instance (S : CellS) (a : Int) (fine : Bool) (p0 p1 p2 : ByteArray) : Decidable (nextOk S a fine p0 p1 p2) := inferInstanceAs (Decidable (_ ∧ _))
abbrev stepC (l : Int) (f : Bool) : Obj := .cells #[.int .i64 l, .bool f] 83 (0, 0)
abbrev pagesC (p0 p1 p2 : ByteArray) : Obj := .cells #[.string p0, .string p1, .string p2] 36 (0, 0)
theorem cells2 {w : World} {g : Nat} {a b : Value} {T : TypeId} (hb : w.heap[g]? = some (.cells #[a, b] T (0, 0))) : w.cell? ⟨g, 0, none⟩ = some a ∧ w.cell? ⟨g, 1, none⟩ = some b := ⟨(blk_cell hb 0).trans rfl, (blk_cell hb 1).trans rfl⟩
theorem cells3' {w : World} {g : Nat} {a b c : Value} {T : TypeId} (hb : w.heap[g]? = some (.cells #[a, b, c] T (0, 0))) : w.cell? ⟨g, 0, none⟩ = some a ∧ w.cell? ⟨g, 1, none⟩ = some b ∧ w.cell? ⟨g, 2, none⟩ = some c := ⟨(blk_cell hb 0).trans rfl, (blk_cell hb 1).trans rfl, (blk_cell hb 2).trans rfl⟩
/-- The next step's line and pass, or why there is none. -/
def wantOf (n d : Nat) : Int × Bool × Int := if d < 2 * n then ((stLine n d : Nat), stFine n d, 0) else (0, false, 1)
theorem want_is (n d : Nat) (h1 : 1 ≤ n) (h64 : n ≤ 64) (hd : d ≤ 2 * n) : order_At.f 10 (n : Int) (d : Int) = some (wantOf n d) := by
  unfold wantOf
  by_cases h : d < 2 * n
  · rw [if_pos h, ostep_is n d h1 h64 h 10 (by omega)]
  · rw [if_neg h, ostep_no n d h1 h64 (by omega) (by omega) 10 (by omega)]
section
variable {w0 w : World} {L : List Asn} {g lb : Nat} {S : CellS}
set_option maxHeartbeats 8000000 in
set_option maxRecDepth 100000 in
theorem next_own (a : Int) (fine : Bool) (p0 p1 p2 : ByteArray) (hf : Fit S) (HO : Own w0 w (CellO g lb S L)) :
    Calls Tryd.prog 44 #[.pointer (some ⟨g, 0, none⟩), .agg #[.int .i64 a, .bool fine], .agg #[.string p0, .string p1, .string p2]] w fun e w' => e = .returned (.bool (decide (nextOk S a fine p0 p1 p2))) ∧ Own w0 w' (CellO g lb S L) := by
  obtain ⟨bb, hbb⟩ : ∃ b, b = decide (nextOk S a fine p0 p1 p2) := ⟨_, rfl⟩
  rw [← hbb]
  obtain ⟨lines, blank, mode, done, bad, torn, slc, tlc⟩ := S
  have n1 := hf.n1
  have n64 := hf.n64
  have dd := hf.d0
  have dd1 := hf.d1
  dsimp only at n1 n64 dd dd1
  obtain ⟨n, rfl⟩ := Int.eq_ofNat_of_zero_le dd
  have hw := want_is lines.length n n1 n64 (by omega)
  obtain ⟨⟨wl, wf, we⟩, hwe⟩ : ∃ x, x = wantOf lines.length n := ⟨_, rfl⟩
  rw [← hwe] at hw
  have HAT := Aside0.mk hw
  have HBB := Aside0.mk hbb
  have HWE := Aside0.mk hwe
  have h1 := HO.alloc (stepC a fine)
  have h2 := h1.alloc (pagesC p0 p1 p2)
  simp only [World.size_alloc] at h1 h2
  have H2 := Aside0.mk h2
  have hA := h2.drew.alloc (stepC 0 false)
  have hsz : (((w.alloc (stepC a fine)).alloc (pagesC p0 p1 p2)).drew).heap.size = w.heap.size + 1 + 1 := by
    show (((w.alloc (stepC a fine)).alloc (pagesC p0 p1 p2))).heap.size = _
    rw [World.size_alloc, World.size_alloc]
  rw [hsz] at hA
  obtain ⟨v0, v1, v2, v3, v6, v7, _, _⟩ := cells8 hA.drop.drop.drop.pt
  have HA := Aside0.mk hA
  obtain ⟨x0, x1, x2, x3, x6, x7, _, _⟩ := cells8 h2.drop.drop.pt
  have lt1 := blk_lt h2.drop.drop.pt
  have lt0 := blk_lt HO.pt
  have ne1 : ¬ g = w.heap.size + 1 + 1 := by omega
  have ne2 : ¬ w.heap.size + 1 + 1 = g := by omega
  clear h1 h2 hA hsz HO hf hw hwe hbb dd
  go_enter Tryd.func44, Tryd.ntmps44
  go_wp2_with fail
  go_cut [7, 8] (fun v7 v8 wx => ∃ bw, v7 = .pointer (some ⟨bw, 0, none⟩) ∧ v8 = .int .i64 we ∧ Aside0 (Own w0 wx (Pt bw (stepC wl wf) :: Pt (w.heap.size + 1) (pagesC p0 p1 p2) :: Pt w.heap.size (stepC a fine) :: CellO g lb ⟨lines, blank, mode, (n : Int), bad, torn, slc, tlc⟩ L)))
  case first =>
    go_region_held3 (fun w' => w'.cell? ⟨g, 0, none⟩ = some (.slice (some ⟨lb, 0, none⟩) lines.length lines.length) ∧ w'.cell? ⟨g, 3, none⟩ = some (.int .i64 (n : Int))) (go_keep) (first | (go_at_call 64; refine (order_At.calls _ _ _ _ _ _ _ HAT.out).mono ?_; rintro e w2 ⟨rfl, hb⟩; (first | have HN := Aside0.mk (HA.out.move hb) | have HN := Aside0.mk (H2.out.drew.move hb)); clear hb; (first | obtain ⟨c0, _, _, c3, _, _, _, _⟩ := cells8 HN.out.drop.drop.drop.pt | obtain ⟨c0, _, _, c3, _, _, _, _⟩ := cells8 HN.out.drop.drop.pt); (first | have ltg := blk_lt HN.out.drop.drop.drop.pt | have ltg := blk_lt HN.out.drop.drop.pt); (try have ne3 : ¬ g = w2.heap.size := by omega); (try have ne4 : ¬ w2.heap.size = g := by omega); (try obtain ⟨z0, z1⟩ := cells2 HN.out.pt); (try have q0 := blk_frozen HN.out.pt 0); (try have q1 := blk_frozen HN.out.pt 1)))
    all_goals go_wp2_with fail
    all_goals go_meet
    · exact ⟨_, rfl, rfl, ⟨HN.out.alloc (stepC wl wf)⟩⟩
    · exact ⟨_, rfl, rfl, ⟨HN.out.set2 (.int .i64 wl) (.bool wf)⟩⟩
  case rest =>
    obtain ⟨bw, rfl, rfl, HN⟩ := hcut
    clear H2 HA x0 x1 x2 x3 x6 x7 v0 v1 v2 v3 v6 v7 lt0 lt1 ne1 ne2
    have HR := Aside0.mk HN.out.drop.drop.drop
    have HT := Aside0.mk (own_sw [_, _, _] [_, _] HN.out)
    obtain ⟨z0, z1⟩ := cells2 HN.out.pt
    obtain ⟨y0, y1, y2⟩ := cells3' HN.out.drop.pt
    obtain ⟨u0, u1⟩ := cells2 HN.out.drop.drop.pt
    obtain ⟨x0, x1, x2, x3, x6, x7, _, _⟩ := cells8 HN.out.drop.drop.drop.pt
    clear HN HAT
    cases bad with
    | true =>
      have hno : bb = false := by rw [HBB.out]; exact decide_eq_false (fun h => by cases h.1)
      have HNO := Lib.hid hno
      clear hno
      go_wp2_with fail
      go_ret
      exact ⟨by rw [HNO.out]; rfl, HR.out⟩
    | false =>
    cases torn with
    | true =>
      have hno : bb = false := by rw [HBB.out]; exact decide_eq_false (fun h => by cases h.2.1)
      have HNO := Lib.hid hno
      clear hno
      go_wp2_with fail
      go_ret
      exact ⟨by rw [HNO.out]; rfl, HR.out⟩
    | false =>
    by_cases hm : mode = 1
    · have d1 : (mode == 1) = true := beq_iff_eq.2 hm
      have d2 : (mode != 1) = false := by rw [bne, d1]; rfl
      have hno : bb = false := by rw [HBB.out]; exact decide_eq_false (fun h => h.2.2.1 hm)
      have HNO := Lib.hid hno
      clear hno
      clear hm
      go_wp2_with fail
      go_ret
      exact ⟨by rw [HNO.out]; rfl, HR.out⟩
    have d1 : (mode == 1) = false := beq_eq_false_iff_ne.2 hm
    have d2 : (mode != 1) = true := bne_iff_ne.2 hm
    by_cases hd : n < 2 * lines.length
    · have hwo : (wl, wf, we) = (((stLine lines.length n : Nat) : Int), stFine lines.length n, 0) := by rw [HWE.out]; unfold wantOf; rw [if_pos hd]
      simp only [Prod.mk.injEq] at hwo
      obtain ⟨rfl, rfl, rfl⟩ := hwo
      by_cases ha : a = ((stLine lines.length n : Nat) : Int)
      · subst ha
        by_cases hfi : fine = stFine lines.length n
        · subst hfi
          obtain ⟨sl, hsl⟩ : ∃ x, x = ((stLine lines.length n : Nat) : Int) := ⟨_, rfl⟩
          obtain ⟨sf, hsf⟩ : ∃ x, x = stFine lines.length n := ⟨_, rfl⟩
          have HSL := Lib.hid hsl
          have HSF := Lib.hid hsf
          rw [← hsl] at z0 u0
          rw [← hsf] at z1 u1
          rw [← hsl, ← hsf]
          have e1 : (sl == sl) = true := beq_self_eq_true _
          have e2 : (sf == sf) = true := beq_self_eq_true _
          clear hsl hsf
          by_cases h0 : p0.size = blank.size
          · have t0 : ((p0.size : Int) == (blank.size : Int)) = true := beq_iff_eq.2 (by omega)
            have t0n : (p0.size == blank.size) = true := beq_iff_eq.2 h0
            by_cases h1 : p1.size = blank.size
            · have t1 : ((p1.size : Int) == (blank.size : Int)) = true := beq_iff_eq.2 (by omega)
              have t1n : (p1.size == blank.size) = true := beq_iff_eq.2 h1
              by_cases h2 : p2.size = blank.size
              · have t2 : ((p2.size : Int) == (blank.size : Int)) = true := beq_iff_eq.2 (by omega)
                have t2n : (p2.size == blank.size) = true := beq_iff_eq.2 h2
                have hno : bb = true := by rw [HBB.out]; exact decide_eq_true ⟨rfl, rfl, hm, by show (n : Int) < 2 * (lines.length : Int); omega, rfl, rfl, h0, h1, h2⟩
                have HNO := Lib.hid hno
                clear hno h0 h1 h2 hm hd
                go_wp2_with fail
                refine (takes_own p0 HT.out).mono ?_
                rintro e w' ⟨rfl, rfl⟩
                go_wp2_with fail
                refine (takes_own p1 HT.out).mono ?_
                rintro e w' ⟨rfl, rfl⟩
                go_wp2_with fail
                refine (takes_own p2 HT.out).mono ?_
                rintro e w' ⟨rfl, rfl⟩
                go_wp2_with fail
                go_ret
                exact ⟨by rw [HNO.out]; rfl, HR.out⟩
              · have t2 : ((p2.size : Int) == (blank.size : Int)) = false := beq_eq_false_iff_ne.2 (by omega)
                have t2n : (p2.size == blank.size) = false := beq_eq_false_iff_ne.2 h2
                have hno : bb = false := by rw [HBB.out]; exact decide_eq_false (fun h => h2 h.2.2.2.2.2.2.2.2)
                have HNO := Lib.hid hno
                clear hno
                clear h0 h1 h2 hm hd
                go_wp2_with fail
                refine (takes_own p0 HT.out).mono ?_
                rintro e w' ⟨rfl, rfl⟩
                go_wp2_with fail
                refine (takes_own p1 HT.out).mono ?_
                rintro e w' ⟨rfl, rfl⟩
                go_wp2_with fail
                refine (takes_own p2 HT.out).mono ?_
                rintro e w' ⟨rfl, rfl⟩
                go_wp2_with fail
                go_ret
                exact ⟨by rw [HNO.out]; rfl, HR.out⟩
            · have t1 : ((p1.size : Int) == (blank.size : Int)) = false := beq_eq_false_iff_ne.2 (by omega)
              have t1n : (p1.size == blank.size) = false := beq_eq_false_iff_ne.2 h1
              have hno : bb = false := by rw [HBB.out]; exact decide_eq_false (fun h => h1 h.2.2.2.2.2.2.2.1)
              have HNO := Lib.hid hno
              clear hno
              clear h0 h1 hm hd
              go_wp2_with fail
              refine (takes_own p0 HT.out).mono ?_
              rintro e w' ⟨rfl, rfl⟩
              go_wp2_with fail
              refine (takes_own p1 HT.out).mono ?_
              rintro e w' ⟨rfl, rfl⟩
              go_wp2_with fail
              go_ret
              exact ⟨by rw [HNO.out]; rfl, HR.out⟩
          · have t0 : ((p0.size : Int) == (blank.size : Int)) = false := beq_eq_false_iff_ne.2 (by omega)
            have t0n : (p0.size == blank.size) = false := beq_eq_false_iff_ne.2 h0
            have hno : bb = false := by rw [HBB.out]; exact decide_eq_false (fun h => h0 h.2.2.2.2.2.2.1)
            have HNO := Lib.hid hno
            clear hno
            clear h0 hm hd
            go_wp2_with fail
            refine (takes_own p0 HT.out).mono ?_
            rintro e w' ⟨rfl, rfl⟩
            go_wp2_with fail
            go_ret
            exact ⟨by rw [HNO.out]; rfl, HR.out⟩
        · have e1 : (stFine lines.length n == fine) = false := beq_eq_false_iff_ne.2 (fun h => hfi h.symm)
          have hno : bb = false := by rw [HBB.out]; exact decide_eq_false (fun h => hfi h.2.2.2.2.2.1)
          have HNO := Lib.hid hno
          clear hno
          clear hfi hm hd
          go_wp2_with fail
          go_ret
          exact ⟨by rw [HNO.out]; rfl, HR.out⟩
      · have e1 : (((stLine lines.length n : Nat) : Int) == a) = false := beq_eq_false_iff_ne.2 (fun h => ha h.symm)
        have hno : bb = false := by rw [HBB.out]; exact decide_eq_false (fun h => ha h.2.2.2.2.1)
        have HNO := Lib.hid hno
        clear hno
        clear ha hm hd
        go_wp2_with fail
        go_ret
        exact ⟨by rw [HNO.out]; rfl, HR.out⟩
    · have hwo : (wl, wf, we) = (0, false, 1) := by rw [HWE.out]; unfold wantOf; rw [if_neg hd]
      simp only [Prod.mk.injEq] at hwo
      obtain ⟨rfl, rfl, rfl⟩ := hwo
      have hno : bb = false := by rw [HBB.out]; exact decide_eq_false (fun h => hd (by have := h.2.2.2.1; have h9 : (n : Int) < 2 * (lines.length : Int) := this; omega))
      have HNO := Lib.hid hno
      clear hno
      clear hm hd
      go_wp2_with fail
      go_ret
      exact ⟨by rw [HNO.out]; rfl, HR.out⟩
end
end Go.Proofs.YtliiploidjnmnaaDoor.PF
end

section
/- Package cell, by hand: Foggy. -/
set_option linter.unusedVariables false
set_option linter.unusedSimpArgs false
namespace Go.Proofs.YtliiploidjnmnaaDoor.PF
open Go.RowKit Go.Shelf Go.Proofs.YtliiploidjnmnaaDoorW.PrintWords Go.Proofs.YtliiploidjnmnaaDoor.Mem Go.Proofs.YtliiploidjnmnaaDoor.Own Go.Proofs.YtliiploidjnmnaaDoor.Hw

theorem stLine_lt (n d : Nat) (h1 : 1 ≤ n) (hd : d < 2 * n) : stLine n d < n := by
  unfold stLine
  split
  · omega
  · split <;> omega
def fogOk (S : CellS) (a : Int) (p0 p1 p2 : ByteArray) : Prop := nextOk S a false p0 p1 p2
instance (S : CellS) (a : Int) (p0 p1 p2 : ByteArray) : Decidable (fogOk S a p0 p1 p2) := inferInstanceAs (Decidable (nextOk _ _ _ _ _ _))
def fog1 (S : CellS) (a : Int) (p0 p1 p2 : ByteArray) : CellS := { S with mode := 2, done := S.done + 1, lines := S.lines.set a.toNat ⟨p0, p1, p2, false, false, false⟩ }
def fogS (S : CellS) (a : Int) (p0 p1 p2 : ByteArray) (k fa fb : Int) : CellS := if fogOk S a p0 p1 p2 then endsS k (fog1 S a p0 p1 p2) (hurtS (fog1 S a p0 p1 p2) a.toNat fa fb) else S
def fogC (S : CellS) (a : Int) (p0 p1 p2 : ByteArray) (k : Int) : Int := if fogOk S a p0 p1 p2 then endsC k else 80
section
variable {w0 w : World} {L : List Asn} {g lb : Nat} {S : CellS}
set_option maxHeartbeats 4000000 in
set_option maxRecDepth 100000 in
theorem fog_no (a : Int) (p0 p1 p2 : ByteArray) (a0 a1 a2 a3 : Int) (hf : Fit S) (hok : ¬ fogOk S a p0 p1 p2) (HO : Own w0 w (CellO g lb S L)) :
    Calls Tryd.prog 15 #[.pointer (some ⟨g, 0, none⟩), .int .i64 a, .agg #[.string p0, .string p1, .string p2], fltV a0 a1 a2 a3] w fun e w' => e = .returned (.int .i64 (fogC S a p0 p1 p2 a1)) ∧ Own w0 w' (CellO g lb (fogS S a p0 p1 p2 a1 a2 a3) L) := by
  unfold fogC fogS
  rw [if_neg hok, if_neg hok]
  have hd : decide (nextOk S a false p0 p1 p2) = false := decide_eq_false hok
  have HD := Lib.hid hd
  obtain ⟨B4, hB4⟩ : ∃ b, b = w.heap.size := ⟨_, rfl⟩
  have h1 := HO.alloc (boxP g)
  have h2 := h1.alloc (boxN a)
  have h3 := h2.alloc (pagesC p0 p1 p2)
  have h4 := h3.alloc (fltC a0 a1 a2 a3)
  simp only [World.size_alloc] at h1 h2 h3 h4
  rw [← hB4] at h1 h2 h3 h4
  have HB4 := Lib.hid hB4
  have H4 := Aside0.mk h4
  have x4 := cell1 h4.drop.drop.drop.pt
  have x5 := cell1 h4.drop.drop.pt
  obtain ⟨y0, y1, y2⟩ := cells3' h4.drop.pt
  have HF := Aside0.mk hf
  clear hB4 h1 h2 h3 h4 HO
  clear hd hok hf
  go_enter Tryd.func15, Tryd.ntmps15
  go_wp2_with fail
  rw [← HB4.out]
  refine (next_own a false p0 p1 p2 HF.out (own_sw [_, _, _, _] [_, _] H4.out)).mono ?_
  rw [HD.out]
  rintro e w1 ⟨rfl, ho⟩
  have HN := Aside0.mk (own_sw [_, _] [_, _, _, _] ho).drop.drop.drop.drop
  clear ho H4 x4 x5 y0 y1 y2
  go_wp2_with fail
  go_ret
  exact ⟨rfl, HN.out⟩
set_option maxHeartbeats 4000000 in
set_option maxRecDepth 100000 in
theorem fog_yes (a : Int) (p0 p1 p2 : ByteArray) (a0 a1 a2 a3 : Int) (hf : Fit S) (hp : p0.size ≤ 100000 ∧ p1.size ≤ 100000 ∧ p2.size ≤ 100000) (hok : fogOk S a p0 p1 p2) (HO : Own w0 w (CellO g lb S L)) :
    Calls Tryd.prog 15 #[.pointer (some ⟨g, 0, none⟩), .int .i64 a, .agg #[.string p0, .string p1, .string p2], fltV a0 a1 a2 a3] w fun e w' => e = .returned (.int .i64 (fogC S a p0 p1 p2 a1)) ∧ Own w0 w' (CellO g lb (fogS S a p0 p1 p2 a1 a2 a3) L) := by
  unfold fogC fogS
  rw [if_pos hok, if_pos hok]
  have hd : decide (nextOk S a false p0 p1 p2) = true := decide_eq_true hok
  have HD := Lib.hid hd
  have hdd := hok.2.2.2.1
  have haa := hok.2.2.2.2.1
  obtain ⟨b1, b2, hrest⟩ := hok
  clear hrest
  have n1 := hf.n1
  have n64 := hf.n64
  have dd := hf.d0
  have hlt := stLine_lt S.lines.length S.done.toNat n1 (by omega)
  have hex : ∃ m : Nat, a = (m : Int) := ⟨_, haa⟩
  obtain ⟨m, rfl⟩ := hex
  have hln : m < S.lines.length := by omega
  have HSZ := Aside0.mk hf.sizes
  have HP := Lib.hid hp
  obtain ⟨S, hS⟩ : ∃ X, X = S := ⟨_, rfl⟩
  subst hS
  obtain ⟨lines, blank, mode, done, bad, torn, slc, tlc⟩ := S
  dsimp only at n1 n64 dd hln HSZ b1 b2
  subst b1 b2
  obtain ⟨n, rfl⟩ := Int.eq_ofNat_of_zero_le dd
  have hnn : (n : Int) < 2 * (lines.length : Int) := hdd
  have he : fog1 ⟨lines, blank, mode, (n : Int), false, false, slc, tlc⟩ (m : Int) p0 p1 p2 = ⟨lines.set m ⟨p0, p1, p2, false, false, false⟩, blank, 2, (n : Int) + 1, false, false, slc, tlc⟩ := by unfold fog1; rw [Int.toNat_natCast]
  rw [he, Int.toNat_natCast]
  clear he haa hdd hlt hp
  obtain ⟨B4, hB4⟩ : ∃ b, b = w.heap.size := ⟨_, rfl⟩
  have h1 := HO.alloc (boxP g)
  have h2 := h1.alloc (boxN (m : Int))
  have h3 := h2.alloc (pagesC p0 p1 p2)
  have h4 := h3.alloc (fltC a0 a1 a2 a3)
  simp only [World.size_alloc] at h1 h2 h3 h4
  rw [← hB4] at h1 h2 h3 h4
  have HB4 := Lib.hid hB4
  have H4 := Aside0.mk h4
  have x4 := cell1 h4.drop.drop.drop.pt
  have x5 := cell1 h4.drop.drop.pt
  obtain ⟨y0, y1, y2⟩ := cells3' h4.drop.pt
  have HF := Aside0.mk hf
  clear hB4 h1 h2 h3 h4 HO
  clear hd hf
  go_enter Tryd.func15, Tryd.ntmps15
  go_wp2_with fail
  rw [← HB4.out]
  refine (next_own _ false p0 p1 p2 HF.out (own_sw [_, _, _, _] [_, _] H4.out)).mono ?_
  rw [HD.out]
  rintro e w1 ⟨rfl, ho⟩
  have H5 := Aside0.mk ho
  clear ho H4 x4 x5 y0 y1 y2
  have x4 := cell1 H5.out.drop.drop.drop.drop.drop.pt
  have x5 := cell1 H5.out.drop.drop.drop.drop.pt
  obtain ⟨x0, _, x2, x3, _, _, _, _⟩ := cells8 H5.out.pt
  have q2 := blk_frozen H5.out.pt 2
  have q3 := blk_frozen H5.out.pt 3
  go_upto_region 5 with (fail)
  have h6 := (H5.out.set (i := 2) (.int .i64 2)).set (i := 3) (.int .i64 ((n : Int) + 1))
  have H6 : Aside0 (Own w0 _ (Pt g (cellC lb ⟨lines, blank, 2, (n : Int) + 1, false, false, slc, tlc⟩) :: Pt lb (linesC lines) :: Pt (B4 + 1 + 1 + 1) (fltC a0 a1 a2 a3) :: Pt (B4 + 1 + 1) (pagesC p0 p1 p2) :: Pt (B4 + 1) (boxN (m : Int)) :: Pt B4 (boxP g) :: L)) := ⟨h6⟩
  clear h6 H5 x0 x2 x3 x4 x5 q2 q3
  obtain ⟨x0, _, _, _, _, _, _, _⟩ := cells8 H6.out.pt
  have x4 := cell1 H6.out.drop.drop.drop.drop.drop.pt
  have x5 := cell1 H6.out.drop.drop.drop.drop.pt
  obtain ⟨u0, u1, u2⟩ := cells3' H6.out.drop.drop.drop.pt
  obtain ⟨y0, y1, y2, y3, y4, y5⟩ := line_cells H6.out.drop.pt m hln
  have f0 := line_frozen H6.out.drop.pt (m * 6)
  have f1 := line_frozen H6.out.drop.pt (m * 6 + 1)
  have f2 := line_frozen H6.out.drop.pt (m * 6 + 2)
  have f3 := line_frozen H6.out.drop.pt (m * 6 + 3)
  have f4 := line_frozen H6.out.drop.pt (m * 6 + 4)
  have f5 := line_frozen H6.out.drop.pt (m * 6 + 5)
  have g1 : (0 ≤ (m : Int)) = True := eq_true (by omega)
  have g2 : ((m : Int) < (lines.length : Nat)) = True := eq_true (by omega)
  have g3 : (m < lines.length) = True := eq_true hln
  go_cut [32] (fun _ wx => Aside0 (Own w0 wx (CellO g lb ⟨lines.set m ⟨p0, p1, p2, false, false, false⟩, blank, 2, (n : Int) + 1, false, false, slc, tlc⟩ (Pt B4 (boxP g) :: Pt (B4 + 1) (boxN (m : Int)) :: Pt (B4 + 1 + 1 + 1) (fltC a0 a1 a2 a3) :: L))))
  case first =>
    go_region
    all_goals go_wp2_with fail
    all_goals
      have h7 := (line_set6 m ⟨p0, p1, p2, false, false, false⟩ H6.out.pull2 hln).drew
      have h8 := cello_lines (S := ⟨lines, blank, 2, (n : Int) + 1, false, false, slc, tlc⟩) h7.pull2 (List.length_set ..)
      have h9 := (own_sw [_, _] [_, _, _, _] h8).pull2.drop
      have h10 := own_sw [_, _, _] [_, _] (h9.pull3.under (fun _ => Hold.swap))
      have H10 := Aside0.mk h10
      clear h7 h8 h9 h10 H6 x0 x4 x5 u0 u1 u2 y0 y1 y2 y3 y4 y5 f0 f1 f2 f3 f4 f5
      go_meet
      exact H10
  case rest =>
    have H8 := hcut
    clear hcut H6 x0 x4 x5 u0 u1 u2 y0 y1 y2 y3 y4 y5 f0 f1 f2 f3 f4 f5
    have x4 := cell1 H8.out.drop.drop.pt
    have x5 := cell1 H8.out.drop.drop.drop.pt
    obtain ⟨z0, z1, z2, z3, _, _, _, _⟩ := cells4 H8.out.drop.drop.drop.drop.pt
    have HS8 := Aside0.mk (sizes_set HSZ.out m ⟨p0, p1, p2, false, false, false⟩ HP.out)
    have HL8 := Lib.hid (show m < (lines.set m ⟨p0, p1, p2, false, false, false⟩).length by rw [List.length_set]; exact hln)
    go_wp2_with fail
    refine (ends_own 45 _ (hurtS ⟨lines.set m ⟨p0, p1, p2, false, false, false⟩, blank, 2, (n : Int) + 1, false, false, slc, tlc⟩ m a2 a3) a0 a1 a2 a3 (enters_of Tryd.func45 (by kernel_rfl) rfl) (fun X w' ho => gcl_own B4 (B4 + 1) (B4 + 1 + 1 + 1) m a0 a1 a2 a3 HL8.out HS8.out ho) H8.out).mono ?_
    rintro e w9 ⟨rfl, ho⟩
    have HR := Aside0.mk (own_sw [_, _] [_, _, _] ho).drop.drop.drop
    clear ho H8 x4 x5 z0 z1 z2 z3
    go_wp2_with fail
    go_ret
    exact ⟨rfl, HR.out⟩
end
end Go.Proofs.YtliiploidjnmnaaDoor.PF
end

section
/- Package cell, by hand: Read; is a part foggy alone? -/
set_option linter.unusedVariables false
set_option linter.unusedSimpArgs false
namespace Go.Proofs.YtliiploidjnmnaaDoor.PF
open Go.RowKit Go.Shelf Go.Proofs.YtliiploidjnmnaaDoorW.PrintWords Go.Proofs.YtliiploidjnmnaaDoor.Mem Go.Proofs.YtliiploidjnmnaaDoor.Own Go.Proofs.YtliiploidjnmnaaDoor.Hw

def readOk (S : CellS) (a p : Int) : Prop := 0 ≤ a ∧ a < S.lines.length ∧ 0 ≤ p ∧ p < 3 ∧ ¬ (S.mode = 1 ∧ p ≠ 0)
instance (S : CellS) (a p : Int) : Decidable (readOk S a p) := inferInstanceAs (Decidable (_ ∧ _))
def readV (S : CellS) (a p : Int) : ByteArray × Int := if readOk S a p then (readB S a.toNat p.toNat, 0) else (⟨#[]⟩, 80)
def fogsB (S : CellS) (a part : Nat) : Bool := foggyB S a && decide (((S.lines.getD a line0).pg part).size ≠ 0)
section
variable {w0 w : World} {L : List Asn} {g lb : Nat} {S : CellS}
set_option maxHeartbeats 4000000 in
set_option maxRecDepth 100000 in
theorem Read_own (a p : Int) (hf : Fit S) (HO : Own w0 w (CellO g lb S L)) :
    Calls Tryd.prog 23 #[.pointer (some ⟨g, 0, none⟩), .int .i64 a, .int .i64 p] w fun e w' => e = .returned (.tuple #[.string (readV S a p).1, .int .i64 (readV S a p).2]) ∧ Own w0 w' (CellO g lb S L) := by
  obtain ⟨x0, x1, x2, x3, _, _, _, _⟩ := cells8 HO.pt
  have HA := Aside0.mk HO
  have no : ¬ readOk S a p → readV S a p = (⟨#[]⟩, 80) := fun h => if_neg h
  have HF := Aside0.mk hf
  clear HO hf
  by_cases h1 : a < 0
  · rw [no (fun h => by have := h.1; omega)]
    clear no
    have d1 : decide (a < 0) = true := decide_eq_true h1
    clear h1
    go_enter Tryd.func23, Tryd.ntmps23
    go_wp2_with fail
    go_ret2
    exact ⟨rfl, HA.out⟩
  have d1 : decide (a < 0) = false := decide_eq_false h1
  by_cases h2 : (S.lines.length : Int) ≤ a
  · rw [no (fun h => by have := h.2.1; omega)]
    clear no
    have d2 : decide ((S.lines.length : Int) ≤ a) = true := decide_eq_true h2
    clear h1 h2
    go_enter Tryd.func23, Tryd.ntmps23
    go_wp2_with fail
    go_ret2
    exact ⟨rfl, HA.out⟩
  have d2 : decide ((S.lines.length : Int) ≤ a) = false := decide_eq_false h2
  by_cases h3 : p < 0
  · rw [no (fun h => by have := h.2.2.1; omega)]
    clear no
    have d3 : decide (p < 0) = true := decide_eq_true h3
    clear h1 h2 h3
    go_enter Tryd.func23, Tryd.ntmps23
    go_wp2_with fail
    go_ret2
    exact ⟨rfl, HA.out⟩
  have d3 : decide (p < 0) = false := decide_eq_false h3
  by_cases h4 : 3 ≤ p
  · rw [no (fun h => by have := h.2.2.2.1; omega)]
    clear no
    have d4 : decide (3 ≤ p) = true := decide_eq_true h4
    clear h1 h2 h3 h4
    go_enter Tryd.func23, Tryd.ntmps23
    go_wp2_with fail
    go_ret2
    exact ⟨rfl, HA.out⟩
  have d4 : decide (3 ≤ p) = false := decide_eq_false h4
  by_cases h5 : S.mode = 1 ∧ p ≠ 0
  · rw [no (fun h => h.2.2.2.2 h5)]
    clear no
    have d5 : (S.mode == 1) = true := beq_iff_eq.2 h5.1
    have d6 : (p == 0) = false := beq_eq_false_iff_ne.2 h5.2
    have d7 : (p != 0) = true := bne_iff_ne.2 h5.2
    clear h1 h2 h3 h4 h5
    go_enter Tryd.func23, Tryd.ntmps23
    go_wp2_with fail
    go_ret2
    exact ⟨rfl, HA.out⟩
  have hok : readOk S a p := ⟨by omega, by omega, by omega, by omega, h5⟩
  rw [show readV S a p = (readB S a.toNat p.toNat, 0) from if_pos hok]
  obtain ⟨n, rfl⟩ := Int.eq_ofNat_of_zero_le hok.1
  have hn : n < S.lines.length := by omega
  have HN := Lib.hid hn
  rw [Int.toNat_natCast]
  clear no hok h1 h2
  rcases (by omega : p = 0 ∨ p = 1 ∨ p = 2) with rfl | rfl | rfl
  · by_cases h6 : S.mode = 1
    · have d5 : (S.mode == 1) = true := beq_iff_eq.2 h6
      clear h6 h5 h3 h4
      go_enter Tryd.func23, Tryd.ntmps23
      go_wp2_with fail
      refine (read_own0 n HF.out HN.out HA.out).mono ?_
      rintro e w1 ⟨rfl, ho⟩
      have HR := Aside0.mk ho
      clear ho
      go_wp2_with fail
      go_ret2
      exact ⟨rfl, HR.out⟩
    · have d5 : (S.mode == 1) = false := beq_eq_false_iff_ne.2 h6
      clear h6 h5 h3 h4
      go_enter Tryd.func23, Tryd.ntmps23
      go_wp2_with fail
      refine (read_own0 n HF.out HN.out HA.out).mono ?_
      rintro e w1 ⟨rfl, ho⟩
      have HR := Aside0.mk ho
      clear ho
      go_wp2_with fail
      go_ret2
      exact ⟨rfl, HR.out⟩
  · by_cases h6 : S.mode = 1
    · exact absurd ⟨h6, by decide⟩ h5
    · have d5 : (S.mode == 1) = false := beq_eq_false_iff_ne.2 h6
      clear h6 h5 h3 h4
      go_enter Tryd.func23, Tryd.ntmps23
      go_wp2_with fail
      refine (read_own1 n HF.out HN.out HA.out).mono ?_
      rintro e w1 ⟨rfl, ho⟩
      have HR := Aside0.mk ho
      clear ho
      go_wp2_with fail
      go_ret2
      exact ⟨rfl, HR.out⟩
  · by_cases h6 : S.mode = 1
    · exact absurd ⟨h6, by decide⟩ h5
    · have d5 : (S.mode == 1) = false := beq_eq_false_iff_ne.2 h6
      clear h6 h5 h3 h4
      go_enter Tryd.func23, Tryd.ntmps23
      go_wp2_with fail
      refine (read_own2 n HF.out HN.out HA.out).mono ?_
      rintro e w1 ⟨rfl, ho⟩
      have HR := Aside0.mk ho
      clear ho
      go_wp2_with fail
      go_ret2
      exact ⟨rfl, HR.out⟩
end
end Go.Proofs.YtliiploidjnmnaaDoor.PF
end

section
/- Package cell: what spoiling leaves, in plain words; by hand: one part of a line. -/
set_option linter.unusedVariables false
set_option linter.unusedSimpArgs false
namespace Go.Proofs.YtliiploidjnmnaaDoor.PF
open Go.RowKit Go.Shelf Go.Proofs.YtliiploidjnmnaaDoorW.PrintWords Go.Proofs.YtliiploidjnmnaaDoor.Mem Go.Proofs.YtliiploidjnmnaaDoor.Own Go.Proofs.YtliiploidjnmnaaDoor.Hw

/-- A part's page behind spoiling. -/
def spP (S : CellS) (a part : Nat) (fa fb : Int) : ByteArray :=
  if (S.lines.getD a line0).ht part = false ∧ fogsB S a part = false then hurtB (readB S a part) fa fb else readB S a part
def LineS.setP (l : LineS) (p : ByteArray) : Nat → LineS
  | 0 => { l with p0 := p }
  | 1 => { l with p1 := p }
  | _ => { l with p2 := p }
/-- A line of which so many parts were spoilt. -/
def spK (S : CellS) (a : Nat) (fa fb : Int) : Nat → LineS
  | 0 => S.lines.getD a line0
  | k + 1 => (spK S a fa fb k).setP (spP S a k fa fb) k
/-- The lines behind so many lines and parts. -/
structure SpAt (S : CellS) (fa fb : Int) (a part : Nat) (ls : List LineS) : Prop where
  len : ls.length = S.lines.length
  done : ∀ i, i < a → i < S.lines.length → ls.getD i line0 = spK S i fa fb 3
  here : a < S.lines.length → ls.getD a line0 = spK S a fa fb part
  left : ∀ i, a < i → i < S.lines.length → ls.getD i line0 = S.lines.getD i line0
/-- One part further; one line further. -/
theorem getD_set_ne {α : Type} (ls : List α) (i j : Nat) (l d : α) (h : i ≠ j) : (ls.set i l).getD j d = ls.getD j d := by
  rw [List.getD_eq_getElem?_getD, List.getD_eq_getElem?_getD, List.getElem?_set, if_neg h]
end Go.Proofs.YtliiploidjnmnaaDoor.PF
end

section
/- Package cell, by hand: one part of a line is spoilt. -/
set_option linter.unusedVariables false
set_option linter.unusedSimpArgs false
namespace Go.Proofs.YtliiploidjnmnaaDoor.PF
open Go.RowKit Go.Shelf Go.Proofs.YtliiploidjnmnaaDoorW.PrintWords Go.Proofs.YtliiploidjnmnaaDoor.Mem Go.Proofs.YtliiploidjnmnaaDoor.Own Go.Proofs.YtliiploidjnmnaaDoor.Hw

def allHurt (l : LineS) : LineS := { l with h0 := true, h1 := true, h2 := true }
/-- What spoiling leaves. -/
def spoilLines (S : CellS) (fa fb : Int) : List LineS := (List.range S.lines.length).map fun i => allHurt (spK S i fa fb 3)
def spoiled (S : CellS) (fa fb : Int) : CellS := { S with lines := spoilLines S fa fb, mode := if S.mode = 0 then 1 else S.mode }
/-- Of so many lines all parts are marked. -/
structure MkAt (S : CellS) (fa fb : Int) (a : Nat) (ls : List LineS) : Prop where
  len : ls.length = S.lines.length
  done : ∀ i, i < a → i < S.lines.length → ls.getD i line0 = allHurt (spK S i fa fb 3)
  left : ∀ i, a ≤ i → i < S.lines.length → ls.getD i line0 = spK S i fa fb 3
def spoilS (S : CellS) (ls : List LineS) : CellS := { S with lines := ls }
section
variable {w0 w : World} {L : List Asn} {g lb : Nat} {S : CellS}
end
end Go.Proofs.YtliiploidjnmnaaDoor.PF
end

section
/- Package cell, by hand: Fine. -/
set_option linter.unusedVariables false
set_option linter.unusedSimpArgs false
namespace Go.Proofs.YtliiploidjnmnaaDoor.PF
open Go.RowKit Go.Shelf Go.Proofs.YtliiploidjnmnaaDoor.Tf Go.Proofs.YtliiploidjnmnaaDoorW.PrintWords Go.Proofs.YtliiploidjnmnaaDoorW.PrintLast Go.Proofs.YtliiploidjnmnaaDoor.Mem Go.Proofs.YtliiploidjnmnaaDoor.Own Go.Proofs.YtliiploidjnmnaaDoor.Hw

def fineOk (S : CellS) (a : Int) (p0 p1 p2 : ByteArray) : Prop := nextOk S a true p0 p1 p2 ∧ (S.lines.getD a.toNat line0).p0 = p0 ∧ (S.lines.getD a.toNat line0).p1 = p1 ∧ (S.lines.getD a.toNat line0).p2 = p2
instance (S : CellS) (a : Int) (p0 p1 p2 : ByteArray) : Decidable (fineOk S a p0 p1 p2) := inferInstanceAs (Decidable (_ ∧ _))
def fine1 (S : CellS) : CellS := { S with done := S.done + 1 }
def fineS (S : CellS) (a : Int) (p0 p1 p2 : ByteArray) (k fa fb : Int) : CellS := if fineOk S a p0 p1 p2 then endsS k (fine1 S) (hurtS (fine1 S) a.toNat fa fb) else S
def fineC (S : CellS) (a : Int) (p0 p1 p2 : ByteArray) (k : Int) : Int := if fineOk S a p0 p1 p2 then endsC k else 80
/-- Two rows of three strings. -/
theorem eq36 (a b c x y z : ByteArray) (w : World) : (Op.equalIn 10000 36 (.agg #[.string a, .string b, .string c]) (.agg #[.string x, .string y, .string z])).run Tryd.prog w = .ok ((a.toList == x.toList) && ((b.toList == y.toList) && (c.toList == z.toList))) w := by
  have u := Tryd.underlying9
  have ag := Tryd.isAgg9
  have zz := Tryd.sizeOf9
  rw [show (10000 : Nat) = 9999 + 1 from rfl, Op.equalIn]
  simp only [Sem.run_bind, run_underlying Tryd.underlying36, Result.andThen_ok]
  simp only [Std.Legacy.Range.forIn_eq_forIn_range', Std.Legacy.Range.size, Nat.sub_zero, Nat.add_sub_cancel, Nat.div_one, List.range'_succ, List.range'_zero, List.forIn_cons, List.forIn_nil]
  go_simp
  by_cases h1 : a.toList = x.toList <;> by_cases h2 : b.toList = y.toList <;> by_cases h3 : c.toList = z.toList <;> simp [h1, h2, h3]
def fine.T1 : Bool × List (List Nat × List Nat) := (true, [([], []), ([], []), ([1], [1]), ([], []), ([0, 2, 3], [0, 2, 3]), ([4], [4]), ([5, 4], [5]), ([6], [6]), ([7, 6], [6, 7]), ([8, 6], [6, 8]), ([9, 6], [6, 9]), ([6], [6]), ([10, 11, 6], [6, 10, 11]), ([12, 6], [6, 12]), ([13, 6], [6, 13]), ([6], [6]), ([14, 15, 6], [6, 14, 15]), ([6, 16], [6, 16])])
def fine.B1 : List Nat := [0, 0, 2, 0, 15, 31, 63, 127, 255, 511, 1023, 127, 4095, 8191, 16383, 127, 65535, 131071]
theorem fine.tab1 : rtab .any (opsOf Tryd.f17 1) = fine.T1 := by kernel_rfl
theorem fine.bits1 : waitsOk fine.T1.2 fine.B1 = true := by kernel_rfl
section
variable {w0 w : World} {L : List Asn} {g lb : Nat} {S : CellS}
set_option maxHeartbeats 4000000 in
set_option maxRecDepth 100000 in
theorem fine_yes (a : Int) (p0 p1 p2 : ByteArray) (a0 a1 a2 a3 : Int) (hf : Fit S) (hfo : fineOk S a p0 p1 p2) (HO : Own w0 w (CellO g lb S L)) :
    Calls Tryd.prog 17 #[.pointer (some ⟨g, 0, none⟩), .int .i64 a, .agg #[.string p0, .string p1, .string p2], fltV a0 a1 a2 a3] w fun e w' => e = .returned (.int .i64 (fineC S a p0 p1 p2 a1)) ∧ Own w0 w' (CellO g lb (fineS S a p0 p1 p2 a1 a2 a3) L) := by
  unfold fineC fineS
  rw [if_pos hfo, if_pos hfo]
  obtain ⟨hok, e0, e1, e2⟩ := hfo
  have hd : decide (nextOk S a true p0 p1 p2) = true := decide_eq_true hok
  have hdd := hok.2.2.2.1
  have haa := hok.2.2.2.2.1
  have b1 := hok.1
  have b2 := hok.2.1
  have n1 := hf.n1
  have dd := hf.d0
  have hlt := stLine_lt S.lines.length S.done.toNat n1 (by omega)
  have hex : ∃ m : Nat, a = (m : Int) := ⟨_, haa⟩
  obtain ⟨m, rfl⟩ := hex
  have hln : m < S.lines.length := by omega
  have HLN := Lib.hid hln
  have hl : ∃ l, l = S.lines.getD m line0 := ⟨_, rfl⟩
  obtain ⟨⟨l0, l1, l2, c0, c1, c2⟩, hl⟩ := hl
  have HLL := Lib.hid hl
  rw [Int.toNat_natCast, ← hl] at e0 e1 e2
  rw [Int.toNat_natCast]
  dsimp only at e0 e1 e2
  subst e0 e1 e2
  have HSZ := Aside0.mk hf.sizes
  obtain ⟨B4, hB4⟩ : ∃ b, b = w.heap.size := ⟨_, rfl⟩
  have h1 := HO.alloc (boxP g)
  have h2 := h1.alloc (boxN (m : Int))
  have h3 := h2.alloc (pagesC l0 l1 l2)
  have h4 := h3.alloc (fltC a0 a1 a2 a3)
  simp only [World.size_alloc] at h1 h2 h3 h4
  rw [← hB4] at h1 h2 h3 h4
  have HB4 := Lib.hid hB4
  have H4 := Aside0.mk h4
  have x4 := cell1 h4.drop.drop.drop.pt
  have x5 := cell1 h4.drop.drop.pt
  obtain ⟨y0, y1, y2⟩ := cells3' h4.drop.pt
  clear hB4 h1 h2 h3 h4 HO
  obtain ⟨v0, _, _, _, _, _, _, _⟩ := cells8 H4.out.drop.drop.drop.drop.pt
  have vl := line_cells H4.out.drop.drop.drop.drop.drop.pt m HLN.out
  rw [← HLL.out] at vl
  obtain ⟨v1, v2, v3, _, _, _⟩ := vl
  have HNX : Aside0 (∀ (W : World), Own w0 W (CellO g lb S (Pt (B4 + 1 + 1 + 1) (fltC a0 a1 a2 a3) :: Pt (B4 + 1 + 1) (pagesC l0 l1 l2) :: Pt (B4 + 1) (boxN (m : Int)) :: Pt B4 (boxP g) :: L)) → Calls Tryd.prog 44 #[.pointer (some ⟨g, 0, none⟩), .agg #[.int .i64 (m : Int), .bool true], .agg #[.string l0, .string l1, .string l2]] W fun e w' => e = .returned (.bool true) ∧ Own w0 w' (CellO g lb S (Pt (B4 + 1 + 1 + 1) (fltC a0 a1 a2 a3) :: Pt (B4 + 1 + 1) (pagesC l0 l1 l2) :: Pt (B4 + 1) (boxN (m : Int)) :: Pt B4 (boxP g) :: L))) := ⟨fun W ho => by
    have := next_own (m : Int) true l0 l1 l2 hf ho
    rw [hd] at this
    exact this⟩
  have he := fun w => eq36 l0 l1 l2 l0 l1 l2 w
  have g1 : (0 ≤ (m : Int)) = True := eq_true (by omega)
  have g2 : ((m : Int) < (S.lines.length : Nat)) = True := eq_true (by omega)
  have g3 : (m < S.lines.length) = True := eq_true hln
  have k0 : (l0.toList == l0.toList) = true := beq_self_eq_true _
  have k1 : (l1.toList == l1.toList) = true := beq_self_eq_true _
  have k2 : (l2.toList == l2.toList) = true := beq_self_eq_true _
  have hbd : S.done ≤ 128 := by have := hf.n64; omega
  have HBD := Lib.hid hbd
  have hw : wrap64 (S.done + 1) = S.done + 1 := by unfold wrap64; omega
  have HW := Lib.hid hw
  obtain ⟨dn, hdn⟩ : ∃ x, x = S.done := ⟨_, rfl⟩
  clear hd hok hf hl haa hdd b1 b2 hlt n1 dd hw hbd
  go_enter Tryd.func17, Tryd.ntmps17
  go_wp2_with fail
  rw [← HB4.out]
  refine start_ (n := 18) (S := fun w' => w'.cell? ⟨B4, 0, none⟩ = some (.pointer (some ⟨g, 0, none⟩)) ∧ w'.cell? ⟨B4 + 1, 0, none⟩ = some (.int .i64 (m : Int)) ∧ w'.cell? ⟨B4 + 1 + 1, 0, none⟩ = some (.string l0) ∧ w'.cell? ⟨B4 + 1 + 1, 1, none⟩ = some (.string l1) ∧ w'.cell? ⟨B4 + 1 + 1, 2, none⟩ = some (.string l2) ∧ w'.cell? ⟨g, 0, none⟩ = some (.slice (some ⟨lb, 0, none⟩) S.lines.length S.lines.length) ∧ w'.cell? ⟨lb, m * 6, none⟩ = some (.string l0) ∧ w'.cell? ⟨lb, m * 6 + 1, none⟩ = some (.string l1) ∧ w'.cell? ⟨lb, m * 6 + 2, none⟩ = some (.string l2)) (ds := []) (tfA 0 18) (by kernel_rfl) rfl rfl ⟨(blk_cell H4.out.drew.drop.drop.drop.pt 0).trans rfl, (blk_cell H4.out.drew.drop.drop.pt 0).trans rfl, (blk_cell H4.out.drew.drop.pt 0).trans rfl, (blk_cell H4.out.drew.drop.pt 1).trans rfl, (blk_cell H4.out.drew.drop.pt 2).trans rfl, (blk_cell H4.out.drew.drop.drop.drop.drop.pt 0).trans rfl, v1, v2, v3⟩ (fun hHeld => ?_)
  refine with_tabW fine.tab1 fine.bits1 (fun HT_ HW_ => ?_)
  refine take_ (i := 0) (N := some 9) (v := ?_) (a' := ?_) (tfA 1 18) rfl rfl (take_ofW HT_.out HW_.out (by kernel_rfl)) (fun _ _ _ h => h) (Or.inl ⟨by rfl, ?_⟩) hHeld ?_ ?_
  rotate_left
  · rintro w' ⟨s0, s1, s2, s3, s4, s5, s6, s7, s8⟩
    go_simp
    with_reducible rfl
  rotate_left
  · simp only [Act.put, List.setIfInBounds_toArray, List.set_cons_zero, List.set_cons_succ, i64_w, i32_w]
    rfl
  refine take_ (i := 1) (N := some 10) (v := ?_) (a' := ?_) (tfA 2 18) rfl rfl (take_ofW HT_.out HW_.out (by kernel_rfl)) (fun _ _ _ h => h) (Or.inl ⟨by rfl, ?_⟩) hHeld ?_ ?_
  rotate_left
  · rintro w' ⟨s0, s1, s2, s3, s4, s5, s6, s7, s8⟩
    go_simp
    with_reducible rfl
  rotate_left
  · simp only [Act.put, List.setIfInBounds_toArray, List.set_cons_zero, List.set_cons_succ, i64_w, i32_w]
    rfl
  refine pure_ (i := 2) (N := some 11) (v := ?_) (a' := ?_) (tfA 3 18) rfl rfl (any_of HT_.out (by kernel_rfl)) (fun _ _ _ h => h) (Or.inl ⟨by rfl, ?_⟩) ?_ ?_
  rotate_left
  · intro w'
    go_simp
    with_reducible rfl
  rotate_left
  · simp only [Act.put, List.setIfInBounds_toArray, List.set_cons_zero, List.set_cons_succ, i64_w, i32_w]
    rfl
  refine take_ (i := 3) (N := some 12) (v := ?_) (a' := ?_) (tfA 4 18) rfl rfl (take_ofW HT_.out HW_.out (by kernel_rfl)) (fun _ _ _ h => h) (Or.inl ⟨by rfl, ?_⟩) hHeld ?_ ?_
  rotate_left
  · rintro w' ⟨s0, s1, s2, s3, s4, s5, s6, s7, s8⟩
    go_simp
    with_reducible rfl
  rotate_left
  · simp only [Act.put, List.setIfInBounds_toArray, List.set_cons_zero, List.set_cons_succ, i64_w, i32_w]
    rfl
  refine one_ (i := 4) (N := some 13) (tfA 5 18) rfl rfl (one_of HT_.out (by kernel_rfl)) (by decide) (fun K hK => ?_)
  refine goes_ Tryd.func44 (by kernel_rfl) rfl #[.pointer (some ⟨g, 0, none⟩), .agg #[.int .i64 (m : Int), .bool true], .agg #[.string l0, .string l1, .string l2]] (by rfl) rfl rfl (by simp only [List.map_toArray, List.map_cons, List.map_nil]; rfl) ?_
  refine (HNX.out _ (own_sw [_, _, _, _] [_, _] H4.out.drew)).mono ?_
  rintro e w1 ⟨rfl, ho⟩
  have HN := Aside0.mk ho
  clear ho
  refine ⟨_, rfl, ?_⟩
  have ll := line_cells HN.out.drop.pt m HLN.out
  rw [← HLL.out] at ll
  obtain ⟨u0, u1, u2, _, _, _⟩ := ll
  refine hK.out _ _ ⟨(blk_cell HN.out.drop.drop.drop.drop.drop.pt 0).trans rfl, (blk_cell HN.out.drop.drop.drop.drop.pt 0).trans rfl, (blk_cell HN.out.drop.drop.drop.pt 0).trans rfl, (blk_cell HN.out.drop.drop.drop.pt 1).trans rfl, (blk_cell HN.out.drop.drop.drop.pt 2).trans rfl, (blk_cell HN.out.pt 0).trans rfl, u0, u1, u2⟩ (fun hHeld => ?_)
  clear hK K
  refine norm_ (a' := ?_) ?_ ?_
  rotate_left
  · show Act.put _ (some 13) _ = _
    simp only [Act.put, List.setIfInBounds_toArray, List.set_cons_zero, List.set_cons_succ, i64_w, i32_w]
    rfl
  refine pure_ (i := 5) (N := some 14) (v := ?_) (a' := ?_) (tfA 6 18) rfl rfl (any_of HT_.out (by kernel_rfl)) (fun _ _ _ h => h) (Or.inl ⟨by rfl, ?_⟩) ?_ ?_
  rotate_left
  · intro w'
    go_simp
    with_reducible rfl
  rotate_left
  · simp only [Act.put, List.setIfInBounds_toArray, List.set_cons_zero, List.set_cons_succ, i64_w, i32_w]
    rfl
  refine pure_ (i := 6) (N := some 15) (v := ?_) (a' := ?_) (tfA 7 18) rfl rfl (any_of HT_.out (by kernel_rfl)) (fun _ _ _ h => h) (Or.inl ⟨by rfl, ?_⟩) ?_ ?_
  rotate_left
  · intro w'
    go_simp
    with_reducible rfl
  rotate_left
  · simp only [Act.put, List.setIfInBounds_toArray, List.set_cons_zero, List.set_cons_succ, i64_w, i32_w]
    rfl
  refine take_ (i := 7) (N := some 16) (v := ?_) (a' := ?_) (tfA 8 18) rfl rfl (take_ofW HT_.out HW_.out (by kernel_rfl)) (fun _ _ _ h => h) (Or.inl ⟨by rfl, ?_⟩) hHeld ?_ ?_
  rotate_left
  · rintro w' ⟨s0, s1, s2, s3, s4, s5, s6, s7, s8⟩
    go_simp
    with_reducible rfl
  rotate_left
  · simp only [Act.put, List.setIfInBounds_toArray, List.set_cons_zero, List.set_cons_succ, i64_w, i32_w]
    rfl
  refine pure_ (i := 8) (N := some 17) (v := ?_) (a' := ?_) (tfA 9 18) rfl rfl (any_of HT_.out (by kernel_rfl)) (fun _ _ _ h => h) (Or.inl ⟨by rfl, ?_⟩) ?_ ?_
  rotate_left
  · intro w'
    go_simp
    with_reducible rfl
  rotate_left
  · simp only [Act.put, List.setIfInBounds_toArray, List.set_cons_zero, List.set_cons_succ, i64_w, i32_w]
    rfl
  refine pure_ (i := 9) (N := some 18) (v := ?_) (a' := ?_) (tfA 10 18) rfl rfl (any_of HT_.out (by kernel_rfl)) (fun _ _ _ h => h) (Or.inl ⟨by rfl, ?_⟩) ?_ ?_
  rotate_left
  · intro w'
    go_simp
    with_reducible rfl
  rotate_left
  · simp only [Act.put, List.setIfInBounds_toArray, List.set_cons_zero, List.set_cons_succ, i64_w, i32_w]
    rfl
  refine take_ (i := 10) (N := some 19) (v := ?_) (a' := ?_) (tfA 11 18) rfl rfl (take_ofW HT_.out HW_.out (by kernel_rfl)) (fun _ _ _ h => h) (Or.inl ⟨by rfl, ?_⟩) hHeld ?_ ?_
  rotate_left
  · rintro w' ⟨s0, s1, s2, s3, s4, s5, s6, s7, s8⟩
    go_simp
    with_reducible rfl
  rotate_left
  · simp only [Act.put, List.setIfInBounds_toArray, List.set_cons_zero, List.set_cons_succ, i64_w, i32_w]
    rfl
  refine take_ (i := 11) (N := some 20) (v := ?_) (a' := ?_) (tfA 12 18) rfl rfl (take_ofW HT_.out HW_.out (by kernel_rfl)) (fun _ _ _ h => h) (Or.inl ⟨by rfl, ?_⟩) hHeld ?_ ?_
  rotate_left
  · rintro w' ⟨s0, s1, s2, s3, s4, s5, s6, s7, s8⟩
    go_simp
    with_reducible rfl
  rotate_left
  · simp only [Act.put, List.setIfInBounds_toArray, List.set_cons_zero, List.set_cons_succ, i64_w, i32_w]
    rfl
  refine pure_ (i := 12) (N := some 21) (v := ?_) (a' := ?_) (tfA 13 18) rfl rfl (any_of HT_.out (by kernel_rfl)) (fun _ _ _ h => h) (Or.inl ⟨by rfl, ?_⟩) ?_ ?_
  rotate_left
  · intro w'
    go_simp
    with_reducible rfl
  rotate_left
  · simp only [Act.put, List.setIfInBounds_toArray, List.set_cons_zero, List.set_cons_succ, i64_w, i32_w]
    rfl
  refine pure_ (i := 13) (N := some 22) (v := ?_) (a' := ?_) (tfA 14 18) rfl rfl (any_of HT_.out (by kernel_rfl)) (fun _ _ _ h => h) (Or.inl ⟨by rfl, ?_⟩) ?_ ?_
  rotate_left
  · intro w'
    go_simp
    with_reducible rfl
  rotate_left
  · simp only [Act.put, List.setIfInBounds_toArray, List.set_cons_zero, List.set_cons_succ, i64_w, i32_w]
    rfl
  refine take_ (i := 14) (N := some 23) (v := ?_) (a' := ?_) (tfA 15 18) rfl rfl (take_ofW HT_.out HW_.out (by kernel_rfl)) (fun _ _ _ h => h) (Or.inl ⟨by rfl, ?_⟩) hHeld ?_ ?_
  rotate_left
  · rintro w' ⟨s0, s1, s2, s3, s4, s5, s6, s7, s8⟩
    go_simp
    with_reducible rfl
  rotate_left
  · simp only [Act.put, List.setIfInBounds_toArray, List.set_cons_zero, List.set_cons_succ, i64_w, i32_w]
    rfl
  refine take_ (i := 15) (N := some 24) (v := ?_) (a' := ?_) (tfA 16 18) rfl rfl (take_ofW HT_.out HW_.out (by kernel_rfl)) (fun _ _ _ h => h) (Or.inl ⟨by rfl, ?_⟩) hHeld ?_ ?_
  rotate_left
  · rintro w' ⟨s0, s1, s2, s3, s4, s5, s6, s7, s8⟩
    go_simp
    with_reducible rfl
  rotate_left
  · simp only [Act.put, List.setIfInBounds_toArray, List.set_cons_zero, List.set_cons_succ, i64_w, i32_w]
    rfl
  refine pure_ (i := 16) (N := some 25) (v := ?_) (a' := ?_) (tfA 17 18) rfl rfl (any_of HT_.out (by kernel_rfl)) (fun _ _ _ h => h) (Or.inl ⟨by rfl, ?_⟩) ?_ ?_
  rotate_left
  · intro w'
    go_simp
    with_reducible rfl
  rotate_left
  · simp only [Act.put, List.setIfInBounds_toArray, List.set_cons_zero, List.set_cons_succ, i64_w, i32_w]
    rfl
  refine pure_ (i := 17) (N := some 26) (v := ?_) (a' := ?_) (tfA 18 18) rfl rfl (any_of HT_.out (by kernel_rfl)) (fun _ _ _ h => h) (Or.inl ⟨by rfl, ?_⟩) ?_ ?_
  rotate_left
  · intro w'
    go_simp
    with_reducible rfl
  rotate_left
  · simp only [Act.put, List.setIfInBounds_toArray, List.set_cons_zero, List.set_cons_succ, i64_w, i32_w]
    rfl
  refine done_ (done_of HT_.out (by kernel_rfl)) ?_
  clear hHeld y0 y1 y2 x4 x5 v0 v1 v2 v3 u0 u1 u2
  have x4 := cell1 HN.out.drop.drop.drop.drop.drop.pt
  have x5 := cell1 HN.out.drop.drop.drop.drop.pt
  obtain ⟨z0, z1, z2, z3, _, _, _, _⟩ := cells4 HN.out.drop.drop.pt
  obtain ⟨_, _, _, x3, _, _, _, _⟩ := cells8 HN.out.pt
  have q3 := blk_frozen HN.out.pt 3
  go_upto_region 4 with (fail)
  rw [HW.out]
  have h6 := HN.out.set (i := 3) (.int .i64 (S.done + 1))
  have h7 : Own w0 _ (CellO g lb (fine1 S) (Pt (B4 + 1 + 1 + 1) (fltC a0 a1 a2 a3) :: Pt (B4 + 1 + 1) (pagesC l0 l1 l2) :: Pt (B4 + 1) (boxN (m : Int)) :: Pt B4 (boxP g) :: L)) := h6
  have h8 := own_sw [_] [_] (own_sw [_, _] [_, _] (own_sw [_, _] [_, _, _, _] h7))
  have H8 := Aside0.mk (own_sw [_, _, _, _] [_, _] h8)
  clear h6 h7 h8 HN x4 x5 z0 z1 z2 z3 x3 q3
  have x4 := cell1 H8.out.drop.drop.pt
  have x5 := cell1 H8.out.drop.drop.drop.pt
  obtain ⟨z0, z1, z2, z3, _, _, _, _⟩ := cells4 H8.out.drop.drop.drop.drop.pt
  have HL8 := Lib.hid (show m < (fine1 S).lines.length from hln)
  go_wp2_with fail
  refine (ends_own 47 _ (hurtS (fine1 S) m a2 a3) a0 a1 a2 a3 (enters_of Tryd.func47 (by kernel_rfl) rfl) (fun X w' ho => fcl_own B4 (B4 + 1) (B4 + 1 + 1 + 1) m a0 a1 a2 a3 HL8.out HSZ.out ho) H8.out).mono ?_
  rintro e w9 ⟨rfl, ho⟩
  have HR := Aside0.mk (own_sw [_, _] [_, _, _, _] ho).drop.drop.drop.drop
  clear ho H8 x4 x5 z0 z1 z2 z3
  go_wp2_with fail
  go_ret
  exact ⟨rfl, HR.out⟩
end
end Go.Proofs.YtliiploidjnmnaaDoor.PF
end
