/- The law's proof: words, contracts of the functions that it reaches, plain lemmas. -/
import Derived.ArgAppend
import Derived.Below
import Derived.BigQuiet
import Derived.Carry
import Derived.Deep.AppendLies
import Derived.Deep.CutBlock
import Derived.Deep.DeepCutAuto
import Derived.Deep.Draws
import Derived.Deep.LoopGhost
import Derived.Deep.OwnRows
import Derived.Deep.QuietTactic
import Derived.Deep.RegionHeld3
import Derived.Deep.RegionWith
import Derived.KernelRfl
import Derived.Laws.BitsLemmas
import Derived.Laws.BytesArg
import Derived.Laws.IdiomCopy
import Derived.Laws.MakeOwn
import Derived.Laws.OwnMore
import Derived.Laws.Rows
import Derived.Laws.Slices
import Derived.Lib.AppendStr
import Derived.Lib.BufferMore
import Derived.Lib.ConvBytes
import Derived.Lib.Hide
import Derived.Lib.LazyBuf
import Derived.Maps.AppendAt
import Derived.OpenShut
import Derived.OrdersHeld
import Derived.Outline
import Derived.OwnWalk
import Derived.OwnWalkIn
import Derived.RegionTactic
import Derived.RowKit3
import Derived.StillTailTactics
import Derived.Tactics
import Derived.WalkKit
import Derived.WideLaws
import Derived.Test.YtliiploidjnmnaaDoorCt3
section
/- The package-level tables that the program reads, as they lie in a world. -/
set_option linter.unusedVariables false
set_option linter.unusedSimpArgs false
namespace Go.Proofs.YtliiploidjnmnaaDoor.Hw
open Go.RowKit Go.Proofs.YtliiploidjnmnaaDoorW.PrintWords

/-- A table of whole numbers: block g reads as xs. -/
def Tbl (g : Nat) (k : IntKind) (xs : List Int) (w : World) : Prop := ∀ i : Nat, i < xs.length → w.cell? ⟨g, i, none⟩ = some (.int k (xs.getD i 0))
theorem Tbl.below {g : Nat} {k : IntKind} {xs : List Int} {w w1 : World} {B : Nat} (h : Tbl g k xs w) (hb : Below B w w1) (hB : w.heap.size ≤ B) : Tbl g k xs w1 := fun i hi =>
  (hb.cell (p := ⟨g, i, none⟩) (Nat.lt_of_lt_of_le (World.block_lt_of_cell? w _ (h i hi)) hB)).trans (h i hi)
def crcT : List Int := [0, 498536548, 997073096, 651767980, 1994146192, 1802195444, 1303535960, 1342533948, 3988292384, 4027552580, 3604390888, 3412177804, 2607071920, 2262029012, 2685067896, 3183342108]
def plcT : List Int := [3, 5, 6, 7, 9, 10, 11, 12, 13, 14, 15, 17, 18, 19, 20, 21, 22, 23, 24, 25, 26, 27, 28, 29, 30, 31, 33, 34, 35, 36, 37, 38, 39, 40, 41, 42, 43, 44, 45, 46, 47, 48, 49, 50, 51, 52, 53, 54, 55, 56, 57, 58, 59, 60, 61, 62, 63, 65, 66, 67, 68, 69, 70, 71]
def clrT : List Int := [4, 3, 3, 2, 3, 2, 2, 1, 3, 2, 2, 1, 2, 1, 1, 0]
/-- All of them. -/
structure Laid (w : World) : Prop where
  crc : Tbl 2 .u32 crcT w
  plc : Tbl 1 .u8 plcT w
  clr : Tbl 0 .i64 clrT w
theorem Laid.below {w w1 : World} {B : Nat} (h : Laid w) (hb : Below B w w1) (hB : w.heap.size ≤ B) : Laid w1 := ⟨h.crc.below hb hB, h.plc.below hb hB, h.clr.below hb hB⟩
theorem laid_at {w w1 : World} (h : Aside0 (Laid w)) (hb : Below w.heap.size w w1) : Aside0 (Laid w1) := ⟨h.out.below hb (Nat.le_refl _)⟩
end Go.Proofs.YtliiploidjnmnaaDoor.Hw
end

section
/- []byte(s), and a byte of it written: the words. -/
set_option linter.unusedVariables false
set_option linter.unusedSimpArgs false
namespace Go.Proofs.YtliiploidjnmnaaDoor.Hw
open Go.RowKit Go.Proofs.YtliiploidjnmnaaDoorW.PrintWords

theorem bw_below (W : World) (e : TypeId) (s : ByteArray) : Below W.heap.size W (Lib.bytesWorld W e s) :=
  ⟨by simp [Lib.bytesWorld, World.freeze, World.alloc, World.drew, -World.alloc_eq, -World.drew_eq], by simp [Lib.bytesWorld, World.freeze, World.alloc, World.drew, -World.alloc_eq, -World.drew_eq], by simp [Lib.bytesWorld, World.freeze, World.alloc, World.drew, -World.alloc_eq, -World.drew_eq], by rw [Lib.bytesWorld_size]; omega, fun k hk => Lib.bytesWorld_at_old W e s k hk⟩
theorem bytesCells_size (W : World) (e : TypeId) (s : ByteArray) : s.size ≤ (Lib.bytesCells W e s).size := by
  simp [Lib.bytesCells]
theorem bw_frozen (W : World) (e : TypeId) (s : ByteArray) (j : Nat) (hj : j < s.size) : (Lib.bytesWorld W e s).frozen? ⟨W.heap.size, j, none⟩ = false := by
  have h := Lib.bytesWorld_at_new W e s
  have h2 := bytesCells_size W e s
  simp [World.frozen?, h]
  omega
theorem add0 (b j : Nat) : (⟨b, 0, none⟩ : Addr).add j = ⟨b, j, none⟩ := by
  cases j <;> simp [Addr.add]
theorem bw_set (W : World) (e : TypeId) (s : ByteArray) (hs : s.size ≤ 9223372036854775807) (i : Nat) (hi : i < s.size) (x : Int) :
    ReadsInt ((Lib.bytesWorld W e s).setCell ⟨W.heap.size, i, none⟩ (.int .u8 x)) .u8 (some ⟨W.heap.size, 0, none⟩) s.size ((bytesOf s).set i x) := by
  have h := bytes_reads W e s hs
  refine ⟨by rw [List.length_set]; exact h.1, h.2.1, fun h0 => ⟨_, rfl, fun j hj => ?_⟩⟩
  obtain ⟨ad, ha, hc⟩ := h.2.2 h0
  injection ha with ha
  subst ha
  have h3 := hc j hj
  have hn := Lib.bytesWorld_at_new W e s
  by_cases e' : i = j
  · subst e'
    have hcs : i < (Lib.bytesCells W e s).size := Nat.lt_of_lt_of_le hi (bytesCells_size W e s)
    have hl : i < (bytesOf s).length := by rw [bytesOf_length]; exact hi
    rw [add0]
    simp [World.cell?, World.setCell, Array.getElem?_modify, hn, hcs, List.getD_eq_getElem?_getD, List.getElem?_set, hl]
  · rw [add0] at h3 ⊢
    have e2 : ((bytesOf s).set i x).getD j 0 = (bytesOf s).getD j 0 := by
      rw [List.getD_eq_getElem?_getD, List.getElem?_set, if_neg e', ← List.getD_eq_getElem?_getD]
    rw [e2, ← h3]
    simp [World.cell?, World.setCell, Array.getElem?_modify, hn, Array.getElem?_setIfInBounds, e']
theorem reads_set {w : World} {b n : Nat} {xs : List Int} (h : ReadsInt w .u8 (some ⟨b, 0, none⟩) n xs) (i : Nat) (hi : i < n) (x : Int) : ReadsInt (w.setCell ⟨b, i, none⟩ (.int .u8 x)) .u8 (some ⟨b, 0, none⟩) n (xs.set i x) := by
  refine ⟨by rw [List.length_set]; exact h.1, h.2.1, fun h0 => ⟨_, rfl, fun j hj => ?_⟩⟩
  obtain ⟨ad, ha, hc⟩ := h.2.2 h0
  injection ha with ha
  subst ha
  have h3 := hc j hj
  have h4 := hc i hi
  rw [add0] at h3 h4 ⊢
  have hl : i < xs.length := by rw [h.1]; exact hi
  cases hb : w.heap[b]? with
  | none => simp [World.cell?, hb] at h4
  | some o =>
    cases o with
    | cells c t fr =>
      have hic : i < c.size := by
        simp only [World.cell?, hb] at h4
        simp at h4
        rcases Nat.lt_or_ge i c.size with h5 | h5
        · exact h5
        · rw [Array.getElem?_eq_none h5] at h4; cases h4
      by_cases e' : i = j
      · subst e'
        simp [World.cell?, World.setCell, Array.getElem?_modify, hb, hic, List.getD_eq_getElem?_getD, List.getElem?_set, hl]
      · have e2 : (xs.set i x).getD j 0 = xs.getD j 0 := by
          rw [List.getD_eq_getElem?_getD, List.getElem?_set, if_neg e', ← List.getD_eq_getElem?_getD]
        rw [e2, ← h3]
        simp [World.cell?, World.setCell, Array.getElem?_modify, hb, Array.getElem?_setIfInBounds, e']
    | _ => simp [World.cell?, hb] at h4
/-- A string with one bit turned. -/
def flipAt (s : ByteArray) (k : Nat) : ByteArray := strOfNums ((bytesOf s).set (k / 8) (bits .xor .u8 (bt s ((k : Int) / 8)) (2 ^ (k % 8) % 256)))
end Go.Proofs.YtliiploidjnmnaaDoor.Hw
end
