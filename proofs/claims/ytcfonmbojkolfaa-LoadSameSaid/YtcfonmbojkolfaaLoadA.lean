/- Contracts of package load's methods, by hand: a Load and its Source are two blocks. -/
import Derived.Test.YtcfonmbojkolfaaProg
import Derived.Below
import Derived.Deep.Draws
import Derived.Deep.AppendLies
import Derived.Maps.AppendAt
import Derived.OwnWalk
import Derived.Laws.BytesArg
import Derived.Laws.MakeOwn
import Derived.Laws.OwnMore
import Derived.Deep.OwnRows
import Derived.Tactics
import Derived.Lib.ConvBytes
import Derived.Laws.Slices
import Derived.WalkKit
import Derived.KernelRfl
import Derived.RowKit3
import Derived.Deep.LoopGhost
import Derived.Deep.QuietTactic
import Derived.BigQuiet
import Derived.WideLaws
import Derived.Deep.DeepCutAuto
import Derived.Deep.CutBlock
import Derived.Deep.RegionHeld3
import Derived.Deep.RegionWith
import Derived.Laws.Rows
import Derived.Lib.AppendStr
import Derived.ArgAppend
import Derived.Laws.IdiomCopy
import Derived.OrdersHeld
import Derived.Laws.BitsLemmas
import Derived.RowKit
import Derived.Outline
import Derived.Laws.Closers25b
import Derived.Lib.Hide
import Derived.Test.YtcfonmbojkolfaaWWords
import Derived.Test.YtcfonmbojkolfaaWKept
import Derived.Test.YtcfonmbojkolfaaMem
namespace Go.Proofs.Ytcfonmbojkolfaa.LoadA
open Go.RowKit Go.Proofs.YtcfonmbojkolfaaW.PrintWords Go.Proofs.Ytcfonmbojkolfaa.Mem

theorem info5 : (Try.prog.info? 5).map (fun i => (i.zero, i.size, i.bytes)) = some (some (.int .u8 0), 1, 1) := by kernel_rfl

structure Ld where
  b : Int
  l : Int
  y : Int
  s : Int
  p : Int
  t : Int
  kind : Int
  x : Int
  at_ : Int
  made : Int

def SrcAt (w : World) (gs : Nat) (x : Int) : Prop := w.heap[gs]? = some (.cells #[.int .u64 x] 93 (0, 0))
def BodyAt (w : World) (gl gs : Nat) (L : Ld) : Prop :=
  w.heap[gl]? = some (.cells #[.int .i64 L.b, .int .i64 L.l, .int .i64 L.y, .int .i64 L.s, .int .i64 L.p, .int .i64 L.t, .int .i64 L.kind, .pointer (some ⟨gs, 0, none⟩), .int .i64 L.at_, .int .i64 L.made] 101 (0, 0))
def LoadAt (w : World) (gl gs : Nat) (L : Ld) : Prop := BodyAt w gl gs L ∧ SrcAt w gs L.x

/-- The next number of a source. -/
def nextNum (x : Int) : Int :=
  let a := Go.bits .xor .u64 x (IntKind.u64.wrap (x * 8192))
  let b := Go.bits .xor .u64 a (a / 128)
  Go.bits .xor .u64 b (IntKind.u64.wrap (b * 131072))

/-- The bytes of a sector: byte i is (made mod 251 + i) mod 256. -/
def dataNums (made : Int) (y : Nat) : List Int := (List.range y).map fun i : Nat => (made % 251 + (i : Int)) % 256

def part (made : Int) (y i : Nat) : List Int := dataNums made i ++ List.replicate (y - i) 0
theorem part_zero (made : Int) (y : Nat) : part made y 0 = List.replicate y 0 := by simp [part, dataNums]
theorem part_full (made : Int) (y : Nat) : part made y y = dataNums made y := by simp [part]
theorem part_length (made : Int) (y i : Nat) (h : i ≤ y) : (part made y i).length = y := by simp [part, dataNums]; omega
theorem part_set (made : Int) (y i : Nat) (h : i < y) : (part made y i).set i ((made % 251 + (i : Int)) % 256) = part made y (i + 1) := by
  have hl : (dataNums made i).length = i := by simp [dataNums]
  unfold part
  rw [List.set_append_right _ _ (by omega), hl, Nat.sub_self]
  have e : y - i = (y - (i + 1)) + 1 := by omega
  rw [e, List.replicate_succ, List.set_cons_zero]
  simp [dataNums, List.range_succ]

set_option maxHeartbeats 1000000 in
theorem data_any (gl gs : Nat) (L : Ld) (y : Nat) (ey : L.y = y) (w : World) (h : BodyAt w gl gs L) (hy : y ≤ 256) (hm : 0 ≤ L.made) (hm2 : L.made ≤ 1000000) :
    Calls Try.prog 60 #[.pointer (some ⟨gl, 0, none⟩)] w fun e w' => e = .returned (.string (strOfNums (dataNums L.made y))) ∧ Below w.heap.size w w' := by
  obtain ⟨b, l, y', s, p, t, kind, x, at_, made⟩ := L
  obtain rfl : y' = y := ey
  unfold BodyAt at h
  dsimp only at *
  have c2 := blk_cell h 2
  have c9 := blk_cell h 9
  simp at c2 c9
  have hlt := blk_lt h
  have hmk := print_make (P := Try.prog) 108 5 .u8 1 Try.underlying108 info5 (by decide) y (by omega)
  go_enter Try.func60, Try.ntmps60
  go_wp2
  have H0 := own_made w w.heap.size 5 .u8 y (Nat.le_refl _) (by omega)
  rw [← part_zero made y] at H0
  go_loopw [13] (fun v wr => ∃ i : Nat, i ≤ y ∧ v = .int .i64 i ∧ Aside0 (wr.ownsRow w.heap.size 5 1 (.slice (some ⟨w.heap.size, 0, none⟩) y y) y (nums .u8 (part made y i))) ∧ Aside0 (Below w.heap.size w wr)) (fun v _ => y - (intOf v).toNat)
  case atStart => exact ⟨0, Nat.zero_le _, rfl, ⟨H0⟩, ⟨below_alloc (Below.refl _ _) _⟩⟩
  case round =>
    obtain ⟨i, hi, rfl, HO, HB⟩ := hrel
    have d2 := (HB.out.cell (World.block_lt_of_cell? w _ c2)).trans c2
    have d9 := (HB.out.cell (World.block_lt_of_cell? w _ c9)).trans c9
    have hl := part_length made y i hi
    by_cases hlt2 : i < y
    · have hat := own_at HO.out (i : Int) (by omega) (by omega)
      rw [Int.toNat_natCast] at hat
      obtain ⟨ha, hf⟩ := hat
      obtain ⟨hst, hgr⟩ := own_store HO.out (i : Int) ((made % 251 + (i : Int)) % 256)
      rw [Int.toNat_natCast, part_set made y i hlt2] at hst
      rw [Int.toNat_natCast] at hgr
      have HS := Lib.hid hst
      have HG := Lib.hid hgr
      clear c2 c9 H0 hmk hst hgr hl
      go_wp2

      go_roundw
      case rel => exact ⟨i + 1, by omega, by go_num, ⟨HS.out⟩, ⟨HB.out.setCell (by simp) _⟩⟩
      case measure => simp [intOf]; omega
    · obtain rfl : i = y := by omega
      have hcv := own_string (P := Try.prog) (src := 108) (dst := 9) Try.underlying108 Try.underlying5 Try.underlying9 HO.out
      rw [part_full] at hcv
      clear c2 c9 H0 hmk hl
      go_wp2
      go_ret
      exact ⟨rfl, HB.out⟩

theorem next_any (gs B : Nat) (x : Int) (w : World) (h : SrcAt w gs x) (hB : B ≤ gs) :
    Calls Try.prog 27 #[.pointer (some ⟨gs, 0, none⟩)] w fun e w' => e = .returned (.int .u64 (nextNum x)) ∧ SrcAt w' gs (nextNum x) ∧ Mod B (fun k => k = gs) w w' := by
  unfold SrcAt at h
  have c0 := blk_cell h 0
  have f0 := blk_frozen h 0
  simp at c0
  go_enter Try.func27, Try.ntmps27
  go_wp2
  go_ret
  have e := blk_set h 0 (.int .u64 (nextNum x))
  simp at e
  exact ⟨rfl, e, (Mod.refl B (fun k => k = gs) w).setCell hB (.inl rfl) _⟩

/-- A number below n, and the source behind it. -/
def belowNum (x n : Int) : Int × Int := if n < 1 then (0, x) else (nextNum x % n, nextNum x)

theorem nextNum_range (x : Int) : 0 ≤ nextNum x ∧ nextNum x ≤ 18446744073709551615 := by
  unfold nextNum
  exact ⟨bits_lo_u64 _ _ _, bits_hi_u64 _ _ _⟩

theorem sbelow_any (gs B : Nat) (x n q x1 : Int) (w : World) (he : belowNum x n = (q, x1)) (h : SrcAt w gs x) (hB : B ≤ gs) (hn : -1000000 ≤ n) (hn2 : n ≤ 1000000) :
    Calls Try.prog 26 #[.pointer (some ⟨gs, 0, none⟩), .int .i64 n] w fun e w' => e = .returned (.int .i64 q) ∧ SrcAt w' gs x1 ∧ Mod B (fun k => k = gs) w w' := by
  unfold belowNum at he
  have HE := Lib.hid he
  clear he
  by_cases hc : n < 1
  · go_enter Try.func26, Try.ntmps26
    go_wp2
    go_ret
    have he := HE.out
    rw [if_pos hc] at he
    obtain ⟨rfl, rfl⟩ := Prod.mk.inj he
    exact ⟨rfl, h, Mod.refl _ _ _⟩
  · have hr := nextNum_range x
    go_enter Try.func26, Try.ntmps26
    go_wp2_with (go_at_call 27; refine (next_any _ B x _ h hB).mono ?_; rintro e w' ⟨rfl, h', hm⟩)
    go_ret
    have he := HE.out
    rw [if_neg (by omega)] at he
    obtain ⟨rfl, rfl⟩ := Prod.mk.inj he
    have h1 := Int.emod_nonneg (nextNum x) (show n ≠ 0 by omega)
    have h2 := Int.emod_lt_of_pos (nextNum x) (show 0 < n by omega)
    exact ⟨ret_int (by show wrap64 (nextNum x % n) = nextNum x % n; unfold wrap64; omega), h', hm⟩

/-- A Do of Go's. -/
abbrev doV (kind lba n : Int) (d : ByteArray) : Value := .agg #[.int .i64 kind, .int .i64 lba, .int .i64 n, .string d]

theorem write_any (gl gs : Nat) (L : Ld) (y : Nat) (ey : L.y = y) (lba : Int) (w : World) (h : BodyAt w gl gs L) (hy : y ≤ 256) (hm : 0 ≤ L.made) (hm2 : L.made ≤ 1000000) :
    Calls Try.prog 52 #[.pointer (some ⟨gl, 0, none⟩), .int .i64 lba] w fun e w' => e = .returned (doV 2 lba 0 (strOfNums (dataNums L.made y))) ∧ Below w.heap.size w w' := by
  go_enter Try.func52, Try.ntmps52
  go_wp2_with (go_at_call 60; refine (data_any gl gs L y ey _ (blk_alloc h _) hy hm hm2).mono ?_; rintro e w' ⟨rfl, hb⟩; obtain ⟨hc, hf⟩ := bcell hb; have hz := hb.size; simp only [World.size_alloc] at hz; have HB := Aside0.mk hb; clear hb)
  refine bodyPost_ret (v := doV 2 lba 0 (strOfNums (dataNums L.made y))) (by simp [results, Try.results52, go_sem, doV, hc]) rfl ⟨rfl, ?_⟩
  repeat (refine Below.setCell ?_ (by exact Nat.le_refl _) _)
  exact (below_alloc (Below.refl _ _) _).trans (HB.out.mono (B' := w.heap.size) (by simp))

abbrev DoP := Int × Int × Int × ByteArray
abbrev doP (d : DoP) : Value := doV d.1 d.2.1 d.2.2.1 d.2.2.2
def dataOf (L : Ld) : ByteArray := strOfNums (dataNums L.made L.y.toNat)

/-- Something of all kinds. -/
def blendOf (L : Ld) : DoP × Ld :=
  match belowNum L.x 16 with
  | (q, x1) =>
    if q < 8 then (match belowNum x1 L.s with | (r, x2) => ((2, r, 0, dataOf L), { L with x := x2 }))
    else if q < 12 then (match belowNum x1 L.s with | (r, x2) => ((1, r, 0, ByteArray.empty), { L with x := x2 }))
    else if q < 14 then (match belowNum x1 L.s with | (r, x2) => ((3, r, 0, ByteArray.empty), { L with x := x2 }))
    else if q = 14 then ((4, 0, 0, ByteArray.empty), { L with x := x1 })
    else (match belowNum x1 50 with | (r, x2) => ((5, 0, r, ByteArray.empty), { L with x := x2 }))

end Go.Proofs.Ytcfonmbojkolfaa.LoadA
