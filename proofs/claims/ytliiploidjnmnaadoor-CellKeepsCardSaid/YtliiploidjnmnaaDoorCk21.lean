/- The law's proof: words, contracts of the functions that it reaches, plain lemmas. -/
import Derived.ArgAppend
import Derived.Below
import Derived.BigQuiet
import Derived.Carry
import Derived.Deep.AppendLies
import Derived.Deep.CutBlock
import Derived.Deep.DeepCutAuto
import Derived.Deep.Draws
import Derived.Deep.LoopGhost
import Derived.Deep.OwnRows
import Derived.Deep.QuietTactic
import Derived.Deep.RegionHeld3
import Derived.Deep.RegionWith
import Derived.KernelRfl
import Derived.Laws.BitsLemmas
import Derived.Laws.BytesArg
import Derived.Laws.IdiomCopy
import Derived.Laws.MakeOwn
import Derived.Laws.OwnMore
import Derived.Laws.Rows
import Derived.Laws.Slices
import Derived.Lib.AppendStr
import Derived.Lib.BufferMore
import Derived.Lib.ConvBytes
import Derived.Lib.Hide
import Derived.Lib.LazyBuf
import Derived.Maps.AppendAt
import Derived.OpenShut
import Derived.OrdersHeld
import Derived.Outline
import Derived.OwnWalk
import Derived.OwnWalkIn
import Derived.RegionTactic
import Derived.RowKit3
import Derived.StillTailTactics
import Derived.Tactics
import Derived.WalkKit
import Derived.WideLaws
import Derived.Lib.SliceRun
import Derived.Test.YtliiploidjnmnaaDoorCk18
section
/- clear of a row of lines. -/
set_option linter.unusedVariables false
set_option linter.unusedSimpArgs false
namespace Go.Proofs.YtliiploidjnmnaaDoor.PF
open Go.RowKit Go.Shelf Go.Proofs.YtliiploidjnmnaaDoorW.PrintWords Go.Proofs.YtliiploidjnmnaaDoor.Mem Go.Proofs.YtliiploidjnmnaaDoor.Own Go.Proofs.YtliiploidjnmnaaDoor.Hw

def setAllL (cs : List Value) (o : Nat) : List Value → List Value
  | [] => cs
  | v :: l => setAllL (cs.set o v) (o + 1) l
theorem setAllL_get : ∀ (l cs : List Value) (o i : Nat), o + l.length ≤ cs.length → (setAllL cs o l)[i]? = if o ≤ i ∧ i < o + l.length then l[i - o]? else cs[i]?
  | [], cs, o, i, _ => by rw [if_neg (by simp only [List.length_nil]; omega)]; rfl
  | v :: l, cs, o, i, h => by
    simp only [List.length_cons] at h
    show (setAllL (cs.set o v) (o + 1) l)[i]? = _
    rw [setAllL_get l (cs.set o v) (o + 1) i (by rw [List.length_set]; omega)]
    simp only [List.length_cons]
    by_cases e : i = o
    · subst e
      rw [if_neg (by omega), if_pos (by omega), List.getElem?_set, if_pos rfl, if_pos (by omega), Nat.sub_self]
      rfl
    · by_cases g : o ≤ i ∧ i < o + (l.length + 1)
      · rw [if_pos (by omega), if_pos g, show i - o = (i - (o + 1)) + 1 by omega]
        rfl
      · rw [if_neg (by omega), if_neg g, List.getElem?_set, if_neg (fun x => e x.symm)]
theorem setAllL_all (l cs : List Value) (h : l.length = cs.length) : setAllL cs 0 l = l := by
  apply List.ext_getElem?
  intro i
  rw [setAllL_get l cs 0 i (by omega)]
  by_cases g : i < l.length
  · rw [if_pos (by omega), Nat.sub_zero]
  · rw [if_neg (by omega), List.getElem?_eq_none (by omega), List.getElem?_eq_none (by omega)]
section
variable {w0 : World} {L : List Asn} {lb : Nat}
theorem own_setCells {T : TypeId} : ∀ (l : List Value) (w : World) (cs : List Value) (o : Nat), Own w0 w (Pt lb (.cells cs.toArray T (0, 0)) :: L) → Own w0 (w.setCells lb o l) (Pt lb (.cells (setAllL cs o l).toArray T (0, 0)) :: L)
  | [], _, _, _, h => h
  | v :: l, w, cs, o, h => by
    have h1 := h.set (i := o) v
    rw [List.setIfInBounds_toArray] at h1
    exact own_setCells l _ _ (o + 1) h1
theorem lcells_one : ∀ (ls : List LineS) (v : Value), v ∈ lcells ls → v.oneCell' = true
  | [], v, h => by cases h
  | l :: r, v, h => by
    rcases List.mem_append.1 h with g | g
    · simp only [LineS.cells, List.mem_cons, List.not_mem_nil, or_false] at g
      rcases g with rfl | rfl | rfl | rfl | rfl | rfl <;> rfl
    · exact lcells_one r v g
theorem own_cleared {T : TypeId} {w : World} {ls : List LineS} (h : Own w0 w (Pt lb (.cells (lcells ls).toArray T (0, 0)) :: L)) : Own w0 (w.setCells lb 0 (lcells (List.replicate ls.length line0))) (Pt lb (.cells (lcells (List.replicate ls.length line0)).toArray T (0, 0)) :: L) := by
  have := own_setCells (lcells (List.replicate ls.length line0)) w (lcells ls) 0 h
  rw [setAllL_all _ _ (by rw [lcells_length, lcells_length, List.length_replicate])] at this
  exact this
theorem clear_run (ls : List LineS) (h1 : 1 ≤ ls.length) {T : TypeId} {w : World} (ty : TypeId) (c : Nat) (hb : w.heap[lb]? = some (.cells (lcells ls).toArray T (0, 0))) :
    (Builtin.clear_ #[65] ty #[.slice (some ⟨lb, 0, none⟩) ls.length c]).run Tryd.prog w = .ok (.tuple #[]) (w.setCells lb 0 (lcells (List.replicate ls.length line0))) := by
  have hzc : (Builtin.zeroCells #[.string ⟨#[]⟩, .string ⟨#[]⟩, .string ⟨#[]⟩, .bool false, .bool false, .bool false] ls.length).toList = lcells (List.replicate ls.length line0) := by
    have := made_lines ls.length
    show ((Array.range (ls.length * 6)).map _).toList = _
    have e : madeCells #[.string ⟨#[]⟩, .string ⟨#[]⟩, .string ⟨#[]⟩, .bool false, .bool false, .bool false] (ls.length * 6) = (Array.range (ls.length * 6)).map fun i => (#[Value.string ⟨#[]⟩, .string ⟨#[]⟩, .string ⟨#[]⟩, .bool false, .bool false, .bool false] : Array Value)[i % 6]! := rfl
    exact (congrArg Array.toList (e.symm.trans this)).trans rfl
  have hv : ∀ w, (zeroValue 74).run Tryd.prog w = .ok (.agg #[.string ⟨#[]⟩, .string ⟨#[]⟩, .string ⟨#[]⟩, .bool false, .bool false, .bool false]) w := fun _ => by kernel_rfl
  have hlen : (lcells (List.replicate ls.length line0)).length = 6 * ls.length := by rw [lcells_length, List.length_replicate]
  have hst := run_storeCells_cells (P := Tryd.prog) lb 0 (lcells (List.replicate ls.length line0)) 0 w
    (by intro j hj; rw [blk_cell hb, List.getElem?_toArray, Option.isSome_iff_exists]; rw [hlen] at hj; exact ⟨_, List.getElem?_eq_getElem (by rw [lcells_length]; omega)⟩)
    (by intro j hj; exact blk_frozen hb _) (lcells_one _)
  simp only [Nat.add_zero] at hst
  obtain ⟨m, hm⟩ : ∃ m, ls.length = m + 1 := ⟨ls.length - 1, by omega⟩
  rw [hm] at hzc hst ⊢
  simp [Builtin.clear_, run_underlying Tryd.underlying65, hv, Value.cells, hzc, hst]
end
end Go.Proofs.YtliiploidjnmnaaDoor.PF
end

section
/- Package cell, by hand: Erase. -/
set_option linter.unusedVariables false
set_option linter.unusedSimpArgs false
namespace Go.Proofs.YtliiploidjnmnaaDoor.PF
open Go.RowKit Go.Shelf Go.Proofs.YtliiploidjnmnaaDoorW.PrintWords Go.Proofs.YtliiploidjnmnaaDoor.Mem Go.Proofs.YtliiploidjnmnaaDoor.Own Go.Proofs.YtliiploidjnmnaaDoor.Hw

def erase1 (S : CellS) : CellS := if S.mode = 2 then { S with tlc := S.tlc + 1 } else { S with slc := S.slc + 1 }
def erased (S : CellS) : CellS := { S with lines := List.replicate S.lines.length line0, mode := 0, done := 0, torn := false }
def eraseS (S : CellS) (k fa fb : Int) : CellS := if S.bad = true then S else if k = 1 ∨ k = 2 then endsS k (erase1 S) (spoiled (erase1 S) fa fb) else erased (erase1 S)
def eraseC (S : CellS) (k : Int) : Int := if S.bad = true then 80 else endsC k
section
variable {w0 w : World} {L : List Asn} {g lb : Nat} {S : CellS}
theorem erase1_fit (hf : Fit S) : Fit (erase1 S) := by
  unfold erase1
  split <;> exact ⟨hf.n1, hf.n64, hf.d0, hf.d1, hf.sizes, hf.blank⟩
set_option maxHeartbeats 4000000 in
set_option maxRecDepth 100000 in
theorem ecl_own {X : Asn} (B2 B3 : Nat) (a0 a1 a2 a3 : Int) (hf : Fit S) (HO : Own w0 w (X :: CellO g lb S (Pt B2 (boxP g) :: Pt B3 (fltC a0 a1 a2 a3) :: L))) :
    Calls Tryd.prog 48 #[.pointer (some ⟨B2, 0, none⟩), .pointer (some ⟨B3, 0, none⟩)] w fun e w' => e = .returned (.tuple #[]) ∧ Own w0 w' (X :: CellO g lb (spoiled S a2 a3) (Pt B2 (boxP g) :: Pt B3 (fltC a0 a1 a2 a3) :: L)) := by
  have HP := Aside0.mk (own_sw [_] [_, _] HO)
  have HF := Aside0.mk hf
  have h4 := HO.drop.drop.drop
  have x4 := cell1 h4.pt
  obtain ⟨x0, x1, x2, x3, _, _, _, _⟩ := cells4 h4.drop.pt
  clear h4 HO hf
  go_enter Tryd.func48, Tryd.ntmps48
  go_wp2_with fail
  refine (spoil_own a0 a1 a2 a3 HF.out HP.out).mono ?_
  rintro e w1 ⟨rfl, ho⟩
  have HR := Aside0.mk (own_sw [_, _] [_] ho)
  clear ho HP x0 x1 x2 x3 x4
  go_wp2_with fail
  exact bodyPost_end (v := .tuple #[]) (by simp [results, Tryd.results48, go_sem]) rfl ⟨rfl, HR.out⟩
set_option maxHeartbeats 4000000 in
set_option maxRecDepth 100000 in
theorem erase_bad (a0 a1 a2 a3 : Int) (hb : S.bad = true) (HO : Own w0 w (CellO g lb S L)) :
    Calls Tryd.prog 19 #[.pointer (some ⟨g, 0, none⟩), fltV a0 a1 a2 a3] w fun e w' => e = .returned (.int .i64 (eraseC S a1)) ∧ Own w0 w' (CellO g lb (eraseS S a1 a2 a3) L) := by
  unfold eraseC eraseS
  rw [if_pos hb, if_pos hb]
  obtain ⟨lines, blank, mode, done, bad, torn, slc, tlc⟩ := S
  obtain rfl : bad = true := hb
  have h2 := (HO.alloc (boxP g)).alloc (fltC a0 a1 a2 a3)
  have H2 := Aside0.mk h2
  have lt0 := blk_lt HO.pt
  obtain ⟨_, _, _, _, x4, _, _, _⟩ := cells8 h2.drop.drop.pt
  clear h2 HO
  go_enter Tryd.func19, Tryd.ntmps19
  go_wp2_with fail
  go_ret
  exact ⟨rfl, H2.out.drop.drop⟩
set_option maxHeartbeats 4000000 in
set_option maxRecDepth 100000 in
theorem erase_runs (a0 a1 a2 a3 : Int) (hf : Fit S) (hc : 0 ≤ S.slc ∧ S.slc ≤ 1000000000 ∧ 0 ≤ S.tlc ∧ S.tlc ≤ 1000000000) (hb : S.bad = false) (HO : Own w0 w (CellO g lb S L)) :
    Calls Tryd.prog 19 #[.pointer (some ⟨g, 0, none⟩), fltV a0 a1 a2 a3] w fun e w' => e = .returned (.int .i64 (eraseC S a1)) ∧ Own w0 w' (CellO g lb (eraseS S a1 a2 a3) L) := by
  have hnb : ¬ S.bad = true := by rw [hb]; decide
  unfold eraseC eraseS
  rw [if_neg hnb, if_neg hnb]
  have hf1 := erase1_fit hf
  obtain ⟨S1, hS1⟩ : ∃ X, X = erase1 S := ⟨_, rfl⟩
  rw [← hS1] at hf1 ⊢
  have HF1 := Aside0.mk hf1
  have HS1 := Aside0.mk hS1
  obtain ⟨B2, hB2⟩ : ∃ b, b = w.heap.size := ⟨_, rfl⟩
  have HB2 := Lib.hid hB2
  have h2 := (HO.alloc (boxP g)).alloc (fltC a0 a1 a2 a3)
  simp only [World.size_alloc] at h2
  rw [← hB2] at h2
  have H2 := Aside0.mk h2
  have y2 := cell1 h2.drop.pt
  obtain ⟨x0, x1, x2, x3, x4, x5, x6, x7⟩ := cells8 h2.drop.drop.pt
  rw [hb] at x4
  have q6 := blk_frozen h2.drop.drop.pt 6
  have q7 := blk_frozen h2.drop.drop.pt 7
  have HC := Lib.hid hc
  clear hB2 h2 HO hf hf1 hS1 hb hnb
  obtain ⟨c0, c1, c2, c3⟩ := HC.out
  have sw : ∀ {W : World} {A B C D : Asn}, Own w0 W (A :: B :: C :: D :: L) → Own w0 W (A :: D :: C :: B :: L) := fun h => (h.under (fun _ => Hold.swap)).pull4.pull2
  by_cases hm : S.mode = 2
  · have d1 : (S.mode == 2) = true := beq_iff_eq.2 hm
    have e1 : S1 = { S with tlc := S.tlc + 1 } := by rw [HS1.out]; unfold erase1; rw [if_pos hm]
    have k1 := sw ((own_sw [_, _] [_] H2.out).set (i := 7) (.int .i64 (S.tlc + 1)))
    have HH : Aside0 (Own w0 _ (CellO g lb S1 (Pt B2 (boxP g) :: Pt (B2 + 1) (fltC a0 a1 a2 a3) :: L))) := ⟨by rw [e1]; exact k1⟩
    have x0' := cells8 HH.out.pt
    have y2' := cell1 HH.out.drop.drop.pt
    obtain ⟨z0, z1, z2, z3, _, _, _, _⟩ := cells4 HH.out.drop.drop.drop.pt
    clear e1 k1 hm sw
    by_cases h1 : a1 = 1 ∨ a1 = 2
    · rw [if_pos h1]
      have hne : (endsC a1 != 0) = true := by
        rcases h1 with rfl | rfl <;> rfl
      obtain ⟨ec, hec⟩ : ∃ x, x = endsC a1 := ⟨_, rfl⟩
      rw [← hec] at hne ⊢
      have HEC := Lib.hid hec
      clear h1 hec
      go_enter Tryd.func19, Tryd.ntmps19
      go_wp2_with fail
      rw [← HB2.out]
      go_wp2_with fail
      refine (ends_own 48 _ (spoiled S1 a2 a3) a0 a1 a2 a3 (enters_of Tryd.func48 (by kernel_rfl) rfl) (fun X w' ho => ecl_own B2 (B2 + 1) a0 a1 a2 a3 HF1.out ho) HH.out).mono ?_
      rw [← HEC.out]
      rintro e w9 ⟨rfl, ho⟩
      have HR := Aside0.mk (own_sw [_, _] [_, _] ho).drop.drop
      clear ho
      go_wp2_with fail
      go_ret
      exact ⟨rfl, HR.out⟩
    · rw [if_neg h1]
      have hec : endsC a1 = 0 := by unfold endsC; rw [if_neg (fun x => h1 (Or.inl x)), if_neg (fun x => h1 (Or.inr x))]
      have hes : endsS a1 S1 (spoiled S1 a2 a3) = S1 := by unfold endsS; rw [if_neg (fun x => h1 (Or.inl x)), if_neg (fun x => h1 (Or.inr x))]
      rw [hec]
      have HEC := Lib.hid hec
      have HES := Lib.hid hes
      clear h1 hec hes
      go_enter Tryd.func19, Tryd.ntmps19
      go_wp2_with fail
      rw [← HB2.out]
      go_wp2_with fail
      refine (ends_own 48 _ (spoiled S1 a2 a3) a0 a1 a2 a3 (enters_of Tryd.func48 (by kernel_rfl) rfl) (fun X w' ho => ecl_own B2 (B2 + 1) a0 a1 a2 a3 HF1.out ho) HH.out).mono ?_
      rw [HEC.out, HES.out]
      rintro e w9 ⟨rfl, ho⟩
      have H9 := Aside0.mk ho
      clear ho
      have y2'' := cell1 H9.out.drop.drop.pt
      obtain ⟨x0, _, _, _, _, _, _, _⟩ := cells8 H9.out.pt
      have hcl := fun ty c => clear_run S1.lines HF1.out.n1 ty c H9.out.drop.pt
      have h10 := (own_cleared H9.out.pull2).pull2
      have H10 := Aside0.mk h10
      have w2_ := cell1 h10.drop.drop.pt
      obtain ⟨v0, _, v2, v3, _, v5, _, _⟩ := cells8 h10.pt
      have q2 := blk_frozen h10.pt 2
      have q3 := blk_frozen h10.pt 3
      have q5 := blk_frozen h10.pt 5
      clear h10
      go_wp2_with fail
      go_region
      all_goals go_wp2_with fail
      all_goals go_ret
      all_goals
        refine ⟨rfl, ?_⟩
        have h11 := ((H10.out.drew.set (i := 2) (.int .i64 0)).set (i := 3) (.int .i64 0)).set (i := 5) (.bool false)
        have h12 := (own_sw [_, _] [_, _] h11).drop.drop
        have h13 : Own w0 _ (Pt g (cellC lb ⟨S1.lines, S1.blank, 0, 0, S1.bad, false, S1.slc, S1.tlc⟩) :: Pt lb (linesC (List.replicate S1.lines.length line0)) :: L) := h12
        exact cello_lines (S := ⟨S1.lines, S1.blank, 0, 0, S1.bad, false, S1.slc, S1.tlc⟩) h13 List.length_replicate
  · have d1 : (S.mode == 2) = false := beq_eq_false_iff_ne.2 hm
    have e1 : S1 = { S with slc := S.slc + 1 } := by rw [HS1.out]; unfold erase1; rw [if_neg hm]
    have k1 := sw ((own_sw [_, _] [_] H2.out).set (i := 6) (.int .i64 (S.slc + 1)))
    have HH : Aside0 (Own w0 _ (CellO g lb S1 (Pt B2 (boxP g) :: Pt (B2 + 1) (fltC a0 a1 a2 a3) :: L))) := ⟨by rw [e1]; exact k1⟩
    have x0' := cells8 HH.out.pt
    have y2' := cell1 HH.out.drop.drop.pt
    obtain ⟨z0, z1, z2, z3, _, _, _, _⟩ := cells4 HH.out.drop.drop.drop.pt
    clear e1 k1 hm sw
    by_cases h1 : a1 = 1 ∨ a1 = 2
    · rw [if_pos h1]
      have hne : (endsC a1 != 0) = true := by
        rcases h1 with rfl | rfl <;> rfl
      obtain ⟨ec, hec⟩ : ∃ x, x = endsC a1 := ⟨_, rfl⟩
      rw [← hec] at hne ⊢
      have HEC := Lib.hid hec
      clear h1 hec
      go_enter Tryd.func19, Tryd.ntmps19
      go_wp2_with fail
      rw [← HB2.out]
      go_wp2_with fail
      refine (ends_own 48 _ (spoiled S1 a2 a3) a0 a1 a2 a3 (enters_of Tryd.func48 (by kernel_rfl) rfl) (fun X w' ho => ecl_own B2 (B2 + 1) a0 a1 a2 a3 HF1.out ho) HH.out).mono ?_
      rw [← HEC.out]
      rintro e w9 ⟨rfl, ho⟩
      have HR := Aside0.mk (own_sw [_, _] [_, _] ho).drop.drop
      clear ho
      go_wp2_with fail
      go_ret
      exact ⟨rfl, HR.out⟩
    · rw [if_neg h1]
      have hec : endsC a1 = 0 := by unfold endsC; rw [if_neg (fun x => h1 (Or.inl x)), if_neg (fun x => h1 (Or.inr x))]
      have hes : endsS a1 S1 (spoiled S1 a2 a3) = S1 := by unfold endsS; rw [if_neg (fun x => h1 (Or.inl x)), if_neg (fun x => h1 (Or.inr x))]
      rw [hec]
      have HEC := Lib.hid hec
      have HES := Lib.hid hes
      clear h1 hec hes
      go_enter Tryd.func19, Tryd.ntmps19
      go_wp2_with fail
      rw [← HB2.out]
      go_wp2_with fail
      refine (ends_own 48 _ (spoiled S1 a2 a3) a0 a1 a2 a3 (enters_of Tryd.func48 (by kernel_rfl) rfl) (fun X w' ho => ecl_own B2 (B2 + 1) a0 a1 a2 a3 HF1.out ho) HH.out).mono ?_
      rw [HEC.out, HES.out]
      rintro e w9 ⟨rfl, ho⟩
      have H9 := Aside0.mk ho
      clear ho
      have y2'' := cell1 H9.out.drop.drop.pt
      obtain ⟨x0, _, _, _, _, _, _, _⟩ := cells8 H9.out.pt
      have hcl := fun ty c => clear_run S1.lines HF1.out.n1 ty c H9.out.drop.pt
      have h10 := (own_cleared H9.out.pull2).pull2
      have H10 := Aside0.mk h10
      have w2_ := cell1 h10.drop.drop.pt
      obtain ⟨v0, _, v2, v3, _, v5, _, _⟩ := cells8 h10.pt
      have q2 := blk_frozen h10.pt 2
      have q3 := blk_frozen h10.pt 3
      have q5 := blk_frozen h10.pt 5
      clear h10
      go_wp2_with fail
      go_region
      all_goals go_wp2_with fail
      all_goals go_ret
      all_goals
        refine ⟨rfl, ?_⟩
        have h11 := ((H10.out.drew.set (i := 2) (.int .i64 0)).set (i := 3) (.int .i64 0)).set (i := 5) (.bool false)
        have h12 := (own_sw [_, _] [_, _] h11).drop.drop
        have h13 : Own w0 _ (Pt g (cellC lb ⟨S1.lines, S1.blank, 0, 0, S1.bad, false, S1.slc, S1.tlc⟩) :: Pt lb (linesC (List.replicate S1.lines.length line0)) :: L) := h12
        exact cello_lines (S := ⟨S1.lines, S1.blank, 0, 0, S1.bad, false, S1.slc, S1.tlc⟩) h13 List.length_replicate
end
end Go.Proofs.YtliiploidjnmnaaDoor.PF
end
