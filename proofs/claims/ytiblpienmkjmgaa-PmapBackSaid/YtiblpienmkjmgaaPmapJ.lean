/- Package pmap, by hand: Pages. -/
import Derived.Test.YtiblpienmkjmgaaProg
import Derived.Below
import Derived.Carry
import Derived.Deep.Draws
import Derived.Deep.AppendLies
import Derived.Maps.AppendAt
import Derived.OwnWalk
import Derived.Laws.BytesArg
import Derived.Laws.MakeOwn
import Derived.Laws.OwnMore
import Derived.Deep.OwnRows
import Derived.Tactics
import Derived.Lib.ConvBytes
import Derived.Laws.Slices
import Derived.WalkKit
import Derived.KernelRfl
import Derived.RowKit3
import Derived.Deep.LoopGhost
import Derived.Deep.QuietTactic
import Derived.BigQuiet
import Derived.WideLaws
import Derived.Deep.DeepCutAuto
import Derived.Deep.CutBlock
import Derived.Deep.RegionHeld3
import Derived.Deep.RegionWith
import Derived.Laws.Rows
import Derived.Lib.AppendStr
import Derived.ArgAppend
import Derived.Laws.IdiomCopy
import Derived.OrdersHeld
import Derived.Laws.BitsLemmas
import Derived.Outline
import Derived.RegionTactic
import Derived.Lib.Hide
import Derived.StillTailTactics
import Derived.Deep.RegionWith
import Derived.OpenShut
import Derived.Test.YtiblpienmkjmgaaWWords
import Derived.Test.YtiblpienmkjmgaaPmapI
set_option linter.unusedVariables false
namespace Go.Proofs.Ytiblpienmkjmgaa.Pmap
open Go.RowKit Go.Proofs.YtiblpienmkjmgaaW.PrintWords Go.Proofs.Ytiblpienmkjmgaa.Mem Go.Proofs.Ytiblpienmkjmgaa.Own Go.Proofs.Ytiblpienmkjmgaa.Maps Go.Proofs.Ytiblpienmkjmgaa.PM

/-- The page of a block at a place; the pages of the first places that have a sector. -/
abbrev plc (b : Int) (i : Nat) : Tri := (b, ((i / 3 : Nat) : Int), ((i % 3 : Nat) : Int))
def ofTri (a : Tri) : S24 := ⟨a.1, a.2.1, a.2.2⟩
def pg (l2 : List (Tri × Int)) (b : Int) : Nat → List S24
  | 0 => []
  | m + 1 => if (mget (plc b m) l2).isSome = true then pg l2 b m ++ [ofTri (plc b m)] else pg l2 b m
theorem pg_len (l2 : List (Tri × Int)) (b : Int) : ∀ m, (pg l2 b m).length ≤ m
  | 0 => Nat.le_refl _
  | m + 1 => by
    have := pg_len l2 b m
    unfold pg
    split
    · rw [List.length_append]; simp; omega
    · omega
def validP (S : PS) (n : Nat) (b : Int) : Int := if 0 ≤ b ∧ b < n then S.v.getD b.toNat 0 else 0
def pagesP (G : G6) (S : PS) (b : Int) : List S24 := if validP S G.b.toNat b = 0 then [] else pg S.l2 b (3 * G.l.toNat)
section
variable {w0 w : World} {L : List Asn} {G : G6} {g m1 m2 v c : Nat} {S : PS}
theorem lkup (HO : Own w0 w (PMs G g m1 m2 v c G.b.toNat S L)) (a : Tri) (o : Obj) : (Instr.lookup 94 (.map (some m2)) (tri a) true).run Try.prog ((w.alloc o).drew) = .ok (.tuple #[((mget a S.l2).map (Value.int .i64)).getD (.int .i64 0), .bool (mget a S.l2).isSome]) ((w.alloc o).drew) :=
  own_lookup keyT Try.underlying94 (HO.alloc' o).drew.pull3 a zero3
set_option maxHeartbeats 8000000 in
set_option maxRecDepth 100000 in
theorem pages_own (b : Int) (hok : G.Ok) (hi : Inv G S) (HO : Own w0 w (PMs G g m1 m2 v c G.b.toNat S L)) :
    Calls Try.prog 28 #[.pointer (some ⟨g, 0, none⟩), .int .i64 b] w fun e w' => ∃ u, e = .returned u ∧ Own w0 w' (CAds u (pagesP G S b) :: PMs G g m1 m2 v c G.b.toNat S L) := by
  have hs := hok.1
  unfold SizesOk at hs
  have hv := valid_own b (hi.fine hok).len HO
  obtain ⟨ln, hln⟩ : ∃ ln : Nat, G.l = ln := ⟨G.l.toNat, by omega⟩
  have hlb : ln ≤ 64 := by omega
  have hV := Aside0.mk hv
  unfold pagesP
  unfold validP
  obtain ⟨z, hz⟩ : ∃ z, z = (if 0 ≤ b ∧ b < (G.b.toNat : Int) then S.v.getD b.toNat 0 else 0) := ⟨_, rfl⟩
  rw [← hz] at hV ⊢
  have HR := Aside0.mk (show Own w0 w (Ads (.slice none 0 0) [] :: PMs G g m1 m2 v c G.b.toNat S L) from (HO.fresh (R := [Ads (.slice none 0 0) []]) (Below.refl _ _) (Hold.one (Kd.R_nil _ _ _ _ _))))
  have HG := Lib.hid hln
  clear hv hs hok hi hz
  by_cases h0 : z = 0
  · subst h0
    rw [if_pos rfl]
    go_enter Try.func28, Try.ntmps28
    go_wp2_with fail
    refine hV.out.mono ?_
    rintro e w1 ⟨rfl, rfl⟩
    go_wp2_with fail
    go_ret
    exact ⟨_, rfl, crow_of HR.out⟩
  · have hzb : (z == 0) = false := by simpa using h0
    rw [if_neg h0, hln, Int.toNat_natCast]
    obtain ⟨_, x1, _, _, _, _, _, _, _⟩ := cells9 HO.pt
    rw [hln] at x1
    clear hln
    go_enter Try.func28, Try.ntmps28
    go_wp2_with fail
    refine hV.out.mono ?_
    rintro e w1 ⟨rfl, rfl⟩
    go_wp2_with fail
    go_loopw [5, 21] (fun v5 v6 wr => ∃ (i : Nat), i ≤ ln ∧ v6 = .int .i64 i ∧ Aside0 (Own w0 wr (Ads v5 (pg S.l2 b (3 * i)) :: PMs G g m1 m2 v c G.b.toNat S L))) (fun _ v6 _ => ln - (intOf v6).toNat)
    case atStart => exact ⟨0, Nat.zero_le _, rfl, HR⟩
    case round =>
      clear HR HO x1
      obtain ⟨i, hi, rfl, HO⟩ := hrel
      by_cases hlt : i < ln
      · have dl : decide ((i : Int) < (ln : Int)) = true := decide_eq_true (by omega)
        go_wp2_with fail
        obtain ⟨wo, rfl⟩ : ∃ wo : World, wo = wr := ⟨_, rfl⟩
        go_loopw [5, 24] (fun v5 v7 wr => ∃ (j : Nat), j ≤ 3 ∧ v7 = .int .i64 j ∧ Aside0 (Own w0 wr (Ads v5 (pg S.l2 b (3 * i + j)) :: PMs G g m1 m2 v c G.b.toNat S L))) (fun _ v7 _ => 3 - (intOf v7).toNat)
        case atStart => exact ⟨0, Nat.zero_le _, rfl, HO⟩
        case round =>
          clear HO
          obtain ⟨j, hj, rfl, HO⟩ := hrel
          by_cases hjt : j < 3
          · have dj : decide ((j : Int) < 3) = true := decide_eq_true (by omega)
            have hpl : plc b (3 * i + j) = (b, (i : Int), (j : Int)) := by
              unfold plc
              rw [show (3 * i + j) / 3 = i by omega, show (3 * i + j) % 3 = j by omega]
            have h1 := lkup HO.out.drop (b, (i : Int), (j : Int)) (.cells #[.int .i64 b, .int .i64 i, .int .i64 j] 24)
            have hlt2 := blk_lt HO.out.drop.pt
            obtain ⟨_, _, _, _, _, _, _, x7, _⟩ := cells9 HO.out.drop.pt
            have hpg : pg S.l2 b (3 * i + (j + 1)) = if (mget (b, (i : Int), (j : Int)) S.l2).isSome = true then pg S.l2 b (3 * i + j) ++ [⟨b, i, j⟩] else pg S.l2 b (3 * i + j) := by
              show pg S.l2 b (3 * i + j + 1) = _
              rw [pg, hpl]; rfl
            have HPL := pg_len S.l2 b (3 * i + j)
            cases hx : mget (b, (i : Int), (j : Int)) S.l2 with
            | none =>
              rw [hx] at h1 hpg
              simp only [Option.map_none, Option.getD_none, Option.isSome_none] at h1
              rw [if_neg (by simp)] at hpg
              have HPG := Lib.hid hpg
              clear hx hpg hpl
              go_wp2_with fail
              go_region
              all_goals go_wp2_with fail
              all_goals go_roundw
              all_goals try (case rel => exact ⟨j + 1, by omega, by go_num, by rw [HPG.out]; exact ⟨(HO.out.alloc' _).drew⟩⟩)
              all_goals (case measure => simp [intOf]; omega)
            | some k =>
              rw [hx] at h1 hpg
              simp only [Option.map_some, Option.getD_some, Option.isSome_some] at h1
              rw [if_pos (by simp)] at hpg
              have HPG := Lib.hid hpg
              have HB := Aside0.mk ((HO.out.alloc' (.cells #[.int .i64 b, .int .i64 i, .int .i64 j] 24)).drew)
              clear hx hpg hpl
              go_wp2_with fail
              go_region
              all_goals go_wp2_with (at_builtin; refine own_append (w0 := w0) k24 rfl (.tmp 41) (.tmp 43) 56 24 (.agg #[.int .i64 0, .int .i64 0, .int .i64 0]) 24 rfl Try.underlying56 info24 rfl (by decide) (by decide) u5 (pg S.l2 b (3 * i + j)) ⟨b, i, j⟩ [.int .i64 b, .int .i64 i, .int .i64 j] rfl (by first | rfl | (go_simp; done)) (k24_mkM _ _ _ ⟨b, i, j⟩) HB.out (by omega) ?_; intro v1 w1 ho)
              all_goals rw [← HPG.out] at ho
              all_goals have HN := Aside0.mk ho
              all_goals go_roundw
              all_goals try (case rel => exact ⟨j + 1, by omega, by go_num, HN⟩)
              all_goals (case measure => simp [intOf]; omega)
          · obtain rfl : j = 3 := by omega
            go_wp2_with fail
            go_roundw
            case rel => exact ⟨i + 1, by omega, by go_num, HO⟩
            case measure => simp [intOf]; omega
      · obtain rfl : i = ln := by omega
        have dl : decide ((i : Int) < (i : Int)) = false := decide_eq_false (by omega)
        go_wp2_with fail
        refine (clip_own _ (by have := pg_len S.l2 b (3 * i); omega) HO.out).mono ?_
        rintro e w2 ⟨u, rfl, ho⟩
        go_wp2_with fail
        go_ret
        exact ⟨_, rfl, ho⟩
end
end Go.Proofs.Ytiblpienmkjmgaa.Pmap
