/- Package pmap, by hand: a sector moved, and moved back; things owned, in another order. -/
import Derived.Test.YtiblpienmkjmgaaProg
import Derived.Below
import Derived.Carry
import Derived.Deep.Draws
import Derived.Deep.AppendLies
import Derived.Maps.AppendAt
import Derived.OwnWalk
import Derived.Laws.BytesArg
import Derived.Laws.MakeOwn
import Derived.Laws.OwnMore
import Derived.Deep.OwnRows
import Derived.Tactics
import Derived.Lib.ConvBytes
import Derived.Laws.Slices
import Derived.WalkKit
import Derived.KernelRfl
import Derived.RowKit3
import Derived.Deep.LoopGhost
import Derived.Deep.QuietTactic
import Derived.BigQuiet
import Derived.WideLaws
import Derived.Deep.DeepCutAuto
import Derived.Deep.CutBlock
import Derived.Deep.RegionHeld3
import Derived.Deep.RegionWith
import Derived.Laws.Rows
import Derived.Lib.AppendStr
import Derived.ArgAppend
import Derived.Laws.IdiomCopy
import Derived.OrdersHeld
import Derived.Laws.BitsLemmas
import Derived.Outline
import Derived.RegionTactic
import Derived.Lib.Hide
import Derived.StillTailTactics
import Derived.Deep.RegionWith
import Derived.OpenShut
import Derived.Test.YtiblpienmkjmgaaWWords
import Derived.Test.YtiblpienmkjmgaaPmapL
set_option linter.unusedVariables false
namespace Go.Proofs.Ytiblpienmkjmgaa.Pmap
open Go.RowKit Go.Proofs.YtiblpienmkjmgaaW.PrintWords Go.Proofs.Ytiblpienmkjmgaa.Mem Go.Proofs.Ytiblpienmkjmgaa.Own Go.Proofs.Ytiblpienmkjmgaa.Maps Go.Proofs.Ytiblpienmkjmgaa.PM

theorem hold_perm {w : World} {b : Nat} {L R : List Asn} (hp : L.Perm R) : ∀ S, Hold w b L S → Hold w b R S := by
  induction hp with
  | nil => exact fun _ h => h
  | cons x _ ih => exact fun _ h => Hold.cons ih h
  | swap x y l => exact fun _ h => Hold.swap h
  | trans _ _ ih1 ih2 => exact fun S h => ih2 S (ih1 S h)
theorem own_perm {w0 w : World} {L R : List Asn} (h : Own w0 w L) (hp : L.Perm R) : Own w0 w R := h.map (hold_perm hp)
theorem own_swap {w0 w : World} (A B : List Asn) {L : List Asn} (h : Own w0 w (A ++ (B ++ L))) : Own w0 w (B ++ (A ++ L)) := by
  refine own_perm h ?_
  rw [← List.append_assoc, ← List.append_assoc]
  exact List.Perm.append_right L List.perm_append_comm
section
variable {w0 w : World} {L : List Asn} {G : G6} {g m1 m2 v c n g' m1' m2' v' c' n' : Nat} {S S' : PS}
theorem pms_swap (h : Own w0 w (PMs G g m1 m2 v c n S (PMs G g' m1' m2' v' c' n' S' L))) : Own w0 w (PMs G g' m1' m2' v' c' n' S' (PMs G g m1 m2 v c n S L)) :=
  own_swap [_, _, _, _] [_, _, _, _] h
theorem pms_under {A : Asn} (h : Own w0 w (A :: PMs G g m1 m2 v c n S L)) : Own w0 w (PMs G g m1 m2 v c n S (A :: L)) := own_swap [_] [_, _, _, _] h
theorem pms_over {A : Asn} (h : Own w0 w (PMs G g m1 m2 v c n S (A :: L))) : Own w0 w (A :: PMs G g m1 m2 v c n S L) := own_swap [_, _, _, _] [_] h
theorem atP (k : Int) (HO : Own w0 w (PMs G g m1 m2 v c n S L)) :
    Calls Try.prog 12 #[.pointer (some ⟨g, 0, none⟩), .int .i64 k] w fun e w' => e = .returned (.tuple #[tri ((mget k S.l1).getD (0, 0, 0)), .bool (mget k S.l1).isSome]) ∧ Own w0 w' (PMs G g m1 m2 v c n S L) := at_own k HO
theorem lbaP (a : Tri) (HO : Own w0 w (PMs G g m1 m2 v c n S L)) :
    Calls Try.prog 13 #[.pointer (some ⟨g, 0, none⟩), tri a] w fun e w' => e = .returned (.tuple #[.int .i64 ((mget a S.l2).getD 0), .bool (mget a S.l2).isSome]) ∧ Own w0 w' (PMs G g m1 m2 v c n S L) :=
  (lba_own a (own_swap [_] [_] HO.drop |> fun _ => (own_perm HO (List.Perm.cons _ (List.Perm.swap _ _ _))))).mono fun e w' ⟨he, ho⟩ => ⟨he, own_perm ho (List.Perm.cons _ (List.Perm.swap _ _ _))⟩
theorem totalP (HO : Own w0 w (PMs G g m1 m2 v c n S L)) : Calls Try.prog 15 #[.pointer (some ⟨g, 0, none⟩)] w fun e w' => e = .returned (.int .i64 S.l1.length) ∧ w' = w := total_own HO
end
theorem mget_pos {α β : Type} [DecidableEq α] {a : α} {x : β} : ∀ {l : List (α × β)}, mget a l = some x → 0 < l.length
  | [], h => by simp [mget] at h
  | _ :: _, _ => by simp
theorem setR_moves {G : G6} {S : PS} (hi : Inv G S) {k : Int} {a b : Tri} (hx : mget k S.l1 = some a) (hb : PageIn G b) (hf : mget b S.l2 = none ∨ mget b S.l2 = some k) :
    ∃ T, setR G S k b = (T, 0) ∧ Inv G T ∧ (∀ j, mget j T.l1 = if j = k then some b else mget j S.l1) ∧ T.l1.length = S.l1.length ∧ (mget a T.l2 = none ∨ mget a T.l2 = some k) := by
  have hd := hi.dom k a hx
  have he : setR G S k b = (putP (dropP S k) k b, 0) := by
    unfold setR
    rw [if_neg (by intro h; rcases h with h | h; exact h hd.1; exact h hb), if_pos hf]
  have hT : Inv G (putP (dropP S k) k b) := by have := setR_inv hi k b; rw [he] at this; exact this
  have hg : ∀ j, mget j (putP (dropP S k) k b).l1 = if j = k then some b else mget j S.l1 := by
    intro j
    show mget j (mset k b (dropP S k).l1) = _
    rw [mget_set]
    by_cases e : j = k
    · rw [if_pos e, if_pos e]
    · rw [if_neg e, if_neg e, (hi.drop k).2.2 j e]
  refine ⟨_, he, hT, hg, ?_, ?_⟩
  · show (mset k b (dropP S k).l1).length = _
    rw [mset_len, (hi.drop k).2.1]
    have e : (dropP S k).l1 = mdel k S.l1 := by unfold dropP; rw [hx]
    have := mget_pos hx
    rw [e, mdel_len, hx]
    simp; omega
  · cases h : mget a (putP (dropP S k) k b).l2 with
    | none => exact .inl rfl
    | some j =>
      refine .inr ?_
      have h1 := (hT.bij j a).2 h
      rw [hg j] at h1
      by_cases e : j = k
      · rw [e]
      · rw [if_neg e] at h1
        have h2 := (hi.bij j a).1 h1
        rw [(hi.bij k a).1 hx] at h2
        exact absurd (Option.some.inj h2).symm e
structure SameP (G : G6) (S' S : PS) : Prop where
  inv : Inv G S'
  get : ∀ k, mget k S'.l1 = mget k S.l1
  len : S'.l1.length = S.l1.length
theorem move_law {G : G6} {S : PS} (hi : Inv G S) {k : Int} {a : Tri} (hx : mget k S.l1 = some a) (b : Tri) :
    (moveR G S a b = (S, 1) ∧ mget b S.l2 = none) ∨
    (∃ T U, moveR G S a b = (T, 0) ∧ Inv G T ∧ moveR G T b a = (U, 0) ∧ SameP G U S ∧ (mget b S.l2 = none ∨ mget b S.l2 = some k ∧ b = a)) ∨
    (∃ o, moveR G S a b = (S, 5) ∧ mget b S.l2 = some o ∧ b ≠ a) := by
  have hd := hi.dom k a hx
  have hm : ∀ b, moveR G S a b = setR G S k b := by intro b; unfold moveR; rw [(hi.bij k a).1 hx]
  rw [hm b]
  by_cases hb : PageIn G b
  · by_cases hf : mget b S.l2 = none ∨ mget b S.l2 = some k
    · obtain ⟨T, e1, i1, g1, l1, f1⟩ := setR_moves hi hx hb hf
      have hT : mget k T.l1 = some b := by rw [g1 k, if_pos rfl]
      have hm2 : moveR G T b a = setR G T k a := by unfold moveR; rw [(i1.bij k b).1 hT]
      obtain ⟨U, e2, i2, g2, l2, _⟩ := setR_moves i1 hT hd.2 f1
      refine .inr (.inl ⟨T, U, e1, i1, by rw [hm2, e2], ⟨i2, fun j => ?_, l2.trans l1⟩, ?_⟩)
      · rw [g2 j]
        by_cases e : j = k
        · rw [if_pos e, e, hx]
        · rw [if_neg e, g1 j, if_neg e]
      · rcases hf with h | h
        · exact .inl h
        · have := (hi.bij k b).2 h
          rw [hx] at this
          exact .inr ⟨h, (Option.some.inj this).symm⟩
    · cases ho : mget b S.l2 with
      | none => exact absurd (.inl ho) hf
      | some o =>
        refine .inr (.inr ⟨o, ?_, rfl, fun e => ?_⟩)
        · unfold setR
          rw [if_neg (by intro h; rcases h with h | h; exact h hd.1; exact h hb), if_neg hf]
        · rw [e, (hi.bij k a).1 hx] at ho
          exact hf (.inr (by rw [e]; exact (hi.bij k a).1 hx))
  · refine .inl ⟨by unfold setR; rw [if_pos (.inr hb)], ?_⟩
    cases ho : mget b S.l2 with
    | none => rfl
    | some o => exact absurd (hi.dom o b ((hi.bij o b).2 ho)).2 hb
end Go.Proofs.Ytiblpienmkjmgaa.Pmap
