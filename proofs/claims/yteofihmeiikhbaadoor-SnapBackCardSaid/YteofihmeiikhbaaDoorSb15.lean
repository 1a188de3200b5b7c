/- The law's proof: words, contracts of the functions that it reaches, plain lemmas. -/
import Derived.ArgAppend
import Derived.Below
import Derived.BigQuiet
import Derived.Carry
import Derived.Deep.AppendLies
import Derived.Deep.CutBlock
import Derived.Deep.DeepCutAuto
import Derived.Deep.Draws
import Derived.Deep.LoopGhost
import Derived.Deep.OwnRows
import Derived.Deep.QuietTactic
import Derived.Deep.RegionHeld3
import Derived.Deep.RegionWith
import Derived.KernelRfl
import Derived.Laws.BitsLemmas
import Derived.Laws.BytesArg
import Derived.Laws.IdiomCopy
import Derived.Laws.MakeOwn
import Derived.Laws.OwnMore
import Derived.Laws.Rows
import Derived.Laws.Slices
import Derived.Lib.AppendStr
import Derived.Lib.BufferMore
import Derived.Lib.ConvBytes
import Derived.Lib.Hide
import Derived.Lib.LazyBuf
import Derived.Maps.AppendAt
import Derived.OpenShut
import Derived.OrdersHeld
import Derived.Outline
import Derived.OwnWalk
import Derived.OwnWalkIn
import Derived.RegionTactic
import Derived.RowKit3
import Derived.StillTailTactics
import Derived.Tactics
import Derived.WalkKit
import Derived.WideLaws
import Derived.Test.YteofihmeiikhbaaDoorSb4
import Derived.Test.YteofihmeiikhbaaDoorSb2
import Derived.Test.YteofihmeiikhbaaDoorSb6
import Derived.Shelf.Strings.BuilderK
section
/- A strings.Builder among what a walk owns (forms '_k' of the shelf: what is no row of bytes stands as it stood). -/
set_option linter.unusedVariables false
set_option linter.unusedSimpArgs false
namespace Go.Proofs.YteofihmeiikhbaaDoor.Hw
open Go.RowKit Go.Shelf Go.Proofs.YteofihmeiikhbaaDoorW.PrintWords Go.Proofs.YteofihmeiikhbaaDoor.Mem Go.Proofs.YteofihmeiikhbaaDoor.Own

/-- No row of bytes. -/
def NoB (w : World) (k : Nat) : Prop := ∀ c fz, w.heap[k]? ≠ some (.cells c 5 fz)
def AwayA (A : Asn) : Prop := ∀ (w : World) (B : Nat) (S : Nat → Prop), A.P w B S → A.P w B (fun k => S k ∧ NoB w k)
/-- None of them is a row of bytes. -/
def Away (L : List Asn) : Prop := ∀ (w : World) (B : Nat) (S : Nat → Prop), Hold w B L S → Hold w B L (fun k => S k ∧ NoB w k)
theorem Away.nil : Away [] := fun _ _ _ _ => trivial
theorem Away.cons {A : Asn} {L : List Asn} (h : AwayA A) (hL : Away L) : Away (A :: L) := by
  rintro w B S ⟨S1, S2, h1, h2, h3, h4, h5⟩
  exact ⟨_, _, h w B S1 h1, hL w B S2 h2, fun k hk hk2 => h3 k hk.1 hk2.1, fun k hk => ⟨h4 k hk.1, hk.2⟩, fun k hk => ⟨h5 k hk.1, hk.2⟩⟩
theorem away_pt {g : Nat} {o : Obj} (h : ∀ c fz, o ≠ .cells c 5 fz) : AwayA (Pt g o) := by
  rintro w B S ⟨h1, h2⟩
  refine ⟨h1, h2, fun c fz e => ?_⟩
  rw [h1] at e
  exact h c fz (Option.some.inj e)
theorem rowF_move {w w1 : World} {B n : Nat} {e : TypeId} {v : Value} {xs : List Value} (h : w.ownsRowF B e 1 v n xs) (hm : ∀ k, v.ownBlock = some k → w1.heap[k]? = w.heap[k]?) : w1.ownsRowF B e 1 v n xs := by
  refine ⟨h.1, ?_⟩
  rcases h.2 with hn | ⟨g, cap, cur, fz, hv, hb, hg, r⟩
  · exact .inl hn
  · exact .inr ⟨g, cap, cur, fz, hv, hb, (hm g (by rw [hv]; rfl)).trans hg, r⟩
theorem rowF_at {w : World} {B n : Nat} {e : TypeId} {v : Value} {xs : List Value} (h : w.ownsRowF B e 1 v n xs) {k : Nat} (hk : v.ownBlock = some k) : B ≤ k ∧ k < w.heap.size ∧ ∃ c fz, w.heap[k]? = some (.cells c e fz) := by
  rcases h.2 with ⟨rfl, _⟩ | ⟨g, cap, cur, fz, hv, hb, hg, r⟩
  · simp [Value.ownBlock] at hk
  · have : g = k := by rw [hv] at hk; simpa [Value.ownBlock] using hk
    subst this
    exact ⟨hb, blk_lt hg, _, _, hg⟩
theorem rowF_lower {w : World} {B B' n : Nat} {e : TypeId} {v : Value} {xs : List Value} (h : w.ownsRowF B e 1 v n xs) (hb' : B' ≤ B) : w.ownsRowF B' e 1 v n xs := by
  refine ⟨h.1, ?_⟩
  rcases h.2 with hn | ⟨g, cap, cur, fz, hv, hb, r⟩
  · exact .inl hn
  · exact .inr ⟨g, cap, cur, fz, hv, Nat.le_trans hb' hb, r⟩
/-- A Builder that holds s. -/
def BldA (b : Nat) (s : ByteArray) : Asn where
  P w B S := ∃ p v, (p = .pointer none ∨ p = .pointer (some ⟨b, 0, none⟩)) ∧ B ≤ b ∧ w.heap[b]? = some (.cells #[p, v] 45 (0, 0)) ∧ w.ownsRowF B 5 1 v (Lib.strCells s).length (Lib.strCells s) ∧ v.ownBlock ≠ some b ∧ S b ∧ ∀ k, v.ownBlock = some k → S k
  move := by
    rintro w w1 B S ⟨p, v, h1, h2, h3, h4, h5, h6, h7⟩ hm
    exact ⟨p, v, h1, h2, (hm b h6 (blk_lt h3)).trans h3, rowF_move h4 (fun k hk => hm k (h7 k hk) (rowF_at h4 hk).2.1), h5, h6, h7⟩
  cut := by
    rintro w B S ⟨p, v, h1, h2, h3, h4, h5, h6, h7⟩
    exact ⟨p, v, h1, h2, h3, h4, h5, ⟨h6, blk_lt h3⟩, fun k hk => ⟨h7 k hk, (rowF_at h4 hk).2.1⟩⟩
  mono := by
    rintro w B S S' ⟨p, v, h1, h2, h3, h4, h5, h6, h7⟩ hs
    exact ⟨p, v, h1, h2, h3, h4, h5, hs _ h6, fun k hk => hs _ (h7 k hk)⟩
  lower := by
    rintro w B B' S ⟨p, v, h1, h2, h3, h4, h5, h6, h7⟩ hb
    exact ⟨p, v, h1, Nat.le_trans hb h2, h3, rowF_lower h4 hb, h5, h6, h7⟩
section
variable {w0 w : World} {b : Nat} {s : ByteArray} {L : List Asn}
theorem own_bld (h : Own.Own w0 w L) : Own.Own w0 (w.alloc (.cells #[.pointer none, .slice none 0 0] 45)) (BldA w.heap.size ⟨#[]⟩ :: L) := by
  refine (h.alloc _).map ?_
  rintro S ⟨S1, S2, ⟨h1, h2⟩, r⟩
  refine ⟨S1, S2, ⟨_, _, .inl rfl, h.size, h1, ⟨rfl, .inl ⟨rfl, rfl⟩⟩, by simp [Value.ownBlock], h2, fun k hk => by simp [Value.ownBlock] at hk⟩, r⟩
theorem bld_isF (h : Own.Own w0 w (BldA b s :: L)) : Lib.IsBuilderF 45 5 w0.heap.size b (Lib.strCells s) w := by
  obtain ⟨S, ⟨p, v, h1, h2, h3, h4, h5, _⟩, _⟩ := h.head
  rcases h1 with rfl | rfl
  · exact .inl ⟨h2, v, h3, h4, h5⟩
  · exact .inr ⟨h2, v, h3, h4, h5⟩
theorem bld_after {w' : World} {t : ByteArray} (h : Own.Own w0 w (BldA b s :: L)) (hL : Away L) (hf : Lib.IsBuilderF 45 5 w0.heap.size b (Lib.strCells t) w') (hb : Below w0.heap.size w w') (ho : Lib.OthersKept 5 (some b) w w') : Own.Own w0 w' (BldA b t :: L) := by
  obtain ⟨b0, S, ⟨S1, S2, ⟨p, v, h1, h2, h3, h4, h5, h6, h7⟩, hh, d12, i1, i2⟩, hk⟩ := h
  obtain ⟨p', v', q1, q2, q3, q4, q5⟩ : ∃ p v, (p = .pointer none ∨ p = .pointer (some ⟨b, 0, none⟩)) ∧ w0.heap.size ≤ b ∧ w'.heap[b]? = some (.cells #[p, v] 45 (0, 0)) ∧ w'.ownsRowF w0.heap.size 5 1 v (Lib.strCells t).length (Lib.strCells t) ∧ v.ownBlock ≠ some b := by
    rcases hf with ⟨a1, v, a2, a3, a4⟩ | ⟨a1, v, a2, a3, a4⟩
    · exact ⟨_, v, .inl rfl, a1, a2, a3, a4⟩
    · exact ⟨_, v, .inr rfl, a1, a2, a3, a4⟩
  have hh2 := hL w _ _ hh.cut
  have kp : ∀ k, ((S2 k ∧ k < w.heap.size) ∧ NoB w k) → w'.heap[k]? = w.heap[k]? := by
    rintro k ⟨⟨hk2, hlt⟩, hn⟩
    obtain ⟨o, hobj⟩ : ∃ o, w.heap[k]? = some o := ⟨w.heap[k], Array.getElem?_eq_getElem hlt⟩
    rw [hobj]
    exact ho k o hobj (fun e => d12 k (by rw [Option.some.inj e]; exact h6) hk2) (fun c fz e => hn c fz (by rw [hobj, e]))
  refine ⟨b0.trans hb, fun k => (k = b ∨ v'.ownBlock = some k) ∨ ((S2 k ∧ k < w.heap.size) ∧ NoB w k), ⟨fun k => k = b ∨ v'.ownBlock = some k, fun k => (S2 k ∧ k < w.heap.size) ∧ NoB w k, ⟨p', v', q1, q2, q3, q4, q5, .inl rfl, fun k hk => .inr hk⟩, hh2.move (fun k hk _ => kp k hk), ?_, fun k hk => .inl hk, fun k hk => .inr hk⟩, ?_⟩
  · rintro k (rfl | hk1) hk2
    · exact d12 _ h6 hk2.1.1
    · obtain ⟨_, _, c, fz, hc⟩ := rowF_at q4 hk1
      rw [kp k hk2] at hc
      exact hk2.2 c fz hc
  · rintro k ((rfl | hk1) | hk2)
    · exact ⟨q2, blk_lt q3⟩
    · exact ⟨(rowF_at q4 hk1).1, (rowF_at q4 hk1).2.1⟩
    · exact ⟨(hk k (i2 k hk2.1.1)).1, Nat.lt_of_lt_of_le hk2.1.2 hb.size⟩
theorem own_write {t : ByteArray} (h : Own.Own w0 w (BldA b s :: L)) (hL : Away L) (hl : s.size + t.size ≤ 140737488355328) :
    Calls Tryd.prog 20 #[.pointer (some ⟨b, 0, none⟩), .string t] w fun e w' => e = .returned (.tuple #[.int .i64 t.size, .nilIface]) ∧ Own.Own w0 w' (BldA b (s ++ t) :: L) := by
  refine (Any.Builder_WriteString_k lays166 extra166 w0.heap.size b (Lib.strCells s) t w (bld_isF h) (by rw [Lib.strCells_length]; exact hl) h.size).mono ?_
  rintro e w' ⟨h1, h2, h3, h4⟩
  refine ⟨h1, bld_after h hL (.inr ?_) h3 h4⟩
  have : Lib.strCells (s ++ t) = Lib.strCells s ++ Lib.strCells t := by simp [Lib.strCells]
  rw [this]
  exact h2
theorem own_string (h : Own.Own w0 w (BldA b s :: L)) (hL : Away L) (hs : s.size ≠ 0) :
    Calls Tryd.prog 21 #[.pointer (some ⟨b, 0, none⟩)] w fun e w' => e = .returned (.string s) ∧ Own.Own w0 w' (BldA b s :: L) := by
  refine (Any.Builder_String_k lays169 extra169 w0.heap.size b s.data.toList w (bld_isF h) (fun e => hs (by have := congrArg List.length e; simpa using this))).mono ?_
  rintro e w' ⟨h1, h2, h3, h4⟩
  exact ⟨h1, bld_after h hL h2 h3 h4⟩
end
end Go.Proofs.YteofihmeiikhbaaDoor.Hw
end
