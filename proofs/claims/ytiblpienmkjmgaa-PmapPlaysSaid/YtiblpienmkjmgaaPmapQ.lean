/- The document's answer for the map: in plain numbers. -/
import Derived.Test.YtiblpienmkjmgaaPmapKO
import Derived.Test.YtiblpienmkjmgaaPMGeomRefCheck
import Derived.Test.YtiblpienmkjmgaaPMx13
import Derived.Test.YtiblpienmkjmgaaPMx12
import Derived.Test.YtiblpienmkjmgaaPMx11
import Derived.Test.YtiblpienmkjmgaaPMx10
set_option linter.unusedVariables false
namespace Go.Proofs.Ytiblpienmkjmgaa.Pmap
open Go.RowKit Go.Proofs.YtiblpienmkjmgaaW.PrintWords Go.Proofs.Ytiblpienmkjmgaa.Maps Go.Proofs.Ytiblpienmkjmgaa.PM

theorem ref_put_l0 (l : List Int) (a : Nat) (v : Int) (hm : l.length ≤ 1000000) (d : Nat) : ∀ (k i : Nat), i ≤ l.length → l.length - i = d → d < k →
    deckleref14_Put.l0 k l a v ((l.set a v).take i) i = some (l.set a v) := by
  induction d with
  | zero =>
    intro k i h1 hd hk
    obtain ⟨k, rfl⟩ : ∃ m, k = m + 1 := ⟨k - 1, by omega⟩
    simp only [deckleref14_Put.l0]
    rw [if_neg (by omega), List.take_of_length_le (by rw [List.length_set]; omega)]
  | succ d ih =>
    intro k i h1 hd hk
    obtain ⟨k, rfl⟩ : ∃ m, k = m + 1 := ⟨k - 1, by omega⟩
    have hlt : i < l.length := by omega
    have hl : ((l.set a v).take i).length = i := by rw [List.length_take, List.length_set]; omega
    have hs : (l.set a v).take (i + 1) = (l.set a v).take i ++ [if i = a then v else rd l i] := by
      rw [List.take_succ_eq_append_getElem (by rw [List.length_set]; exact hlt), List.getElem_set]
      congr 2
      by_cases e : a = i
      · rw [if_pos e, if_pos e.symm]
      · rw [if_neg e, if_neg (fun h => e h.symm)]
        show l[i] = l.getD (i : Int).toNat 0
        rw [Int.toNat_natCast, List.getD_eq_getElem?_getD, List.getElem?_eq_getElem hlt]
        rfl
    have hw : wrap64 ((i : Int) + 1) = ((i + 1 : Nat) : Int) := by unfold wrap64; omega
    simp only [deckleref14_Put.l0]
    rw [if_pos (by omega), hl, hw]
    have hnext := ih k (i + 1) (by omega) (by omega) (by omega)
    rw [hs] at hnext
    by_cases e : i = a
    · rw [if_pos (by omega), if_pos (by omega)]
      rw [if_pos e] at hnext
      exact hnext
    · rw [if_neg (by omega), if_pos (by omega), if_pos (by omega)]
      rw [if_neg e] at hnext
      exact hnext
theorem ref_put (l : List Int) (a v : Int) (h0 : 0 ≤ a) (hm : l.length ≤ 1000000) (k : Nat) (hk : l.length < k) : deckleref14_Put.f k l a v = some (l.set a.toNat v) := by
  obtain ⟨n, rfl⟩ := Int.eq_ofNat_of_zero_le h0
  exact ref_put_l0 l n v hm l.length k 0 (by omega) (by omega) hk
theorem G6.Ok.wf {G : G6} (h : G.Ok) : (Lit.int .i64 G.b).wf = true ∧ (Lit.int .i64 G.l).wf = true := by
  have hs := h.1
  unfold SizesOk at hs
  exact ⟨WalkArith.wf_i64 (by omega), WalkArith.wf_i64 (by omega)⟩
theorem num_mul {G : G6} (hok : G.Ok) {a : Tri} (h : PageIn G a) : 0 ≤ a.1 * G.l ∧ a.1 * G.l ≤ 64 * 64 := by
  have hs := hok.1
  unfold SizesOk at hs
  unfold PageIn at h
  exact ⟨Int.mul_nonneg h.1.1 (by omega), Int.mul_le_mul (by omega) (by omega) (by omega) (by omega)⟩
theorem has_some (b l y s p w u v q : Int) : deckleref06_Has.f b l y s p w u v q = some (decide ((0 ≤ u ∧ u < b) ∧ (0 ≤ v ∧ v < l) ∧ (0 ≤ q ∧ q < 3))) := by
  unfold deckleref06_Has.f
  by_cases c1 : u ≥ 0
  rotate_left
  · rw [if_neg c1]; congr 1; symm; simp; omega
  rw [if_pos c1]
  by_cases c2 : u < b
  rotate_left
  · rw [if_neg c2]; congr 1; symm; simp; omega
  rw [if_pos c2]
  by_cases c3 : v ≥ 0
  rotate_left
  · rw [if_neg c3]; congr 1; symm; simp; omega
  rw [if_pos c3]
  by_cases c4 : v < l
  rotate_left
  · rw [if_neg c4]; congr 1; symm; simp; omega
  rw [if_pos c4]
  by_cases c5 : q ≥ 0
  rotate_left
  · rw [if_neg c5]; congr 1; symm; simp; omega
  rw [if_pos c5]
  congr 1
  by_cases c6 : q < 3 <;> simp [c6] <;> omega
section
variable {G : G6} (hok : G.Ok)
include hok
theorem ref_number (a : Tri) (k : Nat) (hk : 26002 ≤ k) : deckleref06_Number.f k G.b G.l G.y G.s G.p G.w a.1 a.2.1 a.2.2 = some (if PageIn G a then (numOf G a, 0) else (0, 1)) := by
  unfold deckleref06_Number.f
  rw [ref_check _ _ _ _ _ _ hok.wf.1 hok.wf.2 k hk, if_pos (show GeoOk G.b G.l G.y G.s G.p G.w from hok), has_some]
  simp only [Option.bind_some, if_true]
  by_cases c : PageIn G a
  · have hm := num_mul hok c
    have c' := c
    unfold PageIn at c'
    have hs := hok.1
    unfold SizesOk at hs
    rw [if_pos c, if_pos (by simp; omega)]
    unfold numOf
    rw [w64 (x := a.1 * G.l) (by omega) (by omega), w64 (x := a.1 * G.l + a.2.1) (by omega) (by omega), w64 (x := (a.1 * G.l + a.2.1) * 3) (by omega) (by omega), w64 (by omega) (by omega)]
  · rw [if_neg c, if_neg (by unfold PageIn at c; simp; omega)]
theorem num_range {a : Tri} (h : PageIn G a) : 0 ≤ numOf G a ∧ numOf G a < G.b * G.l * 3 ∧ numOf G a / 3 / G.l = a.1 ∧ numOf G a / 3 % G.l = a.2.1 ∧ numOf G a % 3 = a.2.2 := by
  have hm := num_mul hok h
  have hs := hok.1
  unfold SizesOk at hs
  unfold PageIn at h
  unfold numOf
  have e1 : ((a.1 * G.l + a.2.1) * 3 + a.2.2) / 3 = a.1 * G.l + a.2.1 := by omega
  have e2 : (a.1 * G.l + a.2.1) / G.l = a.1 := by
    rw [Int.add_comm, Int.add_mul_ediv_right _ _ (by omega), Int.ediv_eq_zero_of_lt (by omega) (by omega)]; omega
  have e3 : (a.1 * G.l + a.2.1) % G.l = a.2.1 := by
    rw [Int.add_comm, Int.add_mul_emod_self_right, Int.emod_eq_of_lt (by omega) (by omega)]
  have m2 : (a.1 + 1) * G.l ≤ G.b * G.l := Int.mul_le_mul_of_nonneg_right (by omega) (by omega)
  rw [Int.add_mul] at m2
  rw [e1, e2, e3]
  omega
theorem num_inj {a b : Tri} (ha : PageIn G a) (hb : PageIn G b) (h : numOf G a = numOf G b) : a = b := by
  obtain ⟨_, _, a1, a2, a3⟩ := num_range hok ha
  obtain ⟨_, _, b1, b2, b3⟩ := num_range hok hb
  rw [h] at a1 a2 a3
  obtain ⟨x, y, z⟩ := a
  obtain ⟨x', y', z'⟩ := b
  simp only [Prod.mk.injEq]
  exact ⟨a1.symm.trans b1, a2.symm.trans b2, a3.symm.trans b3⟩
theorem ref_at {a : Tri} (h : PageIn G a) (k : Nat) (hk : 26002 ≤ k) : deckleref06_At.f k G.b G.l G.y G.s G.p G.w (numOf G a) = some (a.1, a.2.1, a.2.2, 0) := by
  obtain ⟨r1, r2, r3, r4, r5⟩ := num_range hok h
  have hs := hok.1
  unfold SizesOk at hs
  unfold deckleref06_At.f
  rw [ref_check _ _ _ _ _ _ hok.wf.1 hok.wf.2 k hk, if_pos (show GeoOk G.b G.l G.y G.s G.p G.w from hok)]
  simp only [Option.bind_some, if_true]
  have m1 : 0 ≤ G.b * G.l := Int.mul_nonneg (by omega) (by omega)
  have m2 : G.b * G.l ≤ 64 * 64 := Int.mul_le_mul (by omega) (by omega) (by omega) (by omega)
  rw [w64 (x := G.b * G.l) (by omega) (by omega), w64 (x := G.b * G.l * 3) (by omega) (by omega), w64 (x := 3 * G.l) (by omega) (by omega)]
  rw [if_neg (by omega), if_neg (by omega), if_neg (by omega), if_neg (by omega), Int.tdiv_eq_ediv_of_nonneg (by omega), Int.tdiv_eq_ediv_of_nonneg (by omega), w64 (x := numOf G a / 3) (by omega) (by omega), Int.tmod_eq_emod_of_nonneg (by omega), Int.tmod_eq_emod_of_nonneg (by omega), ← Int.ediv_ediv_of_nonneg (by omega)]
  rw [r3, r4, r5]
  unfold PageIn at h
  rw [w64 (by omega) (by omega)]
end
/-- The first place of a number from a place on, or -1. -/
def ownF (xs : List Int) (n : Int) (i : Nat) : Int := match (xs.drop i).findIdx? (fun x => x == n) with
  | none => -1
  | some j => (i + j : Nat)
theorem owner_l0 (b l y s p w n : Int) (xs : List Int) (hm : xs.length ≤ 1000000) (d : Nat) : ∀ (k i : Nat), i ≤ xs.length → xs.length - i = d → d < k → deckleref19_Owner.l0 k n i b l y s p w xs = some (ownF xs n i) := by
  induction d with
  | zero =>
    intro k i h1 hd hk
    obtain ⟨k, rfl⟩ : ∃ m, k = m + 1 := ⟨k - 1, by omega⟩
    simp only [deckleref19_Owner.l0]
    rw [if_neg (by omega)]
    unfold ownF
    rw [List.drop_of_length_le (by omega)]; rfl
  | succ d ih =>
    intro k i h1 hd hk
    obtain ⟨k, rfl⟩ : ∃ m, k = m + 1 := ⟨k - 1, by omega⟩
    have hlt : i < xs.length := by omega
    have hw : wrap64 ((i : Int) + 1) = ((i + 1 : Nat) : Int) := by unfold wrap64; omega
    have hr : rd xs (i : Int) = xs[i] := by
      show xs.getD (i : Int).toNat 0 = _
      rw [Int.toNat_natCast, List.getD_eq_getElem?_getD, List.getElem?_eq_getElem hlt]; rfl
    simp only [deckleref19_Owner.l0]
    rw [if_pos (by omega), if_pos (by omega), hr, hw]
    have hd' : xs.drop i = xs[i] :: xs.drop (i + 1) := List.drop_eq_getElem_cons hlt
    by_cases e : xs[i] = n
    · rw [if_pos e]
      unfold ownF
      rw [hd', List.findIdx?_cons]
      simp [e]
    · rw [if_neg e, ih k (i + 1) (by omega) (by omega) (by omega)]
      unfold ownF
      rw [hd', List.findIdx?_cons]
      have eb : (xs[i] == n) = false := by simpa using e
      rw [eb]
      cases (xs.drop (i + 1)).findIdx? (fun x => x == n) with
      | none => rfl
      | some j => simp; omega
theorem ref_owner (b l y s p w n : Int) (xs : List Int) (hm : xs.length ≤ 1000000) (k : Nat) (hk : xs.length < k) : deckleref19_Owner.f k b l y s p w xs n = some (ownF xs n 0) :=
  owner_l0 b l y s p w n xs hm xs.length k 0 (by omega) (by omega) hk
/-- A map, and the document's list of numbers. -/
def numO (G : G6) : Option Tri → Int
  | none => -1
  | some a => numOf G a
structure RefOf (G : G6) (S : PS) (xs : List Int) : Prop where
  len : (xs.length : Int) = G.s
  at_ : ∀ i : Nat, i < xs.length → xs.getD i 0 = numO G (mget (i : Int) S.l1)
theorem ownF_spec (xs : List Int) (n : Int) : (ownF xs n 0 = -1 ∧ ∀ i : Nat, i < xs.length → xs.getD i 0 ≠ n) ∨ (∃ i : Nat, ownF xs n 0 = i ∧ i < xs.length ∧ xs.getD i 0 = n) := by
  unfold ownF
  rw [List.drop_zero]
  cases h : xs.findIdx? (fun x => x == n) with
  | none =>
    refine .inl ⟨rfl, fun i hi e => ?_⟩
    have := List.findIdx?_eq_none_iff.1 h (xs.getD i 0) (by rw [List.getD_eq_getElem?_getD, List.getElem?_eq_getElem hi]; exact List.getElem_mem hi)
    simp at this
    exact this (by rw [← List.getD_eq_getElem?_getD]; exact e)
  | some j =>
    obtain ⟨hj, h1, _⟩ := List.findIdx?_eq_some_iff_getElem.1 h
    refine .inr ⟨j, by simp, hj, ?_⟩
    rw [List.getD_eq_getElem?_getD, List.getElem?_eq_getElem hj]
    simpa using h1
section
variable {G : G6} {S : PS} {xs : List Int}
theorem RefOf.small (h : RefOf G S xs) (hok : G.Ok) : xs.length ≤ 4096 := by
  have hs := hok.1
  unfold SizesOk at hs
  have := h.len
  omega
theorem RefOf.owner (h : RefOf G S xs) (hok : G.Ok) (hi : Inv G S) {a : Tri} (ha : PageIn G a) : ownF xs (numOf G a) 0 = (mget a S.l2).getD (-1) := by
  rcases ownF_spec xs (numOf G a) with ⟨h1, h2⟩ | ⟨i, h1, h2, h3⟩
  · rw [h1]
    cases hx : mget a S.l2 with
    | none => rfl
    | some k =>
      have hk := (hi.bij k a).2 hx
      have hd := (hi.dom k a hk).1
      unfold SecIn at hd
      have hl := h.len
      have := h.at_ k.toNat (by omega)
      rw [show ((k.toNat : Nat) : Int) = k by omega, hk] at this
      exact absurd this (h2 _ (by omega))
  · rw [h1]
    have h4 := h.at_ i h2
    rw [h3] at h4
    have hnn := (num_range hok ha).1
    cases hx : mget (i : Int) S.l1 with
    | none => rw [hx] at h4; simp only [numO] at h4; omega
    | some b =>
      rw [hx] at h4
      simp only [numO] at h4
      have := num_inj hok ha (hi.dom _ _ hx).2 h4
      rw [← this] at hx
      rw [(hi.bij _ _).1 hx]; rfl
theorem RefOf.noPage (h : RefOf G S xs) (hok : G.Ok) (hi : Inv G S) {a : Tri} (ha : ¬ PageIn G a) : mget a S.l2 = none := by
  cases hx : mget a S.l2 with
  | none => rfl
  | some k => exact absurd (hi.dom k a ((hi.bij k a).2 hx)).2 ha
theorem getD_setN (xs : List Int) (p i : Nat) (v : Int) (h : p < xs.length) : (xs.set p v).getD i 0 = if i = p then v else xs.getD i 0 := getD_setI xs p i v h
theorem RefOf.put (h : RefOf G S xs) {T : PS} (k : Nat) (hk : k < xs.length) (m : Option Tri) (hT : ∀ j, mget j T.l1 = if j = (k : Int) then m else mget j S.l1) : RefOf G T (xs.set k (numO G m)) := by
  refine ⟨by rw [List.length_set]; exact h.len, fun i hi => ?_⟩
  rw [List.length_set] at hi
  rw [getD_setN _ _ _ _ hk, hT]
  by_cases e : i = k
  · rw [if_pos e, if_pos (by omega)]
  · rw [if_neg e, if_neg (by omega)]; exact h.at_ i hi
theorem ref_clear (h : RefOf G S xs) (hok : G.Ok) (hi : Inv G S) (k : Int) (K : Nat) (hK : 5000 ≤ K) : ∃ xs', deckleref19_Clear.f K G.b G.l G.y G.s G.p G.w xs k = some (G.b, G.l, G.y, G.s, G.p, G.w, xs', (clearR G S k).2) ∧ RefOf G (clearR G S k).1 xs' := by
  have hl := h.len
  have hsm := h.small hok
  unfold deckleref19_Clear.f clearR
  by_cases hs : SecIn G k
  · have hs' := hs
    unfold SecIn at hs'
    rw [if_neg (by omega), if_neg (by omega), if_pos hs, ref_put _ _ _ hs'.1 (by omega) _ (by omega)]
    refine ⟨_, rfl, ?_⟩
    refine h.put k.toNat (by omega) none (fun j => ?_)
    have hd := hi.drop k
    by_cases e : j = k
    · rw [if_pos (by omega), e]; exact hd.2.1
    · rw [if_neg (by omega)]; exact hd.2.2 j e
  · rw [if_neg hs]
    have hs' := hs
    unfold SecIn at hs'
    refine ⟨xs, ?_, h⟩
    by_cases h0 : k < 0
    · rw [if_pos h0]
    · rw [if_neg h0, if_pos (by omega)]
theorem ref_set (h : RefOf G S xs) (hok : G.Ok) (hi : Inv G S) (k : Int) (a : Tri) (K : Nat) (hK : 26002 ≤ K) : ∃ xs', deckleref19_Set.f K G.b G.l G.y G.s G.p G.w xs k a.1 a.2.1 a.2.2 = some (G.b, G.l, G.y, G.s, G.p, G.w, xs', (setR G S k a).2) ∧ RefOf G (setR G S k a).1 xs' := by
  have hl := h.len
  have hsm := h.small hok
  obtain ⟨K', rfl⟩ : ∃ m, K = m + 1 := ⟨K - 1, by omega⟩
  unfold deckleref19_Set.f setR
  rw [ref_number hok a _ hK]
  simp only [Option.bind_some, deckleref19_Set.j0]
  by_cases hs : SecIn G k
  · have hs' := hs
    unfold SecIn at hs'
    rw [if_neg (by omega), if_neg (by omega)]
    by_cases hp : PageIn G a
    · rw [if_pos hp, if_neg (by simp), if_neg (show ¬ (¬ SecIn G k ∨ ¬ PageIn G a) by simp [hs, hp]), ref_owner _ _ _ _ _ _ _ _ (by omega) _ (by omega), h.owner hok hi hp]
      simp only [Option.bind_some]
      cases hx : mget a S.l2 with
      | none =>
        simp only [Option.getD_none]
        rw [if_neg (by omega), if_pos (by simp), ref_put _ _ _ hs'.1 (by omega) _ (by omega)]
        refine ⟨_, rfl, h.put k.toNat (by omega) (some a) (fun j => ?_)⟩
        show mget j (mset k a (dropP S k).l1) = _
        rw [mget_set]
        by_cases e : j = k
        · rw [if_pos e, if_pos (by omega)]
        · rw [if_neg e, if_neg (by omega), (hi.drop k).2.2 j e]
      | some o =>
        have ho := (hi.dom o a ((hi.bij o a).2 hx)).1
        unfold SecIn at ho
        simp only [Option.getD_some]
        rw [if_pos ho.1]
        by_cases e : o = k
        · subst e
          rw [if_pos rfl, if_pos (by simp), ref_put _ _ _ hs'.1 (by omega) _ (by omega)]
          refine ⟨_, rfl, h.put o.toNat (by omega) (some a) (fun j => ?_)⟩
          show mget j (mset o a (dropP S o).l1) = _
          rw [mget_set]
          by_cases e : j = o
          · rw [if_pos e, if_pos (by omega)]
          · rw [if_neg e, if_neg (by omega), (hi.drop o).2.2 j e]
        · rw [if_neg e, if_neg (by simp [e])]
          exact ⟨xs, rfl, h⟩
    · rw [if_neg hp, if_pos (by simp), if_pos (.inr hp)]
      exact ⟨xs, rfl, h⟩
  · have hs' := hs
    unfold SecIn at hs'
    rw [if_pos (show ¬ SecIn G k ∨ ¬ PageIn G a from .inl hs)]
    refine ⟨xs, ?_, h⟩
    by_cases h0 : k < 0
    · rw [if_pos h0]; rfl
    · rw [if_neg h0, if_pos (by omega)]; rfl
theorem ref_lba (h : RefOf G S xs) (hok : G.Ok) (hi : Inv G S) (a : Tri) (K : Nat) (hK : 26002 ≤ K) : deckleref19_Lba.f K G.b G.l G.y G.s G.p G.w xs a.1 a.2.1 a.2.2 = some ((mget a S.l2).getD 0, (mget a S.l2).isSome) := by
  have hsm := h.small hok
  unfold deckleref19_Lba.f
  rw [ref_number hok a _ hK]
  simp only [Option.bind_some]
  by_cases hp : PageIn G a
  · rw [if_pos hp, if_pos rfl, ref_owner _ _ _ _ _ _ _ _ (by omega) _ (by omega), h.owner hok hi hp]
    simp only [Option.bind_some]
    cases hx : mget a S.l2 with
    | none => rfl
    | some o =>
      have ho := (hi.dom o a ((hi.bij o a).2 hx)).1
      unfold SecIn at ho
      simp only [Option.getD_some]
      rw [if_neg (by omega)]; rfl
  · rw [if_neg hp, if_neg (by simp), h.noPage hok hi hp]; rfl
theorem ref_move (h : RefOf G S xs) (hok : G.Ok) (hi : Inv G S) (a b : Tri) (K : Nat) (hK : 26002 ≤ K) : ∃ xs', deckleref19_Move.f K G.b G.l G.y G.s G.p G.w xs a.1 a.2.1 a.2.2 b.1 b.2.1 b.2.2 = some (G.b, G.l, G.y, G.s, G.p, G.w, xs', (moveR G S a b).2) ∧ RefOf G (moveR G S a b).1 xs' := by
  unfold deckleref19_Move.f moveR
  rw [ref_lba h hok hi a K hK]
  simp only [Option.bind_some]
  cases hx : mget a S.l2 with
  | none => exact ⟨xs, rfl, h⟩
  | some k =>
    obtain ⟨xs', h1, h2⟩ := ref_set h hok hi k b K hK
    simp only [Option.getD_some, Option.isSome_some]
    rw [if_pos trivial, h1]
    exact ⟨xs', rfl, h2⟩
theorem ref_atL (h : RefOf G S xs) (hok : G.Ok) (hi : Inv G S) (k : Int) (K : Nat) (hK : 26002 ≤ K) : deckleref19_At.f K G.b G.l G.y G.s G.p G.w xs k = some (((mget k S.l1).getD (0, 0, 0)).1, ((mget k S.l1).getD (0, 0, 0)).2.1, ((mget k S.l1).getD (0, 0, 0)).2.2, (mget k S.l1).isSome) := by
  have hl := h.len
  unfold deckleref19_At.f
  by_cases hs : SecIn G k
  · have hs' := hs
    unfold SecIn at hs'
    have h1 := h.at_ k.toNat (by omega)
    rw [show ((k.toNat : Nat) : Int) = k by omega] at h1
    have h2 : rd xs k = xs.getD k.toNat 0 := rfl
    rw [if_neg (by omega), if_neg (by omega), if_pos hs'.1, if_pos (by omega), h2, h1]
    cases hx : mget k S.l1 with
    | none => rfl
    | some a =>
      have ha := (hi.dom k a hx).2
      have := (num_range hok ha).1
      simp only [Option.getD_some, Option.isSome_some]
      rw [show numO G (some a) = numOf G a from rfl, if_neg (by omega), ref_at hok ha K hK]; rfl
  · have hn : mget k S.l1 = none := by
      cases hx : mget k S.l1 with
      | none => rfl
      | some a => exact absurd (hi.dom k a hx).1 hs
    unfold SecIn at hs
    rw [hn]
    by_cases h0 : k < 0
    · rw [if_pos h0]; rfl
    · rw [if_neg h0, if_pos (by omega)]; rfl
theorem total_l0 (h : RefOf G S xs) (hok : G.Ok) (hi : Inv G S) (d : Nat) : ∀ (k i : Nat), i ≤ xs.length → xs.length - i = d → d < k →
    deckleref19_Total.l0 k (cnt1 S i) i G.b G.l G.y G.s G.p G.w xs = some ((cnt1 S xs.length : Nat) : Int) := by
  have hsm := h.small hok
  induction d with
  | zero =>
    intro k i h1 hd hk
    obtain ⟨k, rfl⟩ : ∃ m, k = m + 1 := ⟨k - 1, by omega⟩
    obtain rfl : i = xs.length := by omega
    simp only [deckleref19_Total.l0]
    rw [if_neg (by omega)]
  | succ d ih =>
    intro k i h1 hd hk
    obtain ⟨k, rfl⟩ : ∃ m, k = m + 1 := ⟨k - 1, by omega⟩
    have hlt : i < xs.length := by omega
    have hc := cnt1_le S i
    have hw : wrap64 ((i : Int) + 1) = ((i + 1 : Nat) : Int) := by unfold wrap64; omega
    have hw2 : wrap64 ((cnt1 S i : Int) + 1) = ((cnt1 S i + 1 : Nat) : Int) := by unfold wrap64; omega
    have hr : rd xs (i : Int) = xs.getD i 0 := by show xs.getD (i : Int).toNat 0 = _; rw [Int.toNat_natCast]
    have hst : cnt1 S (i + 1) = if (mget (i : Int) S.l1).isSome = true then cnt1 S i + 1 else cnt1 S i := rfl
    have hn := ih k (i + 1) (by omega) (by omega) (by omega)
    simp only [deckleref19_Total.l0]
    rw [if_pos (by omega), if_pos (by omega), hr, h.at_ i hlt, hw, hw2]
    cases hx : mget (i : Int) S.l1 with
    | none =>
      rw [hx, if_neg (by simp)] at hst
      rw [hst] at hn
      rw [show numO G none = -1 from rfl, if_neg (by omega)]
      exact hn
    | some a =>
      rw [hx, if_pos (by simp)] at hst
      rw [hst] at hn
      have := (num_range hok (hi.dom _ a hx).2).1
      rw [show numO G (some a) = numOf G a from rfl, if_pos (by omega)]
      exact hn
theorem ref_total (h : RefOf G S xs) (hok : G.Ok) (hi : Inv G S) (K : Nat) (hK : 5000 ≤ K) : deckleref19_Total.f K G.b G.l G.y G.s G.p G.w xs = some ((S.l1.length : Nat) : Int) := by
  have hsm := h.small hok
  have hl := h.len
  unfold deckleref19_Total.f
  rw [show (0 : Int) = ((cnt1 S 0 : Nat) : Int) from rfl]
  have := total_l0 h hok hi xs.length K 0 (by omega) (by omega) (by omega)
  rw [show ((0 : Nat) : Int) = ((cnt1 S 0 : Nat) : Int) from rfl] at this
  rw [this]
  congr 1
  rw [cnt1_is hi, List.countP_eq_length.2]
  intro x hm
  have := hi.keys x.1 (List.mem_map_of_mem hm)
  unfold SecIn at this
  exact decide_eq_true (by omega)
theorem pages_l0 (h : RefOf G S xs) (hok : G.Ok) (hi : Inv G S) (b : Int) (hb0 : 0 ≤ b) (hb : b < G.b) (d : Nat) : ∀ (k i : Nat), i ≤ 3 * G.l.toNat → 3 * G.l.toNat - i = d → d + 26010 < k →
    deckleref19_Pages.l0 k b (pg S.l2 b i) (3 * G.l * b + i) G.b G.l G.y G.s G.p G.w xs = some (pg S.l2 b (3 * G.l.toNat)) := by
  have hsm := h.small hok
  have hs := hok.1
  unfold SizesOk at hs
  have m1 : 0 ≤ G.l * b := Int.mul_nonneg (by omega) (by omega)
  have m2 : G.l * b ≤ 64 * 64 := Int.mul_le_mul (by omega) (by omega) (by omega) (by omega)
  have m3 : 3 * G.l * b = 3 * (G.l * b) := Int.mul_assoc _ _ _
  have m4 : 3 * G.l * (b + 1) = 3 * (G.l * b) + 3 * G.l := by rw [Int.mul_add, m3]; omega
  have hend : wrap64 (wrap64 (3 * G.l) * wrap64 (b + 1)) = 3 * (G.l * b) + 3 * G.l := by
    rw [w64 (x := 3 * G.l) (by omega) (by omega), w64 (x := b + 1) (by omega) (by omega), m4, w64 (by omega) (by omega)]
  rw [m3]
  induction d with
  | zero =>
    intro k i h1 hd hk
    obtain ⟨k, rfl⟩ : ∃ m, k = m + 1 := ⟨k - 1, by omega⟩
    obtain rfl : i = 3 * G.l.toNat := by omega
    simp only [deckleref19_Pages.l0]
    rw [hend, if_neg (by omega)]
  | succ d ih =>
    intro k i h1 hd hk
    obtain ⟨k, rfl⟩ : ∃ m, k = m + 1 := ⟨k - 1, by omega⟩
    have hpg : pg S.l2 b (i + 1) = if (mget (plc b i) S.l2).isSome = true then pg S.l2 b i ++ [ofTri (plc b i)] else pg S.l2 b i := rfl
    have hin : PageIn G (plc b i) := ⟨⟨hb0, hb⟩, ⟨by show (0 : Int) ≤ ((i / 3 : Nat) : Int); omega, by show ((i / 3 : Nat) : Int) < G.l; omega⟩, by show (0 : Int) ≤ ((i % 3 : Nat) : Int); omega, by show ((i % 3 : Nat) : Int) < 3; omega⟩
    have hnum : 3 * (G.l * b) + (i : Int) = numOf G (plc b i) := by
      show _ = (b * G.l + ((i / 3 : Nat) : Int)) * 3 + ((i % 3 : Nat) : Int)
      rw [Int.mul_comm b G.l]
      omega
    have hw : wrap64 (3 * (G.l * b) + (i : Int) + 1) = 3 * (G.l * b) + ((i + 1 : Nat) : Int) := by rw [w64 (by omega) (by omega)]; omega
    have hn := ih k (i + 1) (by omega) (by omega) (by omega)
    have hlen := pg_len S.l2 b i
    simp only [deckleref19_Pages.l0]
    rw [hend, if_pos (by omega), ref_owner _ _ _ _ _ _ _ _ (by omega) _ (by omega), hw, hnum, h.owner hok hi hin]
    simp only [Option.bind_some]
    cases hx : mget (plc b i) S.l2 with
    | none =>
      rw [hx, if_neg (by simp)] at hpg
      rw [hpg] at hn
      simp only [Option.getD_none]
      rw [if_neg (by omega)]
      exact hn
    | some o =>
      rw [hx, if_pos (by simp)] at hpg
      rw [hpg] at hn
      have ho := (hi.dom o _ ((hi.bij o _).2 hx)).1
      unfold SecIn at ho
      simp only [Option.getD_some]
      rw [if_pos (by omega), ref_at hok hin _ (by omega)]
      simp only [Option.bind_some]
      rw [if_pos (by omega)]
      exact hn
theorem ref_pages (h : RefOf G S xs) (hok : G.Ok) (hi : Inv G S) (b : Int) (K : Nat) (hK : 30000 ≤ K) : deckleref19_Pages.f K G.b G.l G.y G.s G.p G.w xs b = some (pagesP G S b) := by
  have hs := hok.1
  unfold SizesOk at hs
  obtain ⟨K', rfl⟩ : ∃ m, K = m + 1 := ⟨K - 1, by omega⟩
  unfold deckleref19_Pages.f
  simp only [deckleref19_Pages.j0]
  by_cases hb : 0 ≤ b ∧ b < G.b
  · obtain ⟨i, rfl⟩ := Int.eq_ofNat_of_zero_le hb.1
    have hp := pages_len hi hok i hb.2
    have hpa := pg_all hi hok i
    have hpp : pagesP G S i = pg S.l2 i (3 * G.l.toNat) := by
      by_cases hv : validP S G.b.toNat i = 0
      · have e1 : pg S.l2 (i : Int) (3 * G.l.toNat) = [] := List.eq_nil_of_length_eq_zero (by omega)
        have e2 : pagesP G S i = [] := List.eq_nil_of_length_eq_zero (by omega)
        rw [e1, e2]
      · unfold pagesP; rw [if_neg hv]
    have m1 : 0 ≤ G.l * (i : Int) := Int.mul_nonneg (by omega) (by omega)
    have m2 : G.l * (i : Int) ≤ 64 * 64 := Int.mul_le_mul (by omega) (by omega) (by omega) (by omega)
    have m3 : 3 * G.l * (i : Int) = 3 * (G.l * i) := Int.mul_assoc _ _ _
    rw [if_neg (by omega), if_neg (by simp; omega), hpp, w64 (x := 3 * G.l) (by omega) (by omega), w64 (x := 3 * G.l * (i : Int)) (by omega) (by omega)]
    have := pages_l0 h hok hi i hb.1 hb.2 (3 * G.l.toNat) K' 0 (by omega) (by omega) (by omega)
    simpa [pg] using this
  · have hv : pagesP G S b = [] := by
      have hv0 : validP S G.b.toNat b = 0 := by unfold validP; rw [if_neg (by omega)]
      unfold pagesP
      rw [if_pos hv0]
    rw [hv]
    by_cases h0 : b < 0
    · rw [if_pos h0]; rfl
    · rw [if_neg h0, if_pos (by simp; omega)]
end
end Go.Proofs.Ytiblpienmkjmgaa.Pmap
