/- Trims and deltas in any order: in plain numbers. -/
import Derived.Test.YtiblpienmkjmgaaStateK
import Derived.Test.YtiblpienmkjmgaaStateEH
set_option linter.unusedVariables false
namespace Go.Proofs.Ytiblpienmkjmgaa.StateA
open Go.RowKit Go.Proofs.YtiblpienmkjmgaaW.PrintWords Go.Proofs.Ytiblpienmkjmgaa.Mem Go.Proofs.Ytiblpienmkjmgaa.PS

/-- A record that raises a floor of four. -/
def Raises (k a b : Int) : Prop := (k = 1 ∨ k = 2) ∧ MayRec k a b ∧ a < 4
/-- What is durable is just the greatest of what was seen. -/
structure Top (P : Int → Int → Int → Prop) (K : Kp) : Prop where
  fine : K.Fine
  f : K.F.length = 4
  c : K.C = zeros 8
  s : K.S = zeros 8
  t : K.T = zeros 8
  up : ∀ k a b, P k a b → Raises k a b → b ≤ K.F.getD a.toNat 0
  nn : ∀ j : Nat, 0 ≤ K.F.getD j 0
  got : ∀ j : Nat, j < 4 → K.F.getD j 0 = 0 ∨ ∃ k a b, P k a b ∧ Raises k a b ∧ a = j ∧ b = K.F.getD j 0
theorem zerosD (n j : Nat) : (zeros n).getD j 0 = 0 := by
  show (List.replicate n (0 : Int)).getD j 0 = 0
  rw [List.getD_eq_getElem?_getD, List.getElem?_replicate]
  split <;> rfl
theorem top_new : Top (fun _ _ _ => False) (newK 8 4) :=
  ⟨newK_fine 8 4 (by omega) (by omega) (by omega) (by omega), zeros_len 4, rfl, rfl, rfl, fun _ _ _ h => h.elim, fun j => by show 0 ≤ (zeros 4).getD j 0; rw [zerosD]; omega, fun j _ => .inl (zerosD 4 j)⟩
theorem Top.skip {P Q : Int → Int → Int → Prop} {K : Kp} (h : Top P K) (h1 : ∀ k a b, P k a b → Q k a b) (h2 : ∀ k a b, Q k a b → P k a b ∨ ¬ (k = 1 ∨ k = 2)) : Top Q K :=
  ⟨h.fine, h.f, h.c, h.s, h.t, fun k a b hq hr => (h2 k a b hq).elim (fun hp => h.up k a b hp hr) (fun hn => absurd hr.1 hn), h.nn, fun j hj => (h.got j hj).imp id (fun ⟨k, a, b, hp, r⟩ => ⟨k, a, b, h1 k a b hp, r⟩)⟩
theorem Top.apply {P Q : Int → Int → Int → Prop} {K : Kp} (h : Top P K) (k a b : Int) (hk : k = 1 ∨ k = 2) (h1 : ∀ k a b, P k a b → Q k a b) (hq : Q k a b) (h2 : ∀ x y z, Q x y z → P x y z ∨ (x = k ∧ y = a ∧ z = b)) : Top Q (applyK K k a b).1 := by
  obtain ⟨fine', l1, l2⟩ := apply_fine K k a b h.fine
  by_cases hr : Raises k a b
  · have hm := hr.2.1
    have ha0 : 0 ≤ a := by unfold MayRec at hm; omega
    have hb0 : 0 ≤ b := by unfold MayRec at hm; omega
    have e : (applyK K k a b).1 = { K with F := K.F.set a.toNat (max (K.F.getD a.toNat 0) b) } := by
      unfold applyK
      rw [if_neg (by simpa using hm), if_neg (by unfold roomK; rw [if_pos hk, h.f]; have := hr.2.2; omega), if_neg (by omega), if_neg (by omega)]
    rw [e] at fine' l1 l2 ⊢
    have hg : ∀ i : Nat, (K.F.set a.toNat (max (K.F.getD a.toNat 0) b)).getD i 0 = if i = a.toNat then max (K.F.getD a.toNat 0) b else K.F.getD i 0 := by
      intro i
      rw [getD_set]
      have : a.toNat < K.F.length := by rw [h.f]; have := hr.2.2; omega
      simp only [this, and_true]
    refine ⟨fine', l1.trans h.f, h.c, h.s, h.t, ?_, ?_, ?_⟩
    · intro x y z hxy hrx
      show z ≤ (K.F.set _ _).getD _ 0
      rw [hg]
      rcases h2 x y z hxy with hp | ⟨rfl, rfl, rfl⟩
      · have := h.up x y z hp hrx
        split
        · rename_i ey; rw [ey] at this; omega
        · exact this
      · rw [if_pos rfl]; omega
    · intro j
      show 0 ≤ (K.F.set _ _).getD _ 0
      rw [hg]
      have := h.nn j
      split <;> omega
    · intro j hj
      show (K.F.set _ _).getD _ 0 = 0 ∨ ∃ x y z, Q x y z ∧ Raises x y z ∧ y = j ∧ z = (K.F.set _ _).getD _ 0
      rw [hg]
      by_cases ej : j = a.toNat
      · rw [if_pos ej]
        by_cases hlt : K.F.getD a.toNat 0 < b
        · exact .inr ⟨k, a, b, hq, hr, by omega, by omega⟩
        · rw [show max (K.F.getD a.toNat 0) b = K.F.getD a.toNat 0 by omega, ← ej]
          exact (h.got j hj).imp id (fun ⟨x, y, z, hp, r⟩ => ⟨x, y, z, h1 x y z hp, r⟩)
      · rw [if_neg ej]
        exact (h.got j hj).imp id (fun ⟨x, y, z, hp, r⟩ => ⟨x, y, z, h1 x y z hp, r⟩)
  · have e : (applyK K k a b).1 = K := by
      unfold applyK
      by_cases hm : MayRec k a b
      · rw [if_neg (by simpa using hm), if_pos]
        unfold roomK
        rw [if_pos hk, h.f]
        have : ¬ a < 4 := fun h4 => hr ⟨hk, hm, h4⟩
        omega
      · rw [if_pos hm]
    rw [e]
    refine ⟨h.fine, h.f, h.c, h.s, h.t, fun x y z hxy hrx => ?_, h.nn, fun j hj => (h.got j hj).imp id (fun ⟨x, y, z, hp, r⟩ => ⟨x, y, z, h1 x y z hp, r⟩)⟩
    rcases h2 x y z hxy with hp | ⟨rfl, rfl, rfl⟩
    · exact h.up x y z hp hrx
    · exact absurd hrx hr
theorem Top.eq {P Q : Int → Int → Int → Prop} {K M : Kp} (h : Top P K) (g : Top Q M) (hpq : ∀ k a b, P k a b ↔ Q k a b) : K = M := by
  have hf : K.F = M.F := by
    apply List.ext_getElem (h.f.trans g.f.symm)
    intro i h1 h2
    have e1 : K.F[i] = K.F.getD i 0 := by rw [List.getD_eq_getElem?_getD, List.getElem?_eq_getElem h1]; rfl
    have e2 : M.F[i] = M.F.getD i 0 := by rw [List.getD_eq_getElem?_getD, List.getElem?_eq_getElem h2]; rfl
    rw [e1, e2]
    have hi : i < 4 := by rw [h.f] at h1; exact h1
    have n1 := h.nn i
    have n2 := g.nn i
    have le1 : K.F.getD i 0 ≤ M.F.getD i 0 := by
      rcases h.got i hi with e | ⟨k, a, b, hp, hr, ha, hb⟩
      · omega
      · have := g.up k a b ((hpq k a b).1 hp) hr
        rw [ha, Int.toNat_natCast] at this
        omega
    have le2 : M.F.getD i 0 ≤ K.F.getD i 0 := by
      rcases g.got i hi with e | ⟨k, a, b, hp, hr, ha, hb⟩
      · omega
      · have := h.up k a b ((hpq k a b).2 hp) hr
        rw [ha, Int.toNat_natCast] at this
        omega
    omega
  obtain ⟨kf, kc, ks, kt⟩ := K
  obtain ⟨mf, mc, ms, mt⟩ := M
  have h1 := h.c
  have h2 := h.s
  have h3 := h.t
  have g1 := g.c
  have g2 := g.s
  have g3 := g.t
  simp only at h1 h2 h3 g1 g2 g3 hf
  subst hf h1 h2 h3 g1 g2 g3
  rfl
/-- What was seen of a list: its first n records; those at so many places. -/
def Seen1 (l : List S73) (n : Nat) (k a b : Int) : Prop := ∃ i, i < n ∧ (rd_T73 l i).f0 = k ∧ (rd_T73 l i).f1 = a ∧ (rd_T73 l i).f2 = b
def place (len B i : Nat) : Nat := (2 * len - 1 - i + B) % len
def Seen2 (l : List S73) (B n : Nat) (k a b : Int) : Prop := ∃ i, i < n ∧ (rd_T73 l (place l.length B i : Nat)).f0 = k ∧ (rd_T73 l (place l.length B i : Nat)).f1 = a ∧ (rd_T73 l (place l.length B i : Nat)).f2 = b
theorem place_onto (len B m : Nat) (hm : m < len) : ∃ i, i < 2 * len ∧ place len B i = m := by
  refine ⟨(2 * len - 1 + B - m) % len, by have := Nat.mod_lt (2 * len - 1 + B - m) (show 0 < len by omega); omega, ?_⟩
  unfold place
  have hd := Nat.div_add_mod (2 * len - 1 + B - m) len
  have hlt := Nat.mod_lt (2 * len - 1 + B - m) (show 0 < len by omega)
  generalize (2 * len - 1 + B - m) / len = q at hd
  generalize (2 * len - 1 + B - m) % len = r at hd hlt ⊢
  rw [show 2 * len - 1 - r + B = m + len * q by omega, Nat.add_mul_mod_self_left, Nat.mod_eq_of_lt hm]
theorem seen_both (l : List S73) (B : Nat) (k a b : Int) : Seen1 l l.length k a b ↔ Seen2 l B (2 * l.length) k a b := by
  constructor
  · rintro ⟨m, hm, h⟩
    obtain ⟨i, hi, e⟩ := place_onto l.length B m hm
    exact ⟨i, hi, by rw [e]; exact h⟩
  · rintro ⟨i, hi, h⟩
    have : 0 < l.length := by omega
    exact ⟨place l.length B i, Nat.mod_lt _ this, h⟩
theorem Top.one {l : List S73} {n : Nat} {K : Kp} {k a b : Int} (h : Top (Seen1 l n) K) (hr : rd_T73 l n = ⟨k, a, b⟩) (hk : k = 1 ∨ k = 2) : Top (Seen1 l (n + 1)) (applyK K k a b).1 := by
  refine h.apply k a b hk (fun x y z ⟨i, hi, r⟩ => ⟨i, by omega, r⟩) ⟨n, by omega, by rw [hr], by rw [hr], by rw [hr]⟩ ?_
  rintro x y z ⟨i, hi, h1, h2, h3⟩
  by_cases e : i = n
  · subst e; rw [hr] at h1 h2 h3; exact .inr ⟨h1.symm, h2.symm, h3.symm⟩
  · exact .inl ⟨i, by omega, h1, h2, h3⟩
theorem Top.oneNot {l : List S73} {n : Nat} {K : Kp} {k a b : Int} (h : Top (Seen1 l n) K) (hr : rd_T73 l n = ⟨k, a, b⟩) (hk : ¬ (k = 1 ∨ k = 2)) : Top (Seen1 l (n + 1)) K := by
  refine h.skip (fun x y z ⟨i, hi, r⟩ => ⟨i, by omega, r⟩) ?_
  rintro x y z ⟨i, hi, h1, h2, h3⟩
  by_cases e : i = n
  · subst e; rw [hr] at h1; exact .inr (by rw [← h1]; exact hk)
  · exact .inl ⟨i, by omega, h1, h2, h3⟩
theorem Top.two {l : List S73} {B n : Nat} {K : Kp} {k a b : Int} (h : Top (Seen2 l B n) K) (hr : rd_T73 l (place l.length B n : Nat) = ⟨k, a, b⟩) (hk : k = 1 ∨ k = 2) : Top (Seen2 l B (n + 1)) (applyK K k a b).1 := by
  refine h.apply k a b hk (fun x y z ⟨i, hi, r⟩ => ⟨i, by omega, r⟩) ⟨n, by omega, by rw [hr], by rw [hr], by rw [hr]⟩ ?_
  rintro x y z ⟨i, hi, h1, h2, h3⟩
  by_cases e : i = n
  · subst e; rw [hr] at h1 h2 h3; exact .inr ⟨h1.symm, h2.symm, h3.symm⟩
  · exact .inl ⟨i, by omega, h1, h2, h3⟩
theorem Top.twoNot {l : List S73} {B n : Nat} {K : Kp} {k a b : Int} (h : Top (Seen2 l B n) K) (hr : rd_T73 l (place l.length B n : Nat) = ⟨k, a, b⟩) (hk : ¬ (k = 1 ∨ k = 2)) : Top (Seen2 l B (n + 1)) K := by
  refine h.skip (fun x y z ⟨i, hi, r⟩ => ⟨i, by omega, r⟩) ?_
  rintro x y z ⟨i, hi, h1, h2, h3⟩
  by_cases e : i = n
  · subst e; rw [hr] at h1; exact .inr (by rw [← h1]; exact hk)
  · exact .inl ⟨i, by omega, h1, h2, h3⟩
theorem top_new1 (l : List S73) : Top (Seen1 l 0) (newK 8 4) := top_new.skip (fun _ _ _ h => h.elim) (fun k a b ⟨i, hi, _⟩ => absurd hi (Nat.not_lt_zero i))
theorem top_new2 (l : List S73) (B : Nat) : Top (Seen2 l B 0) (newK 8 4) := top_new.skip (fun _ _ _ h => h.elim) (fun k a b ⟨i, hi, _⟩ => absurd hi (Nat.not_lt_zero i))
end Go.Proofs.Ytiblpienmkjmgaa.StateA
