/- The map's invariant, in plain numbers. -/
import Derived.Test.YtiblpienmkjmgaaPmapE
set_option linter.unusedVariables false
namespace Go.Proofs.Ytiblpienmkjmgaa.Pmap
open Go.RowKit Go.Proofs.Ytiblpienmkjmgaa.Maps Go.Proofs.Ytiblpienmkjmgaa.PM

theorem nodup_le : ∀ (s : Nat) (l : List Int), l.Nodup → (∀ x ∈ l, 0 ≤ x ∧ x < s) → l.length ≤ s
  | 0, l, _, h => by
    cases l with
    | nil => simp
    | cons a t => have := h a (by simp); omega
  | s + 1, l, hn, h => by
    have h1 := List.length_eq_countP_add_countP (fun x => decide (x = (s : Int))) (l := l)
    have h2 : l.countP (fun x => decide (x = (s : Int))) ≤ 1 := by
      have := List.nodup_iff_count.1 hn (s : Int)
      unfold List.count at this
      exact this
    have h3 := nodup_le s (l.filter (fun x => !decide (x = (s : Int)))) (hn.filter _) (fun x hx => by
      obtain ⟨m1, m2⟩ := List.mem_filter.1 hx
      have := h x m1
      simp at m2
      omega)
    rw [← List.countP_eq_length_filter] at h3
    have h4 : l.countP (fun a => ¬ decide (a = (s : Int)) = true) = l.countP (fun x => !decide (x = (s : Int))) := by
      congr 1
      funext x
      rw [Bool.eq_iff_iff]; simp
    omega
abbrev inB (b : Nat) : Int × Tri → Bool := fun x => decide (x.2.1 = (b : Int))
structure Inv (G : G6) (S : PS) : Prop where
  o1 : Once S.l1
  o2 : Once S.l2
  bij : ∀ k a, mget k S.l1 = some a ↔ mget a S.l2 = some k
  dom : ∀ k a, mget k S.l1 = some a → SecIn G k ∧ PageIn G a
  len : (S.v.length : Int) = G.b
  cnt : ∀ b : Nat, b < S.v.length → S.v.getD b 0 = (S.l1.countP (inB b) : Nat)
theorem mem_get {α β : Type} [DecidableEq α] : ∀ (l : List (α × β)), Once l → ∀ x ∈ l, mget x.1 l = some x.2
  | [], _, x, hx => by simp at hx
  | (c, u) :: l, h, x, hx => by
    have h1 := (List.nodup_cons.1 (show (c :: l.map (·.1)).Nodup from h))
    rcases List.mem_cons.1 hx with rfl | hm
    · simp [mget]
    · unfold mget
      have hne : x.1 ≠ c := fun e => h1.1 (e ▸ List.mem_map_of_mem hm)
      rw [if_neg hne]
      exact mem_get l h1.2 x hm
theorem Inv.keys {G : G6} {S : PS} (h : Inv G S) : ∀ x ∈ S.l1.map (·.1), SecIn G x := by
  intro x hx
  obtain ⟨p, hp, rfl⟩ := List.mem_map.1 hx
  exact (h.dom _ _ (mem_get _ h.o1 p hp)).1
theorem Inv.few {G : G6} {S : PS} (h : Inv G S) (hok : G.Ok) : S.l1.length ≤ 4096 := by
  have hs := hok.1
  unfold SizesOk at hs
  have hnd : (S.l1.map (fun x => x.1)).Nodup := h.o1
  have := nodup_le G.s.toNat (S.l1.map (fun x => x.1)) hnd (fun x hx => by have := h.keys x hx; unfold SecIn at this; omega)
  rw [List.length_map] at this
  omega
theorem Inv.fine {G : G6} {S : PS} (h : Inv G S) (hok : G.Ok) : PFine S G.b.toNat := by
  have hs := hok.1
  unfold SizesOk at hs
  refine ⟨by have := h.len; omega, by omega, fun b hb => ?_, fun k a hk => ?_⟩
  · have := h.cnt b (by have := h.len; omega)
    have h2 := h.few hok
    have h3 := List.countP_le_length (p := inB b) (l := S.l1)
    omega
  · have := (h.dom k a hk).2
    unfold PageIn at this
    omega
theorem count_del (p : Int × Tri → Bool) (k : Int) (a : Tri) : ∀ l : List (Int × Tri), mget k l = some a → l.countP p = (mdel k l).countP p + (if p (k, a) = true then 1 else 0)
  | [], h => by simp [mget] at h
  | (c, u) :: l, h => by
    unfold mget at h
    unfold mdel
    by_cases e : k = c
    · subst e
      rw [if_pos rfl] at h ⊢
      obtain rfl := Option.some.inj h
      rw [List.countP_cons]
    · rw [if_neg e] at h ⊢
      rw [List.countP_cons, List.countP_cons, count_del p k a l h]
      omega
theorem count_set (p : Int × Tri → Bool) (k : Int) (a : Tri) : ∀ l : List (Int × Tri), mget k l = none → (mset k a l).countP p = l.countP p + (if p (k, a) = true then 1 else 0)
  | [], h => by simp [mset, List.countP_cons]
  | (c, u) :: l, h => by
    unfold mget at h
    unfold mset
    by_cases e : k = c
    · rw [if_pos e] at h; cases h
    · rw [if_neg e] at h ⊢
      rw [List.countP_cons, List.countP_cons, count_set p k a l h]
      omega
theorem getD_setI (xs : List Int) (p i : Nat) (v : Int) (h : p < xs.length) : (xs.set p v).getD i 0 = if i = p then v else xs.getD i 0 := by
  rw [List.getD_eq_getElem?_getD, List.getElem?_set]
  by_cases e : p = i
  · subst e; simp [h]
  · rw [if_neg e, if_neg (by omega), List.getD_eq_getElem?_getD]
theorem Inv.drop {G : G6} {S : PS} (h : Inv G S) (k : Int) : Inv G (dropP S k) ∧ mget k (dropP S k).l1 = none ∧ (∀ i, i ≠ k → mget i (dropP S k).l1 = mget i S.l1) := by
  unfold dropP
  cases hx : mget k S.l1 with
  | none => exact ⟨h, hx, fun _ _ => rfl⟩
  | some a =>
    have hd := (h.dom k a hx).2
    unfold PageIn at hd
    have hlt : a.1.toNat < S.v.length := by have := h.len; omega
    refine ⟨⟨(once_del _ _ h.o1).1, (once_del _ _ h.o2).1, fun i c => ?_, fun i c hi => ?_, by show ((S.v.set _ _).length : Int) = _; rw [List.length_set]; exact h.len, fun b hb => ?_⟩, by show mget k (mdel k S.l1) = none; rw [mget_del _ _ _ h.o1, if_pos rfl], fun i hi => by show mget i (mdel k S.l1) = _; rw [mget_del _ _ _ h.o1, if_neg hi]⟩
    · show mget i (mdel k S.l1) = some c ↔ mget c (mdel a S.l2) = some i
      rw [mget_del _ _ _ h.o1, mget_del _ _ _ h.o2]
      by_cases e1 : i = k
      · rw [if_pos e1]
        by_cases e2 : c = a
        · rw [if_pos e2]; simp
        · rw [if_neg e2]
          constructor
          · intro hc; cases hc
          · intro hc
            have := (h.bij i c).2 hc
            rw [e1, hx] at this
            exact absurd (Option.some.inj this).symm e2
      · rw [if_neg e1]
        by_cases e2 : c = a
        · rw [if_pos e2]
          constructor
          · intro hc
            have := (h.bij i c).1 hc
            rw [e2, (h.bij k a).1 hx] at this
            exact absurd (Option.some.inj this).symm e1
          · intro hc; cases hc
        · rw [if_neg e2]; exact h.bij i c
    · have hi' : mget i (mdel k S.l1) = some c := hi
      rw [mget_del _ _ _ h.o1] at hi'
      split at hi'
      · cases hi'
      · exact h.dom i c hi'
    · show (S.v.set _ _).getD b 0 = ((mdel k S.l1).countP (inB b) : Nat)
      have hb' : b < S.v.length := by have hb2 : b < (S.v.set _ _).length := hb; rw [List.length_set] at hb2; exact hb2
      have hc := count_del (inB b) k a S.l1 hx
      have h1 := h.cnt b hb'
      rw [getD_setI _ _ _ _ hlt]
      by_cases e : b = a.1.toNat
      · subst e
        rw [if_pos rfl]
        have : inB a.1.toNat (k, a) = true := by simp [inB]; omega
        rw [if_pos this] at hc
        omega
      · rw [if_neg e]
        have : ¬ inB b (k, a) = true := by simp [inB]; omega
        rw [if_neg this] at hc
        omega
theorem Inv.put {G : G6} {S : PS} (h : Inv G S) (k : Int) (a : Tri) (hk : mget k S.l1 = none) (ha : mget a S.l2 = none) (h1 : SecIn G k) (h2 : PageIn G a) : Inv G (putP S k a) := by
  have hd := h2
  unfold PageIn at hd
  have hlt : a.1.toNat < S.v.length := by have := h.len; omega
  refine ⟨(once_set _ _ _ h.o1).1, (once_set _ _ _ h.o2).1, fun i c => ?_, fun i c hi => ?_, by show ((S.v.set _ _).length : Int) = _; rw [List.length_set]; exact h.len, fun b hb => ?_⟩
  · show mget i (mset k a S.l1) = some c ↔ mget c (mset a k S.l2) = some i
    rw [mget_set, mget_set]
    by_cases e1 : i = k
    · rw [if_pos e1]
      by_cases e2 : c = a
      · rw [if_pos e2, e1, e2]; simp
      · rw [if_neg e2]
        constructor
        · intro hc; exact absurd (Option.some.inj hc).symm e2
        · intro hc
          have := (h.bij i c).2 hc
          rw [e1, hk] at this
          cases this
    · rw [if_neg e1]
      by_cases e2 : c = a
      · rw [if_pos e2]
        constructor
        · intro hc
          have := (h.bij i c).1 hc
          rw [e2, ha] at this
          cases this
        · intro hc; exact absurd (Option.some.inj hc).symm e1
      · rw [if_neg e2]; exact h.bij i c
  · have hi' : mget i (mset k a S.l1) = some c := hi
    rw [mget_set] at hi'
    split at hi'
    · rename_i e
      obtain rfl := Option.some.inj hi'
      rw [e]
      exact ⟨h1, h2⟩
    · exact h.dom i c hi'
  · show (S.v.set _ _).getD b 0 = ((mset k a S.l1).countP (inB b) : Nat)
    have hb' : b < S.v.length := by have hb2 : b < (S.v.set _ _).length := hb; rw [List.length_set] at hb2; exact hb2
    have hc := count_set (inB b) k a S.l1 hk
    have h1 := h.cnt b hb'
    rw [getD_setI _ _ _ _ hlt]
    by_cases e : b = a.1.toNat
    · subst e
      rw [if_pos rfl]
      have : inB a.1.toNat (k, a) = true := by simp [inB]; omega
      rw [if_pos this] at hc
      omega
    · rw [if_neg e]
      have : ¬ inB b (k, a) = true := by simp [inB]; omega
      rw [if_neg this] at hc
      omega
/-- Set, as a whole. -/
def setR (G : G6) (S : PS) (k : Int) (a : Tri) : PS × Int :=
  if ¬ SecIn G k ∨ ¬ PageIn G a then (S, 1)
  else if mget a S.l2 = none ∨ mget a S.l2 = some k then (putP (dropP S k) k a, 0)
  else (S, 5)
theorem drop_l2 {G : G6} {S : PS} (h : Inv G S) (k : Int) (a : Tri) (ha : mget a S.l2 = none ∨ mget a S.l2 = some k) : mget a (dropP S k).l2 = none := by
  have h' := (h.drop k)
  cases hx : mget a (dropP S k).l2 with
  | none => rfl
  | some i =>
    have h1 := (h'.1.bij i a).2 hx
    by_cases e : i = k
    · rw [e, h'.2.1] at h1; cases h1
    · rw [h'.2.2 i e] at h1
      have h2 := (h.bij i a).1 h1
      rcases ha with ha | ha
      · rw [ha] at h2; cases h2
      · rw [ha] at h2; exact absurd (Option.some.inj h2).symm e
theorem setR_inv {G : G6} {S : PS} (h : Inv G S) (k : Int) (a : Tri) : Inv G (setR G S k a).1 := by
  unfold setR
  split
  · exact h
  · rename_i h1
    split
    · rename_i h2
      exact (h.drop k).1.put k a (h.drop k).2.1 (drop_l2 h k a h2) (Classical.byContradiction fun e => h1 (.inl e)) (Classical.byContradiction fun e => h1 (.inr e))
    · exact h
section
variable {w0 w : World} {L : List Go.Proofs.Ytiblpienmkjmgaa.Own.Asn} {G : G6} {g m1 m2 v c : Nat} {S : PS}
open Go.Proofs.Ytiblpienmkjmgaa.Own
theorem set_any (k : Int) (a : Tri) (hok : G.Ok) (hi : Inv G S) (HO : Own w0 w (PMs G g m1 m2 v c G.b.toNat S L)) :
    Calls Try.prog 18 #[.pointer (some ⟨g, 0, none⟩), .int .i64 k, tri a] w fun e w' => e = .returned (.int .i64 (setR G S k a).2) ∧ Own w0 w' (PMs G g m1 m2 v c G.b.toNat (setR G S k a).1 L) := by
  unfold setR
  by_cases h1 : ¬ SecIn G k ∨ ¬ PageIn G a
  · rw [if_pos h1]
    exact set_range k a hok HO h1
  · rw [if_neg h1]
    have hk : SecIn G k := Classical.byContradiction fun e => h1 (.inl e)
    have hp : PageIn G a := Classical.byContradiction fun e => h1 (.inr e)
    by_cases h2 : mget a S.l2 = none ∨ mget a S.l2 = some k
    · rw [if_pos h2]
      obtain ⟨a0, x, y⟩ := a
      have hp' := hp
      unfold PageIn at hp'
      simp only at hp'
      obtain ⟨b, rfl⟩ := Int.eq_ofNat_of_zero_le hp'.1.1
      exact set_go k b x y hok HO (hi.fine hok) ((hi.drop k).1.fine hok) hk hp (by omega) h2
    · rw [if_neg h2]
      cases hx : mget a S.l2 with
      | none => exact absurd (.inl hx) h2
      | some o => exact set_taken k o a hok HO hk hp hx (fun e => h2 (.inr (by rw [hx, e])))
def clearR (G : G6) (S : PS) (k : Int) : PS × Int := if SecIn G k then (dropP S k, 0) else (S, 1)
theorem clearR_inv (hi : Inv G S) (k : Int) : Inv G (clearR G S k).1 := by
  unfold clearR
  split
  · exact (hi.drop k).1
  · exact hi
theorem clear_any (k : Int) (hok : G.Ok) (hi : Inv G S) (HO : Own w0 w (PMs G g m1 m2 v c G.b.toNat S L)) :
    Calls Try.prog 20 #[.pointer (some ⟨g, 0, none⟩), .int .i64 k] w fun e w' => e = .returned (.int .i64 (clearR G S k).2) ∧ Own w0 w' (PMs G g m1 m2 v c G.b.toNat (clearR G S k).1 L) := by
  unfold clearR
  by_cases h : SecIn G k
  · rw [if_pos h]; exact clear_go k HO (hi.fine hok) h
  · rw [if_neg h]; exact clear_range k HO h
def moveR (G : G6) (S : PS) (a b : Tri) : PS × Int := match mget a S.l2 with
  | none => (S, 6)
  | some k => setR G S k b
theorem moveR_inv (hi : Inv G S) (a b : Tri) : Inv G (moveR G S a b).1 := by
  unfold moveR
  split
  · exact hi
  · exact setR_inv hi _ _
end
end Go.Proofs.Ytiblpienmkjmgaa.Pmap
