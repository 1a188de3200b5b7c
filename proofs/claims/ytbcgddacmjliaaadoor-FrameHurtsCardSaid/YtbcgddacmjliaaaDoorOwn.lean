/- My own words for what a walk owns: heap predicates side by side, apart from each other, behind a world that came in. -/
import Derived.Below
import Derived.Test.YtbcgddacmjliaaaDoorWWords
import Derived.Test.YtbcgddacmjliaaaDoorWKept
import Derived.Test.YtbcgddacmjliaaaDoorMem
set_option linter.unusedVariables false
namespace Go.Proofs.YtbcgddacmjliaaaDoor.Own
open Go.RowKit Go.Proofs.YtbcgddacmjliaaaDoorW.PrintWords Go.Proofs.YtbcgddacmjliaaaDoor.Mem

/-- What is said of a world, by blocks of a set alone. -/
structure Asn where
  P : World → Nat → (Nat → Prop) → Prop
  move : ∀ {w w1 : World} {B : Nat} {S : Nat → Prop}, P w B S → (∀ k, S k → k < w.heap.size → w1.heap[k]? = w.heap[k]?) → P w1 B S
  cut : ∀ {w : World} {B : Nat} {S : Nat → Prop}, P w B S → P w B (fun k => S k ∧ k < w.heap.size)
  mono : ∀ {w : World} {B : Nat} {S S' : Nat → Prop}, P w B S → (∀ k, S k → S' k) → P w B S'
  lower : ∀ {w : World} {B B' : Nat} {S : Nat → Prop}, P w B S → B' ≤ B → P w B' S
/-- All of a list hold, by blocks that are apart. -/
def Hold (w : World) (B : Nat) : List Asn → (Nat → Prop) → Prop
  | [], _ => True
  | A :: L, S => ∃ S1 S2 : Nat → Prop, A.P w B S1 ∧ Hold w B L S2 ∧ (∀ k, S1 k → ¬ S2 k) ∧ (∀ k, S1 k → S k) ∧ (∀ k, S2 k → S k)
theorem Hold.mono {w : World} {B : Nat} : ∀ {L : List Asn} {S S' : Nat → Prop}, Hold w B L S → (∀ k, S k → S' k) → Hold w B L S'
  | [], _, _, _, _ => trivial
  | _ :: _, _, _, ⟨S1, S2, h1, h2, h3, h4, h5⟩, hs => ⟨S1, S2, h1, h2, h3, fun k hk => hs k (h4 k hk), fun k hk => hs k (h5 k hk)⟩
theorem Hold.move {w w1 : World} {B : Nat} : ∀ {L : List Asn} {S : Nat → Prop}, Hold w B L S → (∀ k, S k → k < w.heap.size → w1.heap[k]? = w.heap[k]?) → Hold w1 B L S
  | [], _, _, _ => trivial
  | A :: _, _, ⟨S1, S2, h1, h2, h3, h4, h5⟩, hs => ⟨S1, S2, A.move h1 (fun k hk hl => hs k (h4 k hk) hl), h2.move (fun k hk hl => hs k (h5 k hk) hl), h3, h4, h5⟩
theorem Hold.lower {w : World} {B B' : Nat} (hB : B' ≤ B) : ∀ {L : List Asn} {S : Nat → Prop}, Hold w B L S → Hold w B' L S
  | [], _, _ => trivial
  | A :: _, _, ⟨S1, S2, h1, h2, r⟩ => ⟨S1, S2, A.lower h1 hB, h2.lower hB, r⟩
theorem Hold.cut {w : World} {B : Nat} : ∀ {L : List Asn} {S : Nat → Prop}, Hold w B L S → Hold w B L (fun k => S k ∧ k < w.heap.size)
  | [], _, _ => trivial
  | A :: _, _, ⟨S1, S2, h1, h2, h3, h4, h5⟩ => ⟨_, _, A.cut h1, h2.cut, fun k hk hk2 => h3 k hk.1 hk2.1, fun k hk => ⟨h4 k hk.1, hk.2⟩, fun k hk => ⟨h5 k hk.1, hk.2⟩⟩
theorem Hold.append {w : World} {B : Nat} : ∀ {L L' : List Asn} {S S' S'' : Nat → Prop}, Hold w B L S → Hold w B L' S' → (∀ k, S k → ¬ S' k) → (∀ k, S k → S'' k) → (∀ k, S' k → S'' k) → Hold w B (L ++ L') S''
  | [], _, _, _, _, _, h', _, _, h4 => h'.mono h4
  | A :: L, _, S, S', _, ⟨S1, S2, h1, h2, h3, h4, h5⟩, h', hd, hs, hs' =>
    ⟨S1, fun k => S2 k ∨ S' k, h1, h2.append h' (fun k hk => hd k (h5 k hk)) (fun k hk => .inl hk) (fun k hk => .inr hk), fun k hk hk2 => hk2.elim (h3 k hk) (hd k (h4 k hk)), fun k hk => hs k (h4 k hk), fun k hk => hk.elim (fun h => hs k (h5 k h)) (hs' k)⟩
theorem Hold.one {w : World} {B : Nat} {A : Asn} {S : Nat → Prop} (h : A.P w B S) : Hold w B [A] S := ⟨S, fun _ => False, h, trivial, fun _ _ h => h, fun _ h => h, fun _ h => h.elim⟩
theorem Hold.two {w : World} {b : Nat} {A B : Asn} {S S1 S2 : Nat → Prop} (h : A.P w b S1) (h2 : B.P w b S2) (hd : ∀ k, S1 k → ¬ S2 k) (h4 : ∀ k, S1 k → S k) (h5 : ∀ k, S2 k → S k) : Hold w b [A, B] S := ⟨S1, S2, h, Hold.one h2, hd, h4, h5⟩
theorem Hold.swap {w : World} {b : Nat} {A B : Asn} {L : List Asn} {S : Nat → Prop} : Hold w b (A :: B :: L) S → Hold w b (B :: A :: L) S
  | ⟨S1, _, h1, ⟨S3, S4, h3, h4, d34, i3, i4⟩, d12, i1, i2⟩ =>
    ⟨S3, fun k => S1 k ∨ S4 k, h3, ⟨S1, S4, h1, h4, fun k hk hk4 => d12 k hk (i4 k hk4), fun k hk => .inl hk, fun k hk => .inr hk⟩, fun k hk hk2 => hk2.elim (fun h => d12 k h (i3 k hk)) (d34 k hk), fun k hk => i2 k (i3 k hk), fun k hk => hk.elim (i1 k) (fun h => i2 k (i4 k h))⟩
theorem Hold.cons {w : World} {B : Nat} {A : Asn} {L L' : List Asn} {S : Nat → Prop} (f : ∀ S', Hold w B L S' → Hold w B L' S') : Hold w B (A :: L) S → Hold w B (A :: L') S
  | ⟨S1, S2, h1, h2, r⟩ => ⟨S1, S2, h1, f _ h2, r⟩
theorem Hold.drop {w : World} {B : Nat} {A : Asn} {L : List Asn} {S : Nat → Prop} : Hold w B (A :: L) S → Hold w B L S
  | ⟨_, _, _, h2, _, _, h5⟩ => h2.mono h5

/-- What a walk owns in world w, which began at w0: all of it is new since w0, and what was there at w0 is as it was. -/
structure Own (w0 w : World) (L : List Asn) : Prop where
  below : Below w0.heap.size w0 w
  hold : ∃ S : Nat → Prop, Hold w w0.heap.size L S ∧ ∀ k, S k → w0.heap.size ≤ k ∧ k < w.heap.size
section
variable {w0 w w1 : World} {A B C D E F : Asn} {L R : List Asn}
theorem Own.new (w : World) : Own w w [] := ⟨Below.refl _ _, fun _ => False, trivial, fun _ h => h.elim⟩
theorem Own.start (h : Below w0.heap.size w0 w) : Own w0 w [] := ⟨h, fun _ => False, trivial, fun _ h => h.elim⟩
theorem Own.size (h : Own w0 w L) : w0.heap.size ≤ w.heap.size := h.below.size
theorem Own.map (h : Own w0 w L) (f : ∀ S, Hold w w0.heap.size L S → Hold w w0.heap.size R S) : Own w0 w R := let ⟨b, S, hs, hk⟩ := h; ⟨b, S, f S hs, hk⟩
theorem Own.drop (h : Own w0 w (A :: L)) : Own w0 w L := h.map (fun _ => Hold.drop)
theorem Own.pull2 (h : Own w0 w (A :: B :: L)) : Own w0 w (B :: A :: L) := h.map (fun _ => Hold.swap)
theorem Own.under (h : Own w0 w (A :: L)) (f : ∀ S, Hold w w0.heap.size L S → Hold w w0.heap.size R S) : Own w0 w (A :: R) := h.map (fun _ => Hold.cons f)
theorem Own.pull3 (h : Own w0 w (A :: B :: C :: L)) : Own w0 w (C :: A :: B :: L) := (h.map (fun _ => Hold.cons (fun _ => Hold.swap))).pull2
theorem Own.pull4 (h : Own w0 w (A :: B :: C :: D :: L)) : Own w0 w (D :: A :: B :: C :: L) := (h.map (fun _ => Hold.cons (fun _ => Hold.cons (fun _ => Hold.swap)))).pull3
theorem Own.pull5 (h : Own w0 w (A :: B :: C :: D :: E :: L)) : Own w0 w (E :: A :: B :: C :: D :: L) := (h.map (fun _ => Hold.cons (fun _ => Hold.cons (fun _ => Hold.cons (fun _ => Hold.swap))))).pull4
theorem Own.pull6 (h : Own w0 w (A :: B :: C :: D :: E :: F :: L)) : Own w0 w (F :: A :: B :: C :: D :: E :: L) := (h.map (fun _ => Hold.cons (fun _ => Hold.cons (fun _ => Hold.cons (fun _ => Hold.cons (fun _ => Hold.swap)))))).pull5
theorem Own.move (h : Own w0 w L) (hb : Below w.heap.size w w1) : Own w0 w1 L := by
  obtain ⟨b, S, hs, hk⟩ := h
  exact ⟨b.trans (hb.mono b.size), S, hs.move (fun k _ hl => hb.block k hl), fun k hk2 => ⟨(hk k hk2).1, Nat.lt_of_lt_of_le (hk k hk2).2 hb.size⟩⟩
theorem Own.drew (h : Own w0 w L) : Own w0 w.drew L := h.move ⟨rfl, rfl, rfl, Nat.le_refl _, fun _ _ => rfl⟩
theorem Own.drewN (h : Own w0 w L) (n : Nat) : Own w0 (w.drewN n) L := h.move ⟨rfl, rfl, rfl, Nat.le_refl _, fun _ _ => rfl⟩
/-- What is new is added. -/
theorem Own.fresh (h : Own w0 w L) (hb : Below w.heap.size w w1) (hn : Hold w1 w.heap.size R (fun k => w.heap.size ≤ k)) : Own w0 w1 (R ++ L) := by
  obtain ⟨b, S, hs, hk⟩ := h
  refine ⟨b.trans (hb.mono b.size), fun k => S k ∨ (w.heap.size ≤ k ∧ k < w1.heap.size), ?_, ?_⟩
  · exact (hn.lower b.size).cut.append (hs.move (fun k _ hl => hb.block k hl)) (fun k hk1 hk2 => by have := (hk k hk2).2; omega) (fun k h => .inr h) (fun k h => .inl h)
  · rintro k (h | ⟨h, h'⟩)
    · exact ⟨(hk k h).1, Nat.lt_of_lt_of_le (hk k h).2 hb.size⟩
    · exact ⟨Nat.le_trans b.size h, h'⟩
/-- A block by itself. -/
def Pt (g : Nat) (o : Obj) : Asn where
  P w _ S := w.heap[g]? = some o ∧ S g
  move h hm := ⟨(hm g h.2 (blk_lt h.1)).trans h.1, h.2⟩
  cut h := ⟨h.1, h.2, blk_lt h.1⟩
  mono h hs := ⟨h.1, hs g h.2⟩
  lower h _ := h
theorem Own.alloc (h : Own w0 w L) (o : Obj) : Own w0 (w.alloc o) (Pt w.heap.size o :: L) :=
  h.fresh (R := [Pt w.heap.size o]) (below_alloc (Below.refl _ _) o) (Hold.one ⟨blk_new _ _, Nat.le_refl _⟩)
theorem Own.alloc' (h : Own w0 w L) (o : Obj) : Own w0 (w.alloc o) L := h.move (below_alloc (Below.refl _ _) o)
/-- The first thing by itself: its blocks; and how the whole goes on when they change. -/
theorem Own.head (h : Own w0 w (A :: L)) : ∃ S : Nat → Prop, A.P w w0.heap.size S ∧ (∀ k, S k → w0.heap.size ≤ k ∧ k < w.heap.size) ∧
    ∀ w1 R, Mod w0.heap.size S w w1 → Hold w1 w0.heap.size R (fun k => S k ∨ w.heap.size ≤ k) → Own w0 w1 (R ++ L) := by
  obtain ⟨b, S, ⟨S1, S2, h1, h2, hd, i1, i2⟩, hk⟩ := h
  refine ⟨S1, h1, fun k h => hk k (i1 k h), fun w1 R hm hr => ⟨b.trans hm.below, fun k => S2 k ∨ ((S1 k ∨ w.heap.size ≤ k) ∧ k < w1.heap.size), ?_, ?_⟩⟩
  · exact hr.cut.append (h2.move (fun k hk2 hl => hm.kept.2 k hl (fun hk1 => hd k hk1 hk2))) (fun k hk1 hk2 => hk1.1.elim (fun h => hd k h hk2) (fun h => by have := (hk k (i2 k hk2)).2; omega)) (fun k h => .inr h) (fun k h => .inl h)
  · rintro k (h | ⟨h | h, h'⟩)
    · exact ⟨(hk k (i2 k h)).1, Nat.lt_of_lt_of_le (hk k (i2 k h)).2 hm.size⟩
    · exact ⟨(hk k (i1 k h)).1, h'⟩
    · exact ⟨Nat.le_trans b.size h, h'⟩
theorem Own.pt {g : Nat} {o : Obj} (h : Own w0 w (Pt g o :: L)) : w.heap[g]? = some o := let ⟨_, hs, _⟩ := h.head; hs.1
theorem Own.pt_ge {g : Nat} {o : Obj} (h : Own w0 w (Pt g o :: L)) : w0.heap.size ≤ g := let ⟨_, hs, hk, _⟩ := h.head; (hk g hs.2).1
theorem Own.set {g i : Nat} {cs : Array Value} {T : TypeId} (h : Own w0 w (Pt g (.cells cs T (0, 0)) :: L)) (u : Value) : Own w0 (w.setCell ⟨g, i, none⟩ u) (Pt g (.cells (cs.setIfInBounds i u) T (0, 0)) :: L) := by
  obtain ⟨S, hs, hk, f⟩ := h.head
  exact f _ [Pt g _] ((Mod.refl _ _ _).setCell (p := ⟨g, i, none⟩) (hk g hs.2).1 (.inl hs.2) u) (Hold.one ⟨blk_set hs.1 i u, .inl hs.2⟩)
/-- One thing in place of another one. -/
theorem Own.imp (h : Own w0 w (A :: L)) (f : ∀ S, A.P w w0.heap.size S → B.P w w0.heap.size S) : Own w0 w (B :: L) := h.map (fun _ ⟨S1, S2, h1, r⟩ => ⟨S1, S2, f _ h1, r⟩)
/-- Two things as one. -/
def Star (A B : Asn) : Asn where
  P w b S := Hold w b [A, B] S
  move h hm := h.move hm
  cut h := h.cut
  mono h hs := h.mono hs
  lower h hb := h.lower hb
/-- A slice of the call's own. -/
def Row {α : Type} (d : Kd α) (e : Nat) (v : Value) (xs : List α) : Asn where
  P w b S := d.R e w b S v xs
  move h hm := Kd.R_step h hm
  cut h := Kd.R_mono (Kd.R_bound h) (fun _ hk => ⟨hk.1, hk.2.2.1⟩)
  mono h hs := Kd.R_mono h hs
  lower h hb := Kd.R_lower h hb
theorem Own.reads {α : Type} {d : Kd α} {e : Nat} {v : Value} {xs : List α} (h : Own w0 w (Row d e v xs :: L)) : ∃ A c, v = .slice A xs.length c ∧ xs.length ≤ c ∧ d.C w A xs.length xs := let ⟨_, hs, _⟩ := h.head; Kd.R_reads hs
theorem Own.star (h : Own w0 w (A :: B :: L)) : Own w0 w (Star A B :: L) := by
  refine h.map (fun S hs => ?_)
  obtain ⟨S1, S2, h1, ⟨S3, S4, h3, h4, d34, i3, i4⟩, d12, i1, i2⟩ := hs
  exact ⟨fun k => S1 k ∨ S3 k, S4, Hold.two h1 h3 (fun k hk hk3 => d12 k hk (i3 k hk3)) (fun _ h => .inl h) (fun _ h => .inr h), h4, fun k hk hk4 => hk.elim (fun h => d12 k h (i4 k hk4)) (fun h => d34 k h hk4), fun k hk => hk.elim (i1 k) (fun h => i2 k (i3 k h)), fun k hk => i2 k (i4 k hk)⟩
theorem Own.unstar (h : Own w0 w (Star A B :: L)) : Own w0 w (A :: B :: L) := by
  refine h.map (fun S hs => ?_)
  obtain ⟨S1, S2, ⟨S3, S4, h3, ⟨S5, S6, h5, _, _, i5, _⟩, d34, i3, i4⟩, h2, d12, i1, i2⟩ := hs
  exact ⟨S3, fun k => S5 k ∨ S2 k, h3, ⟨S5, S2, h5, h2, fun k hk hk2 => d12 k (i4 k (i5 k hk)) hk2, fun _ h => .inl h, fun _ h => .inr h⟩, fun k hk hk2 => hk2.elim (fun h => d34 k hk (i5 k h)) (fun h => d12 k (i3 k hk) h), fun k hk => i1 k (i3 k hk), fun k hk => hk.elim (fun h => i1 k (i4 k (i5 k h))) (i2 k)⟩
theorem Own.set4 {g : Nat} {T : TypeId} {a b c d : Value} (h : Own w0 w (Pt g (.cells #[a, b, c, d] T (0, 0)) :: L)) (u1 u2 u3 u4 : Value) :
    Own w0 ((((w.setCell ⟨g, 0, none⟩ u1).setCell ⟨g, 1, none⟩ u2).setCell ⟨g, 2, none⟩ u3).setCell ⟨g, 3, none⟩ u4) (Pt g (.cells #[u1, u2, u3, u4] T (0, 0)) :: L) := (((h.set (i := 0) u1).set (i := 1) u2).set (i := 2) u3).set (i := 3) u4
theorem Own.set2 {g : Nat} {T : TypeId} {a b : Value} (h : Own w0 w (Pt g (.cells #[a, b] T (0, 0)) :: L)) (u1 u2 : Value) :
    Own w0 ((w.setCell ⟨g, 0, none⟩ u1).setCell ⟨g, 1, none⟩ u2) (Pt g (.cells #[u1, u2] T (0, 0)) :: L) := (h.set (i := 0) u1).set (i := 1) u2
theorem Own.set3 {g : Nat} {T : TypeId} {a b c : Value} (h : Own w0 w (Pt g (.cells #[a, b, c] T (0, 0)) :: L)) (u1 u2 u3 : Value) :
    Own w0 (((w.setCell ⟨g, 0, none⟩ u1).setCell ⟨g, 1, none⟩ u2).setCell ⟨g, 2, none⟩ u3) (Pt g (.cells #[u1, u2, u3] T (0, 0)) :: L) := ((h.set (i := 0) u1).set (i := 1) u2).set (i := 2) u3
theorem Own.push1 (h : Own w0 w (A :: B :: L)) : Own w0 w (B :: A :: L) := h.pull2
theorem Own.push2 (h : Own w0 w (A :: B :: C :: L)) : Own w0 w (B :: C :: A :: L) := h.pull3.pull3
theorem Own.push3 (h : Own w0 w (A :: B :: C :: D :: L)) : Own w0 w (B :: C :: D :: A :: L) := h.pull4.pull4.pull4
theorem Own.push4 (h : Own w0 w (A :: B :: C :: D :: E :: L)) : Own w0 w (B :: C :: D :: E :: A :: L) := h.pull5.pull5.pull5.pull5
theorem Own.push5 (h : Own w0 w (A :: B :: C :: D :: E :: F :: L)) : Own w0 w (B :: C :: D :: E :: F :: A :: L) := h.pull6.pull6.pull6.pull6.pull6
/-- Four things at once. -/
theorem Own.head4 (h : Own w0 w (A :: B :: C :: D :: L)) : ∃ P1 P2 P3 P4 : Nat → Prop, (A.P w w0.heap.size P1 ∧ B.P w w0.heap.size P2 ∧ C.P w w0.heap.size P3 ∧ D.P w w0.heap.size P4) ∧
    ((∀ k, P1 k → ¬ P2 k) ∧ (∀ k, P1 k → ¬ P3 k) ∧ (∀ k, P1 k → ¬ P4 k) ∧ (∀ k, P2 k → ¬ P3 k) ∧ (∀ k, P2 k → ¬ P4 k) ∧ (∀ k, P3 k → ¬ P4 k)) ∧
    (∀ k, P1 k ∨ P2 k ∨ P3 k ∨ P4 k → w0.heap.size ≤ k ∧ k < w.heap.size) ∧
    ∀ w1 R, Mod w0.heap.size (fun k => P1 k ∨ P2 k ∨ P3 k ∨ P4 k) w w1 → Hold w1 w0.heap.size R (fun k => (P1 k ∨ P2 k ∨ P3 k ∨ P4 k) ∨ w.heap.size ≤ k) → Own w0 w1 (R ++ L) := by
  obtain ⟨b, S, ⟨S1, T1, h1, ⟨S2, T2, h2, ⟨S3, T3, h3, ⟨S4, T4, h4, hr, d4, i4, j4⟩, d3, i3, j3⟩, d2, i2, j2⟩, d1, i1, j1⟩, hk⟩ := h
  have hb : ∀ k, S1 k ∨ S2 k ∨ S3 k ∨ S4 k → w0.heap.size ≤ k ∧ k < w.heap.size := by
    rintro k (h | h | h | h)
    · exact hk k (i1 k h)
    · exact hk k (j1 k (i2 k h))
    · exact hk k (j1 k (j2 k (i3 k h)))
    · exact hk k (j1 k (j2 k (j3 k (i4 k h))))
  have hT : ∀ k, T4 k → w0.heap.size ≤ k ∧ k < w.heap.size := fun k h => hk k (j1 k (j2 k (j3 k (j4 k h))))
  have hd : ∀ k, S1 k ∨ S2 k ∨ S3 k ∨ S4 k → ¬ T4 k := by
    rintro k (h | h | h | h) ht
    · exact d1 k h (j2 k (j3 k (j4 k ht)))
    · exact d2 k h (j3 k (j4 k ht))
    · exact d3 k h (j4 k ht)
    · exact d4 k h ht
  refine ⟨S1, S2, S3, S4, ⟨h1, h2, h3, h4⟩, ⟨fun k a c => d1 k a (i2 k c), fun k a c => d1 k a (j2 k (i3 k c)), fun k a c => d1 k a (j2 k (j3 k (i4 k c))), fun k a c => d2 k a (i3 k c), fun k a c => d2 k a (j3 k (i4 k c)), fun k a c => d3 k a (i4 k c)⟩, hb, fun w1 R hm hR => ?_⟩
  refine ⟨b.trans hm.below, fun k => T4 k ∨ (((S1 k ∨ S2 k ∨ S3 k ∨ S4 k) ∨ w.heap.size ≤ k) ∧ k < w1.heap.size), ?_, ?_⟩
  · exact hR.cut.append (hr.move (fun k hk2 hl => hm.kept.2 k hl (fun hk1 => hd k hk1 hk2))) (fun k hk1 hk2 => hk1.1.elim (fun h => hd k h hk2) (fun h => by have := (hT k hk2).2; omega)) (fun k h => .inr h) (fun k h => .inl h)
  · rintro k (h | ⟨h | h, h'⟩)
    · exact ⟨(hT k h).1, Nat.lt_of_lt_of_le (hT k h).2 hm.size⟩
    · exact ⟨(hb k h).1, h'⟩
    · exact ⟨Nat.le_trans b.size h, h'⟩
/-- What a printed contract says of the world, as Mod. -/
theorem mod_of {S : Nat → Prop} (h : Below w0.heap.size w0 w) (h1 : Below w0.heap.size w0 w1) (hk : Kept w w1 S) : Mod w0.heap.size S w w1 :=
  ⟨⟨h1.os.trans h.os.symm, h1.tape.trans h.tape.symm, h1.output.trans h.output.symm, hk.1, fun k hk => (h1.block k hk).trans (h.block k hk).symm⟩, hk⟩
/-- A row of whole numbers that the call owns. -/
abbrev I (v : Value) (xs : List Int) : Asn := Row (Kd.int .i64) 3 v xs
theorem Own.put {b c n : Nat} {ys : List Int} (h : Own w0 w (I (.slice (some ⟨b, 0, none⟩) n c) ys :: L)) (hn : ys.length = n) (i : Nat) (x : Int) : Own w0 (w.setCell ⟨b, i, none⟩ (.int .i64 x)) (I (.slice (some ⟨b, 0, none⟩) n c) (ys.set i x) :: L) := by
  subst hn
  obtain ⟨S, hs, hb, f⟩ := h.head
  have hp := (Kd.R_put (enc := Value.int .i64) (h1 := fun _ => rfl) hs (i : Int) x).1
  rw [Int.toNat_natCast] at hp
  exact f _ [_] ((Mod.refl _ _ _).setCell (p := ⟨b, i, none⟩) (hb b (hs.1 b rfl)).1 (.inl (hs.1 b rfl)) _) (Hold.one (Kd.R_mono hp (fun k hk => .inl hk)))
theorem Own.cell {b c n : Nat} {ys : List Int} (h : Own w0 w (I (.slice (some ⟨b, 0, none⟩) n c) ys :: L)) (hn : ys.length = n) (i : Nat) (hi : i < n) : w.cell? ⟨b, i, none⟩ = some (.int .i64 (ys.getD i 0)) ∧ w.frozen? ⟨b, i, none⟩ = false ∧ n ≤ c := by
  subst hn
  obtain ⟨S, hs, hb, f⟩ := h.head
  have hp := Kd.R_cell (enc := Value.int .i64) (h1 := fun _ => rfl) 0 hs (i : Int) (by omega) (by omega)
  rw [Int.toNat_natCast] at hp
  exact ⟨hp.1, hp.2, (Kd.R_reads' hs).2.1⟩
theorem flat {e B : Nat} {S : Nat → Prop} {v : Value} {xs : List Int} (h : (Kd.int .i64).R e w B S v xs) : (Kd.int .i64).R e w B (fun k => v.ownBlock = some k) v xs := Kd.R_of_own (Kd.own_of_R h) (fun _ hk => hk)
theorem ints4 {b : Nat} {Q : Nat → Prop} {v1 v2 v3 v4 : Value} {x1 x2 x3 x4 : List Int}
    (h1 : (Kd.int .i64).R 3 w b (fun k => Q k ∧ some k ≠ v2.ownBlock ∧ some k ≠ v3.ownBlock ∧ some k ≠ v4.ownBlock) v1 x1)
    (h2 : (Kd.int .i64).R 3 w b (fun k => Q k ∧ some k ≠ v1.ownBlock ∧ some k ≠ v3.ownBlock ∧ some k ≠ v4.ownBlock) v2 x2)
    (h3 : (Kd.int .i64).R 3 w b (fun k => Q k ∧ some k ≠ v1.ownBlock ∧ some k ≠ v2.ownBlock ∧ some k ≠ v4.ownBlock) v3 x3)
    (h4 : (Kd.int .i64).R 3 w b (fun k => Q k ∧ some k ≠ v1.ownBlock ∧ some k ≠ v2.ownBlock ∧ some k ≠ v3.ownBlock) v4 x4) : Hold w b [I v1 x1, I v2 x2, I v3 x3, I v4 x4] Q := by
  refine ⟨_, fun k => v2.ownBlock = some k ∨ v3.ownBlock = some k ∨ v4.ownBlock = some k, flat h1, ⟨_, fun k => v3.ownBlock = some k ∨ v4.ownBlock = some k, flat h2, ⟨_, fun k => v4.ownBlock = some k, flat h3, Hold.one (flat h4), ?_, fun k h => .inl h, fun k h => .inr h⟩, ?_, fun k h => .inl h, fun k h => .inr h⟩, ?_, fun k h => (h1.1 k h).1, ?_⟩
  · intro k a c; exact (h3.1 k a).2.2.2 c.symm
  · rintro k a (c | c)
    · exact (h2.1 k a).2.2.1 c.symm
    · exact (h2.1 k a).2.2.2 c.symm
  · rintro k a (c | c | c)
    · exact (h1.1 k a).2.1 c.symm
    · exact (h1.1 k a).2.2.1 c.symm
    · exact (h1.1 k a).2.2.2 c.symm
  · rintro k (c | c | c)
    · exact (h2.1 k c).1
    · exact (h3.1 k c).1
    · exact (h4.1 k c).1
end
end Go.Proofs.YtbcgddacmjliaaaDoor.Own
