/- My own words for what a walk owns: heap predicates side by side, apart from each other, behind a world that came in. -/
import Derived.Below
import Derived.Test.YtiblpienmkjmgaaWWords
import Derived.Test.YtiblpienmkjmgaaWKept
import Derived.Test.YtiblpienmkjmgaaMem
set_option linter.unusedVariables false
namespace Go.Proofs.Ytiblpienmkjmgaa.Own
open Go.RowKit Go.Proofs.YtiblpienmkjmgaaW.PrintWords Go.Proofs.Ytiblpienmkjmgaa.Mem

/-- What is said of a world, by blocks of a set alone. -/
structure Asn where
  P : World → Nat → (Nat → Prop) → Prop
  move : ∀ {w w1 : World} {B : Nat} {S : Nat → Prop}, P w B S → (∀ k, S k → k < w.heap.size → w1.heap[k]? = w.heap[k]?) → P w1 B S
  cut : ∀ {w : World} {B : Nat} {S : Nat → Prop}, P w B S → P w B (fun k => S k ∧ k < w.heap.size)
  mono : ∀ {w : World} {B : Nat} {S S' : Nat → Prop}, P w B S → (∀ k, S k → S' k) → P w B S'
  lower : ∀ {w : World} {B B' : Nat} {S : Nat → Prop}, P w B S → B' ≤ B → P w B' S
/-- All of a list hold, by blocks that are apart. -/
def Hold (w : World) (B : Nat) : List Asn → (Nat → Prop) → Prop
  | [], _ => True
  | A :: L, S => ∃ S1 S2 : Nat → Prop, A.P w B S1 ∧ Hold w B L S2 ∧ (∀ k, S1 k → ¬ S2 k) ∧ (∀ k, S1 k → S k) ∧ (∀ k, S2 k → S k)
theorem Hold.mono {w : World} {B : Nat} : ∀ {L : List Asn} {S S' : Nat → Prop}, Hold w B L S → (∀ k, S k → S' k) → Hold w B L S'
  | [], _, _, _, _ => trivial
  | _ :: _, _, _, ⟨S1, S2, h1, h2, h3, h4, h5⟩, hs => ⟨S1, S2, h1, h2, h3, fun k hk => hs k (h4 k hk), fun k hk => hs k (h5 k hk)⟩
theorem Hold.move {w w1 : World} {B : Nat} : ∀ {L : List Asn} {S : Nat → Prop}, Hold w B L S → (∀ k, S k → k < w.heap.size → w1.heap[k]? = w.heap[k]?) → Hold w1 B L S
  | [], _, _, _ => trivial
  | A :: _, _, ⟨S1, S2, h1, h2, h3, h4, h5⟩, hs => ⟨S1, S2, A.move h1 (fun k hk hl => hs k (h4 k hk) hl), h2.move (fun k hk hl => hs k (h5 k hk) hl), h3, h4, h5⟩
theorem Hold.lower {w : World} {B B' : Nat} (hB : B' ≤ B) : ∀ {L : List Asn} {S : Nat → Prop}, Hold w B L S → Hold w B' L S
  | [], _, _ => trivial
  | A :: _, _, ⟨S1, S2, h1, h2, r⟩ => ⟨S1, S2, A.lower h1 hB, h2.lower hB, r⟩
theorem Hold.cut {w : World} {B : Nat} : ∀ {L : List Asn} {S : Nat → Prop}, Hold w B L S → Hold w B L (fun k => S k ∧ k < w.heap.size)
  | [], _, _ => trivial
  | A :: _, _, ⟨S1, S2, h1, h2, h3, h4, h5⟩ => ⟨_, _, A.cut h1, h2.cut, fun k hk hk2 => h3 k hk.1 hk2.1, fun k hk => ⟨h4 k hk.1, hk.2⟩, fun k hk => ⟨h5 k hk.1, hk.2⟩⟩
theorem Hold.append {w : World} {B : Nat} : ∀ {L L' : List Asn} {S S' S'' : Nat → Prop}, Hold w B L S → Hold w B L' S' → (∀ k, S k → ¬ S' k) → (∀ k, S k → S'' k) → (∀ k, S' k → S'' k) → Hold w B (L ++ L') S''
  | [], _, _, _, _, _, h', _, _, h4 => h'.mono h4
  | A :: L, _, S, S', _, ⟨S1, S2, h1, h2, h3, h4, h5⟩, h', hd, hs, hs' =>
    ⟨S1, fun k => S2 k ∨ S' k, h1, h2.append h' (fun k hk => hd k (h5 k hk)) (fun k hk => .inl hk) (fun k hk => .inr hk), fun k hk hk2 => hk2.elim (h3 k hk) (hd k (h4 k hk)), fun k hk => hs k (h4 k hk), fun k hk => hk.elim (fun h => hs k (h5 k h)) (hs' k)⟩
theorem Hold.one {w : World} {B : Nat} {A : Asn} {S : Nat → Prop} (h : A.P w B S) : Hold w B [A] S := ⟨S, fun _ => False, h, trivial, fun _ _ h => h, fun _ h => h, fun _ h => h.elim⟩
theorem Hold.two {w : World} {b : Nat} {A B : Asn} {S S1 S2 : Nat → Prop} (h : A.P w b S1) (h2 : B.P w b S2) (hd : ∀ k, S1 k → ¬ S2 k) (h4 : ∀ k, S1 k → S k) (h5 : ∀ k, S2 k → S k) : Hold w b [A, B] S := ⟨S1, S2, h, Hold.one h2, hd, h4, h5⟩
theorem Hold.swap {w : World} {b : Nat} {A B : Asn} {L : List Asn} {S : Nat → Prop} : Hold w b (A :: B :: L) S → Hold w b (B :: A :: L) S
  | ⟨S1, _, h1, ⟨S3, S4, h3, h4, d34, i3, i4⟩, d12, i1, i2⟩ =>
    ⟨S3, fun k => S1 k ∨ S4 k, h3, ⟨S1, S4, h1, h4, fun k hk hk4 => d12 k hk (i4 k hk4), fun k hk => .inl hk, fun k hk => .inr hk⟩, fun k hk hk2 => hk2.elim (fun h => d12 k h (i3 k hk)) (d34 k hk), fun k hk => i2 k (i3 k hk), fun k hk => hk.elim (i1 k) (fun h => i2 k (i4 k h))⟩
theorem Hold.cons {w : World} {B : Nat} {A : Asn} {L L' : List Asn} {S : Nat → Prop} (f : ∀ S', Hold w B L S' → Hold w B L' S') : Hold w B (A :: L) S → Hold w B (A :: L') S
  | ⟨S1, S2, h1, h2, r⟩ => ⟨S1, S2, h1, f _ h2, r⟩
theorem Hold.drop {w : World} {B : Nat} {A : Asn} {L : List Asn} {S : Nat → Prop} : Hold w B (A :: L) S → Hold w B L S
  | ⟨_, _, _, h2, _, _, h5⟩ => h2.mono h5

/-- What a walk owns in world w, which began at w0: all of it is new since w0, and what was there at w0 is as it was. -/
structure Own (w0 w : World) (L : List Asn) : Prop where
  below : Below w0.heap.size w0 w
  hold : ∃ S : Nat → Prop, Hold w w0.heap.size L S ∧ ∀ k, S k → w0.heap.size ≤ k ∧ k < w.heap.size
section
variable {w0 w w1 : World} {A B C D E F : Asn} {L R : List Asn}
theorem Own.new (w : World) : Own w w [] := ⟨Below.refl _ _, fun _ => False, trivial, fun _ h => h.elim⟩
theorem Own.start (h : Below w0.heap.size w0 w) : Own w0 w [] := ⟨h, fun _ => False, trivial, fun _ h => h.elim⟩
theorem Own.size (h : Own w0 w L) : w0.heap.size ≤ w.heap.size := h.below.size
theorem Own.map (h : Own w0 w L) (f : ∀ S, Hold w w0.heap.size L S → Hold w w0.heap.size R S) : Own w0 w R := let ⟨b, S, hs, hk⟩ := h; ⟨b, S, f S hs, hk⟩
theorem Own.drop (h : Own w0 w (A :: L)) : Own w0 w L := h.map (fun _ => Hold.drop)
theorem Own.pull2 (h : Own w0 w (A :: B :: L)) : Own w0 w (B :: A :: L) := h.map (fun _ => Hold.swap)
theorem Own.under (h : Own w0 w (A :: L)) (f : ∀ S, Hold w w0.heap.size L S → Hold w w0.heap.size R S) : Own w0 w (A :: R) := h.map (fun _ => Hold.cons f)
theorem Own.pull3 (h : Own w0 w (A :: B :: C :: L)) : Own w0 w (C :: A :: B :: L) := (h.map (fun _ => Hold.cons (fun _ => Hold.swap))).pull2
theorem Own.pull4 (h : Own w0 w (A :: B :: C :: D :: L)) : Own w0 w (D :: A :: B :: C :: L) := (h.map (fun _ => Hold.cons (fun _ => Hold.cons (fun _ => Hold.swap)))).pull3
theorem Own.pull5 (h : Own w0 w (A :: B :: C :: D :: E :: L)) : Own w0 w (E :: A :: B :: C :: D :: L) := (h.map (fun _ => Hold.cons (fun _ => Hold.cons (fun _ => Hold.cons (fun _ => Hold.swap))))).pull4
theorem Own.pull6 (h : Own w0 w (A :: B :: C :: D :: E :: F :: L)) : Own w0 w (F :: A :: B :: C :: D :: E :: L) := (h.map (fun _ => Hold.cons (fun _ => Hold.cons (fun _ => Hold.cons (fun _ => Hold.cons (fun _ => Hold.swap)))))).pull5
theorem Own.move (h : Own w0 w L) (hb : Below w.heap.size w w1) : Own w0 w1 L := by
  obtain ⟨b, S, hs, hk⟩ := h
  exact ⟨b.trans (hb.mono b.size), S, hs.move (fun k _ hl => hb.block k hl), fun k hk2 => ⟨(hk k hk2).1, Nat.lt_of_lt_of_le (hk k hk2).2 hb.size⟩⟩
theorem Own.drew (h : Own w0 w L) : Own w0 w.drew L := h.move ⟨rfl, rfl, rfl, Nat.le_refl _, fun _ _ => rfl⟩
theorem Own.drewN (h : Own w0 w L) (n : Nat) : Own w0 (w.drewN n) L := h.move ⟨rfl, rfl, rfl, Nat.le_refl _, fun _ _ => rfl⟩
/-- What is new is added. -/
theorem Own.fresh (h : Own w0 w L) (hb : Below w.heap.size w w1) (hn : Hold w1 w.heap.size R (fun k => w.heap.size ≤ k)) : Own w0 w1 (R ++ L) := by
  obtain ⟨b, S, hs, hk⟩ := h
  refine ⟨b.trans (hb.mono b.size), fun k => S k ∨ (w.heap.size ≤ k ∧ k < w1.heap.size), ?_, ?_⟩
  · exact (hn.lower b.size).cut.append (hs.move (fun k _ hl => hb.block k hl)) (fun k hk1 hk2 => by have := (hk k hk2).2; omega) (fun k h => .inr h) (fun k h => .inl h)
  · rintro k (h | ⟨h, h'⟩)
    · exact ⟨(hk k h).1, Nat.lt_of_lt_of_le (hk k h).2 hb.size⟩
    · exact ⟨Nat.le_trans b.size h, h'⟩
/-- A block by itself. -/
def Pt (g : Nat) (o : Obj) : Asn where
  P w _ S := w.heap[g]? = some o ∧ S g
  move h hm := ⟨(hm g h.2 (blk_lt h.1)).trans h.1, h.2⟩
  cut h := ⟨h.1, h.2, blk_lt h.1⟩
  mono h hs := ⟨h.1, hs g h.2⟩
  lower h _ := h
theorem Own.alloc (h : Own w0 w L) (o : Obj) : Own w0 (w.alloc o) (Pt w.heap.size o :: L) :=
  h.fresh (R := [Pt w.heap.size o]) (below_alloc (Below.refl _ _) o) (Hold.one ⟨blk_new _ _, Nat.le_refl _⟩)
theorem Own.alloc' (h : Own w0 w L) (o : Obj) : Own w0 (w.alloc o) L := h.move (below_alloc (Below.refl _ _) o)
/-- The first thing by itself: its blocks; and how the whole goes on when they change. -/
theorem Own.head (h : Own w0 w (A :: L)) : ∃ S : Nat → Prop, A.P w w0.heap.size S ∧ (∀ k, S k → w0.heap.size ≤ k ∧ k < w.heap.size) ∧
    ∀ w1 R, Mod w0.heap.size S w w1 → Hold w1 w0.heap.size R (fun k => S k ∨ w.heap.size ≤ k) → Own w0 w1 (R ++ L) := by
  obtain ⟨b, S, ⟨S1, S2, h1, h2, hd, i1, i2⟩, hk⟩ := h
  refine ⟨S1, h1, fun k h => hk k (i1 k h), fun w1 R hm hr => ⟨b.trans hm.below, fun k => S2 k ∨ ((S1 k ∨ w.heap.size ≤ k) ∧ k < w1.heap.size), ?_, ?_⟩⟩
  · exact hr.cut.append (h2.move (fun k hk2 hl => hm.kept.2 k hl (fun hk1 => hd k hk1 hk2))) (fun k hk1 hk2 => hk1.1.elim (fun h => hd k h hk2) (fun h => by have := (hk k (i2 k hk2)).2; omega)) (fun k h => .inr h) (fun k h => .inl h)
  · rintro k (h | ⟨h | h, h'⟩)
    · exact ⟨(hk k (i2 k h)).1, Nat.lt_of_lt_of_le (hk k (i2 k h)).2 hm.size⟩
    · exact ⟨(hk k (i1 k h)).1, h'⟩
    · exact ⟨Nat.le_trans b.size h, h'⟩
theorem Own.pt {g : Nat} {o : Obj} (h : Own w0 w (Pt g o :: L)) : w.heap[g]? = some o := let ⟨_, hs, _⟩ := h.head; hs.1
theorem Own.pt_ge {g : Nat} {o : Obj} (h : Own w0 w (Pt g o :: L)) : w0.heap.size ≤ g := let ⟨_, hs, hk, _⟩ := h.head; (hk g hs.2).1
theorem Own.set {g i : Nat} {cs : Array Value} {T : TypeId} (h : Own w0 w (Pt g (.cells cs T (0, 0)) :: L)) (u : Value) : Own w0 (w.setCell ⟨g, i, none⟩ u) (Pt g (.cells (cs.setIfInBounds i u) T (0, 0)) :: L) := by
  obtain ⟨S, hs, hk, f⟩ := h.head
  exact f _ [Pt g _] ((Mod.refl _ _ _).setCell (p := ⟨g, i, none⟩) (hk g hs.2).1 (.inl hs.2) u) (Hold.one ⟨blk_set hs.1 i u, .inl hs.2⟩)
/-- One thing in place of another one. -/
theorem Own.imp (h : Own w0 w (A :: L)) (f : ∀ S, A.P w w0.heap.size S → B.P w w0.heap.size S) : Own w0 w (B :: L) := h.map (fun _ ⟨S1, S2, h1, r⟩ => ⟨S1, S2, f _ h1, r⟩)
/-- Two things as one. -/
def Star (A B : Asn) : Asn where
  P w b S := Hold w b [A, B] S
  move h hm := h.move hm
  cut h := h.cut
  mono h hs := h.mono hs
  lower h hb := h.lower hb
/-- A slice of the call's own. -/
def Row {α : Type} (d : Kd α) (e : Nat) (v : Value) (xs : List α) : Asn where
  P w b S := d.R e w b S v xs
  move h hm := Kd.R_step h hm
  cut h := Kd.R_mono (Kd.R_bound h) (fun _ hk => ⟨hk.1, hk.2.2.1⟩)
  mono h hs := Kd.R_mono h hs
  lower h hb := Kd.R_lower h hb
theorem Own.reads {α : Type} {d : Kd α} {e : Nat} {v : Value} {xs : List α} (h : Own w0 w (Row d e v xs :: L)) : ∃ A c, v = .slice A xs.length c ∧ xs.length ≤ c ∧ d.C w A xs.length xs := let ⟨_, hs, _⟩ := h.head; Kd.R_reads hs
theorem Own.star (h : Own w0 w (A :: B :: L)) : Own w0 w (Star A B :: L) := by
  refine h.map (fun S hs => ?_)
  obtain ⟨S1, S2, h1, ⟨S3, S4, h3, h4, d34, i3, i4⟩, d12, i1, i2⟩ := hs
  exact ⟨fun k => S1 k ∨ S3 k, S4, Hold.two h1 h3 (fun k hk hk3 => d12 k hk (i3 k hk3)) (fun _ h => .inl h) (fun _ h => .inr h), h4, fun k hk hk4 => hk.elim (fun h => d12 k h (i4 k hk4)) (fun h => d34 k h hk4), fun k hk => hk.elim (i1 k) (fun h => i2 k (i3 k h)), fun k hk => i2 k (i4 k hk)⟩
theorem Own.unstar (h : Own w0 w (Star A B :: L)) : Own w0 w (A :: B :: L) := by
  refine h.map (fun S hs => ?_)
  obtain ⟨S1, S2, ⟨S3, S4, h3, ⟨S5, S6, h5, _, _, i5, _⟩, d34, i3, i4⟩, h2, d12, i1, i2⟩ := hs
  exact ⟨S3, fun k => S5 k ∨ S2 k, h3, ⟨S5, S2, h5, h2, fun k hk hk2 => d12 k (i4 k (i5 k hk)) hk2, fun _ h => .inl h, fun _ h => .inr h⟩, fun k hk hk2 => hk2.elim (fun h => d34 k hk (i5 k h)) (fun h => d12 k (i3 k hk) h), fun k hk => i1 k (i3 k hk), fun k hk => hk.elim (fun h => i1 k (i4 k (i5 k h))) (i2 k)⟩
end
end Go.Proofs.Ytiblpienmkjmgaa.Own
