/- The law's proof: words, contracts of the functions that it reaches, plain lemmas. -/
import Derived.RangeFuncNested
import Derived.RangeFuncBound
import Derived.RangeFuncCalls
import Derived.RangeFuncLeaves
import Derived.RangeFuncRecord
import Derived.RangeFuncSeq
import Derived.RangeFuncWrites
import Derived.WalkKit
import Derived.Test.YtcfonmbojkolfaaPm5
section
/- A range over a function, over what a walk owns: the iterator may write what the walk owns, and so may the loop's body. -/
set_option linter.unusedVariables false
namespace Go.Proofs.Ytcfonmbojkolfaa.Rng
open Go.RowKit Go.Proofs.YtcfonmbojkolfaaW.PrintWords Go.Proofs.Ytcfonmbojkolfaa.Mem Go.Proofs.Ytcfonmbojkolfaa.Own

/-- The block for a loop's deferred calls: there are none. -/
abbrev Dfr (D : Nat) : Asn := Pt D (.deferred (some []))
theorem own_putObj {w0 w : World} {L : List Asn} {g : Nat} {o : Obj} (h : Own.Own w0 w (Pt g o :: L)) (o' : Obj) : Own.Own w0 (w.putObj g o') (Pt g o' :: L) := by
  obtain ⟨S, ⟨ho, hg⟩, hb, f⟩ := h.head
  have hlt := blk_lt ho
  refine f _ [Pt g o'] ⟨⟨rfl, rfl, rfl, by rw [World.putObj_size]; exact Nat.le_refl _, fun k hk => ?_⟩, ?_, ?_⟩ (Hold.one ⟨World.putObj_heap_same hlt, .inl hg⟩)
  · exact World.putObj_heap_other (fun e => by have := (hb g hg).1; omega)
  · rw [World.putObj_size]; exact Nat.le_refl _
  · intro k hk hn
    exact World.putObj_heap_other (fun e => hn (e ▸ hg))
/-- What a round leaves: where it goes on, the next state; where the loop is left, what is to be done then. -/
def roundEnd (w0 : World) (D l : Nat) (o : Obj) (Next : List Asn → Prop) (Stop : Code → List Asn → Prop) : Exit → Act → World → Prop
  | .normal, _, W => ∃ L, Next L ∧ Own.Own w0 W (Dfr D :: Pt l o :: L)
  | .ret, _, W => ∃ L, Stop .ret L ∧ Own.Own w0 W (Dfr D :: Pt l o :: L)
  | .exit id, _, W => ∃ L, Stop (.exit id) L ∧ Own.Own w0 W (Dfr D :: Pt l o :: L)
  | .goto t, _, W => ∃ L, Stop (.goto t) L ∧ Own.Own w0 W (Dfr D :: Pt l o :: L)
  | .panic _, _, _ => False
  | .outgrown, _, _ => False
/-- What the iterator is told of yield, and what it owes: from what is At on to what is Next, or to what it is not told of. -/
def Iterates {γ α : Type} (P : Program) (w0 : World) (gf : Nat) (lb : Array Value) (encs : α → Array Value) (L0 : List Asn) (At : γ → α → List Asn → Prop) (Next : γ → α → List Asn → Prop) (Done : List Asn → Prop) : Prop :=
  ∀ (l D n : Nat) (o : Obj) (W : World) (Left : Obj → List Asn → Prop), 1 ≤ n → Own.Own w0 W (Dfr D :: Pt l o :: L0) →
    (∀ (s : γ) (x : α) (L : List Asn) (W1 : World), At s x L → Own.Own w0 W1 (Dfr D :: Pt l o :: L) → YieldAt Fence.wide (n - 1) P l (encs x) W1 fun e W' =>
      (e = .returned (.bool true) ∧ ∃ L', Next s x L' ∧ Own.Own w0 W' (Dfr D :: Pt l o :: L')) ∨ (e = .returned (.bool false) ∧ ∃ o' L', Left o' L' ∧ Own.Own w0 W' (Dfr D :: Pt l o' :: L'))) →
    CallsIn Fence.wide n P gf (#[.func (.yield l) #[] #[]] ++ lb) W fun e W' => (∃ v, e = .returned v) ∧ ((∃ L', Done L' ∧ Own.Own w0 W' (Dfr D :: Pt l o :: L')) ∨ (∃ o' L', Left o' L' ∧ Own.Own w0 W' (Dfr D :: Pt l o' :: L')))
theorem wp_range_own {α γ : Type} {P : Program} {n : Nat} {g : Operand} {ps : Array Tmp} {assign body : Code} {Q : Exit → Act → World → Prop} {a : Act} {w w0 : World} {L0 : List Asn}
    (h1 : 2 ≤ n) {gf : Nat} {lb : Array Value} (hg : a.eval g = .func (.func gf) #[] lb) (eg : ∀ args w, (callFunc gf args).run P w = .ok (.enter gf args) w)
    {encs : α → Array Value} (hps : ∀ x, (encs x).size = ps.size) {At Next : γ → α → List Asn → Prop} {Done : List Asn → Prop} (hseq : Iterates P w0 gf lb encs L0 At Next Done) (HO : Own.Own w0 w L0)
    (Stop : Code → List Asn → Prop) (a₁ : α → Act)
    (hassign : ∀ (l : Nat) (x : α) (W : World) (K : Act → World → Prop), K (a₁ x) W →
      assign.wpIn (Fence.wide.inRound l) (n - 1 - 1) P (Exit.then K (fun _ _ _ => False)) { tmps := (ps.zip (encs x)).foldl (fun t (p, v) => t.setIfInBounds p v) a.tmps, defers := [] } W)
    (hbody : ∀ (l D : Nat) (o : Obj) (s : γ) (x : α) (L : List Asn) (W : World), At s x L → Own.Own w0 W (Dfr D :: Pt l o :: L) → body.wpIn (Fence.wide.inRound l) (n - 1 - 1) P (roundEnd w0 D l o (Next s x) Stop) (a₁ x) W)
    (hdone : ∀ (D : Nat) (L : List Asn) (W : World), Done L → Own.Own w0 W (Dfr D :: L) → Q .normal { a with defers := { target := .collected D, args := #[] } :: a.defers } W)
    (hstop : ∀ (D : Nat) (c : Code) (L : List Asn) (W : World), Stop c L → Own.Own w0 W (Dfr D :: L) → c.wpIn Fence.wide n P Q { a with defers := { target := .collected D, args := #[] } :: a.defers } W) :
    (Code.rangeFunc g ps assign body).wpIn Fence.wide n P Q a w := by
  refine wpIn_rangeFunc ?_
  intro fn hfn
  obtain ⟨rec, hrec⟩ : ∃ rec : LoopState → Option Code → Loop, rec = fun st pe => { state := st, pending := pe, fn, tmps := a.tmps, params := ps, assign, body, defers := w.heap.size } := ⟨_, rfl⟩
  obtain ⟨W1, hW1⟩ : ∃ W1, (w.alloc (.deferred (some []))).alloc (.loop (rec .ready none)) = W1 := ⟨_, rfl⟩
  have HO1 : Own.Own w0 W1 (Dfr w.heap.size :: Pt (w.heap.size + 1) (.loop (rec .ready none)) :: L0) := by
    have h := (HO.alloc (.deferred (some []))).alloc (.loop (rec .ready none))
    rw [hW1, World.size_alloc] at h
    exact h.pull2
  refine ⟨w.heap.size + 1, [{ target := .collected w.heap.size, args := #[] }], W1, { target := .fn (.func gf) lb, args := #[.func (.yield (w.heap.size + 1)) #[] #[]] }, W1, gf,
    #[.func (.yield (w.heap.size + 1)) #[] #[]] ++ lb, W1, ?_, ?_, ?_, ?_, fun _ => by omega, ?_⟩
  · rw [← hW1, hrec]; exact run_enterLoop_outer _ _ _ _ _
  · simp only [resolve, hg]
    simp [go_sem]
  · intro f' hf'; trivial
  · simp [invoke, go_sem, eg]
  · refine (hseq (w.heap.size + 1) w.heap.size (n - 1) (.loop (rec .ready none)) W1 (fun o' L' => ∃ c, o' = .loop (rec .done (some c)) ∧ Stop c L') (by omega) HO1 ?_).mono ?_
    · -- one round
      intro s x L W hA hO
      have hl := hO.drop.pt
      have hy := run_yield (P := P) (args := encs x) hl (by rw [hrec]; exact hps x)
      rw [hrec] at hy
      refine ⟨fn, _, assign, body, hy, roundIn_of_wpIn hfn (hassign _ x W _ ⟨_, run_beginRound hl (by rw [hrec]), ?_⟩)⟩
      have hO2 := (own_putObj hO.pull2 (.loop { rec .ready none with state := .busy })).pull2
      refine wpIn_mono (hbody _ _ _ s x L _ hA hO2) ?_
      have fin : ∀ (jump : Option Code) (W3 : World) (L3 : List Asn), Own.Own w0 W3 (Dfr w.heap.size :: Pt (w.heap.size + 1) (.loop { rec .ready none with state := .busy }) :: L3) →
          (Instr.endRound (w.heap.size + 1) jump).run P W3 = .ok (.bool jump.isNone) (W3.putObj (w.heap.size + 1) (.loop (rec (if jump.isNone then .ready else .done) jump))) ∧
          Own.Own w0 (W3.putObj (w.heap.size + 1) (.loop (rec (if jump.isNone then .ready else .done) jump))) (Dfr w.heap.size :: Pt (w.heap.size + 1) (.loop (rec (if jump.isNone then .ready else .done) jump)) :: L3) := fun jump W3 L3 h3 => by
        have hl3 := h3.drop.pt
        have := run_endRound (P := P) jump hl3
        rw [hrec] at this ⊢
        rw [hrec] at h3
        exact ⟨this, (own_putObj h3.pull2 _).pull2⟩
      rintro e a3 W3 hp
      cases e with
      | normal =>
        obtain ⟨L3, hn3, h3⟩ := hp
        obtain ⟨hr, h4⟩ := fin none W3 L3 h3
        exact ⟨_, _, hr, .inl ⟨rfl, L3, hn3, h4⟩⟩
      | ret =>
        obtain ⟨L3, hn3, h3⟩ := hp
        obtain ⟨hr, h4⟩ := fin (some .ret) W3 L3 h3
        exact ⟨_, _, hr, .inr ⟨rfl, _, L3, ⟨_, rfl, hn3⟩, h4⟩⟩
      | exit id =>
        obtain ⟨L3, hn3, h3⟩ := hp
        obtain ⟨hr, h4⟩ := fin (some (.exit id)) W3 L3 h3
        exact ⟨_, _, hr, .inr ⟨rfl, _, L3, ⟨_, rfl, hn3⟩, h4⟩⟩
      | goto t =>
        obtain ⟨L3, hn3, h3⟩ := hp
        obtain ⟨hr, h4⟩ := fin (some (.goto t)) W3 L3 h3
        exact ⟨_, _, hr, .inr ⟨rfl, _, L3, ⟨_, rfl, hn3⟩, h4⟩⟩
      | panic ch => exact hp.elim
      | outgrown => exact hp.elim
    · -- behind the iterator
      rintro e W2 ⟨⟨v, rfl⟩, (⟨L2, hD, hO⟩ | ⟨o', L2, ⟨c, rfl, hS⟩, hO⟩)⟩
      · exact ⟨none, _, by have := run_endLoop (P := P) hO.drop.pt (by rw [hrec]; simp); rw [hrec] at this; exact this, hdone _ L2 _ hD (own_putObj hO.pull2 _).drop⟩
      · exact ⟨some c, _, by have := run_endLoop (P := P) hO.drop.pt (by rw [hrec]; simp); rw [hrec] at this; exact this, hstop _ c L2 _ hS (own_putObj hO.pull2 _).drop⟩
/-- As wp_range_own; the loop's variables may lie in boxes that each round lays anew. -/
theorem wp_range_box {α γ : Type} {P : Program} {n : Nat} {g : Operand} {ps : Array Tmp} {assign body : Code} {Q : Exit → Act → World → Prop} {a : Act} {w w0 : World} {L0 : List Asn}
    (h1 : 2 ≤ n) {gf : Nat} {lb : Array Value} (hg : a.eval g = .func (.func gf) #[] lb) (eg : ∀ args w, (callFunc gf args).run P w = .ok (.enter gf args) w)
    {encs : α → Array Value} (hps : ∀ x, (encs x).size = ps.size) {At Next : γ → α → List Asn → Prop} {Done : List Asn → Prop} (hseq : Iterates P w0 gf lb encs L0 At Next Done) (HO : Own.Own w0 w L0)
    (Stop : Code → List Asn → Prop)
    (hround : ∀ (l D : Nat) (o : Obj) (s : γ) (x : α) (L : List Asn) (W : World), At s x L → Own.Own w0 W (Dfr D :: Pt l o :: L) →
      assign.wpIn (Fence.wide.inRound l) (n - 1 - 1) P (Exit.then (fun a₁ W1 => ∃ Lx, Own.Own w0 W1 (Dfr D :: Pt l o :: Lx) ∧ ∀ (o2 : Obj) (W2 : World), Own.Own w0 W2 (Dfr D :: Pt l o2 :: Lx) →
        body.wpIn (Fence.wide.inRound l) (n - 1 - 1) P (roundEnd w0 D l o2 (Next s x) Stop) a₁ W2) (fun _ _ _ => False)) { tmps := (ps.zip (encs x)).foldl (fun t (p, v) => t.setIfInBounds p v) a.tmps, defers := [] } W)
    (hdone : ∀ (D : Nat) (L : List Asn) (W : World), Done L → Own.Own w0 W (Dfr D :: L) → Q .normal { a with defers := { target := .collected D, args := #[] } :: a.defers } W)
    (hstop : ∀ (D : Nat) (c : Code) (L : List Asn) (W : World), Stop c L → Own.Own w0 W (Dfr D :: L) → c.wpIn Fence.wide n P Q { a with defers := { target := .collected D, args := #[] } :: a.defers } W) :
    (Code.rangeFunc g ps assign body).wpIn Fence.wide n P Q a w := by
  refine wpIn_rangeFunc ?_
  intro fn hfn
  obtain ⟨rec, hrec⟩ : ∃ rec : LoopState → Option Code → Loop, rec = fun st pe => { state := st, pending := pe, fn, tmps := a.tmps, params := ps, assign, body, defers := w.heap.size } := ⟨_, rfl⟩
  obtain ⟨W1, hW1⟩ : ∃ W1, (w.alloc (.deferred (some []))).alloc (.loop (rec .ready none)) = W1 := ⟨_, rfl⟩
  have HO1 : Own.Own w0 W1 (Dfr w.heap.size :: Pt (w.heap.size + 1) (.loop (rec .ready none)) :: L0) := by
    have h := (HO.alloc (.deferred (some []))).alloc (.loop (rec .ready none))
    rw [hW1, World.size_alloc] at h
    exact h.pull2
  refine ⟨w.heap.size + 1, [{ target := .collected w.heap.size, args := #[] }], W1, { target := .fn (.func gf) lb, args := #[.func (.yield (w.heap.size + 1)) #[] #[]] }, W1, gf,
    #[.func (.yield (w.heap.size + 1)) #[] #[]] ++ lb, W1, ?_, ?_, ?_, ?_, fun _ => by omega, ?_⟩
  · rw [← hW1, hrec]; exact run_enterLoop_outer _ _ _ _ _
  · simp only [resolve, hg]
    simp [go_sem]
  · intro f' hf'; trivial
  · simp [invoke, go_sem, eg]
  · refine (hseq (w.heap.size + 1) w.heap.size (n - 1) (.loop (rec .ready none)) W1 (fun o' L' => ∃ c, o' = .loop (rec .done (some c)) ∧ Stop c L') (by omega) HO1 ?_).mono ?_
    · -- one round
      intro s x L W hA hO
      have hl := hO.drop.pt
      have hy := run_yield (P := P) (args := encs x) hl (by rw [hrec]; exact hps x)
      rw [hrec] at hy
      refine ⟨fn, _, assign, body, hy, roundIn_of_wpIn hfn (wpIn_mono (hround _ _ _ s x L W hA hO) ?_)⟩
      rintro e0 a0 W0 hp0
      cases e0 with
      | ret => exact hp0
      | exit id => exact hp0
      | goto t => exact hp0
      | panic c => exact hp0
      | outgrown => exact hp0
      | normal =>
      obtain ⟨Lx, hOx, hbody⟩ := hp0
      refine ⟨_, run_beginRound hOx.drop.pt (by rw [hrec]), ?_⟩
      have hO2 := (own_putObj hOx.pull2 (.loop { rec .ready none with state := .busy })).pull2
      refine wpIn_mono (hbody _ _ hO2) ?_
      have fin : ∀ (jump : Option Code) (W3 : World) (L3 : List Asn), Own.Own w0 W3 (Dfr w.heap.size :: Pt (w.heap.size + 1) (.loop { rec .ready none with state := .busy }) :: L3) →
          (Instr.endRound (w.heap.size + 1) jump).run P W3 = .ok (.bool jump.isNone) (W3.putObj (w.heap.size + 1) (.loop (rec (if jump.isNone then .ready else .done) jump))) ∧
          Own.Own w0 (W3.putObj (w.heap.size + 1) (.loop (rec (if jump.isNone then .ready else .done) jump))) (Dfr w.heap.size :: Pt (w.heap.size + 1) (.loop (rec (if jump.isNone then .ready else .done) jump)) :: L3) := fun jump W3 L3 h3 => by
        have hl3 := h3.drop.pt
        have := run_endRound (P := P) jump hl3
        rw [hrec] at this ⊢
        rw [hrec] at h3
        exact ⟨this, (own_putObj h3.pull2 _).pull2⟩
      rintro e a3 W3 hp
      cases e with
      | normal =>
        obtain ⟨L3, hn3, h3⟩ := hp
        obtain ⟨hr, h4⟩ := fin none W3 L3 h3
        exact ⟨_, _, hr, .inl ⟨rfl, L3, hn3, h4⟩⟩
      | ret =>
        obtain ⟨L3, hn3, h3⟩ := hp
        obtain ⟨hr, h4⟩ := fin (some .ret) W3 L3 h3
        exact ⟨_, _, hr, .inr ⟨rfl, _, L3, ⟨_, rfl, hn3⟩, h4⟩⟩
      | exit id =>
        obtain ⟨L3, hn3, h3⟩ := hp
        obtain ⟨hr, h4⟩ := fin (some (.exit id)) W3 L3 h3
        exact ⟨_, _, hr, .inr ⟨rfl, _, L3, ⟨_, rfl, hn3⟩, h4⟩⟩
      | goto t =>
        obtain ⟨L3, hn3, h3⟩ := hp
        obtain ⟨hr, h4⟩ := fin (some (.goto t)) W3 L3 h3
        exact ⟨_, _, hr, .inr ⟨rfl, _, L3, ⟨_, rfl, hn3⟩, h4⟩⟩
      | panic ch => exact hp.elim
      | outgrown => exact hp.elim
    · -- behind the iterator
      rintro e W2 ⟨⟨v, rfl⟩, (⟨L2, hD, hO⟩ | ⟨o', L2, ⟨c, rfl, hS⟩, hO⟩)⟩
      · exact ⟨none, _, by have := run_endLoop (P := P) hO.drop.pt (by rw [hrec]; simp); rw [hrec] at this; exact this, hdone _ L2 _ hD (own_putObj hO.pull2 _).drop⟩
      · exact ⟨some c, _, by have := run_endLoop (P := P) hO.drop.pt (by rw [hrec]; simp); rw [hrec] at this; exact this, hstop _ c L2 _ hS (own_putObj hO.pull2 _).drop⟩
end Go.Proofs.Ytcfonmbojkolfaa.Rng
end
