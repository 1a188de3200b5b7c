/- The law's proof: words, contracts of the functions that it reaches, plain lemmas. -/
import Derived.ArgAppend
import Derived.Below
import Derived.BigQuiet
import Derived.Carry
import Derived.Deep.AppendLies
import Derived.Deep.CutBlock
import Derived.Deep.DeepCutAuto
import Derived.Deep.Draws
import Derived.Deep.LoopGhost
import Derived.Deep.OwnRows
import Derived.Deep.QuietTactic
import Derived.Deep.RegionHeld3
import Derived.Deep.RegionWith
import Derived.KernelRfl
import Derived.Laws.BitsLemmas
import Derived.Laws.BytesArg
import Derived.Laws.IdiomCopy
import Derived.Laws.MakeOwn
import Derived.Laws.OwnMore
import Derived.Laws.Rows
import Derived.Laws.Slices
import Derived.Lib.AppendStr
import Derived.Lib.BufferMore
import Derived.Lib.ConvBytes
import Derived.Lib.Hide
import Derived.Lib.LazyBuf
import Derived.Maps.AppendAt
import Derived.OpenShut
import Derived.OrdersHeld
import Derived.Outline
import Derived.OwnWalk
import Derived.OwnWalkIn
import Derived.RegionTactic
import Derived.RowKit3
import Derived.StillTailTactics
import Derived.Tactics
import Derived.WalkKit
import Derived.WideLaws
import Derived.RegionIn
import Derived.ControlIn
import Derived.Shelf.Abstract
import Derived.Shelf.RegionOpen
import Derived.TacticsInMore
import Derived.LoopNIn
import Derived.LoopIn
import Derived.Test.YtliiploidjnmnaaDoorCt3
import Derived.Test.YtliiploidjnmnaaDoorCt1
import Derived.Test.YtliiploidjnmnaaDoorCt8
import Derived.Test.YtliiploidjnmnaaDoorProg
section
/- frame.chunks: the iterator over chunks of nine bytes. -/
set_option linter.unusedVariables false
set_option linter.unusedSimpArgs false
namespace Go.Proofs.YtliiploidjnmnaaDoor.PF
open Go.RowKit Go.Shelf Go.Proofs.YtliiploidjnmnaaDoorW.PrintWords Go.Proofs.YtliiploidjnmnaaDoor.Mem Go.Proofs.YtliiploidjnmnaaDoor.Own Go.Proofs.YtliiploidjnmnaaDoor.Rng

theorem own_swap {w0 w : World} (A B : List Asn) {L : List Asn} (h : Own.Own w0 w (A ++ (B ++ L))) : Own.Own w0 w (B ++ (A ++ L)) := by
  refine h.map ?_
  have hp : ∀ {L R : List Asn}, L.Perm R → ∀ {w : World} {b : Nat} (S : Nat → Prop), Hold w b L S → Hold w b R S := by
    intro L R hp w b
    induction hp with
    | nil => exact fun _ h => h
    | cons x _ ih => exact fun _ h => Hold.cons ih h
    | swap x y l => exact fun _ h => Hold.swap h
    | trans _ _ ih1 ih2 => exact fun S h => ih2 S (ih1 S h)
  refine fun S => hp ?_ S
  rw [← List.append_assoc, ← List.append_assoc]
  exact List.Perm.append_right L List.perm_append_comm
/-- As wp_range_box; the loop's object is told to be one. -/
theorem wp_range_loop {α γ : Type} {P : Program} {n : Nat} {g : Operand} {ps : Array Tmp} {assign body : Code} {Q : Exit → Act → World → Prop} {a : Act} {w w0 : World} {L0 : List Asn}
    (h1 : 2 ≤ n) {gf : Nat} {lb : Array Value} (hg : a.eval g = .func (.func gf) #[] lb) (eg : ∀ args w, (callFunc gf args).run P w = .ok (.enter gf args) w)
    {encs : α → Array Value} (hps : ∀ x, (encs x).size = ps.size) {At Next : γ → α → List Asn → Prop} {Done : List Asn → Prop} (hseq : Iterates P w0 gf lb encs L0 At Next Done) (HO : Own.Own w0 w L0)
    (Stop : Code → List Asn → Prop)
    (hround : ∀ (l D : Nat) (o : Obj) (s : γ) (x : α) (L : List Asn) (W : World), (∃ q, o = .loop q) → At s x L → Own.Own w0 W (Dfr D :: Pt l o :: L) →
      assign.wpIn (Fence.wide.inRound l) (n - 1 - 1) P (Exit.then (fun a₁ W1 => ∃ Lx, Own.Own w0 W1 (Dfr D :: Pt l o :: Lx) ∧ ∀ (o2 : Obj) (W2 : World), (∃ q, o2 = .loop q) → Own.Own w0 W2 (Dfr D :: Pt l o2 :: Lx) →
        body.wpIn (Fence.wide.inRound l) (n - 1 - 1) P (roundEnd w0 D l o2 (Next s x) Stop) a₁ W2) (fun _ _ _ => False)) { tmps := (ps.zip (encs x)).foldl (fun t (p, v) => t.setIfInBounds p v) a.tmps, defers := [] } W)
    (hdone : ∀ (D : Nat) (L : List Asn) (W : World), Done L → Own.Own w0 W (Dfr D :: L) → Q .normal { a with defers := { target := .collected D, args := #[] } :: a.defers } W)
    (hstop : ∀ (D : Nat) (c : Code) (L : List Asn) (W : World), Stop c L → Own.Own w0 W (Dfr D :: L) → c.wpIn Fence.wide n P Q { a with defers := { target := .collected D, args := #[] } :: a.defers } W) :
    (Code.rangeFunc g ps assign body).wpIn Fence.wide n P Q a w := by
  refine wpIn_rangeFunc ?_
  intro fn hfn
  obtain ⟨rec, hrec⟩ : ∃ rec : LoopState → Option Code → Loop, rec = fun st pe => { state := st, pending := pe, fn, tmps := a.tmps, params := ps, assign, body, defers := w.heap.size } := ⟨_, rfl⟩
  obtain ⟨W1, hW1⟩ : ∃ W1, (w.alloc (.deferred (some []))).alloc (.loop (rec .ready none)) = W1 := ⟨_, rfl⟩
  have HO1 : Own.Own w0 W1 (Dfr w.heap.size :: Pt (w.heap.size + 1) (.loop (rec .ready none)) :: L0) := by
    have h := (HO.alloc (.deferred (some []))).alloc (.loop (rec .ready none))
    rw [hW1, World.size_alloc] at h
    exact h.pull2
  refine ⟨w.heap.size + 1, [{ target := .collected w.heap.size, args := #[] }], W1, { target := .fn (.func gf) lb, args := #[.func (.yield (w.heap.size + 1)) #[] #[]] }, W1, gf,
    #[.func (.yield (w.heap.size + 1)) #[] #[]] ++ lb, W1, ?_, ?_, ?_, ?_, fun _ => by omega, ?_⟩
  · rw [← hW1, hrec]; exact run_enterLoop_outer _ _ _ _ _
  · simp only [resolve, hg]
    simp [go_sem]
  · intro f' hf'; trivial
  · simp [invoke, go_sem, eg]
  · refine (hseq (w.heap.size + 1) w.heap.size (n - 1) (.loop (rec .ready none)) W1 (fun o' L' => ∃ c, o' = .loop (rec .done (some c)) ∧ Stop c L') (by omega) HO1 ?_).mono ?_
    · -- one round
      intro s x L W hA hO
      have hl := hO.drop.pt
      have hy := run_yield (P := P) (args := encs x) hl (by rw [hrec]; exact hps x)
      rw [hrec] at hy
      refine ⟨fn, _, assign, body, hy, roundIn_of_wpIn hfn (wpIn_mono (hround _ _ _ s x L W ⟨_, rfl⟩ hA hO) ?_)⟩
      rintro e0 a0 W0 hp0
      cases e0 with
      | ret => exact hp0
      | exit id => exact hp0
      | goto t => exact hp0
      | panic c => exact hp0
      | outgrown => exact hp0
      | normal =>
      obtain ⟨Lx, hOx, hbody⟩ := hp0
      refine ⟨_, run_beginRound hOx.drop.pt (by rw [hrec]), ?_⟩
      have hO2 := (own_putObj hOx.pull2 (.loop { rec .ready none with state := .busy })).pull2
      refine wpIn_mono (hbody _ _ ⟨_, rfl⟩ hO2) ?_
      have fin : ∀ (jump : Option Code) (W3 : World) (L3 : List Asn), Own.Own w0 W3 (Dfr w.heap.size :: Pt (w.heap.size + 1) (.loop { rec .ready none with state := .busy }) :: L3) →
          (Instr.endRound (w.heap.size + 1) jump).run P W3 = .ok (.bool jump.isNone) (W3.putObj (w.heap.size + 1) (.loop (rec (if jump.isNone then .ready else .done) jump))) ∧
          Own.Own w0 (W3.putObj (w.heap.size + 1) (.loop (rec (if jump.isNone then .ready else .done) jump))) (Dfr w.heap.size :: Pt (w.heap.size + 1) (.loop (rec (if jump.isNone then .ready else .done) jump)) :: L3) := fun jump W3 L3 h3 => by
        have hl3 := h3.drop.pt
        have := run_endRound (P := P) jump hl3
        rw [hrec] at this ⊢
        rw [hrec] at h3
        exact ⟨this, (own_putObj h3.pull2 _).pull2⟩
      rintro e a3 W3 hp
      cases e with
      | normal =>
        obtain ⟨L3, hn3, h3⟩ := hp
        obtain ⟨hr, h4⟩ := fin none W3 L3 h3
        exact ⟨_, _, hr, .inl ⟨rfl, L3, hn3, h4⟩⟩
      | ret =>
        obtain ⟨L3, hn3, h3⟩ := hp
        obtain ⟨hr, h4⟩ := fin (some .ret) W3 L3 h3
        exact ⟨_, _, hr, .inr ⟨rfl, _, L3, ⟨_, rfl, hn3⟩, h4⟩⟩
      | exit id =>
        obtain ⟨L3, hn3, h3⟩ := hp
        obtain ⟨hr, h4⟩ := fin (some (.exit id)) W3 L3 h3
        exact ⟨_, _, hr, .inr ⟨rfl, _, L3, ⟨_, rfl, hn3⟩, h4⟩⟩
      | goto t =>
        obtain ⟨L3, hn3, h3⟩ := hp
        obtain ⟨hr, h4⟩ := fin (some (.goto t)) W3 L3 h3
        exact ⟨_, _, hr, .inr ⟨rfl, _, L3, ⟨_, rfl, hn3⟩, h4⟩⟩
      | panic ch => exact hp.elim
      | outgrown => exact hp.elim
    · -- behind the iterator
      rintro e W2 ⟨⟨v, rfl⟩, (⟨L2, hD, hO⟩ | ⟨o', L2, ⟨c, rfl, hS⟩, hO⟩)⟩
      · exact ⟨none, _, by have := run_endLoop (P := P) hO.drop.pt (by rw [hrec]; simp); rw [hrec] at this; exact this, hdone _ L2 _ hD (own_putObj hO.pull2 _).drop⟩
      · exact ⟨some c, _, by have := run_endLoop (P := P) hO.drop.pt (by rw [hrec]; simp); rw [hrec] at this; exact this, hstop _ c L2 _ hS (own_putObj hO.pull2 _).drop⟩
/-- The k-th chunk. -/
def chk (s : ByteArray) (k : Nat) : ByteArray := s.extract (9 * k) (9 * k + 9)
abbrev BoxS (b : Nat) (s : ByteArray) : Asn := Pt b (.cells #[.string s] 9)
set_option maxHeartbeats 2000000 in
set_option maxRecDepth 100000 in
theorem chunks_own {w0 w : World} {L : List Asn} (s : ByteArray) (HO : Own.Own w0 w L) :
    Calls Tryd.prog 54 #[.string s] w fun e w' => ∃ b, e = .returned (.func (.func 71) #[] #[.pointer (some ⟨b, 0, none⟩)]) ∧ Own.Own w0 w' (BoxS b s :: L) := by
  have HA := Aside0.mk (HO.alloc (.cells #[.string s] 9))
  go_enter Tryd.func54, Tryd.ntmps54
  go_wp2_with fail
  go_ret
  exact ⟨_, rfl, HA.out⟩
abbrev ChL (b : Nat) (s : ByteArray) (rest : Nat → List Asn) (k : Nat) : List Asn := BoxS b s :: rest k
set_option maxHeartbeats 2000000 in
set_option maxRecDepth 100000 in
theorem chunks_iter (w0 : World) (b : Nat) (s : ByteArray) (hs : s.size ≤ 1000000) (rest : Nat → List Asn) (I : Nat → Prop) (h0 : I 0) :
    Iterates Tryd.prog w0 71 #[.pointer (some ⟨b, 0, none⟩)] (fun c : ByteArray => #[.string c]) (ChL b s rest 0)
      (fun (k : Nat) c K => k < s.size / 9 ∧ c = chk s k ∧ K = ChL b s rest k ∧ I k) (fun k c K => K = ChL b s rest (k + 1) ∧ I (k + 1)) (fun K => K = ChL b s rest (s.size / 9) ∧ I (s.size / 9)) := by
  intro l D m o W Left hm HO hY
  have HO := Aside0.mk HO
  have HS := Lib.hid hs
  have HI := Aside0.mk h0
  clear hs h0
  refine callsIn_of_wp Tryd.func71 rfl trivial ?_ rfl
  simp only [Tryd.ntmps71, List.size_toArray, List.length_cons, List.length_nil, Nat.reduceAdd, Nat.reduceSub, Array.replicate_succ, Array.replicate_zero, List.push_toArray, List.append_toArray, List.nil_append, List.cons_append]
  gi_wp2
  gi_loopw [3] (fun v3 wr => ∃ (k : Nat) (a : Int), k ≤ s.size / 9 ∧ a = 9 * (k : Int) ∧ v3 = .int .i64 a ∧ Aside0 (I k) ∧ Aside0 (Own.Own w0 wr (Dfr D :: Pt l o :: ChL b s rest k))) (fun v3 _ => 9 * (s.size / 9) - (intOf v3).toNat)
  case atStart => exact ⟨0, 0, by omega, by omega, rfl, HI, HO⟩
  case round =>
    clear HO HI
    obtain ⟨k, a, hk, ha, rfl, HI, HO⟩ := hrel
    have y0 := blk_cell HO.out.drop.drop.pt 0
    simp only [List.getElem?_toArray, List.getElem?_cons_zero] at y0
    obtain ⟨b9, hb9⟩ : ∃ b9, b9 = a + 9 := ⟨_, rfl⟩
    have w8 : wrap64 (a + 9) = b9 := by rw [hb9]; unfold wrap64; have := HS.out; omega
    have w9 : IntKind.i64.wrap (a + 9) = b9 := (Go.Proofs.YtliiploidjnmnaaDoorW.PrintLast.i64_w _).trans w8
    have HA := Lib.hid ha
    have HB9 := Lib.hid hb9
    by_cases hlt : k < s.size / 9
    · have dl : decide (b9 ≤ (s.size : Int)) = true := decide_eq_true (by omega)
      have f1 : (0 ≤ a) = True := eq_true (by omega)
      have f2 : (a ≤ b9) = True := eq_true (by omega)
      have f3 : (b9 ≤ (s.size : Int)) = True := eq_true (by omega)
      have g1 : a.toNat = 9 * k := by omega
      have g2 : b9.toNat = 9 * k + 9 := by omega
      have g3 : s.extract (9 * k) (9 * k + 9) = chk s k := rfl
      clear ha hb9
      obtain ⟨fn, tmps, assign, body, hy, hR⟩ := hY k (chk s k) _ _ ⟨hlt, rfl, rfl, HI.out⟩ HO.out
      gi_wp2
      refine hR.mono ?_
      rintro e W2 (⟨rfl, L', ⟨rfl, hI⟩, hO⟩ | ⟨rfl, o', L', hl, hO⟩)
      · have HN := Aside0.mk hO
        have HI2 := Aside0.mk hI
        clear hO HO y0 hI
        gi_wp2
        go_roundw
        case rel => exact ⟨k + 1, b9, by omega, by have := HA.out; have := HB9.out; omega, rfl, HI2, HN⟩
        case measure => have := HA.out; have := HB9.out; simp [intOf]; omega
      · have HN := Aside0.mk hO
        clear hO HO y0
        gi_wp2
        refine bodyPost_ret (results_none rfl _ _ _) rfl ?_
        exact ⟨⟨_, rfl⟩, .inr ⟨o', L', hl, HN.out⟩⟩
    · obtain rfl : k = s.size / 9 := by omega
      have dl : decide (b9 ≤ (s.size : Int)) = false := decide_eq_false (by omega)
      clear ha hb9
      gi_wp2
      go_end0
      exact ⟨⟨_, rfl⟩, .inl ⟨_, ⟨rfl, HI.out⟩, HO.out⟩⟩
end Go.Proofs.YtliiploidjnmnaaDoor.PF
end
