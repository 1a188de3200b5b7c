/- The law's proof: words, contracts of the functions that it reaches, plain lemmas. -/
import Derived.Test.YtcfonmbojkolfaaPm1
import Derived.RangeFuncCalls
import Derived.TacticsIn
import Derived.OrdersIn
import Derived.OwnWalkIn
section
/- A region that draws its order, in a round of a range over a function: the kit's printed walk serves there, too. -/
set_option linter.unusedVariables false
namespace Go.Proofs.Ytcfonmbojkolfaa.RoundReg
open Go.Proofs.YtcfonmbojkolfaaW.PrintLast
/-- No operation of a region is a defer statement. -/
def noDeferB (ops : Array Oper) : Bool := ops.toList.all fun o => match o.op with | .defer _ => false | _ => true
theorem noDeferB_spec {ops : Array Oper} (h : noDeferB ops = true) {i : Nat} {o : Oper} (ho : ops[i]? = some o) : ∀ c, o.op ≠ .defer c := by
  intro c hc
  have hm : o ∈ ops.toList := by
    have := Array.mem_of_getElem? ho
    exact Array.mem_def.1 this
  have := List.all_eq_true.1 h o hm
  rw [hc] at this
  cases this
section
variable {P : Program} {ops : Array Oper} {Q : Exit → Act → World → Prop} {l m : Nat}
theorem rowsIn_round {row : String} {args : Array Value} {w : World} {R : Value → World → Prop} (h : Rows P row args w R) : RowsIn (Fence.wide.inRound l) m P row args w R :=
  fun c cs _ => let ⟨v, w', r, s⟩ := h c cs; ⟨v, w', r, stepsIn_wide.2 s⟩
theorem wpIn_of_wpO {o : Oper} {a : Act} {w : World} {K : Act → World → Prop} (hd : ∀ c, o.op ≠ .defer c) (hQ : ¬ LetsOut Q) (h : o.wp P a w K Q) : o.wpIn (Fence.wide.inRound l) m P a w K Q := by
  refine ⟨fun _ _ => trivial, ?_⟩
  show Oper.uponIn _ _ _ _ _ _ _ ((Oper.semAt (some l) a.eval o).run P w)
  rw [Oper.semAt_some l _ _ hd]
  unfold Oper.wp at h
  revert h
  cases (execOp a.eval o).run P w with
  | ok x w' =>
    cases x with
    | value v => exact id
    | skip => exact id
    | defer d => exact id
    | enter f args =>
      intro h
      exact ⟨fun q => (by cases (show (none : Option Nat).isSome = true from q)), (callsIn_wide.2 h).inRound l⟩
    | row r args =>
      intro h
      exact ⟨fun q => (by cases (show (none : Option Nat).isSome = true from q)), rowsIn_round h⟩
    | _ => intro h; exact h.elim
  | halt x w' =>
    cases x with
    | panic v => exact id
    | _ => intro h; exact h.elim
theorem anyIn_of_any (hd : noDeferB ops = true) (hQ : ¬ LetsOut Q) (md : Region.Mode) : ∀ (fuel : Nat) (ls : Array Bool) (a : Act) (w : World), wpAny P md ops Q fuel ls a w → wpAnyIn (Fence.wide.inRound l) m P md ops Q fuel ls a w
  | 0, _, _, _ => id
  | fuel + 1, ls, a, w => fun h => by
    refine ⟨h.1, fun i hi => ?_⟩
    have h2 := h.2 i hi
    unfold wpOp at h2
    unfold wpOpIn
    cases ho : ops[i]? with
    | none =>
      rw [ho] at h2
      exact anyIn_of_any hd hQ md fuel _ _ _ h2
    | some o =>
      simp only [ho] at h2 ⊢
      by_cases hw : Region.wanted o (yielded ops a.tmps) = true
      · rw [if_pos hw] at h2 ⊢
        rcases h2 with h2 | h2
        · exact Oper.wpIn_mono (fun a w q => anyIn_of_any hd hQ md fuel _ a w q) (wpIn_of_wpO (noDeferB_spec hd ho) hQ h2)
        · exact absurd h2.2 hQ
      · rw [if_neg hw] at h2 ⊢
        exact ⟨fun _ _ => trivial, anyIn_of_any hd hQ md fuel _ _ _ h2⟩
theorem startIn_ {K : Act → World → Prop} {S : World → Prop} {ds : List Nat} {id n : Nat} {a : Act} {w : World} (ls : Array Bool) (hm : P.follows .mixedOrders = true) (hn : ops.size = n) (hl : Array.replicate n false = ls) (hS : S w.drew)
    (h : S w.drew → wpAnyLast P .any ops (Exit.then K (fun _ _ _ => False)) S ds n ls a w.drew) (hd : noDeferB ops = true := by kernel_rfl) : (Code.region id ops true).wpIn (Fence.wide.inRound l) m P (Exit.then K Q) a w := by
  subst hn
  subst hl
  refine wpIn_mono (Q := Exit.then K (fun _ _ _ => False)) ?_ ?_
  · refine wpIn_region_any hm (anyIn_of_any hd ?_ .any _ _ _ _ (wpAny_of_last _ _ _ _ (h hS)))
    rintro ⟨_, _, q⟩
    exact q
  · intro e a w h
    cases e with
    | normal => exact h
    | _ => exact h.elim
end
end Go.Proofs.Ytcfonmbojkolfaa.RoundReg
end
