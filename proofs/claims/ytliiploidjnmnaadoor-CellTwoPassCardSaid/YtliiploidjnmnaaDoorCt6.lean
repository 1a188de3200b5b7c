/- The law's proof: words, contracts of the functions that it reaches, plain lemmas. -/
import Derived.Deep.Slices
import Derived.ChangeArms
import Derived.OpenShut
import Derived.SizedLaws
import Derived.Test.YtliiploidjnmnaaDoorCt3
section
/- How a value that came in reads as data, kind by kind: what the row's own reading (DataW.trod) says in the printed words' form (Kd.K). -/
namespace Go.Proofs.YtliiploidjnmnaaDoor.Opening
open Go.RowKit Go.Proofs.YtliiploidjnmnaaDoorW.PrintWords Go.Deep Go.ChangeShapes Go.WideShapes
set_option linter.unusedVariables false

section
variable {H : Type} (enc : TypeId × Value → H) (P : Program) (w : World) (base : Nat) (spare : Nat → Bool) (held : Bool)

/-- Whatever is read as of type t is, in memory, an 'a' of kind d, of which wf holds. -/
def Opens {α : Type} (t : TypeId) (d : Kd α) (wf : α → Prop) : Prop :=
  ∀ (fuel : Nat) (cs : List Value) (x : DataW H × List MemPlace), DataW.trod enc P w base spare held fuel t cs = some x → (∀ n ∈ x.1.weights P t, n ≤ reachBytes) → ∃ a, d.K w a cs ∧ wf a

/-- .. of a struct's last fields, from the cell at off on. -/
def Fields {α : Type} (l : List Field) (off : Nat) (d : Kd α) (wf : α → Prop) : Prop :=
  ∀ (fuel : Nat) (cs : List Value) (xs : List (DataW H × List MemPlace)), xs.length = l.length → (∀ (i : Nat) (f : Field), l[i]? = some f → DataW.trod enc P w base spare held fuel f.type ((cs.drop f.offset).take (P.cellsOf f.type)) = xs[i]?) →
    cs.length = off + d.sz → (∀ n ∈ DataW.weightsEach P (l.map (·.type)) (xs.map (·.1)), n ≤ reachBytes) → ∃ a, d.K w a (cs.drop off) ∧ wf a
end

section
variable {H : Type} {enc : TypeId × Value → H} {P : Program} {w : World} {base : Nat} {spare : Nat → Bool} {held : Bool}

theorem opens_int {t : TypeId} {k : IntKind} (ht : P.underlying t = some (.int k)) : Opens enc P w base spare held t (Kd.int k) (fun n => (Lit.int k n).wf = true) := by
  intro fuel cs x h _
  obtain ⟨n, rfl, _, hw⟩ := DataW.trod_int ht h
  exact ⟨n, rfl, hw⟩

theorem fields_one {α : Type} {f : Field} {off : Nat} {d : Kd α} {wf : α → Prop} (ho : f.offset = off) (hC : P.cellsOf f.type = d.sz) (h : Opens enc P w base spare held f.type d wf) : Fields enc P w base spare held [f] off d wf := by
  intro fuel cs xs hl hf hlen hz
  match xs, hl with
  | [x], _ =>
    have h1 := hf 0 f rfl
    simp only [List.getElem?_cons_zero] at h1
    rw [ho, hC, List.take_of_length_le (by rw [List.length_drop]; omega)] at h1
    exact h fuel _ x h1 (fun n hn => hz n (by simp [DataW.weightsEach]; exact hn))

theorem fields_cons {α β : Type} {f : Field} {l : List Field} {off off' : Nat} {d : Kd α} {e : Kd β} {wf : α → Prop} {wg : β → Prop} (ho : f.offset = off) (hC : P.cellsOf f.type = d.sz) (h : Opens enc P w base spare held f.type d wf)
    (ho' : off + d.sz = off') (hl : Fields enc P w base spare held l off' e wg) : Fields enc P w base spare held (f :: l) off (Kd.pair d e) (fun x => wf x.1 ∧ wg x.2) := by
  subst ho'
  intro fuel cs xs hlen hf hcs hz
  match xs, hlen with
  | x :: xs, hlen =>
    have h1 := hf 0 f rfl
    simp only [List.getElem?_cons_zero] at h1
    rw [ho, hC] at h1
    have hsz : (Kd.pair d e).sz = d.sz + e.sz := rfl
    obtain ⟨a, hK, hw⟩ := h fuel _ x h1 (fun n hn => hz n (by simp only [List.map_cons, DataW.weightsEach]; exact List.mem_append_left _ hn))
    obtain ⟨b, hK2, hw2⟩ := hl fuel cs xs (by simpa using hlen) (fun i g hg => by have := hf (i + 1) g (by simpa using hg); simpa using this) (by rw [hcs, hsz]; omega) (fun n hn => hz n (by simp only [List.map_cons, DataW.weightsEach]; exact List.mem_append_right _ hn))
    refine ⟨(a, b), ⟨_, _, ?_, hK, hK2⟩, hw, hw2⟩
    rw [← List.drop_drop, List.take_append_drop]

theorem opens_struct {α β : Type} {t : TypeId} {fs : Array Field} {d : Kd α} {wf : α → Prop} {f : β → α} (g : α → β) (hg : ∀ a, f (g a) = a) (ht : P.underlying t = some (.struct fs)) (hC : P.cellsOf t = d.sz) (h : Fields enc P w base spare held fs.toList 0 d wf) :
    Opens enc P w base spare held t (Kd.iso d f) (fun b => wf (f b)) := by
  intro fuel cs x hx hz
  obtain ⟨xs, n, rfl, rfl, hlen, hxl, hf⟩ := DataW.trod_struct ht hx
  obtain ⟨a, hK, hw⟩ := h n cs xs (by simpa using hxl) (fun i q hq => hf i q (by simpa using hq)) (by omega) (fun q hq => hz q (by simp only [DataW.weights, ht]; exact hq))
  rw [List.drop_zero] at hK
  exact ⟨g a, by show d.K w (f (g a)) cs; rw [hg]; exact hK, by show wf (f (g a)); rw [hg]; exact hw⟩

/-- .. of an array's last elements, from the cell at off on. -/
def Elems {H : Type} (enc : TypeId × Value → H) (P : Program) (w : World) (base : Nat) (spare : Nat → Bool) (held : Bool) {α : Type} (e : TypeId) (i n : Nat) (off : Nat) (d : Kd α) (wf : α → Prop) : Prop :=
  ∀ (fuel : Nat) (cs : List Value) (xs : List (DataW H × List MemPlace)), xs.length = n → (∀ j, j < n → DataW.trod enc P w base spare held fuel e ((cs.drop ((i + j) * P.cellsOf e)).take (P.cellsOf e)) = xs[j]?) →
    cs.length = off + d.sz → (∀ q ∈ DataW.weightsAll P e (xs.map (·.1)), q ≤ reachBytes) → ∃ a, d.K w a (cs.drop off) ∧ wf a

/-- An argument, as the row's proof has it. -/
theorem opens_arg {α : Type} {t : TypeId} {d : Kd α} {wf : α → Prop} {v : Value} {dd : DataW H} {ps : List MemPlace} {ts : List TypeId} {ds : List (DataW H)} {j : Nat} (h : Opens enc P w base spare held t d wf)
    (hsz : (DataW.weightsEach P ts ds).all (· ≤ reachBytes) = true) (ht : ts[j]? = some t) (hd : ds[j]? = some dd) (hT : DataW.Trod enc P w base spare held t v dd ps) : ∃ a, d.K w a v.cells.toList ∧ wf a := by
  obtain ⟨fuel, hf⟩ := hT
  refine h fuel _ _ hf (fun n hn => ?_)
  have := List.all_eq_true.1 hsz _ (DataW.weights_mem_each ht hd n hn)
  simpa using this
end
end Go.Proofs.YtliiploidjnmnaaDoor.Opening
end
