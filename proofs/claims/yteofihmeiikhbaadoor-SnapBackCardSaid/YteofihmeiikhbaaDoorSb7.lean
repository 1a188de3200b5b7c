/- The law's proof: words, contracts of the functions that it reaches, plain lemmas. -/
import Derived.Deep.Slices
import Derived.ChangeArms
import Derived.OpenShut
import Derived.SizedLaws
import Derived.Test.YteofihmeiikhbaaDoorSb4
section
/- How a value that came in reads as data, kind by kind: what the row's own reading (DataW.trod) says in the printed words' form (Kd.K). -/
namespace Go.Proofs.YteofihmeiikhbaaDoor.Opening
open Go.RowKit Go.Proofs.YteofihmeiikhbaaDoorW.PrintWords Go.Deep Go.ChangeShapes Go.WideShapes
set_option linter.unusedVariables false

section
variable {H : Type} (enc : TypeId × Value → H) (P : Program) (w : World) (base : Nat) (spare : Nat → Bool) (held : Bool)

/-- Whatever is read as of type t is, in memory, an 'a' of kind d, of which wf holds. -/
def Opens {α : Type} (t : TypeId) (d : Kd α) (wf : α → Prop) : Prop :=
  ∀ (fuel : Nat) (cs : List Value) (x : DataW H × List MemPlace), DataW.trod enc P w base spare held fuel t cs = some x → (∀ n ∈ x.1.weights P t, n ≤ reachBytes) → ∃ a, d.K w a cs ∧ wf a

/-- .. of a struct's last fields, from the cell at off on. -/
def Fields {α : Type} (l : List Field) (off : Nat) (d : Kd α) (wf : α → Prop) : Prop :=
  ∀ (fuel : Nat) (cs : List Value) (xs : List (DataW H × List MemPlace)), xs.length = l.length → (∀ (i : Nat) (f : Field), l[i]? = some f → DataW.trod enc P w base spare held fuel f.type ((cs.drop f.offset).take (P.cellsOf f.type)) = xs[i]?) →
    cs.length = off + d.sz → (∀ n ∈ DataW.weightsEach P (l.map (·.type)) (xs.map (·.1)), n ≤ reachBytes) → ∃ a, d.K w a (cs.drop off) ∧ wf a
end

section
variable {H : Type} {enc : TypeId × Value → H} {P : Program} {w : World} {base : Nat} {spare : Nat → Bool} {held : Bool}

theorem opens_int {t : TypeId} {k : IntKind} (ht : P.underlying t = some (.int k)) : Opens enc P w base spare held t (Kd.int k) (fun n => (Lit.int k n).wf = true) := by
  intro fuel cs x h _
  obtain ⟨n, rfl, _, hw⟩ := DataW.trod_int ht h
  exact ⟨n, rfl, hw⟩

theorem opens_string {t : TypeId} (ht : P.underlying t = some .string) : Opens enc P w base spare held t Kd.string (fun s => s.size ≤ 140737488351232) := by
  intro fuel cs x h hz
  obtain ⟨s, rfl, rfl, hw⟩ := DataW.trod_string ht h
  refine ⟨s, rfl, ?_⟩
  have := hz s.data.toList.length (by simp [DataW.weights])
  rw [Array.length_toList] at this
  exact this

theorem opens_slice {α : Type} {t e : TypeId} {d : Kd α} {wf : α → Prop} {B : Nat} (ht : P.underlying t = some (.slice e)) (hC : P.cellsOf e = d.sz) (hB : P.bytesOf e = B) (he : Opens enc P w base spare held e d wf) :
    Opens enc P w base spare held t (Kd.slice e d) (fun l => l.length ≤ maxLen ∧ l.length * B ≤ 140737488351232 ∧ ∀ a ∈ l, wf a) := by
  intro fuel cs x h hz
  rcases open_slice ht h with ⟨rfl, rfl⟩ | ⟨a, len, cap, m, n, D, Pl, rfl, hb, hl, hm, hmm, rfl, hi⟩
  · refine ⟨[], ⟨none, 0, rfl, Nat.le_refl _, ⟨rfl, by simp, fun h => absurd h (by simp)⟩⟩, by simp, by simp, by simp⟩
  · have hlm : len ≤ m := by rw [hmm]; split <;> omega
    have hw : ∀ i, i < m → ∀ q ∈ (D i).weights P e, q ≤ reachBytes := by
      intro i hi q hq
      refine hz q ?_
      simp only [DataW.weights, ht]
      refine List.mem_cons_of_mem _ (List.mem_append.2 ?_)
      have mem_all : ∀ (ds : List (DataW H)) (y : DataW H), y ∈ ds → q ∈ y.weights P e → q ∈ DataW.weightsAll P e ds := by
        intro ds
        induction ds with
        | nil => intro y hy; simp at hy
        | cons z r ih =>
          intro y hy hq
          simp only [DataW.weightsAll, List.mem_append]
          rcases List.mem_cons.1 hy with rfl | hy
          · exact .inl hq
          · exact .inr (ih y hy hq)
      rcases Nat.lt_or_ge i len with h1 | h1
      · exact .inl (mem_all _ (D i) (by simp; exact ⟨i, h1, rfl⟩) hq)
      · refine .inr (mem_all _ (D i) ?_ hq)
        simp
        exact ⟨i - len, by omega, by rw [show len + (i - len) = i by omega]⟩
    have hbytes : len * B ≤ 140737488351232 := by
      have := hz ((((List.range len).map D).length + ((List.range (m - len)).map fun j => D (len + j)).length) * P.bytesOf e) (by simp [DataW.weights, ht])
      simp only [List.length_map, List.length_range, hB] at this
      exact Nat.le_trans (Nat.mul_le_mul_right _ (by omega)) this
    have hex : ∀ i, i < len → ∃ (p : α) (cs' : List Value), d.K w p cs' ∧ wf p ∧ w.cells? base (a.add (i * P.cellsOf e)) (P.cellsOf e) = some cs' := by
      intro i hil
      obtain ⟨cs', hc, htr⟩ := hi i (by omega)
      obtain ⟨p, hK, hwf⟩ := he _ _ _ htr (hw i (by omega))
      exact ⟨p, cs', hK, hwf, hc⟩
    have build : ∀ n, n ≤ len → ∃ l : List α, l.length = n ∧ (∀ p ∈ l, wf p) ∧ ∀ j p, l[j]? = some p → ∃ cs', d.K w p cs' ∧ w.cells? base (a.add (j * P.cellsOf e)) (P.cellsOf e) = some cs' := by
      intro n
      induction n with
      | zero => intro _; exact ⟨[], rfl, by simp, by simp⟩
      | succ n ih =>
        intro hn
        obtain ⟨l, hll, hwl, hl2⟩ := ih (by omega)
        obtain ⟨p, cs', hK, hwf, hc⟩ := hex n (by omega)
        refine ⟨l ++ [p], by simp [hll], ?_, ?_⟩
        · intro q hq
          rcases List.mem_append.1 hq with hq | hq
          · exact hwl q hq
          · rw [List.mem_singleton.1 hq]; exact hwf
        · intro j q hj
          rcases Nat.lt_or_ge j n with h1 | h1
          · rw [List.getElem?_append_left (by omega)] at hj
            exact hl2 j q hj
          · rw [List.getElem?_append_right (by omega)] at hj
            have hjn : j = n := by
              rcases Nat.eq_or_lt_of_le h1 with h2 | h2
              · exact h2.symm
              · rw [List.getElem?_eq_none (by simp; omega)] at hj; cases hj
            subst hjn
            rw [hll, Nat.sub_self] at hj
            simp at hj
            subst hj
            exact ⟨cs', hK, hc⟩
    obtain ⟨l, hll, hwl, hat⟩ := build len (Nat.le_refl _)
    subst hll
    have hmx : l.length ≤ maxLen := by omega
    refine ⟨l, ⟨some a, cap, rfl, hl, ⟨rfl, by simpa [maxLen] using hmx, fun _ => ⟨a, rfl, ?_⟩⟩⟩, hmx, hbytes, hwl⟩
    intro j p hj
    obtain ⟨cs', hK, hc⟩ := hat j p hj
    obtain ⟨_, hcl, hcc⟩ := World.cells?_some hc
    refine ⟨cs', d.K_len hK, hK, fun i u hu => ?_⟩
    have hil : i < cs'.length := (List.getElem?_eq_some_iff.1 hu).1
    have := hcc i (by omega)
    rw [← hC, ← Go.Deep.add_add, this, hu]

theorem fields_one {α : Type} {f : Field} {off : Nat} {d : Kd α} {wf : α → Prop} (ho : f.offset = off) (hC : P.cellsOf f.type = d.sz) (h : Opens enc P w base spare held f.type d wf) : Fields enc P w base spare held [f] off d wf := by
  intro fuel cs xs hl hf hlen hz
  match xs, hl with
  | [x], _ =>
    have h1 := hf 0 f rfl
    simp only [List.getElem?_cons_zero] at h1
    rw [ho, hC, List.take_of_length_le (by rw [List.length_drop]; omega)] at h1
    exact h fuel _ x h1 (fun n hn => hz n (by simp [DataW.weightsEach]; exact hn))

theorem fields_cons {α β : Type} {f : Field} {l : List Field} {off off' : Nat} {d : Kd α} {e : Kd β} {wf : α → Prop} {wg : β → Prop} (ho : f.offset = off) (hC : P.cellsOf f.type = d.sz) (h : Opens enc P w base spare held f.type d wf)
    (ho' : off + d.sz = off') (hl : Fields enc P w base spare held l off' e wg) : Fields enc P w base spare held (f :: l) off (Kd.pair d e) (fun x => wf x.1 ∧ wg x.2) := by
  subst ho'
  intro fuel cs xs hlen hf hcs hz
  match xs, hlen with
  | x :: xs, hlen =>
    have h1 := hf 0 f rfl
    simp only [List.getElem?_cons_zero] at h1
    rw [ho, hC] at h1
    have hsz : (Kd.pair d e).sz = d.sz + e.sz := rfl
    obtain ⟨a, hK, hw⟩ := h fuel _ x h1 (fun n hn => hz n (by simp only [List.map_cons, DataW.weightsEach]; exact List.mem_append_left _ hn))
    obtain ⟨b, hK2, hw2⟩ := hl fuel cs xs (by simpa using hlen) (fun i g hg => by have := hf (i + 1) g (by simpa using hg); simpa using this) (by rw [hcs, hsz]; omega) (fun n hn => hz n (by simp only [List.map_cons, DataW.weightsEach]; exact List.mem_append_right _ hn))
    refine ⟨(a, b), ⟨_, _, ?_, hK, hK2⟩, hw, hw2⟩
    rw [← List.drop_drop, List.take_append_drop]

theorem opens_struct {α β : Type} {t : TypeId} {fs : Array Field} {d : Kd α} {wf : α → Prop} {f : β → α} (g : α → β) (hg : ∀ a, f (g a) = a) (ht : P.underlying t = some (.struct fs)) (hC : P.cellsOf t = d.sz) (h : Fields enc P w base spare held fs.toList 0 d wf) :
    Opens enc P w base spare held t (Kd.iso d f) (fun b => wf (f b)) := by
  intro fuel cs x hx hz
  obtain ⟨xs, n, rfl, rfl, hlen, hxl, hf⟩ := DataW.trod_struct ht hx
  obtain ⟨a, hK, hw⟩ := h n cs xs (by simpa using hxl) (fun i q hq => hf i q (by simpa using hq)) (by omega) (fun q hq => hz q (by simp only [DataW.weights, ht]; exact hq))
  rw [List.drop_zero] at hK
  exact ⟨g a, by show d.K w (f (g a)) cs; rw [hg]; exact hK, by show wf (f (g a)); rw [hg]; exact hw⟩

/-- .. of an array's last elements, from the cell at off on. -/
def Elems {H : Type} (enc : TypeId × Value → H) (P : Program) (w : World) (base : Nat) (spare : Nat → Bool) (held : Bool) {α : Type} (e : TypeId) (i n : Nat) (off : Nat) (d : Kd α) (wf : α → Prop) : Prop :=
  ∀ (fuel : Nat) (cs : List Value) (xs : List (DataW H × List MemPlace)), xs.length = n → (∀ j, j < n → DataW.trod enc P w base spare held fuel e ((cs.drop ((i + j) * P.cellsOf e)).take (P.cellsOf e)) = xs[j]?) →
    cs.length = off + d.sz → (∀ q ∈ DataW.weightsAll P e (xs.map (·.1)), q ≤ reachBytes) → ∃ a, d.K w a (cs.drop off) ∧ wf a

/-- An argument, as the row's proof has it. -/
theorem opens_arg {α : Type} {t : TypeId} {d : Kd α} {wf : α → Prop} {v : Value} {dd : DataW H} {ps : List MemPlace} {ts : List TypeId} {ds : List (DataW H)} {j : Nat} (h : Opens enc P w base spare held t d wf)
    (hsz : (DataW.weightsEach P ts ds).all (· ≤ reachBytes) = true) (ht : ts[j]? = some t) (hd : ds[j]? = some dd) (hT : DataW.Trod enc P w base spare held t v dd ps) : ∃ a, d.K w a v.cells.toList ∧ wf a := by
  obtain ⟨fuel, hf⟩ := hT
  refine h fuel _ _ hf (fun n hn => ?_)
  have := List.all_eq_true.1 hsz _ (DataW.weights_mem_each ht hd n hn)
  simpa using this
end
end Go.Proofs.YteofihmeiikhbaaDoor.Opening
end
