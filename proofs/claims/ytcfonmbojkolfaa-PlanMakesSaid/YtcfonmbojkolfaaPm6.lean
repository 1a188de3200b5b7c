/- The law's proof: words, contracts of the functions that it reaches, plain lemmas. -/
import Derived.Test.YtcfonmbojkolfaaPm5
import Derived.Test.YtcfonmbojkolfaaPm4
import Derived.WideLaws
import Derived.Below
section
/- Maps as lists of pairs: what a look-up, a store and a delete come to. -/
set_option linter.unusedVariables false
set_option linter.unusedSimpArgs false
set_option linter.unusedSectionVars false
namespace Go.Proofs.Ytcfonmbojkolfaa.Maps
open Go.RowKit Go.Proofs.YtcfonmbojkolfaaW.PrintWords Go.Proofs.Ytcfonmbojkolfaa.Mem Go.Proofs.Ytcfonmbojkolfaa.Own

section
variable {α β : Type} [DecidableEq α]
/-- The first pair of a key, and where it stands. -/
def ffind (a : α) : List (α × β) → Nat → Option (Nat × β)
  | [], _ => none
  | (b, v) :: l, i => if a = b then some (i, v) else ffind a l (i + 1)
def mget (a : α) : List (α × β) → Option β
  | [] => none
  | (b, v) :: l => if a = b then some v else mget a l
def mset (a : α) (v : β) : List (α × β) → List (α × β)
  | [] => [(a, v)]
  | (b, u) :: l => if a = b then (a, v) :: l else (b, u) :: mset a v l
def mdel (a : α) : List (α × β) → List (α × β)
  | [] => []
  | (b, u) :: l => if a = b then l else (b, u) :: mdel a l
theorem ffind_get (a : α) : ∀ (l : List (α × β)) (i : Nat), (ffind a l i).map (·.2) = mget a l
  | [], _ => rfl
  | (b, v) :: l, i => by
    unfold ffind mget
    split
    · rfl
    · exact ffind_get a l (i + 1)
/-- What keys of a type the model holds against each other. -/
structure Key (P : Program) (kt : TypeId) (enc : α → Value) : Prop where
  chk : ∀ (b : Bool) (w : World) (a : α), (Instr.checkKey b 10000 kt (enc a)).run P w = .ok () w
  fnd : ∀ (es : List MapEntry) (ks : List (α × Value)) (a : α) (w : World), es.map (fun e => (e.key, e.val)) = ks.map (fun x => (enc x.1, x.2)) → (Instr.findKey kt (enc a) es).run P w = .ok (ffind a ks 0) w
  bits : ∀ a, Instr.sameBits 10000 (enc a) (enc a) = true
/-- Keys of three whole numbers. -/
abbrev tri (x : Int × Int × Int) : Value := .agg #[.int .i64 x.1, .int .i64 x.2.1, .int .i64 x.2.2]
theorem findAsking_tri {P : Program} {kt : TypeId} (heq : ∀ (x y : Int × Int × Int) (w : World), (Op.equal kt (tri x) (tri y)).run P w = .ok (decide (x = y)) w) (a : Int × Int × Int) (w : World) :
    ∀ (es : List MapEntry) (ks : List ((Int × Int × Int) × Value)) (i : Nat), es.map (fun e => (e.key, e.val)) = ks.map (fun x => (tri x.1, x.2)) → (Instr.findAsking kt (tri a) es i).run P w = .ok (ffind a ks i) w
  | [], [], _, _ => by simp [Instr.findAsking, ffind]
  | [], _ :: _, _, h => by simp at h
  | _ :: _, [], _, h => by simp at h
  | e :: es, (b, v) :: ks, i, h => by
    simp only [List.map_cons, List.cons.injEq, Prod.mk.injEq] at h
    obtain ⟨⟨h1, h2⟩, h3⟩ := h
    unfold ffind
    have ih := findAsking_tri heq a w es ks (i + 1) h3
    by_cases e' : a = b
    · subst e'
      simp [Instr.findAsking, h1, h2, heq]
    · rw [if_neg e', ← ih]
      simp [Instr.findAsking, h1, heq, e']
theorem sameBits_tri (n : Nat) (a : Int × Int × Int) : Instr.sameBits (n + 2) (tri a) (tri a) = true := by simp [Instr.sameBits]
theorem key_tri {P : Program} {kt : TypeId} {fs : Array Field} (ht : P.underlying kt = some (.struct fs)) (hchk : ∀ (b : Bool) (x : Int × Int × Int) (w : World), (Instr.checkKey b 10000 kt (tri x)).run P w = .ok () w)
    (heq : ∀ (x y : Int × Int × Int) (w : World), (Op.equal kt (tri x) (tri y)).run P w = .ok (decide (x = y)) w) : Key P kt tri where
  chk b w a := hchk b a w
  fnd es ks a w h := by
    have hf := findAsking_tri heq a w es ks 0 h
    cases es with
    | nil => cases ks with
      | nil => simp [Instr.findKey, run_underlying ht, Instr.findNow, ffind]
      | cons x l => simp at h
    | cons e l =>
      cases ks with
      | nil => simp at h
      | cons x ks =>
        have hn : Instr.findNow (.struct fs) (tri a) (e :: l) 0 = none := by simp [Instr.findNow, Instr.sameNow]
        simp only [Instr.findKey]
        simp [run_underlying ht, hn, hf]
  bits a := sameBits_tri 9998 a

/-- A map's block. -/
def Is (enc : α → Value) (ev : β → Value) (o : Obj) (l : List (α × β)) : Prop := ∃ es clock, o = .map es clock ∧ es.toList.map (fun e => (e.key, e.val)) = l.map (fun x => (enc x.1, ev x.2))
/-- The pairs as the model holds them. -/
def raw (ev : β → Value) (l : List (α × β)) : List (α × Value) := l.map (fun x => (x.1, ev x.2))
omit [DecidableEq α] in
theorem raw_is {enc : α → Value} {ev : β → Value} {l : List (α × β)} : (raw ev l).map (fun x => (enc x.1, x.2)) = l.map (fun x => (enc x.1, ev x.2)) := by simp [raw]
theorem mget_raw (ev : β → Value) (a : α) : ∀ l : List (α × β), mget a (raw ev l) = (mget a l).map ev
  | [] => rfl
  | (b, v) :: l => by
    by_cases e : a = b
    · simp [raw, mget, e]
    · have h := mget_raw ev a l
      simp only [raw] at h
      simp [raw, mget, e, h]
theorem mset_raw (ev : β → Value) (a : α) (v : β) : ∀ l : List (α × β), mset a (ev v) (raw ev l) = raw ev (mset a v l)
  | [] => rfl
  | (b, u) :: l => by
    by_cases e : a = b
    · simp [raw, mset, e]
    · have h := mset_raw ev a v l
      simp only [raw] at h
      simp [raw, mset, e, h]
omit [DecidableEq α] in
theorem is_made (enc : α → Value) (ev : β → Value) (c : Nat) : Is enc ev (.map #[] c) ([] : List (α × β)) := ⟨#[], c, rfl, rfl⟩
theorem run_lookup {P : Program} {w : World} {kt et t : TypeId} {enc : α → Value} {ev : β → Value} {r : Nat} {o : Obj} {l : List (α × β)} (hk : Key P kt enc) (ht : P.underlying t = some (.map kt et)) (hm : w.heap[r]? = some o) (hi : Is enc ev o l) (a : α) {z : Value}
    (hz : (zeroValue et).run P w = .ok z w) (ok : Bool) :
    (Instr.lookup t (.map (some r)) (enc a) ok).run P w = .ok (if ok = true then .tuple #[((mget a l).map ev).getD z, .bool (mget a l).isSome] else ((mget a l).map ev).getD z) w := by
  obtain ⟨es, clock, rfl, he⟩ := hi
  have hf := hk.fnd es.toList (raw ev l) a w (by rw [raw_is]; exact he)
  have hg := ffind_get a (raw ev l) 0
  rw [mget_raw] at hg
  have hobj : (getObj r).run P w = .ok (.map es clock) w := by simp [getObj, Sem.run, hm]
  cases hx : ffind a (raw ev l) 0 with
  | none =>
    rw [hx] at hf hg
    have hn : (mget a l).isSome = false := by cases h : mget a l with
      | none => rfl
      | some v => rw [h] at hg; simp at hg
    rw [← hg, hn]
    simp [Instr.lookup, run_underlying ht, hobj, hk.chk, hf, hz]
  | some p =>
    obtain ⟨i, v⟩ := p
    rw [hx] at hf hg
    have hn : (mget a l).isSome = true := by cases h : mget a l with
      | none => rw [h] at hg; simp at hg
      | some v => rfl
    rw [← hg, hn]
    simp [Instr.lookup, run_underlying ht, hobj, hk.chk, hf]
theorem ffind_some (a : α) (v : β) : ∀ (l : List (α × β)) (j i : Nat) (u : β), ffind a l j = some (i, u) → j ≤ i ∧ l[i - j]? = some (a, u) ∧ mset a v l = l.set (i - j) (a, v) ∧ mdel a l = l.eraseIdx (i - j)
  | [], _, _, _, h => by simp [ffind] at h
  | (b, x) :: l, j, i, u, h => by
    unfold ffind at h
    by_cases e : a = b
    · rw [if_pos e] at h
      simp only [Option.some.injEq, Prod.mk.injEq] at h
      obtain ⟨rfl, rfl⟩ := h
      subst e
      simp [mset, mdel]
    · rw [if_neg e] at h
      obtain ⟨h1, h2, h3, h4⟩ := ffind_some a v l (j + 1) i u h
      obtain ⟨m, rfl⟩ : ∃ m, i = m + 1 := ⟨i - 1, by omega⟩
      have em : m + 1 - j = (m + 1 - (j + 1)) + 1 := by omega
      refine ⟨by omega, ?_, ?_, ?_⟩
      · rw [em]; simpa using h2
      · rw [em]; simp [mset, e, h3]
      · rw [em]; simp [mdel, e, h4]
theorem ffind_none (a : α) (v : β) : ∀ (l : List (α × β)) (j : Nat), ffind a l j = none → mset a v l = l ++ [(a, v)] ∧ mdel a l = l ∧ mget a l = none
  | [], _, _ => ⟨rfl, rfl, rfl⟩
  | (b, x) :: l, j, h => by
    unfold ffind at h
    by_cases e : a = b
    · rw [if_pos e] at h; cases h
    · rw [if_neg e] at h
      obtain ⟨h1, h2, h3⟩ := ffind_none a v l (j + 1) h
      simp [mset, mdel, mget, e, h1, h2, h3]
theorem run_update {P : Program} {w : World} {kt et t : TypeId} {enc : α → Value} {ev : β → Value} {r : Nat} {o : Obj} {l : List (α × β)} (hk : Key P kt enc) (ht : P.underlying t = some (.map kt et)) (hm : w.heap[r]? = some o) (hi : Is enc ev o l) (a : α) (v : β) :
    ∃ o', (Instr.mapUpdate t (.map (some r)) (enc a) (ev v)).run P w = .ok () { w with heap := w.heap.setIfInBounds r o' } ∧ Is enc ev o' (mset a v l) := by
  obtain ⟨es, clock, rfl, he⟩ := hi
  have hf := hk.fnd es.toList (raw ev l) a w (by rw [raw_is]; exact he)
  have hobj : (getObj r).run P w = .ok (.map es clock) w := by simp [getObj, Sem.run, hm]
  have hset : ∀ o', (setObj r o').run P w = .ok () { w with heap := w.heap.setIfInBounds r o' } := fun o' => by simp [setObj, Sem.run, hm]
  cases hx : ffind a (raw ev l) 0 with
  | none =>
    rw [hx] at hf
    obtain ⟨h1, _, _⟩ := ffind_none a (ev v) (raw ev l) 0 hx
    rw [mset_raw] at h1
    refine ⟨.map (es.push { key := enc a, val := ev v, born := clock }) (clock + 1), by simp [Instr.mapUpdate, run_underlying ht, hobj, hk.chk, hf, hset], _, _, rfl, ?_⟩
    rw [← raw_is, h1, List.map_append, raw_is]
    simp [he]
  | some p =>
    obtain ⟨i, u⟩ := p
    rw [hx] at hf
    obtain ⟨_, h2, h3, _⟩ := ffind_some a (ev v) (raw ev l) 0 i u hx
    rw [Nat.sub_zero] at h2 h3
    rw [mset_raw] at h3
    rw [← raw_is] at he
    have hkey : ((es[i]?).map (·.key)).getD (enc a) = enc a := by
      have := congrArg (fun x => x[i]?) he
      simp only [List.getElem?_map, h2, Option.map_some, Array.getElem?_toList] at this
      cases h : es[i]? with
      | none => rfl
      | some e => rw [h] at this; simp at this; exact this.1
    have hstay : (Instr.keyThatStays (enc a) (enc a)).run P w = .ok (enc a) w := by simp [Instr.keyThatStays, hk.bits]
    refine ⟨.map (es.modify i fun e => { e with key := enc a, val := ev v }) clock, by simp [Instr.mapUpdate, run_underlying ht, hobj, hk.chk, hf, hkey, hstay, hset], _, _, rfl, ?_⟩
    rw [← raw_is, h3]
    apply List.ext_getElem?
    intro n
    have hn := congrArg (fun x => x[n]?) he
    simp only [List.getElem?_map, Array.getElem?_toList] at hn
    simp only [Array.toList_modify, List.getElem?_map, List.getElem?_modify, List.getElem?_set, Array.getElem?_toList]
    by_cases e : i = n
    · subst e
      have hl : i < (raw ev l).length := (List.getElem?_eq_some_iff.1 h2).1
      rw [h2] at hn
      cases h : es[i]? with
      | none => rw [h] at hn; simp at hn
      | some x => simp [hl]
    · simp [e, hn]
theorem mget_set (a b : α) (v : β) : ∀ l : List (α × β), mget b (mset a v l) = if b = a then some v else mget b l
  | [] => by simp [mset, mget]
  | (c, u) :: l => by
    unfold mset
    by_cases e : a = c
    · subst e
      rw [if_pos rfl]
      by_cases e2 : b = a
      · simp [mget, e2]
      · simp [mget, e2]
    · rw [if_neg e]
      unfold mget
      by_cases e2 : b = c
      · subst e2
        rw [if_pos rfl, if_neg (fun h => e h.symm), if_pos rfl]
      · rw [if_neg e2, if_neg e2]
        exact mget_set a b v l
/-- No key stands twice. -/
def Once (l : List (α × β)) : Prop := (l.map (·.1)).Nodup
/-- A map that a walk owns. -/
def Mp (r : Nat) (enc : α → Value) (ev : β → Value) (l : List (α × β)) : Asn where
  P w _ S := (∃ o, w.heap[r]? = some o ∧ Is enc ev o l) ∧ S r
  move := fun ⟨⟨o, ho, hi⟩, hs⟩ hm => ⟨⟨o, (hm r hs (blk_lt ho)).trans ho, hi⟩, hs⟩
  cut := fun ⟨⟨o, ho, hi⟩, hs⟩ => ⟨⟨o, ho, hi⟩, hs, blk_lt ho⟩
  mono h hs := ⟨h.1, hs r h.2⟩
  lower h _ := h
theorem mp_of {w0 w : World} {L : List Asn} {r : Nat} {enc : α → Value} {ev : β → Value} {l : List (α × β)} (h : Own w0 w (Mp r enc ev l :: L)) : ∃ o, w.heap[r]? = some o ∧ Is enc ev o l := let ⟨_, hs, _⟩ := h.head; hs.1
theorem mp_put {w0 w : World} {L : List Asn} {r : Nat} {enc : α → Value} {ev : β → Value} {l l' : List (α × β)} {o' : Obj} (h : Own w0 w (Mp r enc ev l :: L)) (hi : Is enc ev o' l') : Own w0 { w with heap := w.heap.setIfInBounds r o' } (Mp r enc ev l' :: L) := by
  obtain ⟨S, ⟨⟨o, ho, _⟩, hr⟩, hb, f⟩ := h.head
  have hlt := blk_lt ho
  refine f _ [Mp r enc ev l'] ⟨⟨rfl, rfl, rfl, ?_, ?_⟩, ?_, ?_⟩ (Hold.one ⟨⟨o', ?_, hi⟩, .inl hr⟩)
  · simp
  · intro k hk
    have := (hb r hr).1
    simp only [Array.getElem?_setIfInBounds]
    rw [if_neg (by omega)]
  · simp
  · intro k hk hn
    simp only [Array.getElem?_setIfInBounds]
    have hne : r ≠ k := fun e => hn (e ▸ hr)
    rw [if_neg hne]
  · simp [hlt]
theorem mp_new {w0 w : World} {L : List Asn} (enc : α → Value) (ev : β → Value) (h : Own w0 w L) (c : Nat) : Own w0 (w.alloc (.map #[] c)) (Mp w.heap.size enc ev ([] : List (α × β)) :: L) :=
  h.fresh (R := [Mp w.heap.size enc ev []]) (below_alloc (Below.refl _ _) _) (Hold.one ⟨⟨_, blk_new _ _, is_made enc ev c⟩, Nat.le_refl _⟩)
/-- The three, over what a walk owns: each world behind them has a name. -/
theorem own_lookup {P : Program} {w0 w : World} {L : List Asn} {kt et t : TypeId} {enc : α → Value} {ev : β → Value} {r : Nat} {l : List (α × β)} (hk : Key P kt enc) (ht : P.underlying t = some (.map kt et)) (h : Own w0 w (Mp r enc ev l :: L)) (a : α) {z : Value}
    (hz : ∀ w, (zeroValue et).run P w = .ok z w) : (Instr.lookup t (.map (some r)) (enc a) true).run P w = .ok (.tuple #[((mget a l).map ev).getD z, .bool (mget a l).isSome]) w := by
  obtain ⟨o, hm, hi⟩ := mp_of h
  have := run_lookup hk ht hm hi a (hz w) true
  rw [if_pos rfl] at this
  exact this
theorem own_update {P : Program} {w0 w : World} {L : List Asn} {kt et t : TypeId} {enc : α → Value} {ev : β → Value} {r : Nat} {l : List (α × β)} (hk : Key P kt enc) (ht : P.underlying t = some (.map kt et)) (h : Own w0 w (Mp r enc ev l :: L)) (a : α) (v : β) :
    ∃ w1, (Instr.mapUpdate t (.map (some r)) (enc a) (ev v)).run P w = .ok () w1 ∧ Own w0 w1 (Mp r enc ev (mset a v l) :: L) := by
  obtain ⟨o, hm, hi⟩ := mp_of h
  obtain ⟨o', hr, hi'⟩ := run_update hk ht hm hi a v
  exact ⟨_, hr, mp_put h hi'⟩
end
end Go.Proofs.Ytcfonmbojkolfaa.Maps
end
