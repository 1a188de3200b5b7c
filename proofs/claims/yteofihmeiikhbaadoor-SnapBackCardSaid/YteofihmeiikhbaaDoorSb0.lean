/- The law's proof: words, contracts of the functions that it reaches, plain lemmas. -/
section
namespace Go.Proofs.YteofihmeiikhbaaDoor.Tf
/-- i times true, then false, n in all: which operations of a region are done. -/
abbrev tfA (i n : Nat) : Array Bool := (List.replicate i true ++ List.replicate (n - i) false).toArray
theorem sib {α : Type} (l : List α) (i : Nat) (x : α) : l.toArray.setIfInBounds i x = (l.set i x).toArray := List.setIfInBounds_toArray ..
theorem sc0 {α : Type} (x y : α) (l : List α) : (x :: l).set 0 y = y :: l := rfl
theorem sc1 {α : Type} (x y : α) (l : List α) (n : Nat) : (x :: l).set (n + 1) y = x :: l.set n y := rfl
end Go.Proofs.YteofihmeiikhbaaDoor.Tf
end
