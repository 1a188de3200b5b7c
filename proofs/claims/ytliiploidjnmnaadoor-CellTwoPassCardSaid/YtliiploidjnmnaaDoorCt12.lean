/- The law's proof: words, contracts of the functions that it reaches, plain lemmas. -/
import Derived.Test.YtliiploidjnmnaaDoorRows
import Derived.Test.YtliiploidjnmnaaDoorCt9
import Derived.ProofKit
import Derived.LaidMore
import Derived.OpenShut
import Derived.Stop.Joined
import Derived.MakeChecks
section
/- The row's condition on the tables gives the walks' premise; the door's own heap meets it. -/
set_option linter.unusedVariables false
namespace Go.Proofs.YtliiploidjnmnaaDoor.Hw
open Go.ChangeShapes Go.WideShapes Go.ChangeAt Go.WideMaps Go.WideElems Go.RowKit

/-- A listed table of whole numbers, told as a datum, is a table of the world's. -/
theorem tbl_of {P : Program} {W : World} {nm : String} {g : Nat} {t e : TypeId} {cs : Array Value} {fuel n : Nat} {sp : Nat → Bool} {b : Bool} {enc : TypeId × Value → Unit} {q : List MemPlace} {k : IntKind} {xs : List Int} {d : DataW Unit}
    (hg : P.globalNamed nm = some g) (ht : P.underlying t = some (.array n e)) (he : P.underlying e = some (.int k)) (c1 : P.cellsOf e = 1) (hv : W.var? P nm = some cs)
    (hd : DataW.trod enc P W 0 sp b fuel t cs.toList = some (d, q)) (hx : d = .agg (xs.map fun x => .lit (.int k x))) (hn : xs.length = n) : Tbl g k xs W := by
  obtain ⟨ys, m, rfl, h1, hlen, hn2, hel⟩ := DataW.trod_array ht hd
  intro i hi
  have h0 := hel i (by omega)
  rw [c1, Nat.mul_one] at h0
  have hy : i < ys.length := by omega
  rw [List.getElem?_eq_getElem hy] at h0
  obtain ⟨z, e1, e2, _⟩ := DataW.trod_int he h0
  have e3 : cs.toList[i]? = some (.int k z) := by
    have := congrArg (·[0]?) e1
    simpa [List.getElem?_take, List.getElem?_drop] using this
  have e4 : (ys.map (·.1))[i]? = some (.lit (.int k z)) := by
    rw [List.getElem?_map, List.getElem?_eq_getElem hy, e2]
    rfl
  simp only [Prod.mk.injEq] at h1
  have h2 := h1.1
  rw [hx] at h2
  injection h2 with h2
  rw [← h2] at e4
  rw [List.getElem?_map, List.getElem?_eq_getElem hi] at e4
  simp only [Option.map_some, Option.some.injEq, DataW.lit.injEq, Lit.int.injEq, true_and] at e4
  have := World.var?_cell hg hv i
  rw [this, List.getD_eq_getElem?_getD, List.getElem?_eq_getElem hi]
  rw [Option.getD_some, e4]
  simpa using e3
def laid3 : List (String × DataW Unit) := [("deckle/crc.table", Rows.laid_deckle_crc_table), ("deckle/ham.places", Rows.laid_deckle_ham_places), ("deckle/bits.clear", Rows.laid_deckle_bits_clear)]
set_option maxRecDepth 100000
theorem door_met (os : Os) (args : Array Value) : laidMetH Tryd.prog laid3 ((World.doorLaid Tryd.prog 400 os).forCall (fun _ _ => 0) ⟨#[], args, []⟩).memory :=
  laidMetH_of_parts3 (fuel := 8) (laidMet_of_run' 8 (by kernel_rfl) (by kernel_rfl)) (by kernel_rfl) (by kernel_rfl)
theorem g1 : Tryd.prog.globalNamed "deckle/crc.table" = some 2 := by kernel_rfl
theorem g2 : Tryd.prog.globalNamed "deckle/ham.places" = some 1 := by kernel_rfl
theorem g3 : Tryd.prog.globalNamed "deckle/bits.clear" = some 0 := by kernel_rfl
theorem t1 : (Tryd.prog.globals[2]?).map (·.type) = some 158 := by kernel_rfl
theorem t2 : (Tryd.prog.globals[1]?).map (·.type) = some 136 := by kernel_rfl
theorem t3 : (Tryd.prog.globals[0]?).map (·.type) = some 135 := by kernel_rfl
theorem of_laid {W : World} (h : laidMetH Tryd.prog laid3 W) : Laid W := by
  rw [MakeChecks.laidMetH_plain _ _ _ (by kernel_rfl)] at h
  obtain ⟨ps, ⟨a1, b1, cs1, f1, p1, q1, hg1, ht1, hv1, hd1, ⟨a2, b2, cs2, f2, p2, q2, hg2, ht2, hv2, hd2, ⟨a3, b3, cs3, f3, p3, q3, hg3, ht3, hv3, hd3, _, _⟩, _⟩, _⟩, _, _⟩ := h
  obtain rfl := Option.some.inj (g1.symm.trans hg1)
  obtain rfl := Option.some.inj (g2.symm.trans hg2)
  obtain rfl := Option.some.inj (g3.symm.trans hg3)
  obtain rfl := Option.some.inj (t1.symm.trans ht1)
  obtain rfl := Option.some.inj (t2.symm.trans ht2)
  obtain rfl := Option.some.inj (t3.symm.trans ht3)
  exact ⟨tbl_of g1 Tryd.underlying158 Tryd.underlying140 (by kernel_rfl) hv1 hd1 rfl rfl, tbl_of g2 Tryd.underlying136 Tryd.underlying5 (by kernel_rfl) hv2 hd2 rfl rfl, tbl_of g3 Tryd.underlying135 Tryd.underlying3 (by kernel_rfl) hv3 hd3 rfl rfl⟩
end Go.Proofs.YtliiploidjnmnaaDoor.Hw
end
