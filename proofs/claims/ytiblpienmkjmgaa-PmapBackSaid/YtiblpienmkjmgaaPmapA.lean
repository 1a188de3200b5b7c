/- Package pmap, by hand: its maps. -/
import Derived.Test.YtiblpienmkjmgaaProg
import Derived.Below
import Derived.Deep.Draws
import Derived.Deep.AppendLies
import Derived.Maps.AppendAt
import Derived.OwnWalk
import Derived.Laws.BytesArg
import Derived.Laws.MakeOwn
import Derived.Laws.OwnMore
import Derived.Deep.OwnRows
import Derived.Tactics
import Derived.Lib.ConvBytes
import Derived.Laws.Slices
import Derived.WalkKit
import Derived.KernelRfl
import Derived.RowKit3
import Derived.Deep.LoopGhost
import Derived.Deep.QuietTactic
import Derived.BigQuiet
import Derived.WideLaws
import Derived.Deep.DeepCutAuto
import Derived.Deep.CutBlock
import Derived.Deep.RegionHeld3
import Derived.Deep.RegionWith
import Derived.Laws.Rows
import Derived.Lib.AppendStr
import Derived.ArgAppend
import Derived.Laws.IdiomCopy
import Derived.OrdersHeld
import Derived.Laws.BitsLemmas
import Derived.Outline
import Derived.RegionTactic
import Derived.Lib.Hide
import Derived.StillTailTactics
import Derived.Deep.RegionWith
import Derived.OpenShut
import Derived.Test.YtiblpienmkjmgaaWWords
import Derived.Test.YtiblpienmkjmgaaMap
set_option linter.unusedVariables false
namespace Go.Proofs.Ytiblpienmkjmgaa.Pmap
open Go.RowKit Go.Proofs.YtiblpienmkjmgaaW.PrintWords Go.Proofs.Ytiblpienmkjmgaa.Mem Go.Proofs.Ytiblpienmkjmgaa.Own Go.Proofs.Ytiblpienmkjmgaa.Maps

abbrev Tri := Int × Int × Int
theorem keyI : Key Try.prog 3 (Value.int .i64) := key_int Try.underlying3
theorem eq_tri (x y : Tri) (w : World) : (Op.equal 24 (tri x) (tri y)).run Try.prog w = .ok (decide (x = y)) w := by
  obtain ⟨a, b, c⟩ := x
  obtain ⟨d, e, f⟩ := y
  have h := eqA_of (P := Try.prog) (d := 9999) (w := w) (xs := #[.int .i64 a, .int .i64 b, .int .i64 c]) (ys := #[.int .i64 d, .int .i64 e, .int .i64 f]) Try.underlying24 (by kernel_rfl)
    (eqf_cons (by kernel_rfl) (by kernel_rfl) (by kernel_rfl) (by kernel_rfl : (Op.equalIn 9999 3 (.int .i64 a) (.int .i64 d)).run Try.prog w = .ok (a == d) w)
      (eqf_cons (by kernel_rfl) (by kernel_rfl) (by kernel_rfl) (by kernel_rfl : (Op.equalIn 9999 3 (.int .i64 b) (.int .i64 e)).run Try.prog w = .ok (b == e) w)
        (eqf_last (by kernel_rfl) (by kernel_rfl) (by kernel_rfl) (by kernel_rfl : (Op.equalIn 9999 3 (.int .i64 c) (.int .i64 f)).run Try.prog w = .ok (c == f) w))))
  have e : (a == d && (b == e && c == f)) = decide ((a, b, c) = (d, e, f)) := by
    rw [Bool.eq_iff_iff]; simp
  rw [e] at h
  exact h
theorem chk_tri (b : Bool) (x : Tri) (w : World) : (Instr.checkKey b 10000 24 (tri x)).run Try.prog w = .ok () w := by kernel_rfl
theorem keyT : Key Try.prog 24 tri := key_tri Try.underlying24 chk_tri eq_tri
theorem zero24 (w : World) : (zeroValue 24).run Try.prog w = .ok (tri (0, 0, 0)) w := by kernel_rfl
theorem zero3 (w : World) : (zeroValue 3).run Try.prog w = .ok (.int .i64 0) w := by kernel_rfl
end Go.Proofs.Ytiblpienmkjmgaa.Pmap
