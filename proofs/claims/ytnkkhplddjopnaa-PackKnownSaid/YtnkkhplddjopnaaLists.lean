/- The helpers of the references for texts and numbers: each one's contract. -/
import Derived.Test.YtnkkhplddjopnaaBase
import Derived.Test.YtnkkhplddjopnaaText
import Derived.RegionTactic
import Derived.WalkMore
import Derived.Lib.SlicesS
set_option linter.unusedVariables false
set_option linter.unusedSimpArgs false
namespace Go.Proofs.Ytnkkhplddjopnaa
open Go.RowKit
theorem text_info : (Try.prog.info? 9).map (fun i => (i.zero, i.size, i.bytes)) = some (some (.string ⟨#[]⟩), 1, 16) := by kernel_rfl
theorem int_info : (Try.prog.info? 3).map (fun i => (i.zero, i.size, i.bytes)) = some (some (.int .i64 0), 1, 8) := by kernel_rfl

theorem eq_step {α : Type} {l m : List α} {k : Nat} {x y : α} (hx : l[k]? = some x) (hy : m[k]? = some y) (h : l.take k = m.take k) (hxy : x = y) : l.take (k + 1) = m.take (k + 1) := by
  rw [List.take_add_one, List.take_add_one, hx, hy, h, hxy]
theorem neq_step {α : Type} [DecidableEq α] {l m : List α} {k : Nat} {x y : α} (hx : l[k]? = some x) (hy : m[k]? = some y) (hxy : x ≠ y) : decide (l = m) = false := by
  rw [decide_eq_false_iff_not]
  intro h
  subst h
  rw [hx] at hy
  exact hxy (Option.some.inj hy)

end Go.Proofs.Ytnkkhplddjopnaa
