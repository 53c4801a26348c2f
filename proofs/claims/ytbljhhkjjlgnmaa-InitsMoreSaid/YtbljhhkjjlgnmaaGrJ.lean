/- GraphNumbers, the walk. No condition. -/
import Derived.Test.YtbljhhkjjlgnmaaGrI
namespace Go.Proofs.Ytbljhhkjjlgnmaa
open Go.RowKit
set_option linter.unusedVariables false
set_option linter.unusedSimpArgs false

def fit7 (F : GFun) : Bool := !gfB F && decide (rchkV F = 0)
theorem fit7_ok {F : GFun} (h : fit7 F = true) : F.Ok := by
  simp only [fit7, Bool.and_eq_true, decide_eq_true_eq] at h
  exact (rchk_eq F).symm.trans h.2
theorem fit7_two {F : GFun} (h : fit7 F = true) : gfB F = false ∧ rchkV F = 0 := by
  simpa [fit7] using h


end Go.Proofs.Ytbljhhkjjlgnmaa
