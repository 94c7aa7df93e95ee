/- Two sets of cells compared with '!='. -/
import Derived.Test.YtnddoiapilookaaEqC
namespace Go.Proofs.Ytnddoiapilookaa
set_option linter.unusedSimpArgs false
set_option linter.unusedVariables false
open Go.RowKit
attribute [local go_sem] cell?_mk frozen?_mk

theorem neqCs (a b : Cs) (w : World) : (binOp .neq 51 (.agg a.cells) (.agg b.cells)).run Try.prog w = .ok (.bool (!a.same b)) w := by
  rw [run_neq_struct]
  show ((Op.equalIn 10000 51 (.agg #[.int .u64 a.lo, .int .u64 a.hi]) (.agg #[.int .u64 b.lo, .int .u64 b.hi])).run Try.prog w).andThen _ = _
  rw [eqCsInt]
  show Result.ok (Value.bool _) w = _
  congr 2
  rw [Cs.same, Bool.eq_iff_iff]
  simp
  omega
end Go.Proofs.Ytnddoiapilookaa
