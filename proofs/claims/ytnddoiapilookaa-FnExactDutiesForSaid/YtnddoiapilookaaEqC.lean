/- Two sets of cells compared with '=='. -/
import Derived.Test.YtnddoiapilookaaSets
import Derived.Laws.StructEq
namespace Go.Proofs.Ytnddoiapilookaa
set_option linter.unusedSimpArgs false
set_option linter.unusedVariables false
open Go.RowKit
attribute [local go_sem] cell?_mk frozen?_mk

def Cs.same (a b : Cs) : Bool := decide (a.lo = b.lo) && decide (a.hi = b.hi)
theorem eqCsInt (a b c d : Int) (w : World) : (Op.equalIn 10000 51 (.agg #[.int .u64 a, .int .u64 b]) (.agg #[.int .u64 c, .int .u64 d])).run Try.prog w = .ok (a == c && b == d) w := by
  have u3 := Try.underlying49
  have a3 := Try.isAgg49
  have z3 := Try.sizeOf49
  rw [show (10000 : Nat) = 9999 + 1 from rfl, Op.equalIn]
  simp only [Sem.run_bind, run_underlying Try.underlying51, Result.andThen_ok]
  simp only [Std.Legacy.Range.forIn_eq_forIn_range', Std.Legacy.Range.size, Nat.sub_zero, Nat.add_sub_cancel, Nat.div_one, List.range'_succ, List.range'_zero, List.forIn_cons, List.forIn_nil]
  go_simp
  by_cases h1 : a = c <;> by_cases h2 : b = d <;> simp [h1, h2]
theorem eqCs (a b : Cs) (w : World) : (binOp .eql 51 (.agg a.cells) (.agg b.cells)).run Try.prog w = .ok (.bool (a.same b)) w := by
  rw [run_eql_struct]
  show ((Op.equalIn 10000 51 (.agg #[.int .u64 a.lo, .int .u64 a.hi]) (.agg #[.int .u64 b.lo, .int .u64 b.hi])).run Try.prog w).andThen _ = _
  rw [eqCsInt]
  show Result.ok (Value.bool _) w = _
  congr 2
  rw [Cs.same, Bool.eq_iff_iff]
  simp
  omega
theorem Cs.same_iff {a b : Cs} : a.same b = true ↔ a = b := by
  obtain ⟨a1, a2⟩ := a
  obtain ⟨b1, b2⟩ := b
  simp only [Cs.same, Bool.and_eq_true, decide_eq_true_eq, Cs.mk.injEq]
end Go.Proofs.Ytnddoiapilookaa
