/- Scarecrows: what they are, what they make. The smaller walks. -/
import Derived.Test.YtbjcajhbhicokaaScarecrow
namespace Go.Proofs.Ytbjcajhbhicokaa
set_option linter.unusedSimpArgs false
set_option linter.unusedVariables false
open Go.RowKit
attribute [local go_sem] cell?_mk frozen?_mk

def Fld.place (F : Fld) (c : Int) : Bool := F.has c && (F.kind c.toNat != 3)
theorem mul9 (x : Int) (hx : -9 ≤ x ∧ x ≤ 9) : 0 ≤ x * x ∧ x * x ≤ 81 := by
  have h : ((x.natAbs * x.natAbs : Nat) : Int) = x * x := Int.natAbs_mul_self
  have : x.natAbs * x.natAbs ≤ 9 * 9 := Nat.mul_le_mul (by omega) (by omega)
  omega
def sq (a b : Int) : Int := (a % 10 - b % 10) * (a % 10 - b % 10) + (a / 10 - b / 10) * (a / 10 - b / 10)
theorem sq_small {a b : Int} (a0 : 0 ≤ a) (a1 : a ≤ 99) (b0 : 0 ≤ b) (b1 : b ≤ 99) : 0 ≤ sq a b ∧ sq a b ≤ 162 := by
  have h1 : -9 ≤ a % 10 - b % 10 ∧ a % 10 - b % 10 ≤ 9 := by omega
  have h2 : -9 ≤ a / 10 - b / 10 ∧ a / 10 - b / 10 ≤ 9 := by omega
  have k1 := mul9 _ h1
  have k2 := mul9 _ h2
  unfold sq
  omega
theorem age3 {c : Int} (c0 : 0 ≤ c) (c1 : c ≤ 30) : IntKind.i8.wrap (c.tdiv 3) = c / 3 := by
  rw [Int.tdiv_eq_ediv_of_nonneg c0]
  exact IntWalk.i8_in _ (by omega)
theorem age3u {c : Int} (c0 : 0 ≤ c) (c1 : c ≤ 30) : min (IntKind.u64.wrap (IntKind.i8.wrap (c.tdiv 3))).toNat 64 = (c / 3).toNat := by
  rw [age3 c0 c1, IntWalk.u64_in _ (by omega)]
  omega
set_option maxRecDepth 100000 in
set_option maxHeartbeats 1000000 in
theorem square_any (a b : Int) (a0 : 0 ≤ a) (a1 : a ≤ 99) (b0 : 0 ≤ b) (b1 : b ≤ 99) (w : World) :
    Calls Try.prog 123 #[.int .i64 a, .int .i64 b] w fun e w' => e = .returned (.int .i64 (sq a b)) ∧ w = w' := by
  go_enter Try.func123, Try.ntmps123
  go_wp2
  go_ret
  refine ⟨ret_int ?_, rfl⟩
  have k1 := mul9 (a % 10 - b % 10) (by omega)
  have k2 := mul9 (a / 10 - b / 10) (by omega)
  unfold sq
  rw [IntWalk.wrap64_in ((a % 10 - b % 10) * (a % 10 - b % 10)) (by omega), IntWalk.wrap64_in ((a / 10 - b / 10) * (a / 10 - b / 10)) (by omega)]
  exact IntWalk.wrap64_in _ (by omega)

set_option maxRecDepth 100000 in
set_option maxHeartbeats 1000000 in
theorem l01Square_any (a b : Int) (a0 : 0 ≤ a) (a1 : a ≤ 99) (b0 : 0 ≤ b) (b1 : b ≤ 99) (w : World) :
    Calls Try.prog 141 #[.int .i64 a, .int .i64 b] w fun e w' => e = .returned (.int .i64 (sq a b)) ∧ w = w' := by
  go_enter Try.func141, Try.ntmps141
  go_wp2
  go_ret
  refine ⟨ret_int ?_, rfl⟩
  have k1 := mul9 (a % 10 - b % 10) (by omega)
  have k2 := mul9 (a / 10 - b / 10) (by omega)
  unfold sq
  rw [IntWalk.wrap64_in ((a % 10 - b % 10) * (a % 10 - b % 10)) (by omega), IntWalk.wrap64_in ((a / 10 - b / 10) * (a / 10 - b / 10)) (by omega)]
  exact IntWalk.wrap64_in _ (by omega)

end Go.Proofs.Ytbjcajhbhicokaa
