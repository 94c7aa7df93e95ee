/- Walks of the functions on fields on which all others lean: bounds, cells of a field, valid fields. -/
import Derived.Test.YtaepgjjmfopiiaaDoorFld
import Derived.Test.YtaepgjjmfopiiaaDoorSl
namespace Go.Proofs.YtaepgjjmfopiiaaDoor
set_option linter.unusedSimpArgs false
set_option linter.unusedVariables false
open Go.RowKit

/-- Whether a field has a cell. -/
def Fld.has (F : Fld) (c : Int) : Bool := inB c 0 99 && (decide (c % 10 < F.wide) && decide (c / 10 < F.high))
theorem Fld.has_iff {F : Fld} {c : Int} : F.has c = true ↔ (0 ≤ c ∧ c ≤ 99) ∧ c % 10 < F.wide ∧ c / 10 < F.high := by
  simp [Fld.has, inB_iff]
/-- Whether one cell of a field is as it must be. -/
def Fld.okAt (F : Fld) (k : Nat) : Bool :=
  decide (0 ≤ F.kind k ∧ F.kind k ≤ 3 ∧ 0 ≤ F.seed k ∧ F.seed k ≤ 1000 ∧ (F.kind k ≠ 0 → F.seed k = 0) ∧ (F.has k = false → F.kind k = 0 ∧ F.seed k = 0))
def Fld.valid (F : Fld) : Bool := inB F.wide 1 10 && (inB F.high 1 10 && (List.range 100).all F.okAt)
theorem Fld.valid_of {F : Fld} (h1 : inB F.wide 1 10 = true) (h2 : inB F.high 1 10 = true) (h : ∀ j, j < 100 → F.okAt j = true) : F.valid = true := by
  simp only [Fld.valid, h1, h2, Bool.true_and, List.all_eq_true, List.mem_range]
  exact h
theorem Fld.not_valid {F : Fld} {k : Nat} (hk : k < 100) (h : F.okAt k = false) : F.valid = false := by
  rw [← Bool.not_eq_true]
  intro hv
  simp only [Fld.valid, Bool.and_eq_true, List.all_eq_true, List.mem_range] at hv
  rw [hv.2.2 k hk] at h
  cases h

theorem all_succ {p : Nat → Bool} {k : Nat} (h : ∀ j, j < k → p j = true) (hk : p k = true) : ∀ j, j < k + 1 → p j = true := fun j hj => by
  rcases Nat.lt_or_ge j k with h1 | h1
  · exact h j h1
  · obtain rfl : j = k := by omega
    exact hk

set_option maxRecDepth 100000 in
set_option maxHeartbeats 400000 in
theorem within_any (n lo hi : Int) (w : World) :
    Calls Tryd.prog 22 #[.int .i64 n, .int .i64 lo, .int .i64 hi] w fun e w' => e = .returned (.bool (inB n lo hi)) ∧ w = w' := by
  go_enter Tryd.func22, Tryd.ntmps22
  go_wp2
  · go_ret
    exact ⟨ret_bool (by simp [inB, *]), rfl⟩
  · go_ret
    exact ⟨ret_bool (by simp [inB]; omega), rfl⟩
set_option maxRecDepth 100000 in
set_option maxHeartbeats 400000 in
theorem l00In_any (n lo hi : Int) (w : World) :
    Calls Tryd.prog 12 #[.int .i64 n, .int .i64 lo, .int .i64 hi] w fun e w' => e = .returned (.bool (inB n lo hi)) ∧ w = w' := by
  go_enter Tryd.func12, Tryd.ntmps12
  go_wp2
  · go_ret
    exact ⟨ret_bool (by simp [inB, *]), rfl⟩
  · go_ret
    exact ⟨ret_bool (by simp [inB]; omega), rfl⟩
end Go.Proofs.YtaepgjjmfopiiaaDoor
