/- The cells of a field, one after the other: the walk of the program. -/
import Derived.Test.YtaepgjjmfopiiaaDoorBase
import Derived.Test.YtaepgjjmfopiiaaDoorGrow
namespace Go.Proofs.YtaepgjjmfopiiaaDoor
set_option linter.unusedSimpArgs false
set_option linter.unusedVariables false
open Go.RowKit
attribute [local go_sem] cell?_mk frozen?_mk

def nat64 (k : Nat) : Value := .int .i64 k
def one64 (k : Nat) : List Value := [nat64 k]
theorem flat_one64 (ks : List Nat) : flat one64 ks = ks.map nat64 := by
  induction ks with
  | nil => rfl
  | cons k r ih => show one64 k ++ flat one64 r = _; rw [ih]; rfl
theorem one64_len (k : Nat) : (one64 k).length = 1 := rfl
/-- The cells of a field below a number. -/
def Fld.below (F : Fld) (n : Nat) : List Nat := (List.range n).filter fun (k : Nat) => F.has k
def Fld.all (F : Fld) : List Nat := F.below 100
theorem Fld.below_succ (F : Fld) (n : Nat) : F.below (n + 1) = F.below n ++ if F.has n then [n] else [] := by
  simp only [Fld.below, List.range_succ, List.filter_append]
  congr 1
  cases h : F.has n <;> simp [h]
theorem Fld.below_len (F : Fld) (n : Nat) : (F.below n).length ≤ n := by
  have := List.length_filter_le (fun (k : Nat) => F.has k) (List.range n)
  rwa [List.length_range] at this
theorem Fld.all_has {F : Fld} {k : Nat} (h : k ∈ F.all) : k < 100 ∧ F.has k = true := by
  simpa [Fld.all, Fld.below] using h

end Go.Proofs.YtaepgjjmfopiiaaDoor
