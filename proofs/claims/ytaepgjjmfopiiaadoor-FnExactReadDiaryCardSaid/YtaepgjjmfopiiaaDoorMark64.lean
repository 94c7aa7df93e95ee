/- The laws' marks on slices of whole numbers; such slices compared. -/
import Derived.Test.YtaepgjjmfopiiaaDoorGen
import Derived.Test.YtaepgjjmfopiiaaDoorCells
import Derived.Test.YtaepgjjmfopiiaaDoorDrawn
namespace Go.Proofs.YtaepgjjmfopiiaaDoor
set_option linter.unusedSimpArgs false
set_option linter.unusedVariables false
open Go.RowKit
attribute [local go_sem] cell?_mk frozen?_mk

/-- The marks 1, 2, .. -/
def marks (n : Nat) : List Nat := (List.range n).map (· + 1)
theorem marks_len (n : Nat) : (marks n).length = n := by simp [marks]
theorem marks_at {n i : Nat} (h : i < n) : (marks n)[i]? = some (i + 1) := by simp [marks, h]
theorem marks_succ (n : Nat) : marks (n + 1) = marks n ++ [n + 1] := by simp [marks, List.range_succ]
theorem one64_flat_len (ks : List Nat) : (flat one64 ks).length = ks.length := by rw [flat_len one64_len, Nat.mul_one]
end Go.Proofs.YtaepgjjmfopiiaaDoor
