/- A diary's entries: as data, and the laws' own ways to hand them over. -/
import Derived.Test.YtkodcfnofjkohaaTy
import Derived.Test.YtkodcfnofjkohaaSl
import Derived.Test.YtkodcfnofjkohaaBase
namespace Go.Proofs.Ytkodcfnofjkohaa
set_option linter.unusedSimpArgs false
set_option linter.unusedVariables false
open Go.RowKit
structure Entry where
  what : Int
  cell : Int
  amount : Int
  deriving DecidableEq
def Entry.vals (x : Entry) : List Value := [.int .i8 x.what, .int .i16 x.cell, .int .i16 x.amount]
theorem Entry.vl (x : Entry) : x.vals.length = 3 := rfl
theorem Entry.one (x : Entry) : x.vals.toArray.all (·.oneCell') = true := by simp [Entry.vals, Value.oneCell']
def Entry.z : Entry := ⟨0, 0, 0⟩
end Go.Proofs.Ytkodcfnofjkohaa
