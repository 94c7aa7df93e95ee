/- The set of the cells of a field for which something holds: the walk. -/
import Derived.Test.YtifacledmmpnkaaDoorSets
import Derived.Test.YtifacledmmpnkaaDoorGen
import Derived.Test.YtifacledmmpnkaaDoorDrawn3
namespace Go.Proofs.YtifacledmmpnkaaDoor
set_option linter.unusedSimpArgs false
set_option linter.unusedVariables false
open Go.RowKit
attribute [local go_sem] cell?_mk frozen?_mk

theorem filter_lt {F : Fld} {p : Nat → Bool} {k : Nat} : ∀ j ∈ (F.all.take k).filter p, j < 128 := fun j hj => by
  have := (Fld.all_has (List.mem_of_mem_take (List.mem_filter.1 hj).1)).1
  omega
end Go.Proofs.YtifacledmmpnkaaDoor
