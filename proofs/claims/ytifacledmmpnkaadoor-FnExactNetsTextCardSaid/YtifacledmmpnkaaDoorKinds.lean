/- The cells of a kind: the walks. -/
import Derived.Test.YtifacledmmpnkaaDoorThose
import Derived.Test.YtifacledmmpnkaaDoorSets2
namespace Go.Proofs.YtifacledmmpnkaaDoor
set_option linter.unusedSimpArgs false
set_option linter.unusedVariables false
open Go.RowKit
attribute [local go_sem] cell?_mk frozen?_mk

def ofKd (F : Fld) (q : Int) : Cs := setOf (F.all.filter fun k => F.kind k == q)
theorem ofKd_ok (F : Fld) (q : Int) : (ofKd F q).ok := setOf_ok _ fun k hk => by
  have := (Fld.all_has (List.mem_filter.1 hk).1).1
  omega
theorem ofKd_has (F : Fld) (q : Int) {k : Nat} (hk : k < 100) : (ofKd F q).has k = (F.has k && (F.kind k == q)) := by
  rw [ofKd, setOf_has, Bool.eq_iff_iff, List.contains_iff_mem, List.mem_filter, Fld.all, Fld.below, List.mem_filter, List.mem_range, Bool.and_eq_true]
  exact ⟨fun h => ⟨h.1.2, h.2⟩, fun h => ⟨⟨hk, h.1⟩, h.2⟩⟩
end Go.Proofs.YtifacledmmpnkaaDoor
