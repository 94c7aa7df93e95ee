/- Fears as an argument. -/
import Derived.Test.YtbjcajhbhicokaaConf
import Derived.Test.YtbjcajhbhicokaaFlock
namespace Go.Proofs.Ytbjcajhbhicokaa
set_option linter.unusedSimpArgs false
set_option linter.unusedVariables false
open Go.RowKit

def FearsA.z : Array Value := ints .i16 (zs 100)
def FearsA.ks : List IntKind := List.replicate 100 .i16
theorem FearsA.of_conf (cs : List Value) (h : Conf FearsA.ks cs) : ∃ fs : List Int, (fs.length = 100 ∧ ∀ x ∈ fs, -32768 ≤ x ∧ x ≤ 32767) ∧ fs.map (Value.int .i16) = cs := by
  have h' : Conf (List.replicate 100 .i16 ++ []) cs := by rw [List.append_nil]; exact h
  obtain ⟨xs, r, rfl, hl, hx, hr⟩ := h'.reps
  obtain rfl := hr.nil_eq
  exact ⟨xs, ⟨hl, fun x hm => bounds_i16 (hx x hm)⟩, by simp⟩
end Go.Proofs.Ytbjcajhbhicokaa
