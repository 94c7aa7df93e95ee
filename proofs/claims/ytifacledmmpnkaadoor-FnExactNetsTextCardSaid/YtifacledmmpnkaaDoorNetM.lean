/- Marks and clones of slices of structs. -/
import Derived.Test.YtifacledmmpnkaaDoorNet
import Derived.Test.YtifacledmmpnkaaDoorGen
namespace Go.Proofs.YtifacledmmpnkaaDoor
set_option linter.unusedSimpArgs false
set_option linter.unusedVariables false
open Go.RowKit
attribute [local go_sem] cell?_mk frozen?_mk

theorem Net.ones (x : Net) : ∀ v ∈ x.vals, v.oneCell' = true := by
  intro v hv
  simp only [Net.vals, List.mem_cons, List.not_mem_nil, or_false] at hv
  rcases hv with rfl | rfl | rfl | rfl <;> rfl
def markNet (k : Int) (i : Nat) : Net := ⟨IntKind.i8.wrap (k + 4 * i), IntKind.i8.wrap (k + 4 * i + 1), IntKind.i8.wrap (k + 4 * i + 1 + 1), IntKind.i8.wrap (k + 4 * i + 1 + 1 + 1)⟩
def marksNet (k : Int) (n : Nat) : List Net := (List.range n).map (markNet k)
theorem marksNet_len (k : Int) (n : Nat) : (marksNet k n).length = n := by simp [marksNet]
theorem marksNet_at {k : Int} {n i : Nat} (h : i < n) : (marksNet k n)[i]? = some (markNet k i) := by simp [marksNet, h]
def mixNet (k : Int) (xs : List Net) (i : Nat) : List Net := (List.range i).map (markNet k) ++ xs.drop i
theorem mixNet_len (k : Int) (xs : List Net) (i : Nat) (h : i ≤ xs.length) : (mixNet k xs i).length = xs.length := by simp [mixNet]; omega
theorem mixNet_at (k : Int) {xs : List Net} {i : Nat} (h : i < xs.length) : (mixNet k xs i)[i]? = some xs[i] := by
  rw [mixNet, List.getElem?_append_right (by simp), List.length_map, List.length_range, Nat.sub_self, List.getElem?_drop]
  simp [h]
theorem mixNet_set (k : Int) {xs : List Net} {i : Nat} (h : i < xs.length) : (mixNet k xs i).set i (markNet k i) = mixNet k xs (i + 1) := by
  rw [mixNet, mixNet, List.set_append, if_neg (by simp), List.length_map, List.length_range, Nat.sub_self, List.range_succ, List.map_append, List.drop_eq_getElem_cons h]
  simp only [List.set_cons_zero, List.map_cons, List.map_nil, List.append_assoc, List.cons_append, List.nil_append]
theorem mixNet_0 (k : Int) (xs : List Net) : mixNet k xs 0 = xs := by simp [mixNet]
theorem mixNet_all (k : Int) (xs : List Net) : mixNet k xs xs.length = marksNet k xs.length := by simp [mixNet, marksNet]
theorem flat_putNet {xs : List Net} {k : Nat} {x y : Net} (hk : xs[k]? = some x) :
    (((((flat Net.vals xs).set (k * 4) (.int .i8 y.x)).set (k * 4 + 1) (.int .i8 y.y)).set (k * 4 + 2) (.int .i8 y.wide)).set (k * 4 + 3) (.int .i8 y.high)) = flat Net.vals (xs.set k y) := by
  have hl : k < xs.length := (List.getElem?_eq_some_iff.1 hk).1
  have h0 := flat_put Net.vl (by decide : 0 < 4) (v := .int .i8 y.x) xs k x ⟨y.x, x.y, x.wide, x.high⟩ hk rfl
  have h1 := flat_put Net.vl (by decide : 1 < 4) (v := .int .i8 y.y) (xs.set k ⟨y.x, x.y, x.wide, x.high⟩) k ⟨y.x, x.y, x.wide, x.high⟩ ⟨y.x, y.y, x.wide, x.high⟩ (by rw [List.getElem?_set_self hl]) rfl
  have h2 := flat_put Net.vl (by decide : 2 < 4) (v := .int .i8 y.wide) (xs.set k ⟨y.x, y.y, x.wide, x.high⟩) k ⟨y.x, y.y, x.wide, x.high⟩ ⟨y.x, y.y, y.wide, x.high⟩ (by rw [List.getElem?_set_self hl]) rfl
  have h3 := flat_put Net.vl (by decide : 3 < 4) (v := .int .i8 y.high) (xs.set k ⟨y.x, y.y, y.wide, x.high⟩) k ⟨y.x, y.y, y.wide, x.high⟩ y (by rw [List.getElem?_set_self hl]) rfl
  rw [List.set_set] at h1 h2 h3
  rw [Nat.add_zero] at h0
  rw [h0, h1, h2, h3]
end Go.Proofs.YtifacledmmpnkaaDoor
